/- PtrOk and PtrFits of the program and of the reference. -/
import Derived.Test.YtlflcinlhpjkhaaPtrA
import Derived.Test.YtlflcinlhpjkhaaSum
import Derived.Deep.RegionHeld3
import Derived.BigQuiet
import Derived.Deep.QuietTactic
namespace Go.Proofs.Ytlflcinlhpjkhaa
open Go.RowKit

/-- low ≤ n ≤ high -/
def inR (n lo hi : Int) : Bool := decide (lo ≤ n) && decide (n ≤ hi)
/-- a valid pointer -/
def okB (a b c d e : Int) : Bool := holeB a b c d e || (inR a 8 63 && inR b 1 900 && inR c 1 128 && inR d 0 99460728 && inR e 0 2)

set_option maxHeartbeats 400000 in
theorem within_any (n lo hi : Int) (w : World) : Calls Try.prog 51 #[.int .i64 n, .int .i64 lo, .int .i64 hi] w fun r w' => r = .returned (.bool (inR n lo hi)) ∧ w = w' := by
  go_enter Try.func51, Try.ntmps51
  go_wp2
  all_goals
    go_ret
    exact ⟨ret_bool (by simp only [inR]; grind), rfl⟩
set_option maxHeartbeats 400000 in
theorem l6In_any (n lo hi : Int) (w : World) : Calls Try.prog 49 #[.int .i64 n, .int .i64 lo, .int .i64 hi] w fun r w' => r = .returned (.bool (inR n lo hi)) ∧ w = w' := by
  go_enter Try.func49, Try.ntmps49
  go_wp2
  all_goals
    go_ret
    exact ⟨ret_bool (by simp only [inR]; grind), rfl⟩
set_option maxHeartbeats 400000 in
theorem isRow_any (n : Int) (w : World) : Calls Try.prog 50 #[.int .i64 n] w fun r w' => r = .returned (.bool (inR n 8 63)) ∧ w = w' := by
  go_enter Try.func50, Try.ntmps50
  go_wp2_with (go_at_call 51; refine (within_any _ _ _ _).mono ?_; rintro r w1 ⟨rfl, rfl⟩)
  go_ret
  exact ⟨rfl, rfl⟩
set_option maxHeartbeats 400000 in
theorem l2Row_any (n : Int) (w : World) : Calls Try.prog 48 #[.int .i64 n] w fun r w' => r = .returned (.bool (inR n 8 63)) ∧ w = w' := by
  go_enter Try.func48, Try.ntmps48
  go_wp2_with (go_at_call 49; refine (l6In_any _ _ _ _).mono ?_; rintro r w1 ⟨rfl, rfl⟩)
  go_ret
  exact ⟨rfl, rfl⟩

set_option maxHeartbeats 800000 in
theorem implPtrOk_any (a b c d e : Int) (w : World) :
    Calls Try.prog 21 #[.agg #[.int .i64 a, .int .i64 b, .int .i64 c, .int .i64 d, .int .i64 e]] w fun r w' => r = .returned (.bool (okB a b c d e)) ∧ Below w.heap.size w w' := by
  have HK0 := hide (Bk.fresh w 26 #[.int .i64 a, .int .i64 b, .int .i64 c, .int .i64 d, .int .i64 e])
  have hb0 := bel1 w (.cells #[.int .i64 a, .int .i64 b, .int .i64 c, .int .i64 d, .int .i64 e] 26)
  go_enter Try.func21, Try.ntmps21
  go_wp2_with fail
  refine (implPtrHole_any _ _ _ _ _ _).mono ?_; rintro r w1 ⟨rfl, hb1⟩
  have hk1 := HK0.out.after hb1
  obtain ⟨q0, q1, q2, q3, q4⟩ := hk1.c5
  have HB := hide (bnext hb0 (Nat.le_refl _) hb1)
  clear hb0 hb1 hk1
  go_wp2_with (first
    | (go_at_call 50; refine (isRow_any _ _).mono ?_; rintro r w2 ⟨rfl, rfl⟩)
    | (go_at_call 51; refine (within_any _ _ _ _).mono ?_; rintro r w2 ⟨rfl, rfl⟩))
  all_goals
    go_ret
    exact ⟨by simp [okB, *], HB.out⟩

set_option maxHeartbeats 800000 in
theorem specPtrOk_any (a b c d e : Int) (w : World) :
    Calls Try.prog 20 #[.agg #[.int .i64 a, .int .i64 b, .int .i64 c, .int .i64 d, .int .i64 e]] w fun r w' => r = .returned (.bool (okB a b c d e)) ∧ Below w.heap.size w w' := by
  have HK0 := hide (Bk.fresh w 26 #[.int .i64 a, .int .i64 b, .int .i64 c, .int .i64 d, .int .i64 e])
  have hb0 := bel1 w (.cells #[.int .i64 a, .int .i64 b, .int .i64 c, .int .i64 d, .int .i64 e] 26)
  go_enter Try.func20, Try.ntmps20
  go_wp2_with fail
  refine (specPtrHole_any _ _ _ _ _ _).mono ?_; rintro r w1 ⟨rfl, hb1⟩
  have hk1 := HK0.out.after hb1
  obtain ⟨q0, q1, q2, q3, q4⟩ := hk1.c5
  have HB := hide (bnext hb0 (Nat.le_refl _) hb1)
  clear hb0 hb1 hk1
  go_wp2_with (first
    | (go_at_call 48; refine (l2Row_any _ _).mono ?_; rintro r w2 ⟨rfl, rfl⟩)
    | (go_at_call 49; refine (l6In_any _ _ _ _).mono ?_; rintro r w2 ⟨rfl, rfl⟩))
  all_goals
    go_ret
    exact ⟨by simp [okB, *], HB.out⟩

set_option maxHeartbeats 400000 in
theorem fnExactPtrOk_walk (a b c d e : Int) (w : World) :
    Calls Try.prog 6 #[.agg #[.int .i64 a, .int .i64 b, .int .i64 c, .int .i64 d, .int .i64 e]] w fun r w' => r = .returned (.bool true) ∧ Below w.heap.size w w' := by
  have HK0 := hide (Bk.fresh w 24 #[.int .i64 a, .int .i64 b, .int .i64 c, .int .i64 d, .int .i64 e])
  have hb0 := bel1 w (.cells #[.int .i64 a, .int .i64 b, .int .i64 c, .int .i64 d, .int .i64 e] 24)
  go_enter Try.func6, Try.ntmps6
  go_wp2_with fail
  refine (toPtr_any _ _ _ _ _ _).mono ?_; rintro r w1 ⟨rfl, hb1⟩
  go_wp2_with fail
  refine (specPtrOk_any _ _ _ _ _ _).mono ?_; rintro r w2 ⟨rfl, hb2⟩
  have hk2 := (HK0.out.after hb1).after hb2
  obtain ⟨q0, q1, q2, q3, q4⟩ := hk2.c5
  go_wp2_with fail
  refine (toPtr_any _ _ _ _ _ _).mono ?_; rintro r w3 ⟨rfl, hb3⟩
  go_wp2_with fail
  refine (implPtrOk_any _ _ _ _ _ _).mono ?_; rintro r w4 ⟨rfl, hb4⟩
  go_wp2_with fail
  go_ret
  exact ⟨rfl, bnext (bnext (bnext (bnext hb0 (Nat.le_refl _) hb1) (Nat.le_refl _) hb2) (Nat.le_refl _) hb3) (Nat.le_refl _) hb4⟩
end Go.Proofs.Ytlflcinlhpjkhaa
