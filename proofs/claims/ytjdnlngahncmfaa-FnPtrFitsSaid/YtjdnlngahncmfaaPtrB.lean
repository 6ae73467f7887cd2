/- PtrOk and PtrFits of the program and of the reference. -/
import Derived.Test.YtjdnlngahncmfaaPtrA
import Derived.Test.YtjdnlngahncmfaaRange
import Derived.Test.YtjdnlngahncmfaaSum
import Derived.Deep.RegionHeld3
import Derived.BigQuiet
import Derived.Deep.QuietTactic
namespace Go.Proofs.Ytjdnlngahncmfaa
open Go.RowKit

/-- a valid pointer -/
def okB (a b c d e : Int) : Bool := holeB a b c d e || (inR a 8 63 && inR b 1 900 && inR c 1 128 && inR d 0 99460728 && inR e 0 2)

set_option maxHeartbeats 800000 in
theorem implPtrOk_any (a b c d e : Int) (w : World) :
    Calls Try.prog 8 #[.agg #[.int .i64 a, .int .i64 b, .int .i64 c, .int .i64 d, .int .i64 e]] w fun r w' => r = .returned (.bool (okB a b c d e)) ∧ Below w.heap.size w w' := by
  have HK0 := hide (Bk.fresh w 26 #[.int .i64 a, .int .i64 b, .int .i64 c, .int .i64 d, .int .i64 e])
  have hb0 := bel1 w (.cells #[.int .i64 a, .int .i64 b, .int .i64 c, .int .i64 d, .int .i64 e] 26)
  go_enter Try.func8, Try.ntmps8
  go_wp2_with fail
  refine (implPtrHole_any _ _ _ _ _ _).mono ?_; rintro r w1 ⟨rfl, hb1⟩
  have hk1 := HK0.out.after hb1
  obtain ⟨q0, q1, q2, q3, q4⟩ := hk1.c5
  have HB := hide (bnext hb0 (Nat.le_refl _) hb1)
  clear hb0 hb1 hk1
  go_wp2_with (first
    | (go_at_call 22; refine (isRow_any _ _).mono ?_; rintro r w2 ⟨rfl, rfl⟩)
    | (go_at_call 23; refine (within_any _ _ _ _).mono ?_; rintro r w2 ⟨rfl, rfl⟩))
  all_goals
    go_ret
    exact ⟨by simp [okB, *], HB.out⟩

set_option maxHeartbeats 800000 in
theorem specPtrOk_any (a b c d e : Int) (w : World) :
    Calls Try.prog 21 #[.agg #[.int .i64 a, .int .i64 b, .int .i64 c, .int .i64 d, .int .i64 e]] w fun r w' => r = .returned (.bool (okB a b c d e)) ∧ Below w.heap.size w w' := by
  have HK0 := hide (Bk.fresh w 26 #[.int .i64 a, .int .i64 b, .int .i64 c, .int .i64 d, .int .i64 e])
  have hb0 := bel1 w (.cells #[.int .i64 a, .int .i64 b, .int .i64 c, .int .i64 d, .int .i64 e] 26)
  go_enter Try.func21, Try.ntmps21
  go_wp2_with fail
  refine (specPtrHole_any _ _ _ _ _ _).mono ?_; rintro r w1 ⟨rfl, hb1⟩
  have hk1 := HK0.out.after hb1
  obtain ⟨q0, q1, q2, q3, q4⟩ := hk1.c5
  have HB := hide (bnext hb0 (Nat.le_refl _) hb1)
  clear hb0 hb1 hk1
  go_wp2_with (first
    | (go_at_call 29; refine (l2Row_any _ _).mono ?_; rintro r w2 ⟨rfl, rfl⟩)
    | (go_at_call 28; refine (l6In_any _ _ _ _).mono ?_; rintro r w2 ⟨rfl, rfl⟩))
  all_goals
    go_ret
    exact ⟨by simp [okB, *], HB.out⟩

end Go.Proofs.Ytjdnlngahncmfaa
