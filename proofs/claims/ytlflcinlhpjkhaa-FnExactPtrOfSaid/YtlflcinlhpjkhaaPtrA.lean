/- The walks of the pointer functions: toPtr, PtrHole, PtrOk of the program and of the reference. -/
import Derived.Test.YtlflcinlhpjkhaaBase
namespace Go.Proofs.Ytlflcinlhpjkhaa
open Go.RowKit

/-- a pointer is a hole -/
def holeB (a b c d e : Int) : Bool := a == 0 && b == 0 && c == 0 && d == 0 && e == 0

set_option maxHeartbeats 400000 in
theorem toPtr_any (a b c d e : Int) (w : World) :
    Calls Try.prog 16 #[.agg #[.int .i64 a, .int .i64 b, .int .i64 c, .int .i64 d, .int .i64 e]] w fun r w' => r = .returned (.agg #[.int .i64 a, .int .i64 b, .int .i64 c, .int .i64 d, .int .i64 e]) ∧ Below w.heap.size w w' := by
  go_enter Try.func16, Try.ntmps16
  go_wp2
  refine bodyPost_ret (v := .agg #[.int .i64 a, .int .i64 b, .int .i64 c, .int .i64 d, .int .i64 e]) (by simp [results, Try.results16, go_sem]) rfl ⟨rfl, ?_⟩
  exact (((Below.refl _ _).alloc (Nat.le_refl _) _).alloc (by simp) _).alloc (by simp; omega) _

set_option maxHeartbeats 400000 in
theorem implPtrHole_any (a b c d e : Int) (w : World) :
    Calls Try.prog 17 #[.agg #[.int .i64 a, .int .i64 b, .int .i64 c, .int .i64 d, .int .i64 e]] w fun r w' => r = .returned (.bool (holeB a b c d e)) ∧ Below w.heap.size w w' := by
  go_enter Try.func17, Try.ntmps17
  go_wp2
  all_goals
    go_ret
    exact ⟨by simp [holeB, *], bel1 _ _⟩

set_option maxHeartbeats 400000 in
theorem specPtrHole_any (a b c d e : Int) (w : World) :
    Calls Try.prog 15 #[.agg #[.int .i64 a, .int .i64 b, .int .i64 c, .int .i64 d, .int .i64 e]] w fun r w' => r = .returned (.bool (holeB a b c d e)) ∧ Below w.heap.size w w' := by
  go_enter Try.func15, Try.ntmps15
  go_wp2
  all_goals
    go_ret
    exact ⟨by simp [holeB, *], bel1 _ _⟩

set_option maxHeartbeats 400000 in
theorem fnExactPtrHole_walk (a b c d e : Int) (w : World) :
    Calls Try.prog 4 #[.agg #[.int .i64 a, .int .i64 b, .int .i64 c, .int .i64 d, .int .i64 e]] w fun r w' => r = .returned (.bool true) ∧ Below w.heap.size w w' := by
  have hk0 := Bk.fresh w 24 #[.int .i64 a, .int .i64 b, .int .i64 c, .int .i64 d, .int .i64 e]
  have hb0 := bel1 w (.cells #[.int .i64 a, .int .i64 b, .int .i64 c, .int .i64 d, .int .i64 e] 24)
  have HK0 := hide hk0
  clear hk0
  go_enter Try.func4, Try.ntmps4
  go_wp2_with fail
  refine (toPtr_any _ _ _ _ _ _).mono ?_; rintro r w1 ⟨rfl, hb1⟩
  go_wp2_with fail
  refine (specPtrHole_any _ _ _ _ _ _).mono ?_; rintro r w2 ⟨rfl, hb2⟩
  have hk2 := (HK0.out.after hb1).after hb2
  obtain ⟨q0, q1, q2, q3, q4⟩ := hk2.c5
  go_wp2_with fail
  refine (toPtr_any _ _ _ _ _ _).mono ?_; rintro r w3 ⟨rfl, hb3⟩
  go_wp2_with fail
  refine (implPtrHole_any _ _ _ _ _ _).mono ?_; rintro r w4 ⟨rfl, hb4⟩
  go_wp2_with fail
  go_ret
  exact ⟨rfl, bnext (bnext (bnext (bnext hb0 (Nat.le_refl _) hb1) (Nat.le_refl _) hb2) (Nat.le_refl _) hb3) (Nat.le_refl _) hb4⟩
end Go.Proofs.Ytlflcinlhpjkhaa
