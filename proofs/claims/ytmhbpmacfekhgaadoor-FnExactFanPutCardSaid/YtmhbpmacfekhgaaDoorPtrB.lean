/- PtrOk and PtrFits of the program and of the reference. -/
import Derived.Test.YtmhbpmacfekhgaaDoorPtrA
import Derived.Test.YtmhbpmacfekhgaaDoorRange
import Derived.Test.YtmhbpmacfekhgaaDoorSum
import Derived.Deep.RegionHeld3
import Derived.BigQuiet
import Derived.Deep.QuietTactic
namespace Go.Proofs.YtmhbpmacfekhgaaDoor
open Go.RowKit

/-- a valid pointer -/
def okB (a b c d e : Int) : Bool := holeB a b c d e || (inR a 8 63 && inR b 1 900 && inR c 1 128 && inR d 0 99460728 && inR e 0 2)

set_option maxHeartbeats 800000 in
theorem implPtrOk_any (a b c d e : Int) (w : World) :
    Calls Tryd.prog 22 #[.agg #[.int .i64 a, .int .i64 b, .int .i64 c, .int .i64 d, .int .i64 e]] w fun r w' => r = .returned (.bool (okB a b c d e)) ∧ Below w.heap.size w w' := by
  have HK0 := hide (Bk.fresh w 25 #[.int .i64 a, .int .i64 b, .int .i64 c, .int .i64 d, .int .i64 e])
  have hb0 := bel1 w (.cells #[.int .i64 a, .int .i64 b, .int .i64 c, .int .i64 d, .int .i64 e] 25)
  go_enter Tryd.func22, Tryd.ntmps22
  go_wp2_with fail
  refine (implPtrHole_any _ _ _ _ _ _).mono ?_; rintro r w1 ⟨rfl, hb1⟩
  have hk1 := HK0.out.after hb1
  obtain ⟨q0, q1, q2, q3, q4⟩ := hk1.c5
  have HB := hide (bnext hb0 (Nat.le_refl _) hb1)
  clear hb0 hb1 hk1
  go_wp2_with (first
    | (go_at_call 52; refine (isRow_any _ _).mono ?_; rintro r w2 ⟨rfl, rfl⟩)
    | (go_at_call 53; refine (within_any _ _ _ _).mono ?_; rintro r w2 ⟨rfl, rfl⟩))
  all_goals
    go_ret
    exact ⟨by simp [okB, *], HB.out⟩

set_option maxHeartbeats 800000 in
theorem specPtrOk_any (a b c d e : Int) (w : World) :
    Calls Tryd.prog 27 #[.agg #[.int .i64 a, .int .i64 b, .int .i64 c, .int .i64 d, .int .i64 e]] w fun r w' => r = .returned (.bool (okB a b c d e)) ∧ Below w.heap.size w w' := by
  have HK0 := hide (Bk.fresh w 25 #[.int .i64 a, .int .i64 b, .int .i64 c, .int .i64 d, .int .i64 e])
  have hb0 := bel1 w (.cells #[.int .i64 a, .int .i64 b, .int .i64 c, .int .i64 d, .int .i64 e] 25)
  go_enter Tryd.func27, Tryd.ntmps27
  go_wp2_with fail
  refine (specPtrHole_any _ _ _ _ _ _).mono ?_; rintro r w1 ⟨rfl, hb1⟩
  have hk1 := HK0.out.after hb1
  obtain ⟨q0, q1, q2, q3, q4⟩ := hk1.c5
  have HB := hide (bnext hb0 (Nat.le_refl _) hb1)
  clear hb0 hb1 hk1
  go_wp2_with (first
    | (go_at_call 54; refine (l2Row_any _ _).mono ?_; rintro r w2 ⟨rfl, rfl⟩)
    | (go_at_call 55; refine (l6In_any _ _ _ _).mono ?_; rintro r w2 ⟨rfl, rfl⟩))
  all_goals
    go_ret
    exact ⟨by simp [okB, *], HB.out⟩

end Go.Proofs.YtmhbpmacfekhgaaDoor
