/- The walks of the pointer functions: toPtr, PtrHole, PtrOk of the program and of the reference. -/
import Derived.Test.YtmhbpmacfekhgaaDoorBase
namespace Go.Proofs.YtmhbpmacfekhgaaDoor
open Go.RowKit

/-- a pointer is a hole -/
def holeB (a b c d e : Int) : Bool := a == 0 && b == 0 && c == 0 && d == 0 && e == 0

set_option maxHeartbeats 400000 in
theorem toPtr_any (a b c d e : Int) (w : World) :
    Calls Tryd.prog 15 #[.agg #[.int .i64 a, .int .i64 b, .int .i64 c, .int .i64 d, .int .i64 e]] w fun r w' => r = .returned (.agg #[.int .i64 a, .int .i64 b, .int .i64 c, .int .i64 d, .int .i64 e]) ∧ Below w.heap.size w w' := by
  go_enter Tryd.func15, Tryd.ntmps15
  go_wp2
  refine bodyPost_ret (v := .agg #[.int .i64 a, .int .i64 b, .int .i64 c, .int .i64 d, .int .i64 e]) (by simp [results, Tryd.results15, go_sem]) rfl ⟨rfl, ?_⟩
  exact (((Below.refl _ _).alloc (Nat.le_refl _) _).alloc (by simp) _).alloc (by simp; omega) _

set_option maxHeartbeats 400000 in
theorem implPtrHole_any (a b c d e : Int) (w : World) :
    Calls Tryd.prog 24 #[.agg #[.int .i64 a, .int .i64 b, .int .i64 c, .int .i64 d, .int .i64 e]] w fun r w' => r = .returned (.bool (holeB a b c d e)) ∧ Below w.heap.size w w' := by
  go_enter Tryd.func24, Tryd.ntmps24
  go_wp2
  all_goals
    go_ret
    exact ⟨by simp [holeB, *], bel1 _ _⟩

set_option maxHeartbeats 400000 in
theorem specPtrHole_any (a b c d e : Int) (w : World) :
    Calls Tryd.prog 25 #[.agg #[.int .i64 a, .int .i64 b, .int .i64 c, .int .i64 d, .int .i64 e]] w fun r w' => r = .returned (.bool (holeB a b c d e)) ∧ Below w.heap.size w w' := by
  go_enter Tryd.func25, Tryd.ntmps25
  go_wp2
  all_goals
    go_ret
    exact ⟨by simp [holeB, *], bel1 _ _⟩

end Go.Proofs.YtmhbpmacfekhgaaDoor
