/- The walks of the pointer functions: toPtr, PtrHole, PtrOk of the program and of the reference. -/
import Derived.Test.YtjdnlngahncmfaaBase
namespace Go.Proofs.Ytjdnlngahncmfaa
open Go.RowKit

/-- a pointer is a hole -/
def holeB (a b c d e : Int) : Bool := a == 0 && b == 0 && c == 0 && d == 0 && e == 0

set_option maxHeartbeats 400000 in
theorem implPtrHole_any (a b c d e : Int) (w : World) :
    Calls Try.prog 10 #[.agg #[.int .i64 a, .int .i64 b, .int .i64 c, .int .i64 d, .int .i64 e]] w fun r w' => r = .returned (.bool (holeB a b c d e)) ∧ Below w.heap.size w w' := by
  go_enter Try.func10, Try.ntmps10
  go_wp2
  all_goals
    go_ret
    exact ⟨by simp [holeB, *], bel1 _ _⟩

set_option maxHeartbeats 400000 in
theorem specPtrHole_any (a b c d e : Int) (w : World) :
    Calls Try.prog 25 #[.agg #[.int .i64 a, .int .i64 b, .int .i64 c, .int .i64 d, .int .i64 e]] w fun r w' => r = .returned (.bool (holeB a b c d e)) ∧ Below w.heap.size w w' := by
  go_enter Try.func25, Try.ntmps25
  go_wp2
  all_goals
    go_ret
    exact ⟨by simp [holeB, *], bel1 _ _⟩

end Go.Proofs.Ytjdnlngahncmfaa
