/- The walk of the law FnExactSumOf. -/
import Derived.Test.YtlflcinlhpjkhaaSum
namespace Go.Proofs.Ytlflcinlhpjkhaa
open Go.RowKit

set_option maxHeartbeats 400000 in
theorem fnExactSumOf_walk (s : ByteArray) (hs : s.size ≤ maxLen) (w : World) :
    Calls Try.prog 5 #[.string s] w fun r w' => r = .returned (.bool true) ∧ Below w.heap.size w w' := by
  by_cases hn : (1048576 : Int) < (s.size : Int)
  · go_enter Try.func5, Try.ntmps5
    go_wp2_with fail
    go_ret
    exact ⟨rfl, Below.refl _ _⟩
  · go_enter Try.func5, Try.ntmps5
    go_wp2_with (first | (go_at_call 18; refine (specSum_any _ _ hs).mono ?_; rintro r w1 ⟨rfl, rfl⟩) | (go_at_call 19; refine (implSum_any _ _ hs).mono ?_; rintro r w1 ⟨rfl, rfl⟩))
    go_ret
    exact ⟨rfl, Below.refl _ _⟩
end Go.Proofs.Ytlflcinlhpjkhaa
