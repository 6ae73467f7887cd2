/- The walk of the law FnExactConstants. -/
import Derived.Test.YtlflcinlhpjkhaaBase
namespace Go.Proofs.Ytlflcinlhpjkhaa
open Go.RowKit
set_option maxHeartbeats 1000000 in
theorem fnExactConstants_walk (w : World) : Calls Try.prog 3 #[] w fun r w' => r = .returned (.bool true) ∧ Below w.heap.size w w' := by
  go_enter Try.func3, Try.ntmps3
  go_wp2
  go_ret
  exact ⟨rfl, Below.refl _ _⟩
end Go.Proofs.Ytlflcinlhpjkhaa
