/- Disks on which nothing waits are marked; the walks of the laws FnExactDiskNew and FnExactDiskLose. -/
import Derived.Test.YtcaoekaephnimaaDiskEq
namespace Go.Proofs.Ytcaoekaephnimaa
open Go.RowKit
set_option linter.unusedVariables false

set_option maxHeartbeats 400000 in
theorem markWaitS_nil (A : Option Addr) (c : Nat) (i : Int) (w : World) :
    Calls Try.prog 59 #[.slice A 0 c, .int .i64 i] w fun r w' => r = .returned (.int .i64 i) ∧ w = w' := by
  go_enter Try.func59, Try.ntmps59
  go_wp2
  go_loop [1, 5] (fun q j => q = .int .i64 i ∧ j = .int .i64 0) (fun _ _ => 0)
  case atStart => exact ⟨rfl, rfl⟩
  case round =>
    obtain ⟨rfl, rfl⟩ := hrel
    go_wp2
    go_ret
    exact ⟨rfl, rfl⟩
set_option maxHeartbeats 400000 in
theorem heldWaitS_nil (A : Option Addr) (c : Nat) (i : Int) (w : World) :
    Calls Try.prog 61 #[.slice A 0 c, .int .i64 i] w fun r w' => r = .returned (.int .i64 i) ∧ w = w' := by
  go_enter Try.func61, Try.ntmps61
  go_wp2
  go_loop [1, 5] (fun q j => q = .int .i64 i ∧ j = .int .i64 0) (fun _ _ => 0)
  case atStart => exact ⟨rfl, rfl⟩
  case round =>
    obtain ⟨rfl, rfl⟩ := hrel
    go_wp2
    go_ret
    exact ⟨rfl, rfl⟩

end Go.Proofs.Ytcaoekaephnimaa
