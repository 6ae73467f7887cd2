/- Ranges of integers: within, l6In and what asks them. -/
import Derived.Test.YtnagmagjdglmoaaDoorSum
namespace Go.Proofs.YtnagmagjdglmoaaDoor
open Go.RowKit

/-- low ≤ n ≤ high -/
def inR (n lo hi : Int) : Bool := decide (lo ≤ n) && decide (n ≤ hi)
set_option maxHeartbeats 400000 in
theorem within_any (n lo hi : Int) (w : World) : Calls Tryd.prog 33 #[.int .i64 n, .int .i64 lo, .int .i64 hi] w fun r w' => r = .returned (.bool (inR n lo hi)) ∧ w = w' := by
  go_enter Tryd.func33, Tryd.ntmps33
  go_wp2
  all_goals
    go_ret
    exact ⟨ret_bool (by simp only [inR]; grind), rfl⟩
set_option maxHeartbeats 400000 in
theorem l6In_any (n lo hi : Int) (w : World) : Calls Tryd.prog 31 #[.int .i64 n, .int .i64 lo, .int .i64 hi] w fun r w' => r = .returned (.bool (inR n lo hi)) ∧ w = w' := by
  go_enter Tryd.func31, Tryd.ntmps31
  go_wp2
  all_goals
    go_ret
    exact ⟨ret_bool (by simp only [inR]; grind), rfl⟩
theorem within_v {n lo hi : Int} {v : Bool} (h : inR n lo hi = v) (w : World) : Calls Tryd.prog 33 #[.int .i64 n, .int .i64 lo, .int .i64 hi] w fun r w' => r = .returned (.bool v) ∧ w = w' := h ▸ within_any n lo hi w
theorem l6In_v {n lo hi : Int} {v : Bool} (h : inR n lo hi = v) (w : World) : Calls Tryd.prog 31 #[.int .i64 n, .int .i64 lo, .int .i64 hi] w fun r w' => r = .returned (.bool v) ∧ w = w' := h ▸ l6In_any n lo hi w
end Go.Proofs.YtnagmagjdglmoaaDoor
