/- Ranges of integers: within, l6In and what asks them. -/
import Derived.Test.YtcaoekaephnimaaSum
namespace Go.Proofs.Ytcaoekaephnimaa
open Go.RowKit

/-- low ≤ n ≤ high -/
def inR (n lo hi : Int) : Bool := decide (lo ≤ n) && decide (n ≤ hi)
set_option maxHeartbeats 400000 in
theorem within_any (n lo hi : Int) (w : World) : Calls Try.prog 91 #[.int .i64 n, .int .i64 lo, .int .i64 hi] w fun r w' => r = .returned (.bool (inR n lo hi)) ∧ w = w' := by
  go_enter Try.func91, Try.ntmps91
  go_wp2
  all_goals
    go_ret
    exact ⟨ret_bool (by simp only [inR]; grind), rfl⟩
set_option maxHeartbeats 400000 in
theorem l6In_any (n lo hi : Int) (w : World) : Calls Try.prog 87 #[.int .i64 n, .int .i64 lo, .int .i64 hi] w fun r w' => r = .returned (.bool (inR n lo hi)) ∧ w = w' := by
  go_enter Try.func87, Try.ntmps87
  go_wp2
  all_goals
    go_ret
    exact ⟨ret_bool (by simp only [inR]; grind), rfl⟩
set_option maxHeartbeats 400000 in
theorem l2Row_any (n : Int) (w : World) : Calls Try.prog 102 #[.int .i64 n] w fun r w' => r = .returned (.bool (inR n 8 63)) ∧ w = w' := by
  go_enter Try.func102, Try.ntmps102
  go_wp2_with (go_at_call 87; refine (l6In_any _ _ _ _).mono ?_; rintro r w1 ⟨rfl, rfl⟩)
  go_ret
  exact ⟨rfl, rfl⟩
theorem within_v {n lo hi : Int} {v : Bool} (h : inR n lo hi = v) (w : World) : Calls Try.prog 91 #[.int .i64 n, .int .i64 lo, .int .i64 hi] w fun r w' => r = .returned (.bool v) ∧ w = w' := h ▸ within_any n lo hi w
theorem l6In_v {n lo hi : Int} {v : Bool} (h : inR n lo hi = v) (w : World) : Calls Try.prog 87 #[.int .i64 n, .int .i64 lo, .int .i64 hi] w fun r w' => r = .returned (.bool v) ∧ w = w' := h ▸ l6In_any n lo hi w
theorem l2Block_of (s : ByteArray) (w : World) : Calls Try.prog 92 #[.string s] w fun r w' => r = .returned (.bool (inR s.size 1 128)) ∧ w = w' := by
  go_enter Try.func92, Try.ntmps92
  go_wp2_with (go_at_call 87; refine (l6In_any _ _ _ _).mono ?_; rintro r w1 ⟨rfl, rfl⟩)
  go_ret
  exact ⟨rfl, rfl⟩
theorem l2Block_v {s : ByteArray} {v : Bool} (h : inR s.size 1 128 = v) (w : World) : Calls Try.prog 92 #[.string s] w fun r w' => r = .returned (.bool v) ∧ w = w' := h ▸ l2Block_of s w
end Go.Proofs.Ytcaoekaephnimaa
