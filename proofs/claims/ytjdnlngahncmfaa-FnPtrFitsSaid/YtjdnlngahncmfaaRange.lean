/- Ranges of integers: within, l6In and what asks them. -/
import Derived.Test.YtjdnlngahncmfaaSum
namespace Go.Proofs.Ytjdnlngahncmfaa
open Go.RowKit

/-- low ≤ n ≤ high -/
def inR (n lo hi : Int) : Bool := decide (lo ≤ n) && decide (n ≤ hi)
set_option maxHeartbeats 400000 in
theorem within_any (n lo hi : Int) (w : World) : Calls Try.prog 23 #[.int .i64 n, .int .i64 lo, .int .i64 hi] w fun r w' => r = .returned (.bool (inR n lo hi)) ∧ w = w' := by
  go_enter Try.func23, Try.ntmps23
  go_wp2
  all_goals
    go_ret
    exact ⟨ret_bool (by simp only [inR]; grind), rfl⟩
set_option maxHeartbeats 400000 in
theorem l6In_any (n lo hi : Int) (w : World) : Calls Try.prog 28 #[.int .i64 n, .int .i64 lo, .int .i64 hi] w fun r w' => r = .returned (.bool (inR n lo hi)) ∧ w = w' := by
  go_enter Try.func28, Try.ntmps28
  go_wp2
  all_goals
    go_ret
    exact ⟨ret_bool (by simp only [inR]; grind), rfl⟩
set_option maxHeartbeats 400000 in
theorem isRow_any (n : Int) (w : World) : Calls Try.prog 22 #[.int .i64 n] w fun r w' => r = .returned (.bool (inR n 8 63)) ∧ w = w' := by
  go_enter Try.func22, Try.ntmps22
  go_wp2_with (go_at_call 23; refine (within_any _ _ _ _).mono ?_; rintro r w1 ⟨rfl, rfl⟩)
  go_ret
  exact ⟨rfl, rfl⟩
set_option maxHeartbeats 400000 in
theorem l2Row_any (n : Int) (w : World) : Calls Try.prog 29 #[.int .i64 n] w fun r w' => r = .returned (.bool (inR n 8 63)) ∧ w = w' := by
  go_enter Try.func29, Try.ntmps29
  go_wp2_with (go_at_call 28; refine (l6In_any _ _ _ _).mono ?_; rintro r w1 ⟨rfl, rfl⟩)
  go_ret
  exact ⟨rfl, rfl⟩
theorem within_v {n lo hi : Int} {v : Bool} (h : inR n lo hi = v) (w : World) : Calls Try.prog 23 #[.int .i64 n, .int .i64 lo, .int .i64 hi] w fun r w' => r = .returned (.bool v) ∧ w = w' := h ▸ within_any n lo hi w
theorem l6In_v {n lo hi : Int} {v : Bool} (h : inR n lo hi = v) (w : World) : Calls Try.prog 28 #[.int .i64 n, .int .i64 lo, .int .i64 hi] w fun r w' => r = .returned (.bool v) ∧ w = w' := h ▸ l6In_any n lo hi w
theorem block_of (s : ByteArray) (w : World) : Calls Try.prog 18 #[.string s] w fun r w' => r = .returned (.bool (inR s.size 1 128)) ∧ w = w' := by
  go_enter Try.func18, Try.ntmps18
  go_wp2_with (go_at_call 23; refine (within_any _ _ _ _).mono ?_; rintro r w1 ⟨rfl, rfl⟩)
  go_ret
  exact ⟨rfl, rfl⟩
theorem l2Block_of (s : ByteArray) (w : World) : Calls Try.prog 19 #[.string s] w fun r w' => r = .returned (.bool (inR s.size 1 128)) ∧ w = w' := by
  go_enter Try.func19, Try.ntmps19
  go_wp2_with (go_at_call 28; refine (l6In_any _ _ _ _).mono ?_; rintro r w1 ⟨rfl, rfl⟩)
  go_ret
  exact ⟨rfl, rfl⟩
theorem isBlock_v {s : ByteArray} {v : Bool} (h : inR s.size 1 128 = v) (w : World) : Calls Try.prog 18 #[.string s] w fun r w' => r = .returned (.bool v) ∧ w = w' := h ▸ block_of s w
theorem l2Block_v {s : ByteArray} {v : Bool} (h : inR s.size 1 128 = v) (w : World) : Calls Try.prog 19 #[.string s] w fun r w' => r = .returned (.bool v) ∧ w = w' := h ▸ l2Block_of s w
end Go.Proofs.Ytjdnlngahncmfaa
