/- StripeJoin of the program and of the reference. -/
import Derived.Test.YtjcokbpioiakjaaJoinPlain
namespace Go.Proofs.Ytjcokbpioiakjaa
open Go.RowKit

theorem l4Other_v {one p v : ByteArray} {n : Nat} {i : Int} (hi : i = (n : Int)) (hp : n ≤ p.size) (hn : n ≤ 1000000000) (ho : one.size ≤ 1000000000) (hv : ByteArray.mk ((xr p.data.toList one.data.toList).take n).toArray = v) (w : World) :
    Calls Try.prog 47 #[.string one, .string p, .int .i64 i] w fun r w' => r = .returned (.string v) ∧ Below w.heap.size w w' := by
  subst hi hv
  exact l4Other_any one p n hp hn ho w
theorem half_i {i : Int} (n : Nat) (hi : i = (n : Int)) (hn : n ≤ 1000000000) (w : World) : Calls Try.prog 42 #[.int .i64 i] w fun r w' => r = .returned (.int .i64 ((n + 1) / 2 : Nat)) ∧ w = w' := by
  subst hi; exact half_any n hn w
theorem l4Half_i {i : Int} (n : Nat) (hi : i = (n : Int)) (hn : n ≤ 1000000000) (w : World) : Calls Try.prog 46 #[.int .i64 i] w fun r w' => r = .returned (.int .i64 ((n + 1) / 2 : Nat)) ∧ w = w' := by
  subst hi; exact l4Half_any n hn w
/-- three texts of a row -/
theorem Rd.three {w : World} {P : Option Addr} {a b c : ByteArray} (h : Rd w 1 P 3 ([a, b, c].map Value.string)) :
    ∃ g o, P = some ⟨g, o, none⟩ ∧ g < w.heap.size ∧ w.cell? ⟨g, o, none⟩ = some (.string a) ∧ w.cell? ⟨g, o + 1, none⟩ = some (.string b) ∧ w.cell? ⟨g, o + 2, none⟩ = some (.string c) := by
  obtain ⟨g, o, e, hg, hc⟩ := h.at_ (by omega)
  exact ⟨g, o, e, hg, hc 0 _ rfl, hc 1 _ rfl, hc 2 _ rfl⟩

set_option maxRecDepth 100000 in
set_option maxHeartbeats 2000000 in
theorem specStripeJoin_short (P : Option Addr) (n c : Nat) (size lost : Int) (w : World) (hn : n ≠ 3) :
    Calls Try.prog 27 #[.slice P n c, .int .i64 size, .int .i64 lost] w fun r w' => r = .returned (.tuple #[.string ⟨#[]⟩, .bool false]) ∧ w = w' := by
  have h3 : ((n : Int) == 3) = false := by rw [beq_eq_false_iff_ne]; omega
  have h4 : ((n : Int) != 3) = true := by rw [bne_iff_ne]; omega
  have h5 : (n == 3) = false := by rw [beq_eq_false_iff_ne]; omega
  clear hn
  go_enter Try.func27, Try.ntmps27
  go_wp2_with fail
  exact bodyPost_ret (v := .tuple #[.string ⟨#[]⟩, .bool false]) (by simp [results, Try.results27, go_sem]) rfl ⟨rfl, rfl⟩

end Go.Proofs.Ytjcokbpioiakjaa
