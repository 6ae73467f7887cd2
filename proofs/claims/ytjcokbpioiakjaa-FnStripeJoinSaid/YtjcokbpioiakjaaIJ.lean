/- StripeJoin of the program: all ways. -/
import Derived.Test.YtjcokbpioiakjaaIJm
import Derived.Test.YtjcokbpioiakjaaIJ0
import Derived.Test.YtjcokbpioiakjaaIJ1
namespace Go.Proofs.Ytjcokbpioiakjaa
open Go.RowKit

set_option maxRecDepth 100000 in
set_option maxHeartbeats 2000000 in
theorem implStripeJoin_short (P : Option Addr) (n c : Nat) (size lost : Int) (w : World) (hn : n ≠ 3) :
    Calls Try.prog 25 #[.slice P n c, .int .i64 size, .int .i64 lost] w fun r w' => r = .returned (.tuple #[.string ⟨#[]⟩, .bool false]) ∧ w = w' := by
  have h3 : ((n : Int) == 3) = false := by rw [beq_eq_false_iff_ne]; omega
  have h4 : ((n : Int) != 3) = true := by rw [bne_iff_ne]; omega
  have h5 : (n == 3) = false := by rw [beq_eq_false_iff_ne]; omega
  clear hn
  go_enter Try.func25, Try.ntmps25
  go_wp2_with fail
  exact bodyPost_ret (v := .tuple #[.string ⟨#[]⟩, .bool false]) (by simp [results, Try.results25, go_sem]) rfl ⟨rfl, rfl⟩

set_option maxRecDepth 100000 in
set_option maxHeartbeats 2000000 in
theorem implStripeJoin_any (P : Option Addr) (cc : Nat) (a b c : ByteArray) (size lost : Int) (w : World) (h : Rd w 1 P 3 ([a, b, c].map Value.string)) (ha : a.size ≤ 1000000000) (hb : b.size ≤ 1000000000) (hc : c.size ≤ 1000000000) :
    Calls Try.prog 25 #[.slice P 3 cc, .int .i64 size, .int .i64 lost] w fun r w' => r = .returned (joinV [a, b, c] size lost) ∧ Below w.heap.size w w' := by
  cases h1 : inR size 1 128
  · have H1 := hide h1
    have HJ := hide (join_r (a := a) (b := b) (c := c) (lost := lost) h1)
    clear h h1
    go_enter Try.func25, Try.ntmps25
    go_wp2_with fail
    refine (within_v H1.out _).mono ?_; rintro r w1 ⟨rfl, rfl⟩
    go_wp2_with fail
    exact bodyPost_ret (v := .tuple #[.string ⟨#[]⟩, .bool false]) (by simp [results, Try.results25, go_sem]) rfl ⟨by rw [HJ.out], Below.refl _ _⟩
  · cases h2 : inR lost (-1) 1
    · have H1 := hide h1
      have H2 := hide h2
      have HJ := hide (join_l (a := a) (b := b) (c := c) (size := size) h2)
      clear h h1 h2
      go_enter Try.func25, Try.ntmps25
      go_wp2_with fail
      refine (within_v H1.out _).mono ?_; rintro r w1 ⟨rfl, rfl⟩
      go_wp2_with fail
      refine (within_v H2.out _).mono ?_; rintro r w1 ⟨rfl, rfl⟩
      go_wp2_with fail
      exact bodyPost_ret (v := .tuple #[.string ⟨#[]⟩, .bool false]) (by simp [results, Try.results25, go_sem]) rfl ⟨by rw [HJ.out], Below.refl _ _⟩
    · have hl : lost = -1 ∨ lost = 0 ∨ lost = 1 := by simp [inR] at h2; omega
      rcases hl with rfl | rfl | rfl
      · exact implStripeJoin_m P cc a b c size w h ha hb hc h1
      · exact implStripeJoin_0 P cc a b c size w h ha hb hc h1
      · exact implStripeJoin_1 P cc a b c size w h ha hb hc h1
end Go.Proofs.Ytjcokbpioiakjaa
