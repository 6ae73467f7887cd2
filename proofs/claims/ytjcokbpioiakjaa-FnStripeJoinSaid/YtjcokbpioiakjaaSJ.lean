/- StripeJoin of the reference: all ways. -/
import Derived.Test.YtjcokbpioiakjaaSJm
import Derived.Test.YtjcokbpioiakjaaSJ0
import Derived.Test.YtjcokbpioiakjaaSJ1
namespace Go.Proofs.Ytjcokbpioiakjaa
open Go.RowKit

set_option maxRecDepth 100000 in
set_option maxHeartbeats 2000000 in
theorem specStripeJoin_any (P : Option Addr) (cc : Nat) (a b c : ByteArray) (size lost : Int) (w : World) (h : Rd w 1 P 3 ([a, b, c].map Value.string)) (ha : a.size ≤ 1000000000) (hb : b.size ≤ 1000000000) (hc : c.size ≤ 1000000000) :
    Calls Try.prog 27 #[.slice P 3 cc, .int .i64 size, .int .i64 lost] w fun r w' => r = .returned (joinV [a, b, c] size lost) ∧ Below w.heap.size w w' := by
  cases h1 : inR size 1 128
  · have H1 := hide h1
    have HJ := hide (join_r (a := a) (b := b) (c := c) (lost := lost) h1)
    clear h h1
    go_enter Try.func27, Try.ntmps27
    go_wp2_with fail
    refine (l6In_v H1.out _).mono ?_; rintro r w1 ⟨rfl, rfl⟩
    go_wp2_with fail
    exact bodyPost_ret (v := .tuple #[.string ⟨#[]⟩, .bool false]) (by simp [results, Try.results27, go_sem]) rfl ⟨by rw [HJ.out], Below.refl _ _⟩
  · cases h2 : inR lost (-1) 1
    · have H1 := hide h1
      have H2 := hide h2
      have HJ := hide (join_l (a := a) (b := b) (c := c) (size := size) h2)
      clear h h1 h2
      go_enter Try.func27, Try.ntmps27
      go_wp2_with fail
      refine (l6In_v H1.out _).mono ?_; rintro r w1 ⟨rfl, rfl⟩
      go_wp2_with fail
      refine (l6In_v H2.out _).mono ?_; rintro r w1 ⟨rfl, rfl⟩
      go_wp2_with fail
      exact bodyPost_ret (v := .tuple #[.string ⟨#[]⟩, .bool false]) (by simp [results, Try.results27, go_sem]) rfl ⟨by rw [HJ.out], Below.refl _ _⟩
    · have hl : lost = -1 ∨ lost = 0 ∨ lost = 1 := by simp [inR] at h2; omega
      rcases hl with rfl | rfl | rfl
      · exact specStripeJoin_m P cc a b c size w h ha hb hc h1
      · exact specStripeJoin_0 P cc a b c size w h ha hb hc h1
      · exact specStripeJoin_1 P cc a b c size w h ha hb hc h1
end Go.Proofs.Ytjcokbpioiakjaa
