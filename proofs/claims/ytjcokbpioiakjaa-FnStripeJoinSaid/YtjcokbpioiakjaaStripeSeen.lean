/- The walks of the laws FnStripeJoin and FnStripeWhole. -/
import Derived.Test.YtjcokbpioiakjaaDrawJoin
import Derived.Test.YtjcokbpioiakjaaCutLaw
namespace Go.Proofs.Ytjcokbpioiakjaa
open Go.RowKit
set_option linter.unusedVariables false

/-- where columns are those of a block, they are the columns of that block -/
theorem whole_is {zs : List ByteArray} {size : Int} (h : wholeB zs size = true) : ∃ s : ByteArray, zs = cutT s ∧ size = (s.size : Int) ∧ inR s.size 1 128 = true := by
  rcases whole_cases zs size with ⟨_, h2⟩ | ⟨x, y, z, rfl, hj, hw, hc, hi, h128⟩
  · rw [h2] at h; cases h
  · rw [hw] at h
    have e : [x, y, z] = cutT (x ++ y) := of_decide_eq_true h
    refine ⟨x ++ y, e, ?_, hi⟩
    unfold wholeB at hw
    have hok : joinOk [x, y, z] size (-1) = true := by
      cases hk : joinOk [x, y, z] size (-1)
      · unfold joinV at hj
        rw [if_neg (by rw [hk]; decide)] at hj
        injection hj with hj
        have := congrArg (fun a => a[1]?) hj
        simp at this
      · rfl
    simp only [joinOk, inR, Bool.and_eq_true, Bool.or_eq_true, beq_iff_eq, decide_eq_true_eq] at hok
    obtain ⟨⟨⟨⟨⟨s1, s2⟩, _⟩, ha⟩, hb⟩, _⟩ := hok
    rw [ByteArray.size_append]
    have ha' : (x.size : Int) = (size + 1) / 2 := by rcases ha with h | h <;> omega
    have hb' : (y.size : Int) = size - (size + 1) / 2 := by rcases hb with h | h <;> omega
    omega

set_option maxHeartbeats 4000000 in
theorem fnStripeWhole_walk (A1 : Option Addr) (n1 c1 : Nat) (z1 : List Int) (w : World) (h1 : U8s w A1 n1 c1 z1) :
    Calls Try.prog 9 #[.slice A1 n1 c1] w fun r w' => r = .returned (.bool true) ∧ Below w.heap.size w w' := by
  have m1 : n1 ≤ maxLen := Nat.le_trans h1.1 h1.2.1
  have H1 := hide h1
  clear h1
  unfold maxLen at m1
  by_cases g1 : (1048576 : Int) < (n1 : Int)
  · go_enter Try.func9, Try.ntmps9
    go_wp2_with fail
    go_ret
    exact ⟨rfl, Below.refl _ _⟩
  · go_enter Try.func9, Try.ntmps9
    go_wp2_with fail
    refine (drawStripeWhole_any _ _ _ _ _ H1.out).mono ?_; rintro r w1 ⟨A, n, size, zs, rfl, hn, hsz, hz, hk, hb⟩
    have HZ := hide (fun u hu => Nat.le_trans (hz u hu) (show 1000 ≤ 1000000000 by omega))
    have H := hide hk
    have HB := hide hb
    have HNM := hide (show n ≤ maxLen by unfold maxLen; omega)
    have hlen : zs.length = n := by have := hk.len; simpa using this
    clear hz hk hb H1
    cases hv : wholeB zs size
    · have HV := hide hv
      clear hv hlen
      go_wp2_with fail
      refine (implWhole_v HV.out _ H.out HZ.out HNM.out).mono ?_; rintro r w2 ⟨rfl, hb2⟩
      have H := hide (H.out.after hb2)
      have HB := hide (HB.out.trans (hb2.mono HB.out.size))
      clear hb2
      go_wp2_with fail
      refine (HV.out ▸ specStripeWhole_any _ _ _ zs size _ H.out HZ.out HNM.out).mono ?_; rintro r w3 ⟨rfl, hb3⟩
      go_wp2_with fail
      go_ret
      exact ⟨rfl, HB.out.trans (hb3.mono HB.out.size)⟩
    · obtain ⟨s, rfl, hss, hi⟩ := whole_is hv
      have HV := hide hv
      have J := hide (fun l hl => cut_join s l hi hl)
      have HI := hide hi
      have HS := hide hss
      have HL := hide hlen
      clear hv hlen hi hss
      obtain rfl : n = 3 := HL.out.symm
      have hne := beqT_eq (rfl : s = s)
      go_wp2_with fail
      refine (implWhole_v HV.out _ H.out HZ.out HNM.out).mono ?_; rintro r w2 ⟨rfl, hb2⟩
      have H := hide (H.out.after hb2)
      have HB := hide (HB.out.trans (hb2.mono HB.out.size))
      clear hb2
      go_wp2_with fail
      refine (HV.out ▸ specStripeWhole_any _ _ _ (cutT s) size _ H.out HZ.out HNM.out).mono ?_; rintro r w3 ⟨rfl, hb3⟩
      have H := hide (H.out.after hb3)
      have HB := hide (HB.out.trans (hb3.mono HB.out.size))
      clear hb3
      go_wp2_with fail
      rw [HS.out]
      refine (implJoin_v (J.out (-1) (.inl rfl)) _ H.out HZ.out).mono ?_; rintro r w4 ⟨rfl, hb4⟩
      have H := hide (H.out.after hb4)
      have HB := hide (HB.out.trans (hb4.mono HB.out.size))
      clear hb4
      go_wp2_with fail
      try rw [HS.out]
      refine (implJoin_v (J.out 0 (.inr (.inl rfl))) _ H.out HZ.out).mono ?_; rintro r w5 ⟨rfl, hb5⟩
      have H := hide (H.out.after hb5)
      have HB := hide (HB.out.trans (hb5.mono HB.out.size))
      clear hb5
      go_wp2_with fail
      try rw [HS.out]
      refine (implJoin_v (J.out 1 (.inr (.inr rfl))) _ H.out HZ.out).mono ?_; rintro r w6 ⟨rfl, hb6⟩
      have H := hide (H.out.after hb6)
      have HB := hide (HB.out.trans (hb6.mono HB.out.size))
      clear hb6
      go_wp2_with fail
      refine (implStripeCut_ok s HI.out _).mono ?_; rintro r w7 ⟨_, rfl, g0, rfl, hg0, hB0, hb7⟩
      have K := hide hB0
      have H := hide (H.out.after hb7)
      have HB := hide (HB.out.trans (hb7.mono HB.out.size))
      clear hb7 hB0
      go_wp2_with fail
      refine (pfTexts_v (eqT_same _) _ K.out.rdT H.out (by simp [maxLen, cutT])).mono ?_; rintro r w8 ⟨rfl, hb8⟩
      go_wp2_with fail
      go_ret
      exact ⟨rfl, HB.out.trans (hb8.mono HB.out.size)⟩
end Go.Proofs.Ytjcokbpioiakjaa
