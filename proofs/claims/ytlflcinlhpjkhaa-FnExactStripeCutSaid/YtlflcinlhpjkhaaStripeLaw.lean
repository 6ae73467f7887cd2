/- The walk of the law FnExactStripeCut. -/
import Derived.Test.YtlflcinlhpjkhaaStripe
import Derived.Test.YtlflcinlhpjkhaaMark
namespace Go.Proofs.Ytlflcinlhpjkhaa
open Go.RowKit

set_option maxHeartbeats 2000000 in
theorem fnExactStripeCut_walk (s : ByteArray) (hs : s.size ≤ maxLen) (w : World) :
    Calls Try.prog 13 #[.string s] w fun r w' => r = .returned (.bool true) ∧ Below w.heap.size w w' := by
  unfold maxLen at hs
  by_cases hn : (1048576 : Int) < (s.size : Int)
  · go_enter Try.func13, Try.ntmps13
    go_wp2_with fail
    go_ret
    exact ⟨rfl, Below.refl _ _⟩
  · cases hk : inR s.size 1 128
    · have HK := hide hk
      clear hk
      go_enter Try.func13, Try.ntmps13
      go_wp2_with fail
      refine (specStripeCut_no s HK.out _).mono ?_; rintro r w1 ⟨rfl, hb1⟩
      go_wp2_with fail
      refine (implStripeCut_no s HK.out _).mono ?_; rintro r w2 ⟨rfl, rfl⟩
      go_wp2_with fail
      refine (eqStringS_v (eqT_same []) _ (Rd.nil _ _ _) (Rd.nil _ _ _) (by simp [maxLen])).mono ?_; rintro r w2 ⟨rfl, hb2⟩
      go_wp2_with fail
      refine (markStringS_nil _ _ _ _).mono ?_; rintro r w3 ⟨rfl, rfl⟩
      go_wp2_with fail
      refine (heldStringS_at (j := 1) 1 (by rfl) (by rfl) _ (Rd.nil _ _ _) (by omega) (by omega)).mono ?_; rintro r w3 ⟨rfl, hb3⟩
      go_wp2_with fail
      refine (implStripeCut_no s HK.out _).mono ?_; rintro r w4 ⟨rfl, rfl⟩
      go_wp2_with fail
      refine (eqStringS_v (eqT_same []) _ (Rd.nil _ _ _) (Rd.nil _ _ _) (by simp [maxLen])).mono ?_; rintro r w4 ⟨rfl, hb4⟩
      go_wp2_with fail
      refine (heldStringS_at (j := 1) 1 (by rfl) (by rfl) _ (Rd.nil _ _ _) (by omega) (by omega)).mono ?_; rintro r w5 ⟨rfl, hb5⟩
      go_wp2_with fail
      go_ret
      exact ⟨rfl, bnext (bnext (bnext (bnext hb1 (Nat.le_refl _) hb2) (Nat.le_refl _) hb3) (Nat.le_refl _) hb4) (Nat.le_refl _) hb5⟩
    · have HK := hide hk
      clear hk
      go_enter Try.func13, Try.ntmps13
      go_wp2_with fail
      refine (specStripeCut_ok s HK.out _).mono ?_; rintro r w1 ⟨_, rfl, g0, rfl, hg0, hB0, hb1⟩
      have H0 := hide hB0
      have HB := hide hb1
      clear hB0 hb1
      go_wp2_with fail
      refine (implStripeCut_ok s HK.out _).mono ?_; rintro r w2 ⟨_, rfl, g1, rfl, hg1, hB1, hb2⟩
      have H1 := hide hB1
      have hne : Hid (¬ g0 = g1) := hide (Nat.ne_of_lt (Nat.lt_of_lt_of_le H0.out.lt hg1))
      have hwg : Hid (w.heap.size ≤ g1) := hide (Nat.le_trans HB.out.size hg1)
      have H0 := hide (H0.out.after hb2)
      have HB := hide (HB.out.trans (hb2.mono HB.out.size))
      clear hB1 hb2
      go_wp2_with fail
      refine (eqStringS_v (eqT_same _) _ H1.out.rdT H0.out.rdT (by simp [maxLen, cutT])).mono ?_; rintro r w3 ⟨rfl, hb3⟩
      have H1 := hide (H1.out.after hb3)
      have H0 := hide (H0.out.after hb3)
      have HB := hide (HB.out.trans (hb3.mono HB.out.size))
      clear hb3
      go_wp2_with fail
      refine (markStringS_at (j := 4) 1 (by rfl) (by rfl) _ H1.out (by simp [cutT]) (by simp [cutT]) (by omega)).mono ?_; rintro r w4 ⟨rfl, ⟨cs, hm1, _, hm2⟩, hf4⟩
      have H0 := hide (H0.out.fr hf4 hne.out)
      have HM := hide (marksT_rd hm1 hm2)
      have HB := hide (HB.out.trans (hf4.below HB.out.size (fun i e => by rw [e]; exact hwg.out)))
      clear hm1 hm2 hf4
      go_wp2_with fail
      refine (heldStringS_at (j := 4) 1 (by rfl) (by rfl) _ HM.out (by simp [cutT]) (by omega)).mono ?_; rintro r w5 ⟨rfl, hb5⟩
      have H0 := hide (H0.out.after hb5)
      have HM := hide (HM.out.after hb5)
      have HB := hide (HB.out.trans (hb5.mono HB.out.size))
      clear hb5
      go_wp2_with fail
      refine (implStripeCut_ok s HK.out _).mono ?_; rintro r w6 ⟨_, rfl, g2, rfl, hg2, hB2, hb6⟩
      have H2 := hide hB2
      have H0 := hide (H0.out.after hb6)
      have HM := hide (HM.out.after hb6)
      have HB := hide (HB.out.trans (hb6.mono HB.out.size))
      clear hB2 hb6
      go_wp2_with fail
      refine (eqStringS_v (eqT_same _) _ H2.out.rdT H0.out.rdT (by simp [maxLen, cutT])).mono ?_; rintro r w7 ⟨rfl, hb7⟩
      have HM := hide (HM.out.after hb7)
      have HB := hide (HB.out.trans (hb7.mono HB.out.size))
      clear hb7
      go_wp2_with fail
      refine (heldStringS_at (j := 4) 1 (by rfl) (by rfl) _ HM.out (by simp [cutT]) (by omega)).mono ?_; rintro r w8 ⟨rfl, hb8⟩
      go_wp2_with fail
      go_ret
      exact ⟨rfl, HB.out.trans (hb8.mono HB.out.size)⟩
end Go.Proofs.Ytlflcinlhpjkhaa
