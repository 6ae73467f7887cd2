/- The walk of the law FnPtrFits. -/
import Derived.Test.YtjdnlngahncmfaaDrawFits2
namespace Go.Proofs.Ytjdnlngahncmfaa
open Go.RowKit
set_option linter.unusedVariables false

set_option maxHeartbeats 4000000 in
theorem fnPtrFits_walk (A1 : Option Addr) (n1 c1 : Nat) (z1 : List Int) (w : World) (h1 : U8s w A1 n1 c1 z1) :
    Calls Try.prog 4 #[.slice A1 n1 c1] w fun r w' => r = .returned (.bool true) ∧ Below w.heap.size w w' := by
  have m1 : n1 ≤ maxLen := Nat.le_trans h1.1 h1.2.1
  have H1 := hide h1
  clear h1
  unfold maxLen at m1
  by_cases g1 : (1048576 : Int) < (n1 : Int)
  · go_enter Try.func4, Try.ntmps4
    go_wp2_with fail
    go_ret
    exact ⟨rfl, Below.refl _ _⟩
  · go_enter Try.func4, Try.ntmps4
    go_wp2_with fail
    refine (drawPtrFits_any _ _ _ _ _ H1.out).mono ?_; rintro r w1 ⟨a, b, c, d, e, s, rfl, hs, hb1⟩
    have hb2 := hb1.alloc hb1.size (.cells #[.int .i64 a, .int .i64 b, .int .i64 c, .int .i64 d, .int .i64 e] 26)
    have HB := hide hb2
    have K := hide (Bk.fresh w1 26 #[.int .i64 a, .int .i64 b, .int .i64 c, .int .i64 d, .int .i64 e])
    have HSM := hide (show s.size ≤ maxLen by unfold maxLen; omega)
    clear hb1 hb2 H1
    cases hv : fitsB a b c d e s
    · have HV := hide hv
      clear hv
      go_wp2_with fail
      refine (implPtrFits_v HV.out HSM.out _).mono ?_; rintro r w2 ⟨rfl, hb2⟩
      have HB := hide (HB.out.trans (hb2.mono HB.out.size))
      have K := hide (K.out.after hb2)
      obtain ⟨q0, q1, q2, q3, q4⟩ := K.out.c5
      clear hb2
      go_wp2_with fail
      refine (specPtrFits_v HV.out HSM.out _).mono ?_; rintro r w3 ⟨rfl, hb2⟩
      go_wp2_with fail
      go_ret
      exact ⟨rfl, HB.out.trans (hb2.mono HB.out.size)⟩
    · have HV := hide hv
      obtain ⟨rfl, rfl, s0, s128⟩ := fits_yes hv
      clear hv
      go_wp2_with fail
      refine (implPtrFits_v HV.out HSM.out _).mono ?_; rintro r w2 ⟨rfl, hb2⟩
      have HB := hide (HB.out.trans (hb2.mono HB.out.size))
      have K := hide (K.out.after hb2)
      obtain ⟨q0, q1, q2, q3, q4⟩ := K.out.c5
      clear hb2
      go_wp2_with fail
      refine (specPtrFits_v HV.out HSM.out _).mono ?_; rintro r w3 ⟨rfl, hb2⟩
      have HB := hide (HB.out.trans (hb2.mono HB.out.size))
      have K := hide (K.out.after hb2)
      clear hb2 q0 q1 q2 q3 q4
      obtain ⟨k, hk⟩ : ∃ k, k = n1 % s.size := ⟨_, rfl⟩
      have kl : k < s.size := by rw [hk]; exact Nat.mod_lt _ (by omega)
      have ek : (n1 : Int) % (s.size : Int) = (k : Int) := by rw [hk]; rfl
      obtain ⟨W, cc, hconv, BR, hbW, zW, cW⟩ := to_bytes w3 s
      have kl' : k < s.data.toList.length := by simpa using kl
      obtain ⟨x, hx⟩ : ∃ x, s.data.toList[k]? = some x := ⟨_, List.getElem?_eq_getElem kl'⟩
      obtain ⟨q0, f0⟩ := BR k x hx
      have x256 := x.toNat_lt
      have k0 : (0 : Int) ≤ (k : Int) := by omega
      have k1 : (k : Int) < (s.size : Int) := by omega
      obtain ⟨y, hy, hne⟩ : ∃ y : UInt8, ((x.toNat : Int) + 1) % 256 = (y.toNat : Int) ∧ x ≠ y := by
        refine ⟨UInt8.ofNat ((x.toNat + 1) % 256), ?_, ?_⟩
        · rw [UInt8.toNat_ofNat']
          omega
        · intro e
          have e2 := congrArg UInt8.toNat e
          rw [UInt8.toNat_ofNat'] at e2
          omega
      have hyw : IntKind.u8.wrap ((x.toNat : Int) + 1) = (y.toNat : Int) := by rw [IntKind.wrap_u8]; exact hy
      have HX := hide hx
      have HBW := hide hbW
      have HBR := hide BR
      have HNE := hide hne
      have KW := hide (K.out.after hbW)
      have hsz : Hid (0 < s.size) := hide s0
      clear hk hx hbW zW BR kl' hne hy
      go_upto_region 12 with fail
      clear q0 f0 hconv
      obtain ⟨W2, HW2⟩ : ∃ X : World, X = W.setCell ⟨w3.heap.size, k, none⟩ (.int .u8 (y.toNat : Int)) := ⟨_, rfl⟩
      have R2 : ByteRow W2 w3.heap.size (s.data.toList.set k y) := by rw [HW2]; exact HBR.out.set_ (by simpa using kl) y
      have hB2 : Below w.heap.size w W2 := by rw [HW2]; exact ((HB.out.trans (HBW.out.mono HB.out.size)).setCell HB.out.size _)
      have K2 : Bk W2 w1.heap.size 26 #[.int .i64 a, .int .i64 b, .int .i64 s.size, .int .i64 (sumOf s.data.toList), .int .i64 e] := by rw [HW2]; exact KW.out.far (p := ⟨w3.heap.size, k, none⟩) (show w1.heap.size ≠ w3.heap.size by have := K.out.lt; omega) _
      have hlw : w3.heap.size < W2.heap.size := by
        have h0 := (R2 k y (by rw [List.getElem?_set_self (by simpa using kl)])).1
        rcases Nat.lt_or_ge w3.heap.size W2.heap.size with h | h
        · exact h
        · simp [World.cell?, Array.getElem?_eq_none h] at h0
      rw [← HW2]
      have RR := hide R2
      have KK := hide K2
      have HB2 := hide hB2
      have HLW := hide hlw
      clear HW2 R2 K2 hB2 hlw HBR HBW KW K
      obtain ⟨S, hS⟩ : ∃ S, S = sumOf s.data.toList := ⟨_, rfl⟩
      obtain ⟨t, ht⟩ : ∃ t : ByteArray, t = ⟨(s.data.toList.set k y).toArray⟩ := ⟨_, rfl⟩
      have hno : fitsB a b s.size S e t = false := by rw [hS]; exact fits_no (by rw [ht]; exact sum_changed HX.out HNE.out)
      have HNO := hide hno
      have htm : Hid (t.size ≤ maxLen) := hide (by rw [ht]; show (s.data.toList.set k y).toArray.size ≤ maxLen; have := HSM.out; simpa using this)
      have hss := hide (show sumOf s.data.toList = S from hS.symm)
      have hlen : Hid (s.size = (s.data.toList.set k y).length) := hide (by rw [List.length_set]; exact (Array.length_toList).symm)
      rw [← hS] at KK
      have HT := hide ht
      clear hno hS ht
      refine wp_region_held_drew (S := fun x => Below W2.heap.size W2 x) (by kernel_rfl) ((Below.refl _ _).drew) (fun hH => ?_)
      refine wpAnyH_take (i := 0) (v := ?_) rfl (by kernel_rfl) (by kernel_rfl) (by kernel_rfl) (fun _ _ _ h => h) (Or.inl ⟨by rfl, fun wS hS => ?_⟩) hH ?_
      rotate_left
      · obtain ⟨c0, c1, c2, c3, c4⟩ := (KK.out.below hS KK.out.lt).c5; have hcv := (RR.out.below hS HLW.out).str (n := s.size) (c := cc) hlen.out; rw [← HT.out] at hcv; go_simp; try exact rfl
      simp only [Act.put, List.setIfInBounds_toArray, List.set_cons_zero, List.set_cons_succ, List.getElem_toArray, List.getElem_cons_zero]
      refine wpAnyH_take (i := 1) (v := ?_) rfl (by kernel_rfl) (by kernel_rfl) (by kernel_rfl) (fun _ _ _ h => h) (Or.inl ⟨by rfl, fun wS hS => ?_⟩) hH ?_
      rotate_left
      · obtain ⟨c0, c1, c2, c3, c4⟩ := (KK.out.below hS KK.out.lt).c5; have hcv := (RR.out.below hS HLW.out).str (n := s.size) (c := cc) hlen.out; rw [← HT.out] at hcv; go_simp; try exact rfl
      simp only [Act.put, List.setIfInBounds_toArray, List.set_cons_zero, List.set_cons_succ, List.getElem_toArray, List.getElem_cons_zero, List.getElem_cons_succ]
      refine wpAnyH_take (i := 2) (v := ?_) rfl (by kernel_rfl) (by kernel_rfl) (by kernel_rfl) (fun _ _ _ h => h) (Or.inl ⟨by rfl, fun wS hS => ?_⟩) hH ?_
      rotate_left
      · obtain ⟨c0, c1, c2, c3, c4⟩ := (KK.out.below hS KK.out.lt).c5; have hcv := (RR.out.below hS HLW.out).str (n := s.size) (c := cc) hlen.out; rw [← HT.out] at hcv; go_simp; try exact rfl
      simp only [Act.put, List.setIfInBounds_toArray, List.set_cons_zero, List.set_cons_succ, List.getElem_toArray, List.getElem_cons_zero, List.getElem_cons_succ]
      refine wpAnyH_take (i := 3) (v := ?_) rfl (by kernel_rfl) (by kernel_rfl) (by kernel_rfl) (fun _ _ _ h => h) (Or.inl ⟨by rfl, fun wS hS => ?_⟩) hH ?_
      rotate_left
      · obtain ⟨c0, c1, c2, c3, c4⟩ := (KK.out.below hS KK.out.lt).c5; have hcv := (RR.out.below hS HLW.out).str (n := s.size) (c := cc) hlen.out; rw [← HT.out] at hcv; go_simp; try exact rfl
      simp only [Act.put, List.setIfInBounds_toArray, List.set_cons_zero, List.set_cons_succ, List.getElem_toArray, List.getElem_cons_zero, List.getElem_cons_succ]
      refine wpAnyH_take (i := 4) (v := ?_) rfl (by kernel_rfl) (by kernel_rfl) (by kernel_rfl) (fun _ _ _ h => h) (Or.inl ⟨by rfl, fun wS hS => ?_⟩) hH ?_
      rotate_left
      · obtain ⟨c0, c1, c2, c3, c4⟩ := (KK.out.below hS KK.out.lt).c5; have hcv := (RR.out.below hS HLW.out).str (n := s.size) (c := cc) hlen.out; rw [← HT.out] at hcv; go_simp; try exact rfl
      simp only [Act.put, List.setIfInBounds_toArray, List.set_cons_zero, List.set_cons_succ, List.getElem_toArray, List.getElem_cons_zero, List.getElem_cons_succ]
      refine wpAnyH_take (i := 5) (v := ?_) rfl (by kernel_rfl) (by kernel_rfl) (by kernel_rfl) (fun _ _ _ h => h) (Or.inl ⟨by rfl, fun wS hS => ?_⟩) hH ?_
      rotate_left
      · obtain ⟨c0, c1, c2, c3, c4⟩ := (KK.out.below hS KK.out.lt).c5; have hcv := (RR.out.below hS HLW.out).str (n := s.size) (c := cc) hlen.out; rw [← HT.out] at hcv; go_simp; try exact rfl
      simp only [Act.put, List.setIfInBounds_toArray, List.set_cons_zero, List.set_cons_succ, List.getElem_toArray, List.getElem_cons_zero, List.getElem_cons_succ]
      refine wpAnyH_take (i := 6) (v := ?_) rfl (by kernel_rfl) (by kernel_rfl) (by kernel_rfl) (fun _ _ _ h => h) (Or.inl ⟨by rfl, fun wS hS => ?_⟩) hH ?_
      rotate_left
      · obtain ⟨c0, c1, c2, c3, c4⟩ := (KK.out.below hS KK.out.lt).c5; have hcv := (RR.out.below hS HLW.out).str (n := s.size) (c := cc) hlen.out; rw [← HT.out] at hcv; go_simp; try exact rfl
      simp only [Act.put, List.setIfInBounds_toArray, List.set_cons_zero, List.set_cons_succ, List.getElem_toArray, List.getElem_cons_zero, List.getElem_cons_succ]
      refine wpAnyH_take (i := 7) (v := ?_) rfl (by kernel_rfl) (by kernel_rfl) (by kernel_rfl) (fun _ _ _ h => h) (Or.inl ⟨by rfl, fun wS hS => ?_⟩) hH ?_
      rotate_left
      · obtain ⟨c0, c1, c2, c3, c4⟩ := (KK.out.below hS KK.out.lt).c5; have hcv := (RR.out.below hS HLW.out).str (n := s.size) (c := cc) hlen.out; rw [← HT.out] at hcv; go_simp; try exact rfl
      simp only [Act.put, List.setIfInBounds_toArray, List.set_cons_zero, List.set_cons_succ, List.getElem_toArray, List.getElem_cons_zero, List.getElem_cons_succ]
      refine wpAnyH_take (i := 8) (v := ?_) rfl (by kernel_rfl) (by kernel_rfl) (by kernel_rfl) (fun _ _ _ h => h) (Or.inl ⟨by rfl, fun wS hS => ?_⟩) hH ?_
      rotate_left
      · obtain ⟨c0, c1, c2, c3, c4⟩ := (KK.out.below hS KK.out.lt).c5; have hcv := (RR.out.below hS HLW.out).str (n := s.size) (c := cc) hlen.out; rw [← HT.out] at hcv; go_simp; try exact rfl
      simp only [Act.put, List.setIfInBounds_toArray, List.set_cons_zero, List.set_cons_succ, List.getElem_toArray, List.getElem_cons_zero, List.getElem_cons_succ]
      refine wpAnyH_ready (rs := [9]) (by kernel_rfl) (by simp) (AllReadyH.cons rfl (fun K hK => ?_) AllReadyH.nil)
      go_simp
      go_at_call 13
      refine (implSum_any s _ HSM.out).mono ?_; rintro r w4 ⟨rfl, rfl⟩
      rw [hss.out]
      refine hK.out _ _ (hH) (fun hH5 => ?_)
      clear hK K
      try simp only [Act.put, List.setIfInBounds_toArray, List.set_cons_zero, List.set_cons_succ]
      refine wpAnyH_take (i := 10) (v := ?_) rfl (by kernel_rfl) (by kernel_rfl) (by kernel_rfl) (fun _ _ _ h => h) (Or.inl ⟨by rfl, fun wS hS => ?_⟩) hH5 ?_
      rotate_left
      · obtain ⟨c0, c1, c2, c3, c4⟩ := (KK.out.below hS KK.out.lt).c5; have hcv := (RR.out.below hS HLW.out).str (n := s.size) (c := cc) hlen.out; rw [← HT.out] at hcv; go_simp; try exact rfl
      simp only [Act.put, List.setIfInBounds_toArray, List.set_cons_zero, List.set_cons_succ, List.getElem_toArray, List.getElem_cons_zero, List.getElem_cons_succ]
      refine wpAnyH_take (i := 11) (v := ?_) rfl (by kernel_rfl) (by kernel_rfl) (by kernel_rfl) (fun _ _ _ h => h) (Or.inl ⟨by rfl, fun wS hS => ?_⟩) hH5 ?_
      rotate_left
      · obtain ⟨c0, c1, c2, c3, c4⟩ := (KK.out.below hS KK.out.lt).c5; have hcv := (RR.out.below hS HLW.out).str (n := s.size) (c := cc) hlen.out; rw [← HT.out] at hcv; go_simp; try exact rfl
      simp only [Act.put, List.setIfInBounds_toArray, List.set_cons_zero, List.set_cons_succ, List.getElem_toArray, List.getElem_cons_zero, List.getElem_cons_succ]
      refine wpAnyH_take (i := 12) (v := ?_) rfl (by kernel_rfl) (by kernel_rfl) (by kernel_rfl) (fun _ _ _ h => h) (Or.inl ⟨by rfl, fun wS hS => ?_⟩) hH5 ?_
      rotate_left
      · obtain ⟨c0, c1, c2, c3, c4⟩ := (KK.out.below hS KK.out.lt).c5; have hcv := (RR.out.below hS HLW.out).str (n := s.size) (c := cc) hlen.out; rw [← HT.out] at hcv; go_simp; try exact rfl
      simp only [Act.put, List.setIfInBounds_toArray, List.set_cons_zero, List.set_cons_succ, List.getElem_toArray, List.getElem_cons_zero, List.getElem_cons_succ]
      refine wpAnyH_take (i := 13) (v := ?_) rfl (by kernel_rfl) (by kernel_rfl) (by kernel_rfl) (fun _ _ _ h => h) (Or.inl ⟨by rfl, fun wS hS => ?_⟩) hH5 ?_
      rotate_left
      · obtain ⟨c0, c1, c2, c3, c4⟩ := (KK.out.below hS KK.out.lt).c5; have hcv := (RR.out.below hS HLW.out).str (n := s.size) (c := cc) hlen.out; rw [← HT.out] at hcv; go_simp; try exact rfl
      simp only [Act.put, List.setIfInBounds_toArray, List.set_cons_zero, List.set_cons_succ, List.getElem_toArray, List.getElem_cons_zero, List.getElem_cons_succ]
      refine wpAnyH_take (i := 14) (v := ?_) rfl (by kernel_rfl) (by kernel_rfl) (by kernel_rfl) (fun _ _ _ h => h) (Or.inl ⟨by rfl, fun wS hS => ?_⟩) hH5 ?_
      rotate_left
      · obtain ⟨c0, c1, c2, c3, c4⟩ := (KK.out.below hS KK.out.lt).c5; have hcv := (RR.out.below hS HLW.out).str (n := s.size) (c := cc) hlen.out; rw [← HT.out] at hcv; go_simp; try exact rfl
      simp only [Act.put, List.setIfInBounds_toArray, List.set_cons_zero, List.set_cons_succ, List.getElem_toArray, List.getElem_cons_zero, List.getElem_cons_succ]
      refine wpAnyH_take (i := 15) (v := ?_) rfl (by kernel_rfl) (by kernel_rfl) (by kernel_rfl) (fun _ _ _ h => h) (Or.inl ⟨by rfl, fun wS hS => ?_⟩) hH5 ?_
      rotate_left
      · obtain ⟨c0, c1, c2, c3, c4⟩ := (KK.out.below hS KK.out.lt).c5; have hcv := (RR.out.below hS HLW.out).str (n := s.size) (c := cc) hlen.out; rw [← HT.out] at hcv; go_simp; try exact rfl
      simp only [Act.put, List.setIfInBounds_toArray, List.set_cons_zero, List.set_cons_succ, List.getElem_toArray, List.getElem_cons_zero, List.getElem_cons_succ]
      refine wpAnyH_ready (rs := [16]) (by kernel_rfl) (by simp) (AllReadyH.cons rfl (fun K hK => ?_) AllReadyH.nil)
      go_simp
      go_at_call 9
      refine (implPtrFits_v HNO.out htm.out _).mono ?_; rintro r w5 ⟨rfl, hb5⟩
      refine hK.out _ _ (hH5.trans (hb5.mono hH5.size)) (fun hH6 => ?_)
      clear hK K
      try simp only [Act.put, List.setIfInBounds_toArray, List.set_cons_zero, List.set_cons_succ]
      refine wpAnyH_take (i := 17) (v := ?_) rfl (by kernel_rfl) (by kernel_rfl) (by kernel_rfl) (fun _ _ _ h => h) (Or.inl ⟨by rfl, fun wS hS => ?_⟩) hH6 ?_
      rotate_left
      · obtain ⟨c0, c1, c2, c3, c4⟩ := (KK.out.below hS KK.out.lt).c5; have hcv := (RR.out.below hS HLW.out).str (n := s.size) (c := cc) hlen.out; rw [← HT.out] at hcv; go_simp; try exact rfl
      simp only [Act.put, List.setIfInBounds_toArray, List.set_cons_zero, List.set_cons_succ, List.getElem_toArray, List.getElem_cons_zero, List.getElem_cons_succ]
      refine wpAnyH_take (i := 18) (v := ?_) rfl (by kernel_rfl) (by kernel_rfl) (by kernel_rfl) (fun _ _ _ h => h) (Or.inl ⟨by rfl, fun wS hS => ?_⟩) hH6 ?_
      rotate_left
      · obtain ⟨c0, c1, c2, c3, c4⟩ := (KK.out.below hS KK.out.lt).c5; have hcv := (RR.out.below hS HLW.out).str (n := s.size) (c := cc) hlen.out; rw [← HT.out] at hcv; go_simp; try exact rfl
      simp only [Act.put, List.setIfInBounds_toArray, List.set_cons_zero, List.set_cons_succ, List.getElem_toArray, List.getElem_cons_zero, List.getElem_cons_succ]
      refine wpAnyH_take (i := 19) (v := ?_) rfl (by kernel_rfl) (by kernel_rfl) (by kernel_rfl) (fun _ _ _ h => h) (Or.inl ⟨by rfl, fun wS hS => ?_⟩) hH6 ?_
      rotate_left
      · obtain ⟨c0, c1, c2, c3, c4⟩ := (KK.out.below hS KK.out.lt).c5; have hcv := (RR.out.below hS HLW.out).str (n := s.size) (c := cc) hlen.out; rw [← HT.out] at hcv; go_simp; try exact rfl
      simp only [Act.put, List.setIfInBounds_toArray, List.set_cons_zero, List.set_cons_succ, List.getElem_toArray, List.getElem_cons_zero, List.getElem_cons_succ]
      refine wpAnyH_done (by kernel_rfl) ?_ _
      go_wp2_with fail
      go_ret
      exact ⟨rfl, HB2.out.trans (hH6.mono HB2.out.size)⟩
end Go.Proofs.Ytjdnlngahncmfaa
