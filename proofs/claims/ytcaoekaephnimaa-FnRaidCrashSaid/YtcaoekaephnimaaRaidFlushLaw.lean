/- The law FnExactRaidFlush, walked. -/
import Derived.Test.YtcaoekaephnimaaRaidMarkX
import Derived.Test.YtcaoekaephnimaaQU
import Derived.Test.YtcaoekaephnimaaRaidSz
import Derived.Test.YtcaoekaephnimaaRaidLaw
namespace Go.Proofs.Ytcaoekaephnimaa
open Go.RowKit
set_option linter.unusedVariables false
set_option maxRecDepth 100000

def flVS (ds : List DV) : List DVal := raidV (raidOk ds) ((ds.map DV.val).mapIdx flushV)
theorem flVS_len (ds : List DV) : (flVS ds).length ≤ 3 := by
  unfold flVS raidV
  split
  · rename_i h
    rw [List.length_mapIdx, List.length_map, (rok_true h).1]
    exact Nat.le_refl _
  · exact Nat.zero_le _
theorem specFlushD {ds d : List DV} (hd : d.map DV.val = ds.map DV.val) {A : Option Addr} {n c : Nat} (w : World) (h : RIn w A n d) (hm : n ≤ maxLen) (hs : ∀ e ∈ d, e.Made 0 w) :
    Calls Try.prog 19 #[.agg #[.slice A n c]] w (RaidP (flVS ds) w) := by
  have := specRaidFlush_any A n c d (raidOk ds) (rok_val hd) w h hm (fun e he => (hs e he).src)
  rw [hd] at this
  exact this
theorem implFlushD {ds d : List DV} (hd : d.map DV.val = ds.map DV.val) {A : Option Addr} {n c : Nat} (w : World) (h : RIn w A n d) (hm : n ≤ maxLen) (hs : ∀ e ∈ d, e.Made 0 w) :
    Calls Try.prog 20 #[.agg #[.slice A n c]] w (RaidP (flVS ds) w) := by
  have := implRaidFlush_any A n c d (raidOk ds) (rok_val hd) w h hm (fun e he => (hs e he).has)
  rw [hd] at this
  exact this
theorem RaidP.shape {vs : List DVal} {w : World} {r : Ending} {w' : World} (h : RaidP vs w r w') : ∃ A c es, r = .returned (.agg #[.slice A vs.length c]) ∧ OwnR w.heap.size w' (.slice A vs.length c) es ∧ es.map DV.val = vs ∧ Below w.heap.size w w' := by
  obtain ⟨V, es, rfl, ho, hv, hb⟩ := h
  obtain ⟨A, c, rfl⟩ := ho.shape
  have hl : es.length = vs.length := by rw [← hv, List.length_map]
  rw [hl] at ho ⊢
  exact ⟨A, c, es, rfl, ho, hv, hb⟩
theorem MadeR.all {B : Nat} {w : World} {g n : Nat} {ds : List DV} (h : MadeR B w g n ds) : ∀ e ∈ ds, e.Made 0 w := fun e he => (h.each e he).mono (Nat.zero_le _)
set_option maxHeartbeats 8000000 in
theorem fnExactRaidFlush_walk (A : Option Addr) (n c : Nat) (ds : List DV) (w : World) (h : RaidS w A n c ds) :
    Calls Try.prog 5 #[.agg #[.slice A n c]] w fun r w' => r = .returned (.bool true) ∧ Below w.heap.size w w' := by
  obtain ⟨VS, hVS⟩ : ∃ VS, VS = flVS ds := ⟨_, rfl⟩
  obtain ⟨L, hL⟩ : ∃ L, L = VS.length := ⟨_, rfl⟩
  have hL3 : L ≤ 3 := by rw [hL, hVS]; exact flVS_len ds
  have HSP := hide (fun d (hd : d.map DV.val = ds.map DV.val) A n c w h hm hs => (specFlushD (ds := ds) (d := d) (A := A) (n := n) (c := c) hd w h hm hs).mono fun r w' h => h.shape)
  have HIM := hide (fun d (hd : d.map DV.val = ds.map DV.val) A n c w h hm hs => (implFlushD (ds := ds) (d := d) (A := A) (n := n) (c := c) hd w h hm hs).mono fun r w' h => h.shape)
  rw [← hVS, ← hL] at HSP HIM
  clear hVS hL
  obtain ⟨M, hM⟩ : ∃ M : Nat, M = 1 + 65 * L := ⟨_, rfl⟩
  have hM1 : M ≤ 1000 := by omega
  have hb0 := bel1 w (.cells #[.slice A n c] 31)
  have K0 := hide (Bk.fresh w 31 #[.slice A n c])
  have HM := hide (show n ≤ maxLen from Nat.le_trans h.1 h.2.1)
  have HML := hide (show L ≤ maxLen by unfold maxLen; omega)
  have HL3 := hide hL3
  have H := hide (h.after hb0)
  have HB := hide hb0
  have HHD := hide (fun w A c ds h => heldRaid_m (w := w) (A := A) (c := c) (n := L) (ds := ds) h (by omega))
  have HMK := hide (fun w A c B ds h => markRaid_own (w := w) (A := A) (c := c) (n := L) (ds := ds) (B := B) h (by omega))
  rw [← hM] at HHD HMK
  clear h hb0 hM
  go_enter Try.func5, Try.ntmps5
  go_wp2_with fail
  refine (szRaid_any _ _ _ ds _ H.out).mono ?_; rintro r w1 ⟨⟨v, rfl, hv⟩, hb1⟩
  have K0 := hide (K0.out.after hb1)
  have HR := hide (H.out.rin.after hb1)
  have HB := hide (HB.out.trans (hb1.mono HB.out.size))
  have HV := hide hv
  clear hv hb1 H
  by_cases hvn : v < 0
  · go_wp2_with fail
    go_ret
    exact ⟨rfl, HB.out⟩
  · have hs : n + tot ds ≤ 1048576 := by
      rcases HV.out with h | ⟨_, h, _⟩
      · exact absurd h hvn
      · exact h
    have HS := hide hs
    have t0 := K0.out.c1
    clear hs
    go_wp2_with fail
    refine (toRaid_any _ _ _ ds _ HR.out HS.out).mono ?_; rintro r w2 ⟨g0, d0, rfl, hm, hvl, hb⟩
    have M0 := hide hm
    have V0 := hide hvl
    have K0 := hide (K0.out.after hb)
    have HR := hide (HR.out.after hb)
    have HB := hide (HB.out.trans (hb.mono HB.out.size))
    clear hb hm hvl t0
    go_wp2_with fail
    refine (HSP.out d0 V0.out _ _ _ _ M0.out.rin HM.out M0.out.all).mono ?_; rintro r w3 ⟨A0, c0, e0, rfl, ho0, hv0, hb⟩
    have hb' := bel1 w3 (.cells #[.slice A0 L c0] 24)
    have R0 := hide (ho0.rin.after hb')
    have E0 := hide hv0
    have K4 := hide (Bk.fresh w3 24 #[.slice A0 L c0])
    have K0 := hide ((K0.out.after hb).after hb')
    have HR := hide ((HR.out.after hb).after hb')
    have HB := hide ((HB.out.trans (hb.mono HB.out.size)).trans (hb'.mono (HB.out.trans (hb.mono HB.out.size)).size))
    clear hb hb' ho0 hv0 M0 V0
    have t0 := K0.out.c1
    go_wp2_with fail
    obtain ⟨WA, hWA⟩ : ∃ W : World, W = w3.alloc (.cells #[.slice A0 L c0] 24) := ⟨_, rfl⟩
    rw [← hWA] at R0 K4 K0 HR HB
    rw [← hWA]
    have HWA := hide hWA
    clear hWA
    refine (toRaid_any _ _ _ ds _ HR.out HS.out).mono ?_; rintro r w4 ⟨g1, d1, rfl, hm, hvl, hb⟩
    have hb' := bel1 w4 (.cells #[.slice (some ⟨g1, 0, none⟩) n n] 24)
    have MX := hide (hm.after hb')
    have VX := hide hvl
    have XT := hide (show n + tot d1 ≤ 1048576 by rw [tot_vals hvl HR.out.2 hm.rin.2]; exact HS.out)
    have XS := hide (show ∀ i, MS g1 d1 i → WA.heap.size ≤ i ∧ i < w4.heap.size from hm.ms)
    have K5 := hide (Bk.fresh w4 24 #[.slice (some ⟨g1, 0, none⟩) n n])
    have BA := hide (hb.trans (hb'.mono hb.size))
    have BAS := hide (show WA.heap.size ≤ w4.heap.size from hb.size)
    clear hb hb' hm hvl t0
    go_wp2_with fail
    have KB := hide (show w4.heap.size ≤ (w4.alloc (.cells #[.slice (some ⟨g1, 0, none⟩) n n] 24)).heap.size by simp)
    obtain ⟨WB, hWB⟩ : ∃ W : World, W = w4.alloc (.cells #[.slice (some ⟨g1, 0, none⟩) n n] 24) := ⟨_, rfl⟩
    rw [← hWB] at MX K5 BA KB
    rw [← hWB]
    have HWB := hide hWB
    clear hWB
    refine (HIM.out d1 VX.out _ _ _ _ MX.out.rin HM.out MX.out.all).mono ?_; rintro r w5 ⟨A1, c1, e1, rfl, ho1, hv1, hb⟩
    have hb' := bel1 w5 (.cells #[.slice A1 L c1] 24)
    have O1 := hide (ho1.after hb')
    have HV := hide (show eqV e1 e0 = true from decide_eq_true (by rw [hv1, E0.out]))
    have E1 := hide hv1
    have K6 := hide (Bk.fresh w5 24 #[.slice A1 L c1])
    have K5 := hide ((K5.out.after hb).after hb')
    have MX := hide ((MX.out.after hb).after hb')
    have BA := hide ((BA.out.trans (hb.mono BA.out.size)).trans (hb'.mono (BA.out.trans (hb.mono BA.out.size)).size))
    have K4c := hide (K4.out.after BA.out)
    clear hb hb' ho1 hv1
    have t4 := K4c.out.c1
    have t6 := K6.out.c1
    go_wp2_with fail
    refine (eqRaid_v HV.out _ O1.out.rin (R0.out.after BA.out) HML.out).mono ?_; rintro r w6 ⟨rfl, hb⟩
    have O1 := hide (O1.out.after hb)
    have K5 := hide (K5.out.after hb)
    have K6 := hide (K6.out.after hb)
    have MX := hide (MX.out.after hb)
    have BA := hide (BA.out.trans (hb.mono BA.out.size))
    have K0c := hide (K0.out.after BA.out)
    have HRc := hide (HR.out.after BA.out)
    clear hb t4 t6 K4c
    go_wp2_with fail
    refine wp_region_held_drew (S := fun x => Below w6.heap.size w6 x) (by kernel_rfl) ((Below.refl _ _).drew) (fun hH => ?_)
    refine wpAnyH_take (i := 0) (v := ?_) rfl (by kernel_rfl) (by kernel_rfl) (by kernel_rfl) (fun _ _ _ h => h) (Or.inl ⟨by rfl, fun wS hS => ?_⟩) hH ?_
    rotate_left
    · have q0 := (K5.out.after hS).c1; have q1 := (K0c.out.after hS).c1; go_simp; try exact rfl
    simp only [Act.put, List.setIfInBounds_toArray, List.set_cons_zero, List.set_cons_succ, List.getElem_toArray, List.getElem_cons_zero]
    refine wpAnyH_take (i := 1) (v := ?_) rfl (by kernel_rfl) (by kernel_rfl) (by kernel_rfl) (fun _ _ _ h => h) (Or.inl ⟨by rfl, fun wS hS => ?_⟩) hH ?_
    rotate_left
    · have q0 := (K5.out.after hS).c1; have q1 := (K0c.out.after hS).c1; go_simp; try exact rfl
    simp only [Act.put, List.setIfInBounds_toArray, List.set_cons_zero, List.set_cons_succ, List.getElem_toArray, List.getElem_cons_zero, List.getElem_cons_succ]
    refine wpAnyH_ready (rs := [2]) (by kernel_rfl) (by simp) (AllReadyH.cons rfl (fun K hK => ?_) AllReadyH.nil)
    go_simp
    go_at_call 17
    refine (toRaid_any _ _ _ ds _ (HRc.out.after (Below.refl _ _).drew) HS.out).mono ?_; rintro r x1 ⟨g3, d3, rfl, hm, hvl, hb⟩
    have M3 := hide hm
    have V3 := hide hvl
    have MXc := hide ((MX.out.after (Below.refl _ _).drew).after hb)
    refine hK.out _ _ (hH.trans (hb.mono hH.size)) (fun hH5 => ?_)
    clear hK K
    try simp only [Act.put, List.setIfInBounds_toArray, List.set_cons_zero, List.set_cons_succ]
    refine wpAnyH_ready (rs := [3]) (by kernel_rfl) (by simp) (AllReadyH.cons rfl (fun K hK => ?_) AllReadyH.nil)
    go_simp
    go_at_call 12
    refine (eqRaid_v (v := true) (decide_eq_true (by rw [VX.out, V3.out])) _ MXc.out.rin M3.out.rin HM.out).mono ?_; rintro r x2 ⟨rfl, hb2⟩
    refine hK.out _ _ (hH5.trans (hb2.mono hH5.size)) (fun hH6 => ?_)
    clear hK K
    try simp only [Act.put, List.setIfInBounds_toArray, List.set_cons_zero, List.set_cons_succ]
    refine wpAnyH_take (i := 4) (v := ?_) rfl (by kernel_rfl) (by kernel_rfl) (by kernel_rfl) (fun _ _ _ h => h) (Or.inl ⟨by rfl, fun wS hS => ?_⟩) hH6 ?_
    rotate_left
    · have q0 := (K5.out.after hS).c1; have q1 := (K0c.out.after hS).c1; go_simp; try exact rfl
    simp only [Act.put, List.setIfInBounds_toArray, List.set_cons_zero, List.set_cons_succ, List.getElem_toArray, List.getElem_cons_zero, List.getElem_cons_succ]
    refine wpAnyH_done (by kernel_rfl) ?_ _
    have O1 := hide (O1.out.after hH6)
    have K5 := hide (K5.out.after hH6)
    have K6 := hide (K6.out.after hH6)
    have MX := hide (MX.out.after hH6)
    have BA := hide (BA.out.trans (hH6.mono BA.out.size))
    clear hH hH5 hH6 M3 V3 MXc K0c HRc hb hb2 hm hvl
    have t5 := K5.out.c1
    go_wp2_with fail
    refine (markRaid_x MX.out XT.out).mono ?_; rintro r w7 ⟨⟨v7, hv7, rfl⟩, hf⟩
    have O1 := hide (O1.out.fr hf (fun i hi => by have := (XS.out i hi).2; have := KB.out; omega))
    have K6 := hide (K6.out.fr hf (MX.out.not K6.out))
    have BA := hide (BA.out.trans (hf.below BA.out.size (fun i hi => (XS.out i hi).1)))
    have K4c := hide (K4.out.after BA.out)
    have hv0 : ¬ (v7 : Int) < 0 := by omega
    clear hf t5 MX K5 XS XT
    have t4 := K4c.out.c1
    have t6 := K6.out.c1
    go_wp2_with fail
    refine (eqRaid_v HV.out _ O1.out.rin (R0.out.after BA.out) HML.out).mono ?_; rintro r w8 ⟨rfl, hb⟩
    have O1 := hide (O1.out.after hb)
    have K6 := hide (K6.out.after hb)
    have BA := hide (BA.out.trans (hb.mono BA.out.size))
    clear hb t4 t6 K4c hv0
    have t6 := K6.out.c1
    go_wp2_with fail
    refine (HMK.out _ _ _ _ _ O1.out).mono ?_; rintro r w9 ⟨rfl, hm, hf⟩
    have K6 := hide (K6.out.fr hf (Sd.not K6.out))
    have MM := hide hm
    have BA := hide (BA.out.trans (hf.below BA.out.size (fun i h => Nat.le_trans (Nat.le_trans BAS.out KB.out) h.1)))
    clear hm hf t6
    have t6 := K6.out.c1
    go_wp2_with fail
    refine (HHD.out _ _ _ _ MM.out).mono ?_; rintro r w10 ⟨rfl, hb⟩
    have K6 := hide (K6.out.after hb)
    have MM := hide (MM.out.after hb)
    have BA := hide (BA.out.trans (hb.mono BA.out.size))
    have K0c := hide (K0.out.after BA.out)
    clear hb t6
    have t0 := K0c.out.c1
    go_wp2_with fail
    refine (toRaid_any _ _ _ ds _ (HR.out.after BA.out) HS.out).mono ?_; rintro r w11 ⟨g4, d4, rfl, hm, hvl, hb⟩
    have M4 := hide hm
    have V4 := hide hvl
    have K6 := hide (K6.out.after hb)
    have MM := hide (MM.out.after hb)
    have BA := hide (BA.out.trans (hb.mono BA.out.size))
    clear hb hm hvl t0 K0c
    go_wp2_with fail
    refine (HIM.out d4 V4.out _ _ _ _ M4.out.rin HM.out M4.out.all).mono ?_; rintro r w12 ⟨A2, c2, e2, rfl, ho2, hv2, hb⟩
    have hb' := bel1 w12 (.cells #[.slice A2 L c2] 24)
    have O2 := hide (ho2.after hb')
    have HV2 := hide (show eqV e2 e0 = true from decide_eq_true (by rw [hv2, E0.out]))
    have K10 := hide (Bk.fresh w12 24 #[.slice A2 L c2])
    have K6 := hide ((K6.out.after hb).after hb')
    have MM := hide ((MM.out.after hb).after hb')
    have BA := hide ((BA.out.trans (hb.mono BA.out.size)).trans (hb'.mono (BA.out.trans (hb.mono BA.out.size)).size))
    have K4c := hide (K4.out.after BA.out)
    clear hb hb' ho2 hv2
    have t4 := K4c.out.c1
    have t10 := K10.out.c1
    go_wp2_with fail
    refine (eqRaid_v HV2.out _ O2.out.rin (R0.out.after BA.out) HML.out).mono ?_; rintro r w13 ⟨rfl, hb⟩
    have K6 := hide (K6.out.after hb)
    have MM := hide (MM.out.after hb)
    have BA := hide (BA.out.trans (hb.mono BA.out.size))
    clear hb t4 t10 K4c
    have t6 := K6.out.c1
    go_wp2_with fail
    refine (HHD.out _ _ _ _ MM.out).mono ?_; rintro r w14 ⟨rfl, hb⟩
    have BA := hide (BA.out.trans (hb.mono BA.out.size))
    clear hb t6
    go_wp2_with fail
    go_ret
    exact ⟨rfl, HB.out.trans (BA.out.mono HB.out.size)⟩
end Go.Proofs.Ytcaoekaephnimaa
