/- The law FnExactRaidCrash, walked. -/
import Derived.Test.YtcaoekaephnimaaRaidMarkX
import Derived.Test.YtcaoekaephnimaaRaidCrI
import Derived.Test.YtcaoekaephnimaaRaidSz
import Derived.Test.YtcaoekaephnimaaRaidFlushLaw
import Derived.Test.YtcaoekaephnimaaOpen
namespace Go.Proofs.Ytcaoekaephnimaa
open Go.RowKit
set_option linter.unusedVariables false
set_option maxRecDepth 100000

def crVS (ds : List DV) (ms ts : List Int) : List DVal := raidV (crOk ds ms ts) ((ds.map DV.val).mapIdx (crV ms ts))
theorem crVS_len (ds : List DV) (ms ts : List Int) : (crVS ds ms ts).length ≤ 3 := by
  unfold crVS raidV
  split
  · rename_i h
    rw [List.length_mapIdx, List.length_map, (rok_true (crOk_true h).1).1]
    exact Nat.le_refl _
  · exact Nat.zero_le _
theorem crOk_val {ds d : List DV} (hd : d.map DV.val = ds.map DV.val) (ms ts : List Int) : crOk d ms ts = crOk ds ms ts := by
  unfold crOk
  rw [rok_val hd]
theorem ints_rd {w : World} {g n : Nat} {zs : List Int} (h : Bk w g 3 (zs.map (Value.int .i64)).toArray) (hl : zs.length = n) : Rd w 1 (some ⟨g, 0, none⟩) n (zs.map (Value.int .i64)) :=
  h.rd (by simp [hl]) (fun j u hu => by rw [List.getElem?_toArray]; exact hu)
theorem specCrashD {ds d : List DV} {ms ts : List Int} (hd : d.map DV.val = ds.map DV.val) {A : Option Addr} {n c : Nat} {Am At : Option Addr} {nm cm nt ct : Nat} (w : World) (h : RIn w A n d) (hm : n ≤ maxLen) (hs : ∀ e ∈ d, e.Made 0 w) (hMM : Rd w 1 Am nm (ms.map (Value.int .i64))) (hTT : Rd w 1 At nt (ts.map (Value.int .i64))) (hr : ∀ m ∈ ms, m ≤ 9223372036854775807) :
    Calls Try.prog 21 #[.agg #[.slice A n c], .slice Am nm cm, .slice At nt ct] w (RaidP (crVS ds ms ts) w) := by
  have hk := crOk_val hd ms ts
  unfold crVS
  cases e : crOk ds ms ts
  · exact specRaidCrash_no A n c d Am nm cm ms At nt ct ts w h hm hMM hTT (hk.trans e)
  · rw [← hd]
    exact specRaidCrash_yes A n c d Am nm cm ms At nt ct ts w h hm hMM hTT (hk.trans e) (fun e he => (hs e he).src) hr
theorem implCrashD {ds d : List DV} {ms ts : List Int} (hd : d.map DV.val = ds.map DV.val) {A : Option Addr} {n c : Nat} {Am At : Option Addr} {nm cm nt ct : Nat} (w : World) (h : RIn w A n d) (hm : n ≤ maxLen) (hs : ∀ e ∈ d, e.Made 0 w) (hMM : Rd w 1 Am nm (ms.map (Value.int .i64))) (hTT : Rd w 1 At nt (ts.map (Value.int .i64))) (hr : ∀ m ∈ ms, m ≤ 9223372036854775807) :
    Calls Try.prog 23 #[.agg #[.slice A n c], .slice Am nm cm, .slice At nt ct] w (RaidP (crVS ds ms ts) w) := by
  have hk := crOk_val hd ms ts
  unfold crVS
  cases e : crOk ds ms ts
  · exact implRaidCrash_no A n c d Am nm cm ms At nt ct ts w h hm hMM hTT (hk.trans e)
  · rw [← hd]
    exact implRaidCrash_yes A n c d Am nm cm ms At nt ct ts w h hm hMM hTT (hk.trans e) (fun e he => (hs e he).has) hr
set_option maxHeartbeats 8000000 in
theorem fnExactRaidCrash_walk (A : Option Addr) (n c : Nat) (ds : List DV) (Am : Option Addr) (nm cm : Nat) (ms : List Int) (At : Option Addr) (nt ct : Nat) (ts : List Int) (w : World) (h : RaidS w A n c ds) (him : I64s w Am nm cm ms) (hit : I64s w At nt ct ts) :
    Calls Try.prog 6 #[.agg #[.slice A n c], .slice Am nm cm, .slice At nt ct] w fun r w' => r = .returned (.bool true) ∧ Below w.heap.size w w' := by
  have HRG := hide (show ∀ m ∈ ms, m ≤ 9223372036854775807 from fun m hm => (him.2.2.2.1 m hm).2)
  obtain ⟨VS, hVS⟩ : ∃ VS, VS = crVS ds ms ts := ⟨_, rfl⟩
  obtain ⟨L, hL⟩ : ∃ L, L = VS.length := ⟨_, rfl⟩
  have hL3 : L ≤ 3 := by rw [hL, hVS]; exact crVS_len ds ms ts
  have HSP := hide (fun d (hd : d.map DV.val = ds.map DV.val) A n c Am nm cm At nt ct w h hm hs h1 h2 => (specCrashD (ds := ds) (d := d) (ms := ms) (ts := ts) (A := A) (n := n) (c := c) (Am := Am) (nm := nm) (cm := cm) (At := At) (nt := nt) (ct := ct) hd w h hm hs h1 h2 HRG.out).mono fun r w' h => h.shape)
  have HIM := hide (fun d (hd : d.map DV.val = ds.map DV.val) A n c Am nm cm At nt ct w h hm hs h1 h2 => (implCrashD (ds := ds) (d := d) (ms := ms) (ts := ts) (A := A) (n := n) (c := c) (Am := Am) (nm := nm) (cm := cm) (At := At) (nt := nt) (ct := ct) hd w h hm hs h1 h2 HRG.out).mono fun r w' h => h.shape)
  rw [← hVS, ← hL] at HSP HIM
  clear hVS hL
  obtain ⟨M, hM⟩ : ∃ M : Nat, M = 1 + 65 * L := ⟨_, rfl⟩
  have hM1 : M ≤ 1000 := by omega
  have hb0 := bel1 w (.cells #[.slice A n c] 31)
  have K0 := hide (Bk.fresh w 31 #[.slice A n c])
  have HM := hide (show n ≤ maxLen from Nat.le_trans h.1 h.2.1)
  have HML := hide (show L ≤ maxLen by unfold maxLen; omega)
  have HL3 := hide hL3
  have H := hide (h.after hb0)
  have HB := hide hb0
  have HMM := hide (him.2.2.2.2.after hb0)
  have HTT := hide (hit.2.2.2.2.after hb0)
  have HLM := hide him.2.2.1
  have HLT := hide hit.2.2.1
  have HM9 := hide (show nm ≤ maxLen from Nat.le_trans him.1 him.2.1)
  have HT9 := hide (show nt ≤ maxLen from Nat.le_trans hit.1 hit.2.1)
  have HHD := hide (fun w A c ds h => heldRaid_m (w := w) (A := A) (c := c) (n := L) (ds := ds) h (by omega))
  have HMK := hide (fun w A c B ds h => markRaid_own (w := w) (A := A) (c := c) (n := L) (ds := ds) (B := B) h (by omega))
  rw [← hM] at HHD HMK
  clear h hb0 hM him hit
  go_enter Try.func6, Try.ntmps6
  by_cases hgm : (1048576 : Int) < (nm : Int)
  · go_wp2_with fail
    go_ret
    exact ⟨rfl, HB.out⟩
  by_cases hgt : (1048576 : Int) < (nt : Int)
  · go_wp2_with fail
    go_ret
    exact ⟨rfl, HB.out⟩
  go_wp2_with fail
  have HNM := hide (show nm ≤ 1000000000 by omega)
  have HNT := hide (show nt ≤ 1000000000 by omega)
  have HNM2 := hide (show nm ≤ 1048576 by omega)
  have HNT2 := hide (show nt ≤ 1048576 by omega)
  clear hgm hgt
  refine (szRaid_any _ _ _ ds _ H.out).mono ?_; rintro r w1 ⟨⟨v, rfl, hv⟩, hb1⟩
  have K0 := hide (K0.out.after hb1)
  have HR := hide (H.out.rin.after hb1)
  have HMM := hide (HMM.out.after hb1)
  have HTT := hide (HTT.out.after hb1)
  have HB := hide (HB.out.trans (hb1.mono HB.out.size))
  have HV := hide hv
  clear hv hb1 H
  by_cases hvn : v < 0
  · go_wp2_with fail
    go_ret
    exact ⟨rfl, HB.out⟩
  · have hs : n + tot ds ≤ 1048576 := by
      rcases HV.out with h | ⟨_, h, _⟩
      · exact absurd h hvn
      · exact h
    have HS := hide hs
    have t0 := K0.out.c1
    clear hs
    go_wp2_with fail
    refine (toRaid_any _ _ _ ds _ HR.out HS.out).mono ?_; rintro r w2 ⟨g0, d0, rfl, hm, hvl, hb⟩
    have M0 := hide hm
    have V0 := hide hvl
    have K0 := hide (K0.out.after hb)
    have HR := hide (HR.out.after hb)
    have HMM := hide (HMM.out.after hb)
    have HTT := hide (HTT.out.after hb)
    have HB := hide (HB.out.trans (hb.mono HB.out.size))
    clear hb hm hvl t0
    go_wp2_with fail
    refine (toIntS_any _ _ _ ms _ HMM.out HNM.out).mono ?_; rintro r wa ⟨rfl, hbk, hb, _⟩
    have GM := hide hbk
    have M0 := hide (M0.out.after hb)
    have K0 := hide (K0.out.after hb)
    have HR := hide (HR.out.after hb)
    have HMM := hide (HMM.out.after hb)
    have HTT := hide (HTT.out.after hb)
    have HB := hide (HB.out.trans (hb.mono HB.out.size))
    clear hb hbk
    obtain ⟨ga, hga⟩ : ∃ ga, ga = w2.heap.size := ⟨_, rfl⟩
    rw [← hga] at GM
    rw [← hga]
    clear hga
    go_wp2_with fail
    refine (toIntS_any _ _ _ ts _ HTT.out HNT.out).mono ?_; rintro r wb ⟨rfl, hbk, hb, _⟩
    have GT := hide hbk
    have GM := hide (GM.out.after hb)
    have M0 := hide (M0.out.after hb)
    have K0 := hide (K0.out.after hb)
    have HR := hide (HR.out.after hb)
    have HMM := hide (HMM.out.after hb)
    have HTT := hide (HTT.out.after hb)
    have HB := hide (HB.out.trans (hb.mono HB.out.size))
    clear hb hbk
    obtain ⟨gb, hgb⟩ : ∃ gb, gb = wa.heap.size := ⟨_, rfl⟩
    rw [← hgb] at GT
    rw [← hgb]
    clear hgb
    go_wp2_with fail
    refine (HSP.out d0 V0.out _ _ _ _ _ _ _ _ _ _ M0.out.rin HM.out M0.out.all (ints_rd GM.out HLM.out) (ints_rd GT.out HLT.out)).mono ?_; rintro r w3 ⟨A0, c0, e0, rfl, ho0, hv0, hb⟩
    have hb' := bel1 w3 (.cells #[.slice A0 L c0] 24)
    have R0 := hide (ho0.rin.after hb')
    have E0 := hide hv0
    have K4 := hide (Bk.fresh w3 24 #[.slice A0 L c0])
    have K0 := hide ((K0.out.after hb).after hb')
    have HR := hide ((HR.out.after hb).after hb')
    have HMM := hide ((HMM.out.after hb).after hb')
    have HTT := hide ((HTT.out.after hb).after hb')
    have HB := hide ((HB.out.trans (hb.mono HB.out.size)).trans (hb'.mono (HB.out.trans (hb.mono HB.out.size)).size))
    clear hb hb' ho0 hv0 M0 V0 GM GT
    have t0 := K0.out.c1
    go_wp2_with fail
    obtain ⟨WA, hWA⟩ : ∃ W : World, W = w3.alloc (.cells #[.slice A0 L c0] 24) := ⟨_, rfl⟩
    rw [← hWA] at R0 K4 K0 HR HMM HTT HB
    rw [← hWA]
    have HWA := hide hWA
    clear hWA
    refine (toRaid_any _ _ _ ds _ HR.out HS.out).mono ?_; rintro r w4 ⟨g1, d1, rfl, hm, hvl, hb⟩
    have hb' := bel1 w4 (.cells #[.slice (some ⟨g1, 0, none⟩) n n] 24)
    have MX := hide (hm.after hb')
    have VX := hide hvl
    have XT := hide (show n + tot d1 ≤ 1048576 by rw [tot_vals hvl HR.out.2 hm.rin.2]; exact HS.out)
    have XS := hide (show ∀ i, MS g1 d1 i → WA.heap.size ≤ i ∧ i < w4.heap.size from hm.ms)
    have K5 := hide (Bk.fresh w4 24 #[.slice (some ⟨g1, 0, none⟩) n n])
    have BA := hide (hb.trans (hb'.mono hb.size))
    have BAS := hide (show WA.heap.size ≤ w4.heap.size from hb.size)
    clear hb hb' hm hvl t0
    go_wp2_with fail
    refine (toIntS_any _ _ _ ms _ (HMM.out.after BA.out) HNM.out).mono ?_; rintro r wc ⟨rfl, hbk, hb, _⟩
    obtain ⟨gc, hgc⟩ : ∃ gc, gc = w4.heap.size + 1 := ⟨_, rfl⟩
    have hgx : (w4.alloc (.cells #[.slice (some ⟨g1, 0, none⟩) n n] 24)).heap.size = gc := by rw [hgc]; simp
    rw [hgx] at hbk
    rw [hgx]
    clear hgx
    have GM := hide hbk
    have GM0 := hide (show gc < wc.heap.size from hbk.lt)
    have GC := hide (show w4.heap.size + 1 ≤ gc by rw [hgc]; exact Nat.le_refl _)
    clear hgc
    have MX := hide (MX.out.after hb)
    have K5 := hide (K5.out.after hb)
    have BA := hide (BA.out.trans (hb.mono BA.out.size))
    have HSC := hide hb.size
    clear hb hbk
    go_wp2_with fail
    refine (toIntS_any _ _ _ ts _ (HTT.out.after BA.out) HNT.out).mono ?_; rintro r wd ⟨rfl, hbk, hb, _⟩
    obtain ⟨gd, hgd⟩ : ∃ gd, gd = wc.heap.size := ⟨_, rfl⟩
    rw [← hgd] at hbk
    rw [← hgd]
    have GT := hide hbk
    have KB := hide (show w4.heap.size ≤ wd.heap.size ∧ gc < wd.heap.size ∧ gd < wd.heap.size ∧ w4.heap.size ≤ gd from ⟨Nat.le_trans (Nat.le_trans (by simp) HSC.out) hb.size, (GM.out.after hb).lt, hbk.lt, by rw [hgd]; exact Nat.le_trans (by simp) HSC.out⟩)
    have GM := hide (GM.out.after hb)
    have MX := hide (MX.out.after hb)
    have K5 := hide (K5.out.after hb)
    have BA := hide (BA.out.trans (hb.mono BA.out.size))
    have GCD := hide (show gc < gd by rw [hgd]; exact GM0.out)
    clear hb hbk HSC hgd
    have t5 := K5.out.c1
    go_wp2_with fail
    clear t5
    refine (HIM.out d1 VX.out _ _ _ _ _ _ _ _ _ _ MX.out.rin HM.out MX.out.all (ints_rd GM.out HLM.out) (ints_rd GT.out HLT.out)).mono ?_; rintro r w5 ⟨A1, c1, e1, rfl, ho1, hv1, hb⟩
    have hb' := bel1 w5 (.cells #[.slice A1 L c1] 24)
    have O1 := hide (ho1.after hb')
    have HV := hide (show eqV e1 e0 = true from decide_eq_true (by rw [hv1, E0.out]))
    have E1 := hide hv1
    have K6 := hide (Bk.fresh w5 24 #[.slice A1 L c1])
    have K5 := hide ((K5.out.after hb).after hb')
    have MX := hide ((MX.out.after hb).after hb')
    have GM := hide ((GM.out.after hb).after hb')
    have GT := hide ((GT.out.after hb).after hb')
    have BA := hide ((BA.out.trans (hb.mono BA.out.size)).trans (hb'.mono (BA.out.trans (hb.mono BA.out.size)).size))
    have K4c := hide (K4.out.after BA.out)
    clear hb hb' ho1 hv1
    have t4 := K4c.out.c1
    have t6 := K6.out.c1
    go_wp2_with fail
    refine (eqRaid_v HV.out _ O1.out.rin (R0.out.after BA.out) HML.out).mono ?_; rintro r w6 ⟨rfl, hb⟩
    have O1 := hide (O1.out.after hb)
    have K5 := hide (K5.out.after hb)
    have K6 := hide (K6.out.after hb)
    have MX := hide (MX.out.after hb)
    have GM := hide (GM.out.after hb)
    have GT := hide (GT.out.after hb)
    have BA := hide (BA.out.trans (hb.mono BA.out.size))
    have K0c := hide (K0.out.after BA.out)
    have HRc := hide (HR.out.after BA.out)
    clear hb t4 t6 K4c
    go_wp2_with fail
    refine wp_region_held_drew (S := fun x => Below w6.heap.size w6 x) (by kernel_rfl) ((Below.refl _ _).drew) (fun hH => ?_)
    refine wpAnyH_take (i := 0) (v := ?_) rfl (by kernel_rfl) (by kernel_rfl) (by kernel_rfl) (fun _ _ _ h => h) (Or.inl ⟨by rfl, fun wS hS => ?_⟩) hH ?_
    rotate_left
    · have q0 := (K5.out.after hS).c1; have q1 := (K0c.out.after hS).c1; go_simp; try exact rfl
    simp only [Act.put, List.setIfInBounds_toArray, List.set_cons_zero, List.set_cons_succ, List.getElem_toArray, List.getElem_cons_zero]
    refine wpAnyH_take (i := 1) (v := ?_) rfl (by kernel_rfl) (by kernel_rfl) (by kernel_rfl) (fun _ _ _ h => h) (Or.inl ⟨by rfl, fun wS hS => ?_⟩) hH ?_
    rotate_left
    · have q0 := (K5.out.after hS).c1; have q1 := (K0c.out.after hS).c1; go_simp; try exact rfl
    simp only [Act.put, List.setIfInBounds_toArray, List.set_cons_zero, List.set_cons_succ, List.getElem_toArray, List.getElem_cons_zero, List.getElem_cons_succ]
    refine wpAnyH_ready (rs := [2]) (by kernel_rfl) (by simp) (AllReadyH.cons rfl (fun K hK => ?_) AllReadyH.nil)
    go_simp
    go_at_call 17
    refine (toRaid_any _ _ _ ds _ (HRc.out.after (Below.refl _ _).drew) HS.out).mono ?_; rintro r x1 ⟨g3, d3, rfl, hm, hvl, hb⟩
    have M3 := hide hm
    have V3 := hide hvl
    have MXc := hide ((MX.out.after (Below.refl _ _).drew).after hb)
    refine hK.out _ _ (hH.trans (hb.mono hH.size)) (fun hH5 => ?_)
    clear hK K
    try simp only [Act.put, List.setIfInBounds_toArray, List.set_cons_zero, List.set_cons_succ]
    refine wpAnyH_ready (rs := [3]) (by kernel_rfl) (by simp) (AllReadyH.cons rfl (fun K hK => ?_) AllReadyH.nil)
    go_simp
    go_at_call 12
    refine (eqRaid_v (v := true) (decide_eq_true (by rw [VX.out, V3.out])) _ MXc.out.rin M3.out.rin HM.out).mono ?_; rintro r x2 ⟨rfl, hb2⟩
    refine hK.out _ _ (hH5.trans (hb2.mono hH5.size)) (fun hH6 => ?_)
    clear hK K
    try simp only [Act.put, List.setIfInBounds_toArray, List.set_cons_zero, List.set_cons_succ]
    refine wpAnyH_take (i := 4) (v := ?_) rfl (by kernel_rfl) (by kernel_rfl) (by kernel_rfl) (fun _ _ _ h => h) (Or.inl ⟨by rfl, fun wS hS => ?_⟩) hH6 ?_
    rotate_left
    · have q0 := (K5.out.after hS).c1; have q1 := (K0c.out.after hS).c1; go_simp; try exact rfl
    simp only [Act.put, List.setIfInBounds_toArray, List.set_cons_zero, List.set_cons_succ, List.getElem_toArray, List.getElem_cons_zero, List.getElem_cons_succ]
    refine wpAnyH_done (by kernel_rfl) ?_ _
    have O1 := hide (O1.out.after hH6)
    have K5 := hide (K5.out.after hH6)
    have K6 := hide (K6.out.after hH6)
    have MX := hide (MX.out.after hH6)
    have BA := hide (BA.out.trans (hH6.mono BA.out.size))
    have GM := hide (GM.out.after hH6)
    have GT := hide (GT.out.after hH6)
    clear hH hH5 hH6 M3 V3 MXc K0c HRc hb hb2 hm hvl
    go_wp2_with fail
    refine (toIntS_any _ _ _ ms _ (HMM.out.after BA.out) HNM.out).mono ?_; rintro r ym ⟨rfl, hbk, hb, _⟩
    have O1 := hide (O1.out.after hb)
    have K5 := hide (K5.out.after hb)
    have K6 := hide (K6.out.after hb)
    have MX := hide (MX.out.after hb)
    have GM := hide (GM.out.after hb)
    have GT := hide (GT.out.after hb)
    have GN := hide hbk
    have BA := hide (BA.out.trans (hb.mono BA.out.size))
    have HE := hide (show eqI ms ms = true from decide_eq_true rfl)
    clear hb hbk
    go_wp2_with fail
    have hq := eqIntS_any _ _ _ nm _ nm ms ms _ (ints_rd GM.out HLM.out) (ints_rd GN.out HLM.out) HM9.out
    rw [HE.out] at hq
    refine hq.mono ?_; rintro r zm ⟨rfl, hb⟩
    have O1 := hide (O1.out.after hb)
    have K5 := hide (K5.out.after hb)
    have K6 := hide (K6.out.after hb)
    have MX := hide (MX.out.after hb)
    have GM := hide (GM.out.after hb)
    have GT := hide (GT.out.after hb)
    have BA := hide (BA.out.trans (hb.mono BA.out.size))
    clear hb GN HE hq
    go_wp2_with fail
    refine (toIntS_any _ _ _ ts _ (HTT.out.after BA.out) HNT.out).mono ?_; rintro r yt ⟨rfl, hbk, hb, _⟩
    have O1 := hide (O1.out.after hb)
    have K5 := hide (K5.out.after hb)
    have K6 := hide (K6.out.after hb)
    have MX := hide (MX.out.after hb)
    have GM := hide (GM.out.after hb)
    have GT := hide (GT.out.after hb)
    have GN := hide hbk
    have BA := hide (BA.out.trans (hb.mono BA.out.size))
    have HE := hide (show eqI ts ts = true from decide_eq_true rfl)
    clear hb hbk
    go_wp2_with fail
    have hq := eqIntS_any _ _ _ nt _ nt ts ts _ (ints_rd GT.out HLT.out) (ints_rd GN.out HLT.out) HT9.out
    rw [HE.out] at hq
    refine hq.mono ?_; rintro r zt ⟨rfl, hb⟩
    have O1 := hide (O1.out.after hb)
    have K5 := hide (K5.out.after hb)
    have K6 := hide (K6.out.after hb)
    have MX := hide (MX.out.after hb)
    have GM := hide (GM.out.after hb)
    have GT := hide (GT.out.after hb)
    have BA := hide (BA.out.trans (hb.mono BA.out.size))
    clear hb GN HE hq
    have t5 := K5.out.c1
    go_wp2_with fail
    refine (markRaid_x MX.out XT.out).mono ?_; rintro r w7 ⟨⟨v7, hv7, rfl⟩, hf⟩
    have O1 := hide (O1.out.fr hf (fun i hi => by have := (XS.out i hi).2; have := KB.out.1; omega))
    have K6 := hide (K6.out.fr hf (MX.out.not K6.out))
    have GM := hide (GM.out.fr hf (fun hi => by have := (XS.out gc hi).2; have := GC.out; omega))
    have GT := hide (GT.out.fr hf (fun hi => by have := (XS.out gd hi).2; have := KB.out.2.2.2; omega))
    have BA := hide (BA.out.trans (hf.below BA.out.size (fun i hi => (XS.out i hi).1)))
    clear hf t5 MX K5 XS XT
    go_wp2_with fail
    refine (markIntS_any gc nm nm _ (v7 : Int) _ GM.out (by rw [List.size_toArray, List.length_map, HLM.out]; exact Nat.le_refl _) HNM.out (by omega) (by omega)).mono ?_; rintro r wf ⟨rfl, _, hf⟩
    have O1 := hide (O1.out.fr hf (fun i hi => by have := KB.out.2.1; omega))
    have K6 := hide (K6.out.fr hf (K6.out.ne_type GM.out (by decide)))
    have GT := hide (GT.out.fr hf (fun e => by have := GCD.out; omega))
    have BA := hide (BA.out.trans (hf.below BA.out.size (fun i hi => by rw [hi]; have := GC.out; have := BAS.out; omega)))
    clear hf GM
    obtain ⟨v8, hv8⟩ : ∃ v8 : Int, v8 = (v7 : Int) + (nm : Int) := ⟨_, rfl⟩
    rw [← hv8]
    have hv80 : 0 ≤ v8 := by omega
    have hv81 : v8 ≤ 100000000 := by have := HNM2.out; omega
    clear hv8
    go_wp2_with fail
    refine (markIntS_any gd nt nt _ v8 _ GT.out (by rw [List.size_toArray, List.length_map, HLT.out]; exact Nat.le_refl _) HNT.out hv80 (by omega)).mono ?_; rintro r wg ⟨rfl, _, hf⟩
    have O1 := hide (O1.out.fr hf (fun i hi => by have := KB.out.2.2.1; omega))
    have K6 := hide (K6.out.fr hf (K6.out.ne_type GT.out (by decide)))
    have BA := hide (BA.out.trans (hf.below BA.out.size (fun i hi => by rw [hi]; have := KB.out.2.2.2; have := BAS.out; omega)))
    clear hf GT
    obtain ⟨v9, hv9⟩ : ∃ v9 : Int, v9 = v8 + (nt : Int) := ⟨_, rfl⟩
    rw [← hv9]
    have hv90 : ¬ v9 < 0 := by omega
    clear hv9 hv80 hv81
    have K4c := hide (K4.out.after BA.out)
    have t4 := K4c.out.c1
    have t6 := K6.out.c1
    go_wp2_with fail
    refine (eqRaid_v HV.out _ O1.out.rin (R0.out.after BA.out) HML.out).mono ?_; rintro r w8 ⟨rfl, hb⟩
    have O1 := hide (O1.out.after hb)
    have K6 := hide (K6.out.after hb)
    have BA := hide (BA.out.trans (hb.mono BA.out.size))
    clear hb t4 t6 K4c
    have t6 := K6.out.c1
    go_wp2_with fail
    refine (HMK.out _ _ _ _ _ O1.out).mono ?_; rintro r w9 ⟨rfl, hm, hf⟩
    have K6 := hide (K6.out.fr hf (Sd.not K6.out))
    have MM := hide hm
    have BA := hide (BA.out.trans (hf.below BA.out.size (fun i h => Nat.le_trans (Nat.le_trans BAS.out KB.out.1) h.1)))
    clear hm hf t6
    have t6 := K6.out.c1
    go_wp2_with fail
    refine (HHD.out _ _ _ _ MM.out).mono ?_; rintro r w10 ⟨rfl, hb⟩
    have K6 := hide (K6.out.after hb)
    have MM := hide (MM.out.after hb)
    have BA := hide (BA.out.trans (hb.mono BA.out.size))
    have K0c := hide (K0.out.after BA.out)
    clear hb t6
    have t0 := K0c.out.c1
    go_wp2_with fail
    refine (toRaid_any _ _ _ ds _ (HR.out.after BA.out) HS.out).mono ?_; rintro r w11 ⟨g4, d4, rfl, hm, hvl, hb⟩
    have M4 := hide hm
    have V4 := hide hvl
    have K6 := hide (K6.out.after hb)
    have MM := hide (MM.out.after hb)
    have BA := hide (BA.out.trans (hb.mono BA.out.size))
    clear hb hm hvl t0 K0c
    go_wp2_with fail
    refine (toIntS_any _ _ _ ms _ (HMM.out.after BA.out) HNM.out).mono ?_; rintro r wh ⟨rfl, hbk, hb, _⟩
    obtain ⟨ge, hge⟩ : ∃ ge, ge = w11.heap.size := ⟨_, rfl⟩
    rw [← hge] at hbk
    rw [← hge]
    have GM := hide hbk
    have M4 := hide (M4.out.after hb)
    have K6 := hide (K6.out.after hb)
    have MM := hide (MM.out.after hb)
    have BA := hide (BA.out.trans (hb.mono BA.out.size))
    clear hb hbk hge
    go_wp2_with fail
    refine (toIntS_any _ _ _ ts _ (HTT.out.after BA.out) HNT.out).mono ?_; rintro r wi ⟨rfl, hbk, hb, _⟩
    obtain ⟨gf, hgf⟩ : ∃ gf, gf = wh.heap.size := ⟨_, rfl⟩
    rw [← hgf] at hbk
    rw [← hgf]
    have GT := hide hbk
    have GM := hide (GM.out.after hb)
    have M4 := hide (M4.out.after hb)
    have K6 := hide (K6.out.after hb)
    have MM := hide (MM.out.after hb)
    have BA := hide (BA.out.trans (hb.mono BA.out.size))
    clear hb hbk hgf
    go_wp2_with fail
    refine (HIM.out d4 V4.out _ _ _ _ _ _ _ _ _ _ M4.out.rin HM.out M4.out.all (ints_rd GM.out HLM.out) (ints_rd GT.out HLT.out)).mono ?_; rintro r w12 ⟨A2, c2, e2, rfl, ho2, hv2, hb⟩
    have hb' := bel1 w12 (.cells #[.slice A2 L c2] 24)
    have O2 := hide (ho2.after hb')
    have HV2 := hide (show eqV e2 e0 = true from decide_eq_true (by rw [hv2, E0.out]))
    have K10 := hide (Bk.fresh w12 24 #[.slice A2 L c2])
    have K6 := hide ((K6.out.after hb).after hb')
    have MM := hide ((MM.out.after hb).after hb')
    have BA := hide ((BA.out.trans (hb.mono BA.out.size)).trans (hb'.mono (BA.out.trans (hb.mono BA.out.size)).size))
    have K4c := hide (K4.out.after BA.out)
    clear hb hb' ho2 hv2
    have t4 := K4c.out.c1
    have t10 := K10.out.c1
    go_wp2_with fail
    refine (eqRaid_v HV2.out _ O2.out.rin (R0.out.after BA.out) HML.out).mono ?_; rintro r w13 ⟨rfl, hb⟩
    have K6 := hide (K6.out.after hb)
    have MM := hide (MM.out.after hb)
    have BA := hide (BA.out.trans (hb.mono BA.out.size))
    clear hb t4 t10 K4c
    have t6 := K6.out.c1
    go_wp2_with fail
    refine (HHD.out _ _ _ _ MM.out).mono ?_; rintro r w14 ⟨rfl, hb⟩
    have BA := hide (BA.out.trans (hb.mono BA.out.size))
    clear hb t6
    go_wp2_with fail
    go_ret
    exact ⟨rfl, HB.out.trans (BA.out.mono HB.out.size)⟩
end Go.Proofs.Ytcaoekaephnimaa
