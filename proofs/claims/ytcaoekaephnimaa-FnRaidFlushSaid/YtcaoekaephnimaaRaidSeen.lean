/- The laws FnRaidOk and FnRaidFlush, walked. -/
import Derived.Test.YtcaoekaephnimaaQL
import Derived.Test.YtcaoekaephnimaaRaidFlushLaw
import Derived.Test.YtcaoekaephnimaaQR
import Derived.Test.YtcaoekaephnimaaQF
namespace Go.Proofs.Ytcaoekaephnimaa
open Go.RowKit
set_option linter.unusedVariables false
set_option maxRecDepth 100000

theorem flV_map (vs : List DVal) : vs.mapIdx flushV = vs.map (flushV 0) := by
  apply List.ext_getElem?
  intro i
  rw [List.getElem?_mapIdx, List.getElem?_map]
  rfl
theorem flush_sm : ∀ (i : Nat) (z : Int × ByteArray) (old : ByteArray), z.2.size ≤ 200 → old.size ≤ 200 → ((fun (_ : Nat) (z : Int × ByteArray) (_ : ByteArray) => z.2) i z old).size ≤ 200 := fun _ _ _ h _ => h
/-- a settled raid is valid, and stays as it is when settled again -/
theorem flush_again {ds fs : List DV} (h : raidOk ds = true) (hf : fs.map DV.val = (ds.map DV.val).mapIdx flushV) : raidOk fs = true ∧ (fs.map DV.val).mapIdx flushV = fs.map DV.val := by
  obtain ⟨hl, hok⟩ := rok_true h
  rw [flV_map] at hf
  have key : ∀ f ∈ fs, ∃ d ∈ ds, f.val = flushV 0 d.val := fun f hm => by
    have h1 : f.val ∈ fs.map DV.val := List.mem_map_of_mem hm
    rw [hf, List.mem_map] at h1
    obtain ⟨v, hv, e⟩ := h1
    obtain ⟨d, hd, rfl⟩ := List.mem_map.1 hv
    exact ⟨d, hd, e.symm⟩
  have hl2 : fs.length = 3 := by
    have := congrArg List.length hf
    simp only [List.length_map] at this
    omega
  refine ⟨?_, ?_⟩
  · unfold raidOk
    rw [decide_eq_true hl2, Bool.true_and, List.all_eq_true]
    intro f hm
    obtain ⟨d, hd, e⟩ := key f hm
    have h1 : f.z1 = settleT (fun _ z _ => z.2) 0 d.z2 d.z1 := congrArg (fun v : DVal => v.1) e
    have h2 : f.z2 = [] := congrArg (fun v : DVal => v.2.1) e
    have h3 : f.g = d.g := congrArg (fun v : DVal => v.2.2) e
    unfold DV.ok
    rw [h1, h2, h3]
    exact settle_ok flush_sm (hok d hd)
  · rw [flV_map, List.map_map]
    apply List.map_congr_left
    intro f hm
    obtain ⟨d, hd, e⟩ := key f hm
    show flushV 0 f.val = f.val
    rw [e]
    rfl
theorem DV.Own.has {B : Nat} {w : World} {d : DV} (h : d.Own B w) : d.Has w := ⟨h.in_, by rw [h.n2]; exact Nat.zero_le _, .inr ⟨h.n2, h.c2⟩⟩
theorem OwnR.three {B : Nat} {w : World} {A : Option Addr} {c : Nat} {ds : List DV} (h : OwnR B w (.slice A 3 c) ds) : ∃ (g : Nat) (B0 B1 B2 : Option Addr), A = some ⟨g, 0, none⟩ ∧ g < w.heap.size ∧ w.cell? ⟨g, 1, none⟩ = some (.slice B0 0 0) ∧ w.cell? ⟨g, 4, none⟩ = some (.slice B1 0 0) ∧ w.cell? ⟨g, 7, none⟩ = some (.slice B2 0 0) := by
  have hr := h.rin
  have hl := hr.len
  obtain ⟨b, o, e, hb, hc⟩ := hr.1.at_ (by omega)
  have ho : o = 0 := by
    rcases h.own.2 with ⟨e1, e2⟩ | ⟨g, cap, cur, e1, _⟩
    · omega
    · injection e1 with e1
      rw [e1] at e
      injection e with e
      injection e with e2 e3
      exact e3.symm
  subst ho
  match ds, hl with
  | [d0, d1, d2], _ =>
    have k0 := h.each d0 (by simp)
    have k1 := h.each d1 (by simp)
    have k2 := h.each d2 (by simp)
    refine ⟨b, d0.A2, d1.A2, d2.A2, e, hb, ?_, ?_, ?_⟩
    · have := hc 1 (.slice d0.A2 d0.n2 d0.c2) rfl
      rw [k0.n2, k0.c2] at this
      exact this
    · have := hc 4 (.slice d1.A2 d1.n2 d1.c2) rfl
      rw [k1.n2, k1.c2] at this
      exact this
    · have := hc 7 (.slice d2.A2 d2.n2 d2.c2) rfl
      rw [k2.n2, k2.c2] at this
      exact this

set_option maxHeartbeats 4000000 in
theorem fnRaidOk_walk (A1 : Option Addr) (n1 c1 : Nat) (z1 : List Int) (w : World) (h1 : U8s w A1 n1 c1 z1) :
    Calls Try.prog 7 #[.slice A1 n1 c1] w fun r w' => r = .returned (.bool true) ∧ Below w.heap.size w w' := by
  skip
  have m1 : n1 ≤ maxLen := Nat.le_trans h1.1 h1.2.1
  have H1 := hide h1
  clear h1
  unfold maxLen at m1
  by_cases g1 : (1048576 : Int) < (n1 : Int)
  · go_enter Try.func7, Try.ntmps7
    go_wp2_with fail
    go_ret
    exact ⟨rfl, Below.refl _ _⟩
  · go_enter Try.func7, Try.ntmps7
    go_wp2_with fail
    refine (drawRaidOk_any _ _ _ _ _ H1.out).mono ?_; rintro r w1 ⟨A5, n5, c5, es, rfl, hd, hb⟩
    have hb' := bel1 w1 (.cells #[.slice A5 n5 c5] 24)
    have K3 := hide (Bk.fresh w1 24 #[.slice A5 n5 c5])
    have HD := hide (hd.after hb')
    have HB := hide (hb.trans (hb'.mono hb.size))
    have HM := hide (show n5 ≤ maxLen by have := hd.n3; unfold maxLen; omega)
    clear hd hb hb' H1
    obtain ⟨v, hv⟩ : ∃ v, raidOk es = v := ⟨_, rfl⟩
    have HV := hide hv
    clear hv

    have q0 := K3.out.c1
    go_wp2_with fail
    refine (implRaidOk_v (A := A5) (n := n5) (c := c5) HV.out _ HD.out.rin HM.out).mono ?_; rintro r w2 ⟨rfl, hb⟩
    have K3 := hide (K3.out.after hb)
    have HD := hide (HD.out.after hb)
    have HB := hide (HB.out.trans (hb.mono HB.out.size))
    clear hb q0
    have q0 := K3.out.c1
    go_wp2_with fail
    refine (specRaidOk_v (A := A5) (n := n5) (c := c5) HV.out _ HD.out.rin HM.out).mono ?_; rintro r w3 ⟨rfl, hb⟩
    have K3 := hide (K3.out.after hb)
    have HD := hide (HD.out.after hb)
    have HB := hide (HB.out.trans (hb.mono HB.out.size))
    clear hb q0
    have q0 := K3.out.c1
    cases v
    · go_wp2_with fail
      refine (implRaidFlush_any A5 n5 c5 es false HV.out _ HD.out.rin HM.out (fun d hd => (HD.out.src d hd).has)).mono ?_; rintro r w4 hP
      obtain ⟨A6, c6, fs, rfl, ho, hvl, hb⟩ := (show RaidP [] _ _ _ from hP).shape
      have HB := hide (HB.out.trans (hb.mono HB.out.size))
      clear hP ho hvl hb
      have hfld : ∀ w, (Instr.field 24 (.agg #[.slice A6 0 c6]) 0).run Try.prog w = .ok (.slice A6 0 c6) w := fun _ => rfl
      go_wp2_with fail
      go_ret
      exact ⟨rfl, HB.out⟩
    · obtain ⟨VS, hVS⟩ : ∃ VS, raidV true ((es.map DV.val).mapIdx flushV) = VS := ⟨_, rfl⟩
      have hl : VS.length = 3 := by rw [← hVS]; show ((es.map DV.val).mapIdx flushV).length = 3; rw [List.length_mapIdx, List.length_map, (rok_true HV.out).1]
      have HL := hide hl
      have HVS := hide hVS
      clear hl hVS
      go_wp2_with fail
      refine (implRaidFlush_any A5 n5 c5 es true HV.out _ HD.out.rin HM.out (fun d hd => (HD.out.src d hd).has)).mono ?_; rintro r w4 hP
      rw [HVS.out] at hP
      obtain ⟨A6, c6, fs, rfl, ho, hvl, hb⟩ := hP.shape
      have HB := hide (HB.out.trans (hb.mono HB.out.size))
      rw [HL.out]
      clear hP ho hvl hb
      have hfld : ∀ w, (Instr.field 24 (.agg #[.slice A6 3 c6]) 0).run Try.prog w = .ok (.slice A6 3 c6) w := fun _ => rfl
      go_wp2_with fail
      go_ret
      exact ⟨rfl, HB.out⟩
set_option maxHeartbeats 8000000 in
theorem fnRaidFlush_walk (A1 : Option Addr) (n1 c1 : Nat) (z1 : List Int) (w : World) (h1 : U8s w A1 n1 c1 z1) :
    Calls Try.prog 8 #[.slice A1 n1 c1] w fun r w' => r = .returned (.bool true) ∧ Below w.heap.size w w' := by
  skip
  have m1 : n1 ≤ maxLen := Nat.le_trans h1.1 h1.2.1
  have H1 := hide h1
  clear h1
  unfold maxLen at m1
  by_cases g1 : (1048576 : Int) < (n1 : Int)
  · go_enter Try.func8, Try.ntmps8
    go_wp2_with fail
    go_ret
    exact ⟨rfl, Below.refl _ _⟩
  · go_enter Try.func8, Try.ntmps8
    go_wp2_with fail
    refine (drawRaidFlush_any _ _ _ _ _ H1.out).mono ?_; rintro r w1 ⟨A5, n5, c5, es, rfl, hd, hb⟩
    have hb' := bel1 w1 (.cells #[.slice A5 n5 c5] 24)
    have K3 := hide (Bk.fresh w1 24 #[.slice A5 n5 c5])
    have HD := hide (hd.after hb')
    have HB := hide (hb.trans (hb'.mono hb.size))
    have HM := hide (show n5 ≤ maxLen by have := hd.n3; unfold maxLen; omega)
    clear hd hb hb' H1
    obtain ⟨v, hv⟩ : ∃ v, raidOk es = v := ⟨_, rfl⟩
    have HV := hide hv
    clear hv

    have q0 := K3.out.c1
    obtain ⟨VS, hVS⟩ : ∃ VS, raidV v ((es.map DV.val).mapIdx flushV) = VS := ⟨_, rfl⟩
    cases v
    · have HL := hide (show VS.length = 0 by rw [← hVS]; rfl)
      have HVS := hide hVS
      clear hVS
      go_wp2_with fail
      refine (implRaidFlush_any A5 n5 c5 es false HV.out _ HD.out.rin HM.out (fun d hd => (HD.out.src d hd).has)).mono ?_; rintro r w2 hP
      rw [HVS.out] at hP
      obtain ⟨A6, c6, fs, rfl, ho, hvl, hb⟩ := hP.shape
      rw [HL.out] at ho ⊢
      have HE6 := hide hvl
      have hb' := bel1 w2 (.cells #[.slice A6 0 c6] 24)
      have HO6 := hide (ho.after hb')
      have K4 := hide (Bk.fresh w2 24 #[.slice A6 0 c6])
      have K3 := hide ((K3.out.after hb).after hb')
      have HD := hide ((HD.out.after hb).after hb')
      have HB := hide (HB.out.trans (hb.mono HB.out.size))
      have HB := hide (HB.out.trans (hb'.mono HB.out.size))
      clear hP ho hvl hb hb' q0
      have q0 := K3.out.c1
      go_wp2_with fail
      refine (specRaidFlush_any A5 n5 c5 es false HV.out _ HD.out.rin HM.out (fun d hd => HD.out.src d hd)).mono ?_; rintro r w3 hP
      rw [HVS.out] at hP
      obtain ⟨A7, c7, gs, rfl, ho, hvl, hb⟩ := hP.shape
      rw [HL.out] at ho ⊢
      have HE7 := hide hvl
      have hb' := bel1 w3 (.cells #[.slice A7 0 c7] 24)
      have HO7 := hide (ho.after hb')
      have K5 := hide (Bk.fresh w3 24 #[.slice A7 0 c7])
      have K4 := hide ((K4.out.after hb).after hb')
      have HO6 := hide ((HO6.out.after hb).after hb')
      have HB := hide (HB.out.trans (hb.mono HB.out.size))
      have HB := hide (HB.out.trans (hb'.mono HB.out.size))
      clear hP ho hvl hb hb' q0
      have q0 := K4.out.c1
      have q1 := K5.out.c1
      go_wp2_with fail
      refine (pfRaid_0 A6 A7 0 c6 c7 fs gs _ HO6.out.rin HO7.out.rin (HE7.out.trans HE6.out.symm) (fun d hd => (HO6.out.each d hd).n2) (fun d hd => (HO7.out.each d hd).n2) (by unfold maxLen; omega)).mono ?_; rintro r w4 ⟨rfl, hb⟩
      have K4 := hide (K4.out.after hb)
      have HO6 := hide (HO6.out.after hb)
      have HB := hide (HB.out.trans (hb.mono HB.out.size))
      clear hb q0 q1 HO7 K5 K3 HD
      have q0 := K4.out.c1

      go_wp2_with fail
      go_ret
      exact ⟨rfl, HB.out⟩
    · have HL := hide (show VS.length = 3 by rw [← hVS]; show ((es.map DV.val).mapIdx flushV).length = 3; rw [List.length_mapIdx, List.length_map, (rok_true HV.out).1])
      have HVS := hide hVS
      clear hVS
      go_wp2_with fail
      refine (implRaidFlush_any A5 n5 c5 es true HV.out _ HD.out.rin HM.out (fun d hd => (HD.out.src d hd).has)).mono ?_; rintro r w2 hP
      rw [HVS.out] at hP
      obtain ⟨A6, c6, fs, rfl, ho, hvl, hb⟩ := hP.shape
      rw [HL.out] at ho ⊢
      have HE6 := hide hvl
      have hb' := bel1 w2 (.cells #[.slice A6 3 c6] 24)
      have HO6 := hide (ho.after hb')
      have K4 := hide (Bk.fresh w2 24 #[.slice A6 3 c6])
      have K3 := hide ((K3.out.after hb).after hb')
      have HD := hide ((HD.out.after hb).after hb')
      have HB := hide (HB.out.trans (hb.mono HB.out.size))
      have HB := hide (HB.out.trans (hb'.mono HB.out.size))
      clear hP ho hvl hb hb' q0
      have q0 := K3.out.c1
      go_wp2_with fail
      refine (specRaidFlush_any A5 n5 c5 es true HV.out _ HD.out.rin HM.out (fun d hd => HD.out.src d hd)).mono ?_; rintro r w3 hP
      rw [HVS.out] at hP
      obtain ⟨A7, c7, gs, rfl, ho, hvl, hb⟩ := hP.shape
      rw [HL.out] at ho ⊢
      have HE7 := hide hvl
      have hb' := bel1 w3 (.cells #[.slice A7 3 c7] 24)
      have HO7 := hide (ho.after hb')
      have K5 := hide (Bk.fresh w3 24 #[.slice A7 3 c7])
      have K4 := hide ((K4.out.after hb).after hb')
      have HO6 := hide ((HO6.out.after hb).after hb')
      have HB := hide (HB.out.trans (hb.mono HB.out.size))
      have HB := hide (HB.out.trans (hb'.mono HB.out.size))
      clear hP ho hvl hb hb' q0
      have q0 := K4.out.c1
      have q1 := K5.out.c1
      go_wp2_with fail
      refine (pfRaid_0 A6 A7 3 c6 c7 fs gs _ HO6.out.rin HO7.out.rin (HE7.out.trans HE6.out.symm) (fun d hd => (HO6.out.each d hd).n2) (fun d hd => (HO7.out.each d hd).n2) (by unfold maxLen; omega)).mono ?_; rintro r w4 ⟨rfl, hb⟩
      have K4 := hide (K4.out.after hb)
      have HO6 := hide (HO6.out.after hb)
      have HB := hide (HB.out.trans (hb.mono HB.out.size))
      clear hb q0 q1 HO7 K5 K3 HD
      have q0 := K4.out.c1

      have HOK := hide (flush_again HV.out (HE6.out.trans (show VS = (es.map DV.val).mapIdx flushV from HVS.out.symm)))
      have HFL := hide (show (fs.map DV.val).length = 3 by rw [HE6.out]; exact HL.out)
      obtain ⟨g6, B0, B1, B2, hA, lg, e0, e1, e2⟩ := HO6.out.three
      have HBW := hide HB.out
      clear HB
      subst hA
      have HLG := hide lg
      have E0 := hide e0
      have E1 := hide e1
      have E2 := hide e2
      have HK4 := hide K4.out.lt
      clear lg e0 e1 e2
      go_upto_region 9 with fail
      clear q0
      have HO6 := hide (HO6.out.after (Below.refl _ w4).drew)
      refine wp_region_held_drew (S := fun x => Below w4.heap.size w4 x) (by kernel_rfl) ((Below.refl _ w4).drew) (fun hH0 => ?_)
      refine wpAnyH_take (i := 0) (v := ?_) rfl (by kernel_rfl) (by kernel_rfl) (by kernel_rfl) (fun _ _ _ h => h) (Or.inl ⟨by rfl, fun wS hS => ?_⟩) hH0 ?_
      rotate_left
      · have q0 := (hS.cell (p := ⟨w2.heap.size, 0, none⟩) HK4.out).trans K4.out.c1; have e0 := (hS.cell (p := ⟨g6, 1, none⟩) HLG.out).trans E0.out; have e1 := (hS.cell (p := ⟨g6, 4, none⟩) HLG.out).trans E1.out; have e2 := (hS.cell (p := ⟨g6, 7, none⟩) HLG.out).trans E2.out; go_simp; try exact rfl
      simp only [Act.put, List.setIfInBounds_toArray, List.set_cons_zero, List.set_cons_succ, List.getElem_toArray, List.getElem_cons_zero]
      refine wpAnyH_take (i := 2) (v := ?_) rfl (by kernel_rfl) (by kernel_rfl) (by kernel_rfl) (fun _ _ _ h => h) (Or.inl ⟨by rfl, fun wS hS => ?_⟩) hH0 ?_
      rotate_left
      · have q0 := (hS.cell (p := ⟨w2.heap.size, 0, none⟩) HK4.out).trans K4.out.c1; have e0 := (hS.cell (p := ⟨g6, 1, none⟩) HLG.out).trans E0.out; have e1 := (hS.cell (p := ⟨g6, 4, none⟩) HLG.out).trans E1.out; have e2 := (hS.cell (p := ⟨g6, 7, none⟩) HLG.out).trans E2.out; go_simp; try exact rfl
      simp only [Act.put, List.setIfInBounds_toArray, List.set_cons_zero, List.set_cons_succ, List.getElem_toArray, List.getElem_cons_zero, List.getElem_cons_succ]
      refine wpAnyH_ready (rs := [1]) (by kernel_rfl) (by simp) (AllReadyH.cons rfl (fun K hK => ?_) (AllReadyH.nil))
      go_simp
      go_at_call 20
      refine (implRaidFlush_any (some ⟨g6, 0, none⟩) 3 c6 fs true HOK.out.1 _ HO6.out.rin (by unfold maxLen; omega) (fun d hd => (HO6.out.each d hd).has)).mono ?_; rintro r x1 hP
      obtain ⟨A8, c8, hs, rfl, ho, hvl, hb⟩ := (show RaidP ((fs.map DV.val).mapIdx flushV) _ _ _ from hP).shape
      rw [HOK.out.2, HFL.out] at ho ⊢
      have HE8 := hide (hvl.trans HOK.out.2)
      have HO8 := hide ho
      have HO6 := hide (HO6.out.after hb)
      refine hK.out _ _ (hH0.trans (hb.mono hH0.size)) (fun hH1 => ?_)
      clear hK K
      try simp only [Act.put]
      clear hP ho hvl hb
      refine wpAnyH_ready (rs := [3]) (by kernel_rfl) (by simp) (AllReadyH.cons rfl (fun K hK => ?_) (AllReadyH.nil))
      go_simp
      go_at_call 28
      refine (pfRaid_0 A8 (some ⟨g6, 0, none⟩) 3 c8 c6 hs fs _ HO8.out.rin HO6.out.rin HE8.out.symm (fun d hd => (HO8.out.each d hd).n2) (fun d hd => (HO6.out.each d hd).n2) (by unfold maxLen; omega)).mono ?_; rintro r x2 ⟨rfl, hb⟩
      refine hK.out _ _ (hH1.trans (hb.mono hH1.size)) (fun hH2 => ?_)
      clear hK K
      try simp only [Act.put]
      clear hb
      refine wpAnyH_take (i := 4) (v := ?_) rfl (by kernel_rfl) (by kernel_rfl) (by kernel_rfl) (fun _ _ _ h => h) (Or.inl ⟨by rfl, fun wS hS => ?_⟩) hH2 ?_
      rotate_left
      · have q0 := (hS.cell (p := ⟨w2.heap.size, 0, none⟩) HK4.out).trans K4.out.c1; have e0 := (hS.cell (p := ⟨g6, 1, none⟩) HLG.out).trans E0.out; have e1 := (hS.cell (p := ⟨g6, 4, none⟩) HLG.out).trans E1.out; have e2 := (hS.cell (p := ⟨g6, 7, none⟩) HLG.out).trans E2.out; go_simp; try exact rfl
      simp only [Act.put, List.setIfInBounds_toArray, List.set_cons_zero, List.set_cons_succ, List.getElem_toArray, List.getElem_cons_zero, List.getElem_cons_succ]
      refine wpAnyH_take (i := 5) (v := ?_) rfl (by kernel_rfl) (by kernel_rfl) (by kernel_rfl) (fun _ _ _ h => h) (Or.inl ⟨by rfl, fun wS hS => ?_⟩) hH2 ?_
      rotate_left
      · have q0 := (hS.cell (p := ⟨w2.heap.size, 0, none⟩) HK4.out).trans K4.out.c1; have e0 := (hS.cell (p := ⟨g6, 1, none⟩) HLG.out).trans E0.out; have e1 := (hS.cell (p := ⟨g6, 4, none⟩) HLG.out).trans E1.out; have e2 := (hS.cell (p := ⟨g6, 7, none⟩) HLG.out).trans E2.out; go_simp; try exact rfl
      simp only [Act.put, List.setIfInBounds_toArray, List.set_cons_zero, List.set_cons_succ, List.getElem_toArray, List.getElem_cons_zero, List.getElem_cons_succ]
      refine wpAnyH_take (i := 6) (v := ?_) rfl (by kernel_rfl) (by kernel_rfl) (by kernel_rfl) (fun _ _ _ h => h) (Or.inl ⟨by rfl, fun wS hS => ?_⟩) hH2 ?_
      rotate_left
      · have q0 := (hS.cell (p := ⟨w2.heap.size, 0, none⟩) HK4.out).trans K4.out.c1; have e0 := (hS.cell (p := ⟨g6, 1, none⟩) HLG.out).trans E0.out; have e1 := (hS.cell (p := ⟨g6, 4, none⟩) HLG.out).trans E1.out; have e2 := (hS.cell (p := ⟨g6, 7, none⟩) HLG.out).trans E2.out; go_simp; try exact rfl
      simp only [Act.put, List.setIfInBounds_toArray, List.set_cons_zero, List.set_cons_succ, List.getElem_toArray, List.getElem_cons_zero, List.getElem_cons_succ]
      refine wpAnyH_take (i := 7) (v := ?_) rfl (by kernel_rfl) (by kernel_rfl) (by kernel_rfl) (fun _ _ _ h => h) (Or.inl ⟨by rfl, fun wS hS => ?_⟩) hH2 ?_
      rotate_left
      · have q0 := (hS.cell (p := ⟨w2.heap.size, 0, none⟩) HK4.out).trans K4.out.c1; have e0 := (hS.cell (p := ⟨g6, 1, none⟩) HLG.out).trans E0.out; have e1 := (hS.cell (p := ⟨g6, 4, none⟩) HLG.out).trans E1.out; have e2 := (hS.cell (p := ⟨g6, 7, none⟩) HLG.out).trans E2.out; go_simp; try exact rfl
      simp only [Act.put, List.setIfInBounds_toArray, List.set_cons_zero, List.set_cons_succ, List.getElem_toArray, List.getElem_cons_zero, List.getElem_cons_succ]
      refine wpAnyH_take (i := 8) (v := ?_) rfl (by kernel_rfl) (by kernel_rfl) (by kernel_rfl) (fun _ _ _ h => h) (Or.inl ⟨by rfl, fun wS hS => ?_⟩) hH2 ?_
      rotate_left
      · have q0 := (hS.cell (p := ⟨w2.heap.size, 0, none⟩) HK4.out).trans K4.out.c1; have e0 := (hS.cell (p := ⟨g6, 1, none⟩) HLG.out).trans E0.out; have e1 := (hS.cell (p := ⟨g6, 4, none⟩) HLG.out).trans E1.out; have e2 := (hS.cell (p := ⟨g6, 7, none⟩) HLG.out).trans E2.out; go_simp; try exact rfl
      simp only [Act.put, List.setIfInBounds_toArray, List.set_cons_zero, List.set_cons_succ, List.getElem_toArray, List.getElem_cons_zero, List.getElem_cons_succ]
      refine wpAnyH_take (i := 9) (v := ?_) rfl (by kernel_rfl) (by kernel_rfl) (by kernel_rfl) (fun _ _ _ h => h) (Or.inl ⟨by rfl, fun wS hS => ?_⟩) hH2 ?_
      rotate_left
      · have q0 := (hS.cell (p := ⟨w2.heap.size, 0, none⟩) HK4.out).trans K4.out.c1; have e0 := (hS.cell (p := ⟨g6, 1, none⟩) HLG.out).trans E0.out; have e1 := (hS.cell (p := ⟨g6, 4, none⟩) HLG.out).trans E1.out; have e2 := (hS.cell (p := ⟨g6, 7, none⟩) HLG.out).trans E2.out; go_simp; try exact rfl
      simp only [Act.put, List.setIfInBounds_toArray, List.set_cons_zero, List.set_cons_succ, List.getElem_toArray, List.getElem_cons_zero, List.getElem_cons_succ]
      refine wpAnyH_take (i := 10) (v := ?_) rfl (by kernel_rfl) (by kernel_rfl) (by kernel_rfl) (fun _ _ _ h => h) (Or.inl ⟨by rfl, fun wS hS => ?_⟩) hH2 ?_
      rotate_left
      · have q0 := (hS.cell (p := ⟨w2.heap.size, 0, none⟩) HK4.out).trans K4.out.c1; have e0 := (hS.cell (p := ⟨g6, 1, none⟩) HLG.out).trans E0.out; have e1 := (hS.cell (p := ⟨g6, 4, none⟩) HLG.out).trans E1.out; have e2 := (hS.cell (p := ⟨g6, 7, none⟩) HLG.out).trans E2.out; go_simp; try exact rfl
      simp only [Act.put, List.setIfInBounds_toArray, List.set_cons_zero, List.set_cons_succ, List.getElem_toArray, List.getElem_cons_zero, List.getElem_cons_succ]
      refine wpAnyH_take (i := 11) (v := ?_) rfl (by kernel_rfl) (by kernel_rfl) (by kernel_rfl) (fun _ _ _ h => h) (Or.inl ⟨by rfl, fun wS hS => ?_⟩) hH2 ?_
      rotate_left
      · have q0 := (hS.cell (p := ⟨w2.heap.size, 0, none⟩) HK4.out).trans K4.out.c1; have e0 := (hS.cell (p := ⟨g6, 1, none⟩) HLG.out).trans E0.out; have e1 := (hS.cell (p := ⟨g6, 4, none⟩) HLG.out).trans E1.out; have e2 := (hS.cell (p := ⟨g6, 7, none⟩) HLG.out).trans E2.out; go_simp; try exact rfl
      simp only [Act.put, List.setIfInBounds_toArray, List.set_cons_zero, List.set_cons_succ, List.getElem_toArray, List.getElem_cons_zero, List.getElem_cons_succ]
      refine wpAnyH_take (i := 12) (v := ?_) rfl (by kernel_rfl) (by kernel_rfl) (by kernel_rfl) (fun _ _ _ h => h) (Or.inl ⟨by rfl, fun wS hS => ?_⟩) hH2 ?_
      rotate_left
      · have q0 := (hS.cell (p := ⟨w2.heap.size, 0, none⟩) HK4.out).trans K4.out.c1; have e0 := (hS.cell (p := ⟨g6, 1, none⟩) HLG.out).trans E0.out; have e1 := (hS.cell (p := ⟨g6, 4, none⟩) HLG.out).trans E1.out; have e2 := (hS.cell (p := ⟨g6, 7, none⟩) HLG.out).trans E2.out; go_simp; try exact rfl
      simp only [Act.put, List.setIfInBounds_toArray, List.set_cons_zero, List.set_cons_succ, List.getElem_toArray, List.getElem_cons_zero, List.getElem_cons_succ]
      refine wpAnyH_take (i := 13) (v := ?_) rfl (by kernel_rfl) (by kernel_rfl) (by kernel_rfl) (fun _ _ _ h => h) (Or.inl ⟨by rfl, fun wS hS => ?_⟩) hH2 ?_
      rotate_left
      · have q0 := (hS.cell (p := ⟨w2.heap.size, 0, none⟩) HK4.out).trans K4.out.c1; have e0 := (hS.cell (p := ⟨g6, 1, none⟩) HLG.out).trans E0.out; have e1 := (hS.cell (p := ⟨g6, 4, none⟩) HLG.out).trans E1.out; have e2 := (hS.cell (p := ⟨g6, 7, none⟩) HLG.out).trans E2.out; go_simp; try exact rfl
      simp only [Act.put, List.setIfInBounds_toArray, List.set_cons_zero, List.set_cons_succ, List.getElem_toArray, List.getElem_cons_zero, List.getElem_cons_succ]
      refine wpAnyH_take (i := 14) (v := ?_) rfl (by kernel_rfl) (by kernel_rfl) (by kernel_rfl) (fun _ _ _ h => h) (Or.inl ⟨by rfl, fun wS hS => ?_⟩) hH2 ?_
      rotate_left
      · have q0 := (hS.cell (p := ⟨w2.heap.size, 0, none⟩) HK4.out).trans K4.out.c1; have e0 := (hS.cell (p := ⟨g6, 1, none⟩) HLG.out).trans E0.out; have e1 := (hS.cell (p := ⟨g6, 4, none⟩) HLG.out).trans E1.out; have e2 := (hS.cell (p := ⟨g6, 7, none⟩) HLG.out).trans E2.out; go_simp; try exact rfl
      simp only [Act.put, List.setIfInBounds_toArray, List.set_cons_zero, List.set_cons_succ, List.getElem_toArray, List.getElem_cons_zero, List.getElem_cons_succ]
      refine wpAnyH_take (i := 15) (v := ?_) rfl (by kernel_rfl) (by kernel_rfl) (by kernel_rfl) (fun _ _ _ h => h) (Or.inl ⟨by rfl, fun wS hS => ?_⟩) hH2 ?_
      rotate_left
      · have q0 := (hS.cell (p := ⟨w2.heap.size, 0, none⟩) HK4.out).trans K4.out.c1; have e0 := (hS.cell (p := ⟨g6, 1, none⟩) HLG.out).trans E0.out; have e1 := (hS.cell (p := ⟨g6, 4, none⟩) HLG.out).trans E1.out; have e2 := (hS.cell (p := ⟨g6, 7, none⟩) HLG.out).trans E2.out; go_simp; try exact rfl
      simp only [Act.put, List.setIfInBounds_toArray, List.set_cons_zero, List.set_cons_succ, List.getElem_toArray, List.getElem_cons_zero, List.getElem_cons_succ]
      refine wpAnyH_take (i := 16) (v := ?_) rfl (by kernel_rfl) (by kernel_rfl) (by kernel_rfl) (fun _ _ _ h => h) (Or.inl ⟨by rfl, fun wS hS => ?_⟩) hH2 ?_
      rotate_left
      · have q0 := (hS.cell (p := ⟨w2.heap.size, 0, none⟩) HK4.out).trans K4.out.c1; have e0 := (hS.cell (p := ⟨g6, 1, none⟩) HLG.out).trans E0.out; have e1 := (hS.cell (p := ⟨g6, 4, none⟩) HLG.out).trans E1.out; have e2 := (hS.cell (p := ⟨g6, 7, none⟩) HLG.out).trans E2.out; go_simp; try exact rfl
      simp only [Act.put, List.setIfInBounds_toArray, List.set_cons_zero, List.set_cons_succ, List.getElem_toArray, List.getElem_cons_zero, List.getElem_cons_succ]
      refine wpAnyH_take (i := 17) (v := ?_) rfl (by kernel_rfl) (by kernel_rfl) (by kernel_rfl) (fun _ _ _ h => h) (Or.inl ⟨by rfl, fun wS hS => ?_⟩) hH2 ?_
      rotate_left
      · have q0 := (hS.cell (p := ⟨w2.heap.size, 0, none⟩) HK4.out).trans K4.out.c1; have e0 := (hS.cell (p := ⟨g6, 1, none⟩) HLG.out).trans E0.out; have e1 := (hS.cell (p := ⟨g6, 4, none⟩) HLG.out).trans E1.out; have e2 := (hS.cell (p := ⟨g6, 7, none⟩) HLG.out).trans E2.out; go_simp; try exact rfl
      simp only [Act.put, List.setIfInBounds_toArray, List.set_cons_zero, List.set_cons_succ, List.getElem_toArray, List.getElem_cons_zero, List.getElem_cons_succ]
      refine wpAnyH_take (i := 18) (v := ?_) rfl (by kernel_rfl) (by kernel_rfl) (by kernel_rfl) (fun _ _ _ h => h) (Or.inl ⟨by rfl, fun wS hS => ?_⟩) hH2 ?_
      rotate_left
      · have q0 := (hS.cell (p := ⟨w2.heap.size, 0, none⟩) HK4.out).trans K4.out.c1; have e0 := (hS.cell (p := ⟨g6, 1, none⟩) HLG.out).trans E0.out; have e1 := (hS.cell (p := ⟨g6, 4, none⟩) HLG.out).trans E1.out; have e2 := (hS.cell (p := ⟨g6, 7, none⟩) HLG.out).trans E2.out; go_simp; try exact rfl
      simp only [Act.put, List.setIfInBounds_toArray, List.set_cons_zero, List.set_cons_succ, List.getElem_toArray, List.getElem_cons_zero, List.getElem_cons_succ]
      refine wpAnyH_take (i := 19) (v := ?_) rfl (by kernel_rfl) (by kernel_rfl) (by kernel_rfl) (fun _ _ _ h => h) (Or.inl ⟨by rfl, fun wS hS => ?_⟩) hH2 ?_
      rotate_left
      · have q0 := (hS.cell (p := ⟨w2.heap.size, 0, none⟩) HK4.out).trans K4.out.c1; have e0 := (hS.cell (p := ⟨g6, 1, none⟩) HLG.out).trans E0.out; have e1 := (hS.cell (p := ⟨g6, 4, none⟩) HLG.out).trans E1.out; have e2 := (hS.cell (p := ⟨g6, 7, none⟩) HLG.out).trans E2.out; go_simp; try exact rfl
      simp only [Act.put, List.setIfInBounds_toArray, List.set_cons_zero, List.set_cons_succ, List.getElem_toArray, List.getElem_cons_zero, List.getElem_cons_succ]
      refine wpAnyH_take (i := 20) (v := ?_) rfl (by kernel_rfl) (by kernel_rfl) (by kernel_rfl) (fun _ _ _ h => h) (Or.inl ⟨by rfl, fun wS hS => ?_⟩) hH2 ?_
      rotate_left
      · have q0 := (hS.cell (p := ⟨w2.heap.size, 0, none⟩) HK4.out).trans K4.out.c1; have e0 := (hS.cell (p := ⟨g6, 1, none⟩) HLG.out).trans E0.out; have e1 := (hS.cell (p := ⟨g6, 4, none⟩) HLG.out).trans E1.out; have e2 := (hS.cell (p := ⟨g6, 7, none⟩) HLG.out).trans E2.out; go_simp; try exact rfl
      simp only [Act.put, List.setIfInBounds_toArray, List.set_cons_zero, List.set_cons_succ, List.getElem_toArray, List.getElem_cons_zero, List.getElem_cons_succ]
      refine wpAnyH_take (i := 21) (v := ?_) rfl (by kernel_rfl) (by kernel_rfl) (by kernel_rfl) (fun _ _ _ h => h) (Or.inl ⟨by rfl, fun wS hS => ?_⟩) hH2 ?_
      rotate_left
      · have q0 := (hS.cell (p := ⟨w2.heap.size, 0, none⟩) HK4.out).trans K4.out.c1; have e0 := (hS.cell (p := ⟨g6, 1, none⟩) HLG.out).trans E0.out; have e1 := (hS.cell (p := ⟨g6, 4, none⟩) HLG.out).trans E1.out; have e2 := (hS.cell (p := ⟨g6, 7, none⟩) HLG.out).trans E2.out; go_simp; try exact rfl
      simp only [Act.put, List.setIfInBounds_toArray, List.set_cons_zero, List.set_cons_succ, List.getElem_toArray, List.getElem_cons_zero, List.getElem_cons_succ]
      refine wpAnyH_take (i := 22) (v := ?_) rfl (by kernel_rfl) (by kernel_rfl) (by kernel_rfl) (fun _ _ _ h => h) (Or.inl ⟨by rfl, fun wS hS => ?_⟩) hH2 ?_
      rotate_left
      · have q0 := (hS.cell (p := ⟨w2.heap.size, 0, none⟩) HK4.out).trans K4.out.c1; have e0 := (hS.cell (p := ⟨g6, 1, none⟩) HLG.out).trans E0.out; have e1 := (hS.cell (p := ⟨g6, 4, none⟩) HLG.out).trans E1.out; have e2 := (hS.cell (p := ⟨g6, 7, none⟩) HLG.out).trans E2.out; go_simp; try exact rfl
      simp only [Act.put, List.setIfInBounds_toArray, List.set_cons_zero, List.set_cons_succ, List.getElem_toArray, List.getElem_cons_zero, List.getElem_cons_succ]
      refine wpAnyH_take (i := 23) (v := ?_) rfl (by kernel_rfl) (by kernel_rfl) (by kernel_rfl) (fun _ _ _ h => h) (Or.inl ⟨by rfl, fun wS hS => ?_⟩) hH2 ?_
      rotate_left
      · have q0 := (hS.cell (p := ⟨w2.heap.size, 0, none⟩) HK4.out).trans K4.out.c1; have e0 := (hS.cell (p := ⟨g6, 1, none⟩) HLG.out).trans E0.out; have e1 := (hS.cell (p := ⟨g6, 4, none⟩) HLG.out).trans E1.out; have e2 := (hS.cell (p := ⟨g6, 7, none⟩) HLG.out).trans E2.out; go_simp; try exact rfl
      simp only [Act.put, List.setIfInBounds_toArray, List.set_cons_zero, List.set_cons_succ, List.getElem_toArray, List.getElem_cons_zero, List.getElem_cons_succ]
      refine wpAnyH_take (i := 24) (v := ?_) rfl (by kernel_rfl) (by kernel_rfl) (by kernel_rfl) (fun _ _ _ h => h) (Or.inl ⟨by rfl, fun wS hS => ?_⟩) hH2 ?_
      rotate_left
      · have q0 := (hS.cell (p := ⟨w2.heap.size, 0, none⟩) HK4.out).trans K4.out.c1; have e0 := (hS.cell (p := ⟨g6, 1, none⟩) HLG.out).trans E0.out; have e1 := (hS.cell (p := ⟨g6, 4, none⟩) HLG.out).trans E1.out; have e2 := (hS.cell (p := ⟨g6, 7, none⟩) HLG.out).trans E2.out; go_simp; try exact rfl
      simp only [Act.put, List.setIfInBounds_toArray, List.set_cons_zero, List.set_cons_succ, List.getElem_toArray, List.getElem_cons_zero, List.getElem_cons_succ]
      refine wpAnyH_take (i := 25) (v := ?_) rfl (by kernel_rfl) (by kernel_rfl) (by kernel_rfl) (fun _ _ _ h => h) (Or.inl ⟨by rfl, fun wS hS => ?_⟩) hH2 ?_
      rotate_left
      · have q0 := (hS.cell (p := ⟨w2.heap.size, 0, none⟩) HK4.out).trans K4.out.c1; have e0 := (hS.cell (p := ⟨g6, 1, none⟩) HLG.out).trans E0.out; have e1 := (hS.cell (p := ⟨g6, 4, none⟩) HLG.out).trans E1.out; have e2 := (hS.cell (p := ⟨g6, 7, none⟩) HLG.out).trans E2.out; go_simp; try exact rfl
      simp only [Act.put, List.setIfInBounds_toArray, List.set_cons_zero, List.set_cons_succ, List.getElem_toArray, List.getElem_cons_zero, List.getElem_cons_succ]
      refine wpAnyH_take (i := 26) (v := ?_) rfl (by kernel_rfl) (by kernel_rfl) (by kernel_rfl) (fun _ _ _ h => h) (Or.inl ⟨by rfl, fun wS hS => ?_⟩) hH2 ?_
      rotate_left
      · have q0 := (hS.cell (p := ⟨w2.heap.size, 0, none⟩) HK4.out).trans K4.out.c1; have e0 := (hS.cell (p := ⟨g6, 1, none⟩) HLG.out).trans E0.out; have e1 := (hS.cell (p := ⟨g6, 4, none⟩) HLG.out).trans E1.out; have e2 := (hS.cell (p := ⟨g6, 7, none⟩) HLG.out).trans E2.out; go_simp; try exact rfl
      simp only [Act.put, List.setIfInBounds_toArray, List.set_cons_zero, List.set_cons_succ, List.getElem_toArray, List.getElem_cons_zero, List.getElem_cons_succ]
      refine wpAnyH_take (i := 27) (v := ?_) rfl (by kernel_rfl) (by kernel_rfl) (by kernel_rfl) (fun _ _ _ h => h) (Or.inl ⟨by rfl, fun wS hS => ?_⟩) hH2 ?_
      rotate_left
      · have q0 := (hS.cell (p := ⟨w2.heap.size, 0, none⟩) HK4.out).trans K4.out.c1; have e0 := (hS.cell (p := ⟨g6, 1, none⟩) HLG.out).trans E0.out; have e1 := (hS.cell (p := ⟨g6, 4, none⟩) HLG.out).trans E1.out; have e2 := (hS.cell (p := ⟨g6, 7, none⟩) HLG.out).trans E2.out; go_simp; try exact rfl
      simp only [Act.put, List.setIfInBounds_toArray, List.set_cons_zero, List.set_cons_succ, List.getElem_toArray, List.getElem_cons_zero, List.getElem_cons_succ]
      refine wpAnyH_done (by kernel_rfl) ?_ _
      go_wp2_with fail
      go_ret
      exact ⟨rfl, HBW.out.trans (hH2.mono HBW.out.size)⟩
end Go.Proofs.Ytcaoekaephnimaa
