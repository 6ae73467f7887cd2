/- The law FnRaidCrash, walked. -/
import Derived.Test.YtcaoekaephnimaaDrawThree
import Derived.Test.YtcaoekaephnimaaRaidCrI
import Derived.Test.YtcaoekaephnimaaRaidFlushLaw
import Derived.Test.YtcaoekaephnimaaQR
import Derived.Test.YtcaoekaephnimaaQF
namespace Go.Proofs.Ytcaoekaephnimaa
open Go.RowKit
set_option linter.unusedVariables false
set_option maxRecDepth 100000

theorem crash_again {ds fs : List DV} {ms ts : List Int} (h : crOk ds ms ts = true) (hf : fs.map DV.val = (ds.map DV.val).mapIdx (crV ms ts)) : raidOk fs = true ∧ ∀ (k : Nat) (d e : DV), ds[k]? = some d → fs[k]? = some e → e.val = crV ms ts k d.val := by
  obtain ⟨hr, _, _, _⟩ := crOk_true h
  obtain ⟨hl, hok⟩ := rok_true hr
  have key : ∀ (k : Nat) (d e : DV), ds[k]? = some d → fs[k]? = some e → e.val = crV ms ts k d.val := fun k d e hd he => by
    have h1 : (fs.map DV.val)[k]? = some e.val := by rw [List.getElem?_map, he]; rfl
    rw [hf, List.getElem?_mapIdx, List.getElem?_map, hd] at h1
    exact (Option.some.inj h1).symm
  have hl2 : fs.length = 3 := by
    have := congrArg List.length hf
    simp only [List.length_map, List.length_mapIdx] at this
    omega
  refine ⟨?_, key⟩
  unfold raidOk
  rw [decide_eq_true hl2, Bool.true_and, List.all_eq_true]
  intro f hm
  obtain ⟨k, hk, rfl⟩ := List.getElem_of_mem hm
  have hkd : ds[k]? = some (ds[k]'(by omega)) := List.getElem?_eq_getElem _
  have e := key k _ _ hkd (List.getElem?_eq_getElem hk)
  have h1 : fs[k].z1 = settleT (crashF (ms.getD k 0).toNat (ts.getD k 0)) 0 (ds[k]'(by omega)).z2 (ds[k]'(by omega)).z1 := congrArg (fun v : DVal => v.1) e
  have h2 : fs[k].z2 = [] := congrArg (fun v : DVal => v.2.1) e
  have h3 : fs[k].g = (ds[k]'(by omega)).g := congrArg (fun v : DVal => v.2.2) e
  unfold DV.ok
  rw [h1, h2, h3]
  exact settle_ok (fun i z old hz ho => crash_size _ _ i z old ho hz) (hok _ (List.mem_of_getElem? hkd))
theorem DV.Own.hasX {B : Nat} {w : World} {d : DV} (h : d.Own B w) : d.Has w := ⟨h.in_, by rw [h.n2]; exact Nat.zero_le _, .inr ⟨h.n2, h.c2⟩⟩

set_option maxHeartbeats 8000000 in
theorem fnRaidCrash_walk (A1 : Option Addr) (n1 c1 : Nat) (z1 : List Int) (w : World) (h1 : U8s w A1 n1 c1 z1) :
    Calls Try.prog 9 #[.slice A1 n1 c1] w fun r w' => r = .returned (.bool true) ∧ Below w.heap.size w w' := by
  have m1 : n1 ≤ maxLen := Nat.le_trans h1.1 h1.2.1
  have H1 := hide h1
  clear h1
  unfold maxLen at m1
  by_cases g1 : (1048576 : Int) < (n1 : Int)
  · go_enter Try.func9, Try.ntmps9
    go_wp2_with fail
    go_ret
    exact ⟨rfl, Below.refl _ _⟩
  · go_enter Try.func9, Try.ntmps9
    go_wp2_with fail
    refine (drawRaidCrash_any _ _ _ _ _ H1.out).mono ?_; rintro r w1 ⟨A5, n5, c5, es, gm, om, nm, cm, ms, gt, ot, nt, ct, ts, rfl, hd, hmm, htt, hbm, hgg, hnm, hnt, hb⟩
    have hb' := bel1 w1 (.cells #[.slice A5 n5 c5] 24)
    have K3 := hide (Bk.fresh w1 24 #[.slice A5 n5 c5])
    have HD := hide (hd.after hb')
    have HB := hide (hb.trans (hb'.mono hb.size))
    have HM := hide (show n5 ≤ maxLen by have := hd.n3; unfold maxLen; omega)
    have HMM := hide (hmm.after hb')
    have HTT := hide (htt.after hb')
    have HBM := hide hbm
    clear hd hb hb' H1 hmm htt hbm hgg
    obtain ⟨v, hv⟩ : ∃ v, crOk es ms ts = v := ⟨_, rfl⟩
    have HV := hide hv
    clear hv
    have q0 := K3.out.c1
    cases v
    · obtain ⟨VS, hVS⟩ : ∃ VS : List DVal, [] = VS := ⟨_, rfl⟩
      have HL := hide (show VS.length = 0 by rw [← hVS]; rfl)
      have HVS := hide hVS
      clear hVS
      go_wp2_with fail
      refine (implRaidCrash_no A5 n5 c5 es (some ⟨gm, om, none⟩) nm cm ms (some ⟨gt, ot, none⟩) nt ct ts _ HD.out.rin HM.out HMM.out HTT.out HV.out).mono ?_; rintro r w2 hP
      rw [HVS.out] at hP
      obtain ⟨A6, c6, fs, rfl, ho, hvl, hb⟩ := hP.shape
      rw [HL.out] at ho ⊢
      have HE6 := hide hvl
      have hb' := bel1 w2 (.cells #[.slice A6 0 c6] 24)
      have HO6 := hide (ho.after hb')
      have K4 := hide (Bk.fresh w2 24 #[.slice A6 0 c6])
      have HMM := hide (HMM.out.after hb)
      have HTT := hide (HTT.out.after hb)
      have K3 := hide (K3.out.after hb)
      have HD := hide (HD.out.after hb)
      have HB := hide (HB.out.trans (hb.mono HB.out.size))
      have HMM := hide (HMM.out.after hb')
      have HTT := hide (HTT.out.after hb')
      have K3 := hide (K3.out.after hb')
      have HD := hide (HD.out.after hb')
      have HB := hide (HB.out.trans (hb'.mono HB.out.size))
      clear hP ho hvl hb hb' q0
      have q0 := K3.out.c1
      go_wp2_with fail
      refine (specRaidCrash_no A5 n5 c5 es (some ⟨gm, om, none⟩) nm cm ms (some ⟨gt, ot, none⟩) nt ct ts _ HD.out.rin HM.out HMM.out HTT.out HV.out).mono ?_; rintro r w3 hP
      rw [HVS.out] at hP
      obtain ⟨A7, c7, gs, rfl, ho, hvl, hb⟩ := hP.shape
      rw [HL.out] at ho ⊢
      have HE7 := hide hvl
      have hb' := bel1 w3 (.cells #[.slice A7 0 c7] 24)
      have HO7 := hide (ho.after hb')
      have K5 := hide (Bk.fresh w3 24 #[.slice A7 0 c7])
      have HMM := hide (HMM.out.after hb)
      have HTT := hide (HTT.out.after hb)
      have K3 := hide (K3.out.after hb)
      have HD := hide (HD.out.after hb)
      have HB := hide (HB.out.trans (hb.mono HB.out.size))
      have HMM := hide (HMM.out.after hb')
      have HTT := hide (HTT.out.after hb')
      have K3 := hide (K3.out.after hb')
      have HD := hide (HD.out.after hb')
      have HB := hide (HB.out.trans (hb'.mono HB.out.size))
      have K4 := hide ((K4.out.after hb).after hb')
      have HO6 := hide ((HO6.out.after hb).after hb')
      clear hP ho hvl hb hb' q0
      have q0 := K4.out.c1
      have q1 := K5.out.c1
      go_wp2_with fail
      refine (pfRaid_0 A6 A7 0 c6 c7 fs gs _ HO6.out.rin HO7.out.rin (HE7.out.trans HE6.out.symm) (fun d hd => (HO6.out.each d hd).n2) (fun d hd => (HO7.out.each d hd).n2) (by unfold maxLen; omega)).mono ?_; rintro r w4 ⟨rfl, hb⟩
      have HMM := hide (HMM.out.after hb)
      have HTT := hide (HTT.out.after hb)
      have K3 := hide (K3.out.after hb)
      have HD := hide (HD.out.after hb)
      have HB := hide (HB.out.trans (hb.mono HB.out.size))
      have K4 := hide (K4.out.after hb)
      have HO6 := hide (HO6.out.after hb)
      clear hb q0 q1 HO7 K5
      have q0 := K4.out.c1

      go_wp2_with fail
      go_ret
      exact ⟨rfl, HB.out⟩
    · obtain ⟨VS, hVS⟩ : ∃ VS, (es.map DV.val).mapIdx (crV ms ts) = VS := ⟨_, rfl⟩
      have HL := hide (show VS.length = 3 by rw [← hVS, List.length_mapIdx, List.length_map, (rok_true (crOk_true HV.out).1).1])
      have HVS := hide hVS
      clear hVS
      go_wp2_with fail
      refine (implRaidCrash_yes A5 n5 c5 es (some ⟨gm, om, none⟩) nm cm ms (some ⟨gt, ot, none⟩) nt ct ts _ HD.out.rin HM.out HMM.out HTT.out HV.out (fun d hd => (HD.out.src d hd).has) (fun m hm => by have := HBM.out m hm; omega)).mono ?_; rintro r w2 hP
      rw [HVS.out] at hP
      obtain ⟨A6, c6, fs, rfl, ho, hvl, hb⟩ := hP.shape
      rw [HL.out] at ho ⊢
      have HE6 := hide hvl
      have hb' := bel1 w2 (.cells #[.slice A6 3 c6] 24)
      have HO6 := hide (ho.after hb')
      have K4 := hide (Bk.fresh w2 24 #[.slice A6 3 c6])
      have HMM := hide (HMM.out.after hb)
      have HTT := hide (HTT.out.after hb)
      have K3 := hide (K3.out.after hb)
      have HD := hide (HD.out.after hb)
      have HB := hide (HB.out.trans (hb.mono HB.out.size))
      have HMM := hide (HMM.out.after hb')
      have HTT := hide (HTT.out.after hb')
      have K3 := hide (K3.out.after hb')
      have HD := hide (HD.out.after hb')
      have HB := hide (HB.out.trans (hb'.mono HB.out.size))
      clear hP ho hvl hb hb' q0
      have q0 := K3.out.c1
      go_wp2_with fail
      refine (specRaidCrash_yes A5 n5 c5 es (some ⟨gm, om, none⟩) nm cm ms (some ⟨gt, ot, none⟩) nt ct ts _ HD.out.rin HM.out HMM.out HTT.out HV.out (fun d hd => HD.out.src d hd) (fun m hm => by have := HBM.out m hm; omega)).mono ?_; rintro r w3 hP
      rw [HVS.out] at hP
      obtain ⟨A7, c7, gs, rfl, ho, hvl, hb⟩ := hP.shape
      rw [HL.out] at ho ⊢
      have HE7 := hide hvl
      have hb' := bel1 w3 (.cells #[.slice A7 3 c7] 24)
      have HO7 := hide (ho.after hb')
      have K5 := hide (Bk.fresh w3 24 #[.slice A7 3 c7])
      have HMM := hide (HMM.out.after hb)
      have HTT := hide (HTT.out.after hb)
      have K3 := hide (K3.out.after hb)
      have HD := hide (HD.out.after hb)
      have HB := hide (HB.out.trans (hb.mono HB.out.size))
      have HMM := hide (HMM.out.after hb')
      have HTT := hide (HTT.out.after hb')
      have K3 := hide (K3.out.after hb')
      have HD := hide (HD.out.after hb')
      have HB := hide (HB.out.trans (hb'.mono HB.out.size))
      have K4 := hide ((K4.out.after hb).after hb')
      have HO6 := hide ((HO6.out.after hb).after hb')
      clear hP ho hvl hb hb' q0
      have q0 := K4.out.c1
      have q1 := K5.out.c1
      go_wp2_with fail
      refine (pfRaid_0 A6 A7 3 c6 c7 fs gs _ HO6.out.rin HO7.out.rin (HE7.out.trans HE6.out.symm) (fun d hd => (HO6.out.each d hd).n2) (fun d hd => (HO7.out.each d hd).n2) (by unfold maxLen; omega)).mono ?_; rintro r w4 ⟨rfl, hb⟩
      have HMM := hide (HMM.out.after hb)
      have HTT := hide (HTT.out.after hb)
      have K3 := hide (K3.out.after hb)
      have HD := hide (HD.out.after hb)
      have HB := hide (HB.out.trans (hb.mono HB.out.size))
      have K4 := hide (K4.out.after hb)
      have HO6 := hide (HO6.out.after hb)
      clear hb q0 q1 HO7 K5
      have q0 := K4.out.c1

      have HCA := hide (crash_again HV.out (HE6.out.trans HVS.out.symm))
      have HN5 := hide (show n5 = 3 by have h1 := HD.out.rin.len; have h2 := (rok_true (crOk_true HV.out).1).1; omega)
      have HOKS := hide (rok_true (crOk_true HV.out).1).2
      have HMS := hide (show nm = 3 ∧ nt = 3 by have h1 := HMM.out.len; have h2 := HTT.out.len; obtain ⟨_, h3, h4, _⟩ := crOk_true HV.out; simp at h1 h2; omega)
      have HM0 := hide (crOk_true HV.out).2.2.2
      have HBW := hide HB.out
      have W4 := hide (Below.refl w4.heap.size w4)
      have hn5 : n5 = 3 := HN5.out
      have hnm3 : nm = 3 := HMS.out.1
      have hnt3 : nt = 3 := HMS.out.2
      have HMW := hide HMM.out
      have HTW := hide HTT.out
      have HDW := hide HD.out
      have K3w := hide K3.out
      have K4w := hide K4.out
      have HO6w := hide HO6.out
      clear HMM HTT HD K3 K4 HO6 HB
      subst hn5 hnm3 hnt3
      go_wp2_with fail
      go_loopw [9] (fun i wr => ∃ k : Nat, k ≤ 3 ∧ Hid (Below w4.heap.size w4 wr) ∧ i = .int .i64 k) (fun i _ => 3 - (intOf i).toNat)
      case atStart => exact ⟨0, by omega, W4, rfl⟩
      case round =>
        obtain ⟨k, hk, HW, rfl⟩ := hrel
        have K3c := hide (K3w.out.after HW.out)
        have K4c := hide (K4w.out.after HW.out)
        have HG3 := hide K3c.out.lt
        have HG4 := hide K4c.out.lt
        clear q0
        have q0 := K4c.out.c1
        by_cases hlt : k < 3
        · obtain ⟨b, o, d, hA5, hb0, hz, hc0, hc1, hc2⟩ := (HDW.out.rin.after HW.out).1.disk_at hlt
          obtain ⟨b', o', e, hA6, hb1', hy, hd0, hd1, hd2⟩ := (HO6w.out.rin.after HW.out).1.disk_at hlt
          obtain ⟨bm, om', mz, hAm, lbm, hmz, hcm⟩ := (HMW.out.after HW.out).int_at hlt
          obtain ⟨bt, ot', t, hAt, lbt, htz, hct⟩ := (HTW.out.after HW.out).int_at hlt
          cases hAm
          cases hAt
          subst hA5 hA6
          have HB0 := hide hb0
          have HB1 := hide hb1'
          have C0 := hide hc0
          have C1 := hide hc1
          have C2 := hide hc2
          have D0 := hide hd0
          have D1 := hide hd1
          have D2 := hide hd2
          have HGM := hide lbm
          have HGT := hide lbt
          have HMC := hide hcm
          have HTC := hide hct
          have mz0 := HM0.out mz (List.mem_of_getElem? hmz)
          have mz1 := HBM.out mz (List.mem_of_getElem? hmz)
          obtain ⟨m, hm⟩ : ∃ m : Nat, mz = (m : Int) := ⟨mz.toNat, by omega⟩
          subst hm
          have HMX := hide (show m < 9223372036854775808 by omega)
          have HH := hide ((HDW.out.src d (List.mem_of_getElem? hz)).has.after HW.out)
          have HDO := hide (HOKS.out d (List.mem_of_getElem? hz))
          have IN6 := hide ((HO6w.out.rin.2 e (List.mem_of_getElem? hy)).after HW.out)
          have OW6 := HO6w.out.each e (List.mem_of_getElem? hy)
          have hval := HCA.out.2 k d e hz hy
          have hmg : (ms.getD k 0).toNat = m := by rw [List.getD_eq_getElem?_getD, hmz]; simp
          have htg : ts.getD k 0 = t := by rw [List.getD_eq_getElem?_getD, htz]; simp
          obtain ⟨R, hR⟩ : ∃ R, settleT (crashF m t) 0 d.z2 d.z1 = R := ⟨_, rfl⟩
          have HSR := hide hR
          have HRL := hide (show R.length = 64 by rw [← hR, settle_len]; exact (ok_parts HDO.out).1)
          have HEE := hide (show e.n1 = 64 ∧ e.n2 = 0 ∧ e.c2 = 0 ∧ e.g = d.g ∧ e.z1 = R from ⟨OW6.n1, OW6.n2, OW6.c2, congrArg (fun v : DVal => v.2.2) hval, by have h1 : e.z1 = settleT (crashF (ms.getD k 0).toNat (ts.getD k 0)) 0 d.z2 d.z1 := congrArg (fun v : DVal => v.1) hval; rw [h1, hmg, htg, hR]⟩)
          have i0 : (0 : Int) ≤ (k : Int) := by omega
          have i1 : (k : Int) < 3 := by omega
          clear hz hy hb0 hb1' hc0 hc1 hc2 hd0 hd1 hd2 hval hmg htg hR OW6 hmz htz hcm hct lbm lbt mz0 mz1
          go_upto_region 12 with fail
          clear q0
          refine wp_region_held_drew (S := fun x => Below wr.heap.size wr x) (by kernel_rfl) ((Below.refl _ _).drew) (fun hH => ?_)
          refine wpAnyH_take (i := 0) (v := ?_) rfl (by kernel_rfl) (by kernel_rfl) (by kernel_rfl) (fun _ _ _ h => h) (Or.inl ⟨by rfl, fun wS hS => ?_⟩) hH ?_
          rotate_left
          · have s3 := (hS.cell (p := ⟨w1.heap.size, 0, none⟩) HG3.out).trans K3c.out.c1; have s4 := (hS.cell (p := ⟨w2.heap.size, 0, none⟩) HG4.out).trans K4c.out.c1; have c0 := (hS.cell (p := ⟨b, o + k * 3, none⟩) HB0.out).trans C0.out; have c1 := (hS.cell (p := ⟨b, o + k * 3 + 1, none⟩) HB0.out).trans C1.out; have c2 := (hS.cell (p := ⟨b, o + k * 3 + 2, none⟩) HB0.out).trans C2.out; have d0 := (hS.cell (p := ⟨b', o' + k * 3, none⟩) HB1.out).trans D0.out; have d1 := (hS.cell (p := ⟨b', o' + k * 3 + 1, none⟩) HB1.out).trans D1.out; have d2 := (hS.cell (p := ⟨b', o' + k * 3 + 2, none⟩) HB1.out).trans D2.out; have m0 := (hS.cell (p := ⟨gm, om + k, none⟩) HGM.out).trans HMC.out; have t0 := (hS.cell (p := ⟨gt, ot + k, none⟩) HGT.out).trans HTC.out; go_simp; try exact rfl
          simp only [Act.put, List.setIfInBounds_toArray, List.set_cons_zero, List.set_cons_succ, List.getElem_toArray, List.getElem_cons_zero]
          refine wpAnyH_take (i := 1) (v := ?_) rfl (by kernel_rfl) (by kernel_rfl) (by kernel_rfl) (fun _ _ _ h => h) (Or.inl ⟨by rfl, fun wS hS => ?_⟩) hH ?_
          rotate_left
          · have s3 := (hS.cell (p := ⟨w1.heap.size, 0, none⟩) HG3.out).trans K3c.out.c1; have s4 := (hS.cell (p := ⟨w2.heap.size, 0, none⟩) HG4.out).trans K4c.out.c1; have c0 := (hS.cell (p := ⟨b, o + k * 3, none⟩) HB0.out).trans C0.out; have c1 := (hS.cell (p := ⟨b, o + k * 3 + 1, none⟩) HB0.out).trans C1.out; have c2 := (hS.cell (p := ⟨b, o + k * 3 + 2, none⟩) HB0.out).trans C2.out; have d0 := (hS.cell (p := ⟨b', o' + k * 3, none⟩) HB1.out).trans D0.out; have d1 := (hS.cell (p := ⟨b', o' + k * 3 + 1, none⟩) HB1.out).trans D1.out; have d2 := (hS.cell (p := ⟨b', o' + k * 3 + 2, none⟩) HB1.out).trans D2.out; have m0 := (hS.cell (p := ⟨gm, om + k, none⟩) HGM.out).trans HMC.out; have t0 := (hS.cell (p := ⟨gt, ot + k, none⟩) HGT.out).trans HTC.out; go_simp; try exact rfl
          simp only [Act.put, List.setIfInBounds_toArray, List.set_cons_zero, List.set_cons_succ, List.getElem_toArray, List.getElem_cons_zero, List.getElem_cons_succ]
          refine wpAnyH_take (i := 2) (v := ?_) rfl (by kernel_rfl) (by kernel_rfl) (by kernel_rfl) (fun _ _ _ h => h) (Or.inl ⟨by rfl, fun wS hS => ?_⟩) hH ?_
          rotate_left
          · have s3 := (hS.cell (p := ⟨w1.heap.size, 0, none⟩) HG3.out).trans K3c.out.c1; have s4 := (hS.cell (p := ⟨w2.heap.size, 0, none⟩) HG4.out).trans K4c.out.c1; have c0 := (hS.cell (p := ⟨b, o + k * 3, none⟩) HB0.out).trans C0.out; have c1 := (hS.cell (p := ⟨b, o + k * 3 + 1, none⟩) HB0.out).trans C1.out; have c2 := (hS.cell (p := ⟨b, o + k * 3 + 2, none⟩) HB0.out).trans C2.out; have d0 := (hS.cell (p := ⟨b', o' + k * 3, none⟩) HB1.out).trans D0.out; have d1 := (hS.cell (p := ⟨b', o' + k * 3 + 1, none⟩) HB1.out).trans D1.out; have d2 := (hS.cell (p := ⟨b', o' + k * 3 + 2, none⟩) HB1.out).trans D2.out; have m0 := (hS.cell (p := ⟨gm, om + k, none⟩) HGM.out).trans HMC.out; have t0 := (hS.cell (p := ⟨gt, ot + k, none⟩) HGT.out).trans HTC.out; go_simp; try exact rfl
          simp only [Act.put, List.setIfInBounds_toArray, List.set_cons_zero, List.set_cons_succ, List.getElem_toArray, List.getElem_cons_zero, List.getElem_cons_succ]
          refine wpAnyH_take (i := 3) (v := ?_) rfl (by kernel_rfl) (by kernel_rfl) (by kernel_rfl) (fun _ _ _ h => h) (Or.inl ⟨by rfl, fun wS hS => ?_⟩) hH ?_
          rotate_left
          · have s3 := (hS.cell (p := ⟨w1.heap.size, 0, none⟩) HG3.out).trans K3c.out.c1; have s4 := (hS.cell (p := ⟨w2.heap.size, 0, none⟩) HG4.out).trans K4c.out.c1; have c0 := (hS.cell (p := ⟨b, o + k * 3, none⟩) HB0.out).trans C0.out; have c1 := (hS.cell (p := ⟨b, o + k * 3 + 1, none⟩) HB0.out).trans C1.out; have c2 := (hS.cell (p := ⟨b, o + k * 3 + 2, none⟩) HB0.out).trans C2.out; have d0 := (hS.cell (p := ⟨b', o' + k * 3, none⟩) HB1.out).trans D0.out; have d1 := (hS.cell (p := ⟨b', o' + k * 3 + 1, none⟩) HB1.out).trans D1.out; have d2 := (hS.cell (p := ⟨b', o' + k * 3 + 2, none⟩) HB1.out).trans D2.out; have m0 := (hS.cell (p := ⟨gm, om + k, none⟩) HGM.out).trans HMC.out; have t0 := (hS.cell (p := ⟨gt, ot + k, none⟩) HGT.out).trans HTC.out; go_simp; try exact rfl
          simp only [Act.put, List.setIfInBounds_toArray, List.set_cons_zero, List.set_cons_succ, List.getElem_toArray, List.getElem_cons_zero, List.getElem_cons_succ]
          refine wpAnyH_take (i := 4) (v := ?_) rfl (by kernel_rfl) (by kernel_rfl) (by kernel_rfl) (fun _ _ _ h => h) (Or.inl ⟨by rfl, fun wS hS => ?_⟩) hH ?_
          rotate_left
          · have s3 := (hS.cell (p := ⟨w1.heap.size, 0, none⟩) HG3.out).trans K3c.out.c1; have s4 := (hS.cell (p := ⟨w2.heap.size, 0, none⟩) HG4.out).trans K4c.out.c1; have c0 := (hS.cell (p := ⟨b, o + k * 3, none⟩) HB0.out).trans C0.out; have c1 := (hS.cell (p := ⟨b, o + k * 3 + 1, none⟩) HB0.out).trans C1.out; have c2 := (hS.cell (p := ⟨b, o + k * 3 + 2, none⟩) HB0.out).trans C2.out; have d0 := (hS.cell (p := ⟨b', o' + k * 3, none⟩) HB1.out).trans D0.out; have d1 := (hS.cell (p := ⟨b', o' + k * 3 + 1, none⟩) HB1.out).trans D1.out; have d2 := (hS.cell (p := ⟨b', o' + k * 3 + 2, none⟩) HB1.out).trans D2.out; have m0 := (hS.cell (p := ⟨gm, om + k, none⟩) HGM.out).trans HMC.out; have t0 := (hS.cell (p := ⟨gt, ot + k, none⟩) HGT.out).trans HTC.out; go_simp; try exact rfl
          simp only [Act.put, List.setIfInBounds_toArray, List.set_cons_zero, List.set_cons_succ, List.getElem_toArray, List.getElem_cons_zero, List.getElem_cons_succ]
          refine wpAnyH_take (i := 5) (v := ?_) rfl (by kernel_rfl) (by kernel_rfl) (by kernel_rfl) (fun _ _ _ h => h) (Or.inl ⟨by rfl, fun wS hS => ?_⟩) hH ?_
          rotate_left
          · have s3 := (hS.cell (p := ⟨w1.heap.size, 0, none⟩) HG3.out).trans K3c.out.c1; have s4 := (hS.cell (p := ⟨w2.heap.size, 0, none⟩) HG4.out).trans K4c.out.c1; have c0 := (hS.cell (p := ⟨b, o + k * 3, none⟩) HB0.out).trans C0.out; have c1 := (hS.cell (p := ⟨b, o + k * 3 + 1, none⟩) HB0.out).trans C1.out; have c2 := (hS.cell (p := ⟨b, o + k * 3 + 2, none⟩) HB0.out).trans C2.out; have d0 := (hS.cell (p := ⟨b', o' + k * 3, none⟩) HB1.out).trans D0.out; have d1 := (hS.cell (p := ⟨b', o' + k * 3 + 1, none⟩) HB1.out).trans D1.out; have d2 := (hS.cell (p := ⟨b', o' + k * 3 + 2, none⟩) HB1.out).trans D2.out; have m0 := (hS.cell (p := ⟨gm, om + k, none⟩) HGM.out).trans HMC.out; have t0 := (hS.cell (p := ⟨gt, ot + k, none⟩) HGT.out).trans HTC.out; go_simp; try exact rfl
          simp only [Act.put, List.setIfInBounds_toArray, List.set_cons_zero, List.set_cons_succ, List.getElem_toArray, List.getElem_cons_zero, List.getElem_cons_succ]
          refine wpAnyH_take (i := 6) (v := ?_) rfl (by kernel_rfl) (by kernel_rfl) (by kernel_rfl) (fun _ _ _ h => h) (Or.inl ⟨by rfl, fun wS hS => ?_⟩) hH ?_
          rotate_left
          · have s3 := (hS.cell (p := ⟨w1.heap.size, 0, none⟩) HG3.out).trans K3c.out.c1; have s4 := (hS.cell (p := ⟨w2.heap.size, 0, none⟩) HG4.out).trans K4c.out.c1; have c0 := (hS.cell (p := ⟨b, o + k * 3, none⟩) HB0.out).trans C0.out; have c1 := (hS.cell (p := ⟨b, o + k * 3 + 1, none⟩) HB0.out).trans C1.out; have c2 := (hS.cell (p := ⟨b, o + k * 3 + 2, none⟩) HB0.out).trans C2.out; have d0 := (hS.cell (p := ⟨b', o' + k * 3, none⟩) HB1.out).trans D0.out; have d1 := (hS.cell (p := ⟨b', o' + k * 3 + 1, none⟩) HB1.out).trans D1.out; have d2 := (hS.cell (p := ⟨b', o' + k * 3 + 2, none⟩) HB1.out).trans D2.out; have m0 := (hS.cell (p := ⟨gm, om + k, none⟩) HGM.out).trans HMC.out; have t0 := (hS.cell (p := ⟨gt, ot + k, none⟩) HGT.out).trans HTC.out; go_simp; try exact rfl
          simp only [Act.put, List.setIfInBounds_toArray, List.set_cons_zero, List.set_cons_succ, List.getElem_toArray, List.getElem_cons_zero, List.getElem_cons_succ]
          refine wpAnyH_take (i := 7) (v := ?_) rfl (by kernel_rfl) (by kernel_rfl) (by kernel_rfl) (fun _ _ _ h => h) (Or.inl ⟨by rfl, fun wS hS => ?_⟩) hH ?_
          rotate_left
          · have s3 := (hS.cell (p := ⟨w1.heap.size, 0, none⟩) HG3.out).trans K3c.out.c1; have s4 := (hS.cell (p := ⟨w2.heap.size, 0, none⟩) HG4.out).trans K4c.out.c1; have c0 := (hS.cell (p := ⟨b, o + k * 3, none⟩) HB0.out).trans C0.out; have c1 := (hS.cell (p := ⟨b, o + k * 3 + 1, none⟩) HB0.out).trans C1.out; have c2 := (hS.cell (p := ⟨b, o + k * 3 + 2, none⟩) HB0.out).trans C2.out; have d0 := (hS.cell (p := ⟨b', o' + k * 3, none⟩) HB1.out).trans D0.out; have d1 := (hS.cell (p := ⟨b', o' + k * 3 + 1, none⟩) HB1.out).trans D1.out; have d2 := (hS.cell (p := ⟨b', o' + k * 3 + 2, none⟩) HB1.out).trans D2.out; have m0 := (hS.cell (p := ⟨gm, om + k, none⟩) HGM.out).trans HMC.out; have t0 := (hS.cell (p := ⟨gt, ot + k, none⟩) HGT.out).trans HTC.out; go_simp; try exact rfl
          simp only [Act.put, List.setIfInBounds_toArray, List.set_cons_zero, List.set_cons_succ, List.getElem_toArray, List.getElem_cons_zero, List.getElem_cons_succ]
          refine wpAnyH_take (i := 8) (v := ?_) rfl (by kernel_rfl) (by kernel_rfl) (by kernel_rfl) (fun _ _ _ h => h) (Or.inl ⟨by rfl, fun wS hS => ?_⟩) hH ?_
          rotate_left
          · have s3 := (hS.cell (p := ⟨w1.heap.size, 0, none⟩) HG3.out).trans K3c.out.c1; have s4 := (hS.cell (p := ⟨w2.heap.size, 0, none⟩) HG4.out).trans K4c.out.c1; have c0 := (hS.cell (p := ⟨b, o + k * 3, none⟩) HB0.out).trans C0.out; have c1 := (hS.cell (p := ⟨b, o + k * 3 + 1, none⟩) HB0.out).trans C1.out; have c2 := (hS.cell (p := ⟨b, o + k * 3 + 2, none⟩) HB0.out).trans C2.out; have d0 := (hS.cell (p := ⟨b', o' + k * 3, none⟩) HB1.out).trans D0.out; have d1 := (hS.cell (p := ⟨b', o' + k * 3 + 1, none⟩) HB1.out).trans D1.out; have d2 := (hS.cell (p := ⟨b', o' + k * 3 + 2, none⟩) HB1.out).trans D2.out; have m0 := (hS.cell (p := ⟨gm, om + k, none⟩) HGM.out).trans HMC.out; have t0 := (hS.cell (p := ⟨gt, ot + k, none⟩) HGT.out).trans HTC.out; go_simp; try exact rfl
          simp only [Act.put, List.setIfInBounds_toArray, List.set_cons_zero, List.set_cons_succ, List.getElem_toArray, List.getElem_cons_zero, List.getElem_cons_succ]
          refine wpAnyH_take (i := 9) (v := ?_) rfl (by kernel_rfl) (by kernel_rfl) (by kernel_rfl) (fun _ _ _ h => h) (Or.inl ⟨by rfl, fun wS hS => ?_⟩) hH ?_
          rotate_left
          · have s3 := (hS.cell (p := ⟨w1.heap.size, 0, none⟩) HG3.out).trans K3c.out.c1; have s4 := (hS.cell (p := ⟨w2.heap.size, 0, none⟩) HG4.out).trans K4c.out.c1; have c0 := (hS.cell (p := ⟨b, o + k * 3, none⟩) HB0.out).trans C0.out; have c1 := (hS.cell (p := ⟨b, o + k * 3 + 1, none⟩) HB0.out).trans C1.out; have c2 := (hS.cell (p := ⟨b, o + k * 3 + 2, none⟩) HB0.out).trans C2.out; have d0 := (hS.cell (p := ⟨b', o' + k * 3, none⟩) HB1.out).trans D0.out; have d1 := (hS.cell (p := ⟨b', o' + k * 3 + 1, none⟩) HB1.out).trans D1.out; have d2 := (hS.cell (p := ⟨b', o' + k * 3 + 2, none⟩) HB1.out).trans D2.out; have m0 := (hS.cell (p := ⟨gm, om + k, none⟩) HGM.out).trans HMC.out; have t0 := (hS.cell (p := ⟨gt, ot + k, none⟩) HGT.out).trans HTC.out; go_simp; try exact rfl
          simp only [Act.put, List.setIfInBounds_toArray, List.set_cons_zero, List.set_cons_succ, List.getElem_toArray, List.getElem_cons_zero, List.getElem_cons_succ]
          refine wpAnyH_take (i := 10) (v := ?_) rfl (by kernel_rfl) (by kernel_rfl) (by kernel_rfl) (fun _ _ _ h => h) (Or.inl ⟨by rfl, fun wS hS => ?_⟩) hH ?_
          rotate_left
          · have s3 := (hS.cell (p := ⟨w1.heap.size, 0, none⟩) HG3.out).trans K3c.out.c1; have s4 := (hS.cell (p := ⟨w2.heap.size, 0, none⟩) HG4.out).trans K4c.out.c1; have c0 := (hS.cell (p := ⟨b, o + k * 3, none⟩) HB0.out).trans C0.out; have c1 := (hS.cell (p := ⟨b, o + k * 3 + 1, none⟩) HB0.out).trans C1.out; have c2 := (hS.cell (p := ⟨b, o + k * 3 + 2, none⟩) HB0.out).trans C2.out; have d0 := (hS.cell (p := ⟨b', o' + k * 3, none⟩) HB1.out).trans D0.out; have d1 := (hS.cell (p := ⟨b', o' + k * 3 + 1, none⟩) HB1.out).trans D1.out; have d2 := (hS.cell (p := ⟨b', o' + k * 3 + 2, none⟩) HB1.out).trans D2.out; have m0 := (hS.cell (p := ⟨gm, om + k, none⟩) HGM.out).trans HMC.out; have t0 := (hS.cell (p := ⟨gt, ot + k, none⟩) HGT.out).trans HTC.out; go_simp; try exact rfl
          simp only [Act.put, List.setIfInBounds_toArray, List.set_cons_zero, List.set_cons_succ, List.getElem_toArray, List.getElem_cons_zero, List.getElem_cons_succ]
          refine wpAnyH_take (i := 11) (v := ?_) rfl (by kernel_rfl) (by kernel_rfl) (by kernel_rfl) (fun _ _ _ h => h) (Or.inl ⟨by rfl, fun wS hS => ?_⟩) hH ?_
          rotate_left
          · have s3 := (hS.cell (p := ⟨w1.heap.size, 0, none⟩) HG3.out).trans K3c.out.c1; have s4 := (hS.cell (p := ⟨w2.heap.size, 0, none⟩) HG4.out).trans K4c.out.c1; have c0 := (hS.cell (p := ⟨b, o + k * 3, none⟩) HB0.out).trans C0.out; have c1 := (hS.cell (p := ⟨b, o + k * 3 + 1, none⟩) HB0.out).trans C1.out; have c2 := (hS.cell (p := ⟨b, o + k * 3 + 2, none⟩) HB0.out).trans C2.out; have d0 := (hS.cell (p := ⟨b', o' + k * 3, none⟩) HB1.out).trans D0.out; have d1 := (hS.cell (p := ⟨b', o' + k * 3 + 1, none⟩) HB1.out).trans D1.out; have d2 := (hS.cell (p := ⟨b', o' + k * 3 + 2, none⟩) HB1.out).trans D2.out; have m0 := (hS.cell (p := ⟨gm, om + k, none⟩) HGM.out).trans HMC.out; have t0 := (hS.cell (p := ⟨gt, ot + k, none⟩) HGT.out).trans HTC.out; go_simp; try exact rfl
          simp only [Act.put, List.setIfInBounds_toArray, List.set_cons_zero, List.set_cons_succ, List.getElem_toArray, List.getElem_cons_zero, List.getElem_cons_succ]
          refine wpAnyH_take (i := 12) (v := ?_) rfl (by kernel_rfl) (by kernel_rfl) (by kernel_rfl) (fun _ _ _ h => h) (Or.inl ⟨by rfl, fun wS hS => ?_⟩) hH ?_
          rotate_left
          · have s3 := (hS.cell (p := ⟨w1.heap.size, 0, none⟩) HG3.out).trans K3c.out.c1; have s4 := (hS.cell (p := ⟨w2.heap.size, 0, none⟩) HG4.out).trans K4c.out.c1; have c0 := (hS.cell (p := ⟨b, o + k * 3, none⟩) HB0.out).trans C0.out; have c1 := (hS.cell (p := ⟨b, o + k * 3 + 1, none⟩) HB0.out).trans C1.out; have c2 := (hS.cell (p := ⟨b, o + k * 3 + 2, none⟩) HB0.out).trans C2.out; have d0 := (hS.cell (p := ⟨b', o' + k * 3, none⟩) HB1.out).trans D0.out; have d1 := (hS.cell (p := ⟨b', o' + k * 3 + 1, none⟩) HB1.out).trans D1.out; have d2 := (hS.cell (p := ⟨b', o' + k * 3 + 2, none⟩) HB1.out).trans D2.out; have m0 := (hS.cell (p := ⟨gm, om + k, none⟩) HGM.out).trans HMC.out; have t0 := (hS.cell (p := ⟨gt, ot + k, none⟩) HGT.out).trans HTC.out; go_simp; try exact rfl
          simp only [Act.put, List.setIfInBounds_toArray, List.set_cons_zero, List.set_cons_succ, List.getElem_toArray, List.getElem_cons_zero, List.getElem_cons_succ]
          refine wpAnyH_take (i := 13) (v := ?_) rfl (by kernel_rfl) (by kernel_rfl) (by kernel_rfl) (fun _ _ _ h => h) (Or.inl ⟨by rfl, fun wS hS => ?_⟩) hH ?_
          rotate_left
          · have s3 := (hS.cell (p := ⟨w1.heap.size, 0, none⟩) HG3.out).trans K3c.out.c1; have s4 := (hS.cell (p := ⟨w2.heap.size, 0, none⟩) HG4.out).trans K4c.out.c1; have c0 := (hS.cell (p := ⟨b, o + k * 3, none⟩) HB0.out).trans C0.out; have c1 := (hS.cell (p := ⟨b, o + k * 3 + 1, none⟩) HB0.out).trans C1.out; have c2 := (hS.cell (p := ⟨b, o + k * 3 + 2, none⟩) HB0.out).trans C2.out; have d0 := (hS.cell (p := ⟨b', o' + k * 3, none⟩) HB1.out).trans D0.out; have d1 := (hS.cell (p := ⟨b', o' + k * 3 + 1, none⟩) HB1.out).trans D1.out; have d2 := (hS.cell (p := ⟨b', o' + k * 3 + 2, none⟩) HB1.out).trans D2.out; have m0 := (hS.cell (p := ⟨gm, om + k, none⟩) HGM.out).trans HMC.out; have t0 := (hS.cell (p := ⟨gt, ot + k, none⟩) HGT.out).trans HTC.out; go_simp; try exact rfl
          simp only [Act.put, List.setIfInBounds_toArray, List.set_cons_zero, List.set_cons_succ, List.getElem_toArray, List.getElem_cons_zero, List.getElem_cons_succ]
          refine wpAnyH_take (i := 14) (v := ?_) rfl (by kernel_rfl) (by kernel_rfl) (by kernel_rfl) (fun _ _ _ h => h) (Or.inl ⟨by rfl, fun wS hS => ?_⟩) hH ?_
          rotate_left
          · have s3 := (hS.cell (p := ⟨w1.heap.size, 0, none⟩) HG3.out).trans K3c.out.c1; have s4 := (hS.cell (p := ⟨w2.heap.size, 0, none⟩) HG4.out).trans K4c.out.c1; have c0 := (hS.cell (p := ⟨b, o + k * 3, none⟩) HB0.out).trans C0.out; have c1 := (hS.cell (p := ⟨b, o + k * 3 + 1, none⟩) HB0.out).trans C1.out; have c2 := (hS.cell (p := ⟨b, o + k * 3 + 2, none⟩) HB0.out).trans C2.out; have d0 := (hS.cell (p := ⟨b', o' + k * 3, none⟩) HB1.out).trans D0.out; have d1 := (hS.cell (p := ⟨b', o' + k * 3 + 1, none⟩) HB1.out).trans D1.out; have d2 := (hS.cell (p := ⟨b', o' + k * 3 + 2, none⟩) HB1.out).trans D2.out; have m0 := (hS.cell (p := ⟨gm, om + k, none⟩) HGM.out).trans HMC.out; have t0 := (hS.cell (p := ⟨gt, ot + k, none⟩) HGT.out).trans HTC.out; go_simp; try exact rfl
          simp only [Act.put, List.setIfInBounds_toArray, List.set_cons_zero, List.set_cons_succ, List.getElem_toArray, List.getElem_cons_zero, List.getElem_cons_succ]
          refine wpAnyH_take (i := 15) (v := ?_) rfl (by kernel_rfl) (by kernel_rfl) (by kernel_rfl) (fun _ _ _ h => h) (Or.inl ⟨by rfl, fun wS hS => ?_⟩) hH ?_
          rotate_left
          · have s3 := (hS.cell (p := ⟨w1.heap.size, 0, none⟩) HG3.out).trans K3c.out.c1; have s4 := (hS.cell (p := ⟨w2.heap.size, 0, none⟩) HG4.out).trans K4c.out.c1; have c0 := (hS.cell (p := ⟨b, o + k * 3, none⟩) HB0.out).trans C0.out; have c1 := (hS.cell (p := ⟨b, o + k * 3 + 1, none⟩) HB0.out).trans C1.out; have c2 := (hS.cell (p := ⟨b, o + k * 3 + 2, none⟩) HB0.out).trans C2.out; have d0 := (hS.cell (p := ⟨b', o' + k * 3, none⟩) HB1.out).trans D0.out; have d1 := (hS.cell (p := ⟨b', o' + k * 3 + 1, none⟩) HB1.out).trans D1.out; have d2 := (hS.cell (p := ⟨b', o' + k * 3 + 2, none⟩) HB1.out).trans D2.out; have m0 := (hS.cell (p := ⟨gm, om + k, none⟩) HGM.out).trans HMC.out; have t0 := (hS.cell (p := ⟨gt, ot + k, none⟩) HGT.out).trans HTC.out; go_simp; try exact rfl
          simp only [Act.put, List.setIfInBounds_toArray, List.set_cons_zero, List.set_cons_succ, List.getElem_toArray, List.getElem_cons_zero, List.getElem_cons_succ]
          refine wpAnyH_take (i := 16) (v := ?_) rfl (by kernel_rfl) (by kernel_rfl) (by kernel_rfl) (fun _ _ _ h => h) (Or.inl ⟨by rfl, fun wS hS => ?_⟩) hH ?_
          rotate_left
          · have s3 := (hS.cell (p := ⟨w1.heap.size, 0, none⟩) HG3.out).trans K3c.out.c1; have s4 := (hS.cell (p := ⟨w2.heap.size, 0, none⟩) HG4.out).trans K4c.out.c1; have c0 := (hS.cell (p := ⟨b, o + k * 3, none⟩) HB0.out).trans C0.out; have c1 := (hS.cell (p := ⟨b, o + k * 3 + 1, none⟩) HB0.out).trans C1.out; have c2 := (hS.cell (p := ⟨b, o + k * 3 + 2, none⟩) HB0.out).trans C2.out; have d0 := (hS.cell (p := ⟨b', o' + k * 3, none⟩) HB1.out).trans D0.out; have d1 := (hS.cell (p := ⟨b', o' + k * 3 + 1, none⟩) HB1.out).trans D1.out; have d2 := (hS.cell (p := ⟨b', o' + k * 3 + 2, none⟩) HB1.out).trans D2.out; have m0 := (hS.cell (p := ⟨gm, om + k, none⟩) HGM.out).trans HMC.out; have t0 := (hS.cell (p := ⟨gt, ot + k, none⟩) HGT.out).trans HTC.out; go_simp; try exact rfl
          simp only [Act.put, List.setIfInBounds_toArray, List.set_cons_zero, List.set_cons_succ, List.getElem_toArray, List.getElem_cons_zero, List.getElem_cons_succ]
          refine wpAnyH_take (i := 17) (v := ?_) rfl (by kernel_rfl) (by kernel_rfl) (by kernel_rfl) (fun _ _ _ h => h) (Or.inl ⟨by rfl, fun wS hS => ?_⟩) hH ?_
          rotate_left
          · have s3 := (hS.cell (p := ⟨w1.heap.size, 0, none⟩) HG3.out).trans K3c.out.c1; have s4 := (hS.cell (p := ⟨w2.heap.size, 0, none⟩) HG4.out).trans K4c.out.c1; have c0 := (hS.cell (p := ⟨b, o + k * 3, none⟩) HB0.out).trans C0.out; have c1 := (hS.cell (p := ⟨b, o + k * 3 + 1, none⟩) HB0.out).trans C1.out; have c2 := (hS.cell (p := ⟨b, o + k * 3 + 2, none⟩) HB0.out).trans C2.out; have d0 := (hS.cell (p := ⟨b', o' + k * 3, none⟩) HB1.out).trans D0.out; have d1 := (hS.cell (p := ⟨b', o' + k * 3 + 1, none⟩) HB1.out).trans D1.out; have d2 := (hS.cell (p := ⟨b', o' + k * 3 + 2, none⟩) HB1.out).trans D2.out; have m0 := (hS.cell (p := ⟨gm, om + k, none⟩) HGM.out).trans HMC.out; have t0 := (hS.cell (p := ⟨gt, ot + k, none⟩) HGT.out).trans HTC.out; go_simp; try exact rfl
          simp only [Act.put, List.setIfInBounds_toArray, List.set_cons_zero, List.set_cons_succ, List.getElem_toArray, List.getElem_cons_zero, List.getElem_cons_succ]
          refine wpAnyH_ready (rs := [18]) (by kernel_rfl) (by simp) (AllReadyH.cons rfl (fun K hK => ?_) AllReadyH.nil)
          go_simp
          go_at_call 31
          refine (implCrash_v d R m t _ (HH.out.after (Below.refl _ _).drew) HDO.out HMX.out HSR.out).mono ?_; rintro r x1 ⟨g1, ca, Bz, rfl, hg1, hrow, hb1⟩
          have HRW := hide hrow
          have HI6 := hide (IN6.out.after ((Below.refl _ _).drew.trans hb1))
          refine hK.out _ _ (hH.trans (hb1.mono hH.size)) (fun hH5 => ?_)
          clear hK K
          try simp only [Act.put, List.setIfInBounds_toArray, List.set_cons_zero, List.set_cons_succ]
          refine wpAnyH_ready (rs := [19]) (by kernel_rfl) (by simp) (AllReadyH.cons rfl (fun K hK => ?_) AllReadyH.nil)
          go_simp
          go_at_call 30
          rw [HEE.out.1, HEE.out.2.1, HEE.out.2.2.1, HEE.out.2.2.2.1]
          refine (pfDisk_0 e.A1 e.A2 (some ⟨g1, 0, none⟩) Bz 64 e.c1 ca 0 0 R d.g _ (by have h := HI6.out.1; rw [HEE.out.1, HEE.out.2.2.2.2] at h; exact h) (HRW.out.rd (by rw [List.length_map, HRL.out])) (by unfold maxLen; omega)).mono ?_; rintro r x2 ⟨rfl, hb2⟩
          refine hK.out _ _ (hH5.trans (hb2.mono hH5.size)) (fun hH6 => ?_)
          clear hK K
          try simp only [Act.put, List.setIfInBounds_toArray, List.set_cons_zero, List.set_cons_succ]
          refine wpAnyH_take (i := 20) (v := ?_) rfl (by kernel_rfl) (by kernel_rfl) (by kernel_rfl) (fun _ _ _ h => h) (Or.inl ⟨by rfl, fun wS hS => ?_⟩) hH6 ?_
          rotate_left
          · have s3 := (hS.cell (p := ⟨w1.heap.size, 0, none⟩) HG3.out).trans K3c.out.c1; have s4 := (hS.cell (p := ⟨w2.heap.size, 0, none⟩) HG4.out).trans K4c.out.c1; have c0 := (hS.cell (p := ⟨b, o + k * 3, none⟩) HB0.out).trans C0.out; have c1 := (hS.cell (p := ⟨b, o + k * 3 + 1, none⟩) HB0.out).trans C1.out; have c2 := (hS.cell (p := ⟨b, o + k * 3 + 2, none⟩) HB0.out).trans C2.out; have d0 := (hS.cell (p := ⟨b', o' + k * 3, none⟩) HB1.out).trans D0.out; have d1 := (hS.cell (p := ⟨b', o' + k * 3 + 1, none⟩) HB1.out).trans D1.out; have d2 := (hS.cell (p := ⟨b', o' + k * 3 + 2, none⟩) HB1.out).trans D2.out; have m0 := (hS.cell (p := ⟨gm, om + k, none⟩) HGM.out).trans HMC.out; have t0 := (hS.cell (p := ⟨gt, ot + k, none⟩) HGT.out).trans HTC.out; go_simp; try exact rfl
          simp only [Act.put, List.setIfInBounds_toArray, List.set_cons_zero, List.set_cons_succ, List.getElem_toArray, List.getElem_cons_zero, List.getElem_cons_succ]
          refine wpAnyH_done (by kernel_rfl) ?_ _
          go_wp2_with fail
          go_roundw
          case rel => exact ⟨k + 1, by omega, hide (HW.out.trans (hH6.mono HW.out.size)), int_eq (by omega)⟩
          case measure => simp [intOf]; omega
        · go_wp2_with fail
          refine (implRaidOk_v (A := A6) (n := 3) (c := c6) HCA.out.1 _ (HO6w.out.rin.after HW.out) (by unfold maxLen; omega)).mono ?_; rintro r w5 ⟨rfl, hb⟩
          go_wp2_with fail
          go_ret
          exact ⟨rfl, HBW.out.trans ((HW.out.trans (hb.mono HW.out.size)).mono HBW.out.size)⟩
end Go.Proofs.Ytcaoekaephnimaa
