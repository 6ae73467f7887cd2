/- RaidCrash of the program. -/
import Derived.Test.YtcaoekaephnimaaRaidEachC
namespace Go.Proofs.Ytcaoekaephnimaa
open Go.RowKit
set_option linter.unusedVariables false
set_option maxRecDepth 100000

set_option maxHeartbeats 2000000 in
theorem minS_any (A : Option Addr) (n c : Nat) (zs : List Int) (w : World) (h : Rd w 1 A n (zs.map (Value.int .i64))) (hn : 0 < n) (hm : n ≤ 1000) :
    Calls Try.prog 49 #[.slice A n c] w fun r w' => (∃ v, r = .returned (.int .i64 v) ∧ (v < 0 ↔ ∃ (j : Nat) (z : Int), zs[j]? = some z ∧ z < 0)) ∧ w = w' := by
  have H := hide h
  have HL := hide (show zs.length = n by have := h.len; simpa using this)
  obtain ⟨b, o, z, e, hb, hz, hc⟩ := h.int_at (k := 0) hn
  subst e
  have HZ := hide hz
  have hc : w.cell? ⟨b, o, none⟩ = some (.int .i64 z) := hc
  have hn1 : ¬ (n : Int) < 1 := by omega
  have hn2 : (0 : Int) < (n : Int) := by omega
  clear h hz
  go_enter Try.func49, Try.ntmps49
  go_wp2_with fail
  clear hc hn1 hn2
  go_loop [3, 4] (fun x i => ∃ (k : Nat) (v : Int), 1 ≤ k ∧ k ≤ n ∧ x = .int .i64 v ∧ i = .int .i64 k ∧ Hid (v < 0 ↔ ∃ (j : Nat) (z : Int), j < k ∧ zs[j]? = some z ∧ z < 0)) (fun _ i => n - (intOf i).toNat)
  case atStart => exact ⟨1, z, by omega, by omega, rfl, rfl, hide ⟨fun h => ⟨0, z, by omega, HZ.out, h⟩, fun ⟨j, y, hj, hy, h⟩ => by
    obtain rfl : j = 0 := by omega
    have := Option.some.inj (hy.symm.trans HZ.out)
    omega⟩⟩
  case round =>
    obtain ⟨k, v, hk1, hk, rfl, rfl, HV⟩ := hrel
    by_cases hlt : k < n
    · obtain ⟨b', o', y, e, hb', hy, hc⟩ := H.out.int_at hlt
      injection e with e
      injection e with e1 e2 _
      subst e1 e2
      have HY := hide hy
      have i0 : (0 : Int) ≤ (k : Int) := by omega
      have i1 : (k : Int) < (n : Int) := by omega
      clear hy
      go_wp2_with fail
      go_round
      case rel =>
        refine ⟨k + 1, min v y, by omega, by omega, ?_, int_eq (by omega), hide ⟨fun h => ?_, fun ⟨j, x, hj, hx, h⟩ => ?_⟩⟩
        · first | rfl | (simp; omega)
        · by_cases hv : v < 0
          · obtain ⟨j, x, hj, hx, h'⟩ := HV.out.1 hv
            exact ⟨j, x, by omega, hx, h'⟩
          · exact ⟨k, y, by omega, HY.out, by omega⟩
        · by_cases e : j = k
          · subst e
            have := Option.some.inj (hx.symm.trans HY.out)
            omega
          · have := HV.out.2 ⟨j, x, by omega, hx, h⟩
            omega
      case measure => simp [intOf]; omega
    · have hge : ¬ (k : Int) < (n : Int) := by omega
      go_wp2_with fail
      go_ret
      refine ⟨⟨v, rfl, HV.out.trans ⟨fun ⟨j, x, _, hx, h⟩ => ⟨j, x, hx, h⟩, fun ⟨j, x, hx, h⟩ => ⟨j, x, ?_, hx, h⟩⟩⟩, rfl⟩
      have := (List.getElem?_eq_some_iff.1 hx).1
      have := HL.out
      omega
set_option maxHeartbeats 4000000 in
theorem implRaidCrash_no (A : Option Addr) (n c : Nat) (ds : List DV) (Am : Option Addr) (nm cm : Nat) (ms : List Int) (At : Option Addr) (nt ct : Nat) (ts : List Int) (w : World) (h : RIn w A n ds) (hm : n ≤ maxLen) (hMM : Rd w 1 Am nm (ms.map (Value.int .i64))) (hTT : Rd w 1 At nt (ts.map (Value.int .i64))) (hno : crOk ds ms ts = false) :
    Calls Try.prog 23 #[.agg #[.slice A n c], .slice Am nm cm, .slice At nt ct] w (RaidP [] w) := by
  obtain ⟨W0, HW0⟩ : ∃ W : World, W = ((((w.alloc (.cells #[.slice A n c] 24)).alloc (.cells #[.slice Am nm cm] 37)).alloc (.cells #[.slice At nt ct] 37)).alloc (.cells #[.slice none 0 0] 24)) := ⟨_, rfl⟩
  have hb : Below w.heap.size w W0 := by rw [HW0]; exact ((((Below.refl _ _).alloc (Nat.le_refl _) _).alloc (by simp) _).alloc (by simp; omega) _).alloc (by simp; omega) _
  have K1 := hide (show Bk W0 w.heap.size 24 #[.slice A n c] by rw [HW0]; exact (((Bk.fresh w 24 #[.slice A n c]).alloc _).alloc _).alloc _)
  have KM := hide (show Bk W0 (w.heap.size + 1) 37 #[.slice Am nm cm] by
    rw [HW0]
    have h := Bk.fresh (w.alloc (.cells #[.slice A n c] 24)) 37 #[.slice Am nm cm]
    rw [show (w.alloc (.cells #[.slice A n c] 24)).heap.size = w.heap.size + 1 by simp] at h
    exact (h.alloc _).alloc _)
  have KT := hide (show Bk W0 (w.heap.size + 1 + 1) 37 #[.slice At nt ct] by
    rw [HW0]
    have h := Bk.fresh ((w.alloc (.cells #[.slice A n c] 24)).alloc (.cells #[.slice Am nm cm] 37)) 37 #[.slice At nt ct]
    rw [show ((w.alloc (.cells #[.slice A n c] 24)).alloc (.cells #[.slice Am nm cm] 37)).heap.size = w.heap.size + 1 + 1 by simp] at h
    exact h.alloc _)
  have K2 := hide (show Bk W0 (w.heap.size + 1 + 1 + 1) 24 #[.slice none 0 0] by
    rw [HW0]
    have h := Bk.fresh (((w.alloc (.cells #[.slice A n c] 24)).alloc (.cells #[.slice Am nm cm] 37)).alloc (.cells #[.slice At nt ct] 37)) 24 #[.slice none 0 0]
    rw [show (((w.alloc (.cells #[.slice A n c] 24)).alloc (.cells #[.slice Am nm cm] 37)).alloc (.cells #[.slice At nt ct] 37)).heap.size = w.heap.size + 1 + 1 + 1 by simp] at h
    exact h)
  have H := hide (h.after hb)
  have HMM := hide (hMM.after hb)
  have HTT := hide (hTT.after hb)
  have HB := hide hb
  have HM := hide hm
  have HLN := hide h.len
  have HLM := hide (show ms.length = nm by have := hMM.len; simpa using this)
  have HLT := hide (show ts.length = nt by have := hTT.len; simpa using this)
  have HNO := hide hno
  obtain ⟨v, hv⟩ : ∃ v, raidOk ds = v := ⟨_, rfl⟩
  have HV := hide hv
  clear h hMM hTT hb hm hno
  go_enter Try.func23, Try.ntmps23
  go_wp2_with fail
  rw [← HW0]
  clear HW0
  refine (implRaidOk_v (A := A) (n := n) (c := c) HV.out _ H.out HM.out).mono ?_; rintro r x1 ⟨rfl, hb1⟩
  have K1 := hide (K1.out.after hb1)
  have KM := hide (KM.out.after hb1)
  have KT := hide (KT.out.after hb1)
  have K2 := hide (K2.out.after hb1)
  have HMM := hide (HMM.out.after hb1)
  have HTT := hide (HTT.out.after hb1)
  have HB := hide (HB.out.trans (hb1.mono HB.out.size))
  clear hb1
  have u2 := K2.out.c1
  have f2 := K2.out.frozen 0
  have u3 := KM.out.c1
  have u4 := KT.out.c1
  cases v
  · go_wp2_with fail
    have KF := K2.out.put 0 (.slice none 0 0)
    have HBF := HB.out.setCell (p := ⟨w.heap.size + 1 + 1 + 1, 0, none⟩) (by show w.heap.size ≤ w.heap.size + 1 + 1 + 1; omega) (.slice none 0 0)
    have c0 : (x1.setCell ⟨w.heap.size + 1 + 1 + 1, 0, none⟩ (.slice none 0 0)).cell? ⟨w.heap.size + 1 + 1 + 1, 0, none⟩ = some (.slice none 0 0) := KF.cell 0
    refine bodyPost_ret (v := .agg #[.slice none 0 0]) (by simp [results, Try.results23, go_sem, c0]) rfl ?_
    exact ⟨_, [], rfl, ownR_nil _ _, rfl, HBF⟩
  by_cases h3 : nm = 3
  case neg =>
    have b3 : ((nm : Int) != 3) = true := by rw [bne_iff_ne]; omega
    clear h3
    go_wp2_with fail
    have KF := K2.out.put 0 (.slice none 0 0)
    have HBF := HB.out.setCell (p := ⟨w.heap.size + 1 + 1 + 1, 0, none⟩) (by show w.heap.size ≤ w.heap.size + 1 + 1 + 1; omega) (.slice none 0 0)
    have c0 : (x1.setCell ⟨w.heap.size + 1 + 1 + 1, 0, none⟩ (.slice none 0 0)).cell? ⟨w.heap.size + 1 + 1 + 1, 0, none⟩ = some (.slice none 0 0) := KF.cell 0
    refine bodyPost_ret (v := .agg #[.slice none 0 0]) (by simp [results, Try.results23, go_sem, c0]) rfl ?_
    exact ⟨_, [], rfl, ownR_nil _ _, rfl, HBF⟩
  have b3 : ((nm : Int) != 3) = false := by rw [bne_eq_false_iff_eq]; omega
  by_cases h4 : nt = 3
  case neg =>
    have b4 : ((nt : Int) != 3) = true := by rw [bne_iff_ne]; omega
    clear h3 h4
    go_wp2_with fail
    have KF := K2.out.put 0 (.slice none 0 0)
    have HBF := HB.out.setCell (p := ⟨w.heap.size + 1 + 1 + 1, 0, none⟩) (by show w.heap.size ≤ w.heap.size + 1 + 1 + 1; omega) (.slice none 0 0)
    have c0 : (x1.setCell ⟨w.heap.size + 1 + 1 + 1, 0, none⟩ (.slice none 0 0)).cell? ⟨w.heap.size + 1 + 1 + 1, 0, none⟩ = some (.slice none 0 0) := KF.cell 0
    refine bodyPost_ret (v := .agg #[.slice none 0 0]) (by simp [results, Try.results23, go_sem, c0]) rfl ?_
    exact ⟨_, [], rfl, ownR_nil _ _, rfl, HBF⟩
  have b4 : ((nt : Int) != 3) = false := by rw [bne_eq_false_iff_eq]; omega
  have HN3 := hide h3
  have HT3 := hide h4
  clear h3 h4
  go_wp2_with fail
  refine (minS_any Am nm cm ms _ HMM.out (by have := HN3.out; omega) (by have := HN3.out; omega)).mono ?_; rintro r x2 ⟨⟨z, rfl, hz⟩, rfl⟩
  have hneg : z < 0 := by
    apply Classical.byContradiction
    intro hn
    have hall : ∀ m ∈ ms, 0 ≤ m := fun m hm => by
      obtain ⟨j, hj, rfl⟩ := List.getElem_of_mem hm
      apply Classical.byContradiction
      intro hq
      exact hn (hz.2 ⟨j, _, List.getElem?_eq_getElem hj, by omega⟩)
    have := HNO.out
    unfold crOk at this
    rw [HV.out, decide_eq_true (by have := HLM.out; have := HN3.out; omega), decide_eq_true (by have := HLT.out; have := HT3.out; omega), List.all_eq_true.2 (fun m hm => decide_eq_true (hall m hm))] at this
    cases this
  clear hz
  go_wp2_with fail
  have KF := K2.out.put 0 (.slice none 0 0)
  have HBF := HB.out.setCell (p := ⟨w.heap.size + 1 + 1 + 1, 0, none⟩) (by show w.heap.size ≤ w.heap.size + 1 + 1 + 1; omega) (.slice none 0 0)
  have c0 : (x1.setCell ⟨w.heap.size + 1 + 1 + 1, 0, none⟩ (.slice none 0 0)).cell? ⟨w.heap.size + 1 + 1 + 1, 0, none⟩ = some (.slice none 0 0) := KF.cell 0
  refine bodyPost_ret (v := .agg #[.slice none 0 0]) (by simp [results, Try.results23, go_sem, c0]) rfl ?_
  exact ⟨_, [], rfl, ownR_nil _ _, rfl, HBF⟩
set_option maxHeartbeats 4000000 in
theorem implRaidCrash_yes (A : Option Addr) (n c : Nat) (ds : List DV) (Am : Option Addr) (nm cm : Nat) (ms : List Int) (At : Option Addr) (nt ct : Nat) (ts : List Int) (w : World) (h : RIn w A n ds) (hm : n ≤ maxLen) (hMM : Rd w 1 Am nm (ms.map (Value.int .i64))) (hTT : Rd w 1 At nt (ts.map (Value.int .i64))) (hyes : crOk ds ms ts = true) (hs : ∀ d ∈ ds, d.Has w) (hr : ∀ m ∈ ms, m ≤ 9223372036854775807) :
    Calls Try.prog 23 #[.agg #[.slice A n c], .slice Am nm cm, .slice At nt ct] w (RaidP ((ds.map DV.val).mapIdx (crV ms ts)) w) := by
  obtain ⟨W0, HW0⟩ : ∃ W : World, W = ((((w.alloc (.cells #[.slice A n c] 24)).alloc (.cells #[.slice Am nm cm] 37)).alloc (.cells #[.slice At nt ct] 37)).alloc (.cells #[.slice none 0 0] 24)) := ⟨_, rfl⟩
  have hb : Below w.heap.size w W0 := by rw [HW0]; exact ((((Below.refl _ _).alloc (Nat.le_refl _) _).alloc (by simp) _).alloc (by simp; omega) _).alloc (by simp; omega) _
  have K1 := hide (show Bk W0 w.heap.size 24 #[.slice A n c] by rw [HW0]; exact (((Bk.fresh w 24 #[.slice A n c]).alloc _).alloc _).alloc _)
  have KM := hide (show Bk W0 (w.heap.size + 1) 37 #[.slice Am nm cm] by
    rw [HW0]
    have h := Bk.fresh (w.alloc (.cells #[.slice A n c] 24)) 37 #[.slice Am nm cm]
    rw [show (w.alloc (.cells #[.slice A n c] 24)).heap.size = w.heap.size + 1 by simp] at h
    exact (h.alloc _).alloc _)
  have KT := hide (show Bk W0 (w.heap.size + 1 + 1) 37 #[.slice At nt ct] by
    rw [HW0]
    have h := Bk.fresh ((w.alloc (.cells #[.slice A n c] 24)).alloc (.cells #[.slice Am nm cm] 37)) 37 #[.slice At nt ct]
    rw [show ((w.alloc (.cells #[.slice A n c] 24)).alloc (.cells #[.slice Am nm cm] 37)).heap.size = w.heap.size + 1 + 1 by simp] at h
    exact h.alloc _)
  have K2 := hide (show Bk W0 (w.heap.size + 1 + 1 + 1) 24 #[.slice none 0 0] by
    rw [HW0]
    have h := Bk.fresh (((w.alloc (.cells #[.slice A n c] 24)).alloc (.cells #[.slice Am nm cm] 37)).alloc (.cells #[.slice At nt ct] 37)) 24 #[.slice none 0 0]
    rw [show (((w.alloc (.cells #[.slice A n c] 24)).alloc (.cells #[.slice Am nm cm] 37)).alloc (.cells #[.slice At nt ct] 37)).heap.size = w.heap.size + 1 + 1 + 1 by simp] at h
    exact h)
  have H := hide (h.after hb)
  have HMM := hide (hMM.after hb)
  have HTT := hide (hTT.after hb)
  have HB := hide hb
  have HM := hide hm
  have HLN := hide h.len
  have HLM := hide (show ms.length = nm by have := hMM.len; simpa using this)
  have HLT := hide (show ts.length = nt by have := hTT.len; simpa using this)
  obtain ⟨hv, hm3, ht3, hpos⟩ := crOk_true hyes
  have HV := hide hv
  obtain ⟨hl3, hoks⟩ := rok_true hv
  have HO := hide hoks
  have HDL := hide hl3
  have HPOS := hide hpos
  have HRG := hide hr
  have HS := hide (fun d hd => (hs d hd).after hb)
  have HN3 := hide (show nm = 3 by have := HLM.out; omega)
  have HT3 := hide (show nt = 3 by have := HLT.out; omega)
  have b3 : ((nm : Int) != 3) = false := by rw [bne_eq_false_iff_eq]; have := HN3.out; omega
  have b4 : ((nt : Int) != 3) = false := by rw [bne_eq_false_iff_eq]; have := HT3.out; omega
  have hn3 : n ≤ 1000 := by have := HLN.out; omega
  clear h hMM hTT hb hm hyes hv hm3 ht3 hpos hl3 hoks hs hr
  go_enter Try.func23, Try.ntmps23
  go_wp2_with fail
  rw [← HW0]
  clear HW0
  refine (implRaidOk_v (A := A) (n := n) (c := c) HV.out _ H.out HM.out).mono ?_; rintro r x1 ⟨rfl, hb1⟩
  have K1 := hide (K1.out.after hb1)
  have KM := hide (KM.out.after hb1)
  have KT := hide (KT.out.after hb1)
  have K2 := hide (K2.out.after hb1)
  have HMM := hide (HMM.out.after hb1)
  have HTT := hide (HTT.out.after hb1)
  have HB := hide (HB.out.trans (hb1.mono HB.out.size))
  have H := hide (H.out.after hb1)
  have HS := hide (fun d hd => (HS.out d hd).after hb1)
  clear hb1
  have u3 := KM.out.c1
  have u4 := KT.out.c1
  go_wp2_with fail
  refine (minS_any Am nm cm ms _ HMM.out (by have := HN3.out; omega) (by have := HN3.out; omega)).mono ?_; rintro r x2 ⟨⟨z, rfl, hz⟩, rfl⟩
  have hneg : ¬ z < 0 := fun h => by
    obtain ⟨j, y, hj, hy⟩ := hz.1 h
    have := HPOS.out y (List.mem_of_getElem? hj)
    omega
  have t1 := K1.out.c1
  clear hz
  go_wp2_with fail
  refine (eachCrash_any A n c ds (w.heap.size + 1) (w.heap.size + 1 + 1) Am At nm cm nt ct ms ts _ H.out (fun d hd => ⟨HO.out d hd, HS.out d hd⟩) KM.out KT.out HMM.out HTT.out (fun k hk => ?_) (fun k hk => ?_) hn3).mono ?_
  · have hk' : k < ms.length := by have := HLM.out; have := HN3.out; have := HLN.out; have := HDL.out; omega
    have hp := HPOS.out ms[k] (List.getElem_mem hk')
    have hr := HRG.out ms[k] (List.getElem_mem hk')
    exact ⟨ms[k].toNat, by rw [List.getElem?_eq_getElem hk']; congr 1; omega, by omega⟩
  · have hk' : k < ts.length := by have := HLT.out; have := HT3.out; have := HLN.out; have := HDL.out; omega
    exact ⟨ts[k], List.getElem?_eq_getElem hk'⟩
  rintro r x2 ⟨V, es, rfl, how, hvl, hb2⟩
  have K2 := hide (K2.out.after hb2)
  have HW := hide (HB.out.trans (hb2.mono HB.out.size))
  have HO := hide (how.mono HB.out.size)
  have HVL := hide hvl
  clear hb2 how hvl
  obtain ⟨A2, c2, rfl⟩ := HO.out.shape
  have K2 := hide (K2.out.alloc (.cells #[.slice A2 es.length c2] 24))
  have HW := hide (HW.out.alloc HW.out.size (.cells #[.slice A2 es.length c2] 24))
  have HO := hide (HO.out.after (bel1 _ (.cells #[.slice A2 es.length c2] 24)))
  have u2 := K2.out.c1
  have f2 := K2.out.frozen 0
  go_wp2_with fail
  have KF := K2.out.put 0 (.slice A2 es.length c2)
  have HBF := HW.out.setCell (p := ⟨w.heap.size + 1 + 1 + 1, 0, none⟩) (by show w.heap.size ≤ w.heap.size + 1 + 1 + 1; omega) (.slice A2 es.length c2)
  have HF := HO.out.set K2.out (v := .slice A2 es.length c2)
  have c0 : ((x2.alloc (.cells #[.slice A2 es.length c2] 24)).setCell ⟨w.heap.size + 1 + 1 + 1, 0, none⟩ (.slice A2 es.length c2)).cell? ⟨w.heap.size + 1 + 1 + 1, 0, none⟩ = some (.slice A2 es.length c2) := KF.cell 0
  refine bodyPost_ret (v := .agg #[.slice A2 es.length c2]) (by simp [results, Try.results23, go_sem, c0]) rfl ?_
  exact ⟨_, es, rfl, HF, HVL.out, HBF⟩
end Go.Proofs.Ytcaoekaephnimaa
