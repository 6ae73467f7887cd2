/- RaidCrash of the reference. -/
import Derived.Test.YtcaoekaephnimaaQU
import Derived.Test.YtcaoekaephnimaaDiskCl
import Derived.Test.YtcaoekaephnimaaQA
namespace Go.Proofs.Ytcaoekaephnimaa
open Go.RowKit
set_option linter.unusedVariables false
set_option maxRecDepth 100000

/-- a disk behind a power failure -/
def crV (ms ts : List Int) (k : Nat) (v : DVal) : DVal := (settleT (crashF (ms.getD k 0).toNat (ts.getD k 0)) 0 v.2.1 v.1, [], v.2.2)
def crOk (ds : List DV) (ms ts : List Int) : Bool := raidOk ds && (decide (ms.length = 3) && (decide (ts.length = 3) && ms.all fun m => decide (0 ≤ m)))
theorem crOk_bad {ds : List DV} {ms ts : List Int} (h : raidOk ds = false) : crOk ds ms ts = false := by unfold crOk; rw [h]; rfl
theorem crOk_m {ds : List DV} {ms ts : List Int} (h : ms.length ≠ 3) : crOk ds ms ts = false := by unfold crOk; rw [decide_eq_false h]; simp
theorem crOk_t {ds : List DV} {ms ts : List Int} (h : ts.length ≠ 3) : crOk ds ms ts = false := by unfold crOk; rw [decide_eq_false h]; simp
theorem crOk_neg {ds : List DV} {ms ts : List Int} {k : Nat} {m : Int} (hm : ms[k]? = some m) (h : m < 0) : crOk ds ms ts = false := by
  unfold crOk
  rw [show (ms.all fun m => decide (0 ≤ m)) = false from List.all_eq_false.2 ⟨m, List.mem_of_getElem? hm, by simp; omega⟩]
  simp
theorem crOk_true {ds : List DV} {ms ts : List Int} (h : crOk ds ms ts = true) : raidOk ds = true ∧ ms.length = 3 ∧ ts.length = 3 ∧ ∀ m ∈ ms, 0 ≤ m := by
  unfold crOk at h
  simp only [Bool.and_eq_true, decide_eq_true_eq] at h
  exact ⟨h.1, h.2.1, h.2.2.1, fun m hm => by simpa using List.all_eq_true.1 h.2.2.2 m hm⟩
/-- what a round reads -/
structure KM (x : World) (bx : Nat) (V : Value) (pm pt : Addr) (m t : Int) : Prop where
  k : Bk x bx 24 #[V]
  lm : pm.block < x.heap.size
  lt : pt.block < x.heap.size
  cm : x.cell? pm = some (.int .i64 m)
  ct : x.cell? pt = some (.int .i64 t)
theorem KM.fr {S : Nat → Prop} {x y : World} {bx : Nat} {V : Value} {pm pt : Addr} {m t : Int} (h : KM x bx V pm pt m t) (hf : Fr S x y) (h1 : ¬ S bx) (h2 : ¬ S pm.block) (h3 : ¬ S pt.block) : KM y bx V pm pt m t :=
  ⟨h.k.fr hf h1, Nat.lt_of_lt_of_le h.lm hf.size, Nat.lt_of_lt_of_le h.lt hf.size, (hf.cell_ h.lm h2).trans h.cm, (hf.cell_ h.lt h3).trans h.ct⟩
set_option maxHeartbeats 4000000 in
theorem specRaidCrash_no (A : Option Addr) (n c : Nat) (ds : List DV) (Am : Option Addr) (nm cm : Nat) (ms : List Int) (At : Option Addr) (nt ct : Nat) (ts : List Int) (w : World) (h : RIn w A n ds) (hm : n ≤ maxLen) (hMM : Rd w 1 Am nm (ms.map (Value.int .i64))) (hTT : Rd w 1 At nt (ts.map (Value.int .i64))) (hno : crOk ds ms ts = false) :
    Calls Try.prog 21 #[.agg #[.slice A n c], .slice Am nm cm, .slice At nt ct] w (RaidP [] w) := by
  have hb : Below w.heap.size w ((w.alloc (.cells #[.slice A n c] 24)).alloc (.cells #[.slice none 0 0] 24)) := ((Below.refl _ _).alloc (Nat.le_refl _) _).alloc (by simp) _
  have K1 := hide ((Bk.fresh w 24 #[.slice A n c]).alloc (.cells #[.slice none 0 0] 24))
  have K2 := hide (show Bk ((w.alloc (.cells #[.slice A n c] 24)).alloc (.cells #[.slice none 0 0] 24)) (w.heap.size + 1) 24 #[.slice none 0 0] by
    have h := Bk.fresh (w.alloc (.cells #[.slice A n c] 24)) 24 #[.slice none 0 0]
    rw [show (w.alloc (.cells #[.slice A n c] 24)).heap.size = w.heap.size + 1 by simp] at h
    exact h)
  have H := hide (h.after hb)
  have HMM := hide (hMM.after hb)
  have HTT := hide (hTT.after hb)
  have HB := hide hb
  have HM := hide hm
  have HLN := hide h.len
  have HLM := hide (show ms.length = nm by have := hMM.len; simpa using this)
  have HLT := hide (show ts.length = nt by have := hTT.len; simpa using this)
  have HNO := hide hno
  obtain ⟨v, hv⟩ : ∃ v, raidOk ds = v := ⟨_, rfl⟩
  have HV := hide hv
  clear h hMM hTT hb hm hno
  go_enter Try.func21, Try.ntmps21
  go_wp2_with fail
  refine (specRaidOk_v (A := A) (n := n) (c := c) HV.out _ H.out HM.out).mono ?_; rintro r x1 ⟨rfl, hb1⟩
  have K1 := hide (K1.out.after hb1)
  have K2 := hide (K2.out.after hb1)
  have HMM := hide (HMM.out.after hb1)
  have HTT := hide (HTT.out.after hb1)
  have HB := hide (HB.out.trans (hb1.mono HB.out.size))
  clear hb1
  have u2 := K2.out.c1
  have f2 := K2.out.frozen 0
  cases v
  · go_wp2_with fail
    have KF := K2.out.put 0 (.slice none 0 0)
    have HBF := HB.out.setCell (p := ⟨w.heap.size + 1, 0, none⟩) (by show w.heap.size ≤ w.heap.size + 1; omega) (.slice none 0 0)
    have c0 : (x1.setCell ⟨w.heap.size + 1, 0, none⟩ (.slice none 0 0)).cell? ⟨w.heap.size + 1, 0, none⟩ = some (.slice none 0 0) := KF.cell 0
    refine bodyPost_ret (v := .agg #[.slice none 0 0]) (by simp [results, Try.results21, go_sem, c0]) rfl ?_
    exact ⟨_, [], rfl, ownR_nil _ _, rfl, HBF⟩
  by_cases h3 : nm = 3
  case neg =>
    have b3 : ((nm : Int) != 3) = true := by rw [bne_iff_ne]; omega
    clear h3
    go_wp2_with fail
    have KF := K2.out.put 0 (.slice none 0 0)
    have HBF := HB.out.setCell (p := ⟨w.heap.size + 1, 0, none⟩) (by show w.heap.size ≤ w.heap.size + 1; omega) (.slice none 0 0)
    have c0 : (x1.setCell ⟨w.heap.size + 1, 0, none⟩ (.slice none 0 0)).cell? ⟨w.heap.size + 1, 0, none⟩ = some (.slice none 0 0) := KF.cell 0
    refine bodyPost_ret (v := .agg #[.slice none 0 0]) (by simp [results, Try.results21, go_sem, c0]) rfl ?_
    exact ⟨_, [], rfl, ownR_nil _ _, rfl, HBF⟩
  have b3 : ((nm : Int) != 3) = false := by rw [bne_eq_false_iff_eq]; omega
  by_cases h4 : nt = 3
  case neg =>
    have b4 : ((nt : Int) != 3) = true := by rw [bne_iff_ne]; omega
    clear h3 h4
    go_wp2_with fail
    have KF := K2.out.put 0 (.slice none 0 0)
    have HBF := HB.out.setCell (p := ⟨w.heap.size + 1, 0, none⟩) (by show w.heap.size ≤ w.heap.size + 1; omega) (.slice none 0 0)
    have c0 : (x1.setCell ⟨w.heap.size + 1, 0, none⟩ (.slice none 0 0)).cell? ⟨w.heap.size + 1, 0, none⟩ = some (.slice none 0 0) := KF.cell 0
    refine bodyPost_ret (v := .agg #[.slice none 0 0]) (by simp [results, Try.results21, go_sem, c0]) rfl ?_
    exact ⟨_, [], rfl, ownR_nil _ _, rfl, HBF⟩
  have b4 : ((nt : Int) != 3) = false := by rw [bne_eq_false_iff_eq]; omega
  have HN3 := hide h3
  have HT3 := hide h4
  clear h3 h4
  go_wp2_with fail
  clear b3 b4
  go_loop [7] (fun i => ∃ k : Nat, k ≤ 3 ∧ i = .int .i64 k ∧ Hid (∀ j m, ms[j]? = some m → j < k → 0 ≤ m)) (fun i => 3 - (intOf i).toNat)
  case atStart => exact ⟨0, by omega, rfl, hide (fun j m _ h => absurd h (by omega))⟩
  case round =>
    obtain ⟨k, hk, rfl, HP⟩ := hrel
    by_cases hlt : k < 3
    · have hlt' : (k : Int) < 3 := by omega
      obtain ⟨b, o, z, hAe, hbl, hz, hc⟩ := HMM.out.int_at (k := k) (by have := HN3.out; omega)
      subst hAe
      have HZ := hide hz
      have i0 : (0 : Int) ≤ (k : Int) := by omega
      have i1 : (k : Int) < (nm : Int) := by have := HN3.out; omega
      clear hz hbl
      by_cases hneg : z < 0
      · go_wp2_with fail
        have KF := K2.out.put 0 (.slice none 0 0)
        have HBF := HB.out.setCell (p := ⟨w.heap.size + 1, 0, none⟩) (by show w.heap.size ≤ w.heap.size + 1; omega) (.slice none 0 0)
        have c0 : (x1.setCell ⟨w.heap.size + 1, 0, none⟩ (.slice none 0 0)).cell? ⟨w.heap.size + 1, 0, none⟩ = some (.slice none 0 0) := KF.cell 0
        refine bodyPost_ret (v := .agg #[.slice none 0 0]) (by simp [results, Try.results21, go_sem, c0]) rfl ?_
        exact ⟨_, [], rfl, ownR_nil _ _, rfl, HBF⟩
      · have HP2 := hide (show ∀ j m, ms[j]? = some m → j < k + 1 → 0 ≤ m from fun j m hj hl => by
          by_cases e : j = k
          · subst e
            have := Option.some.inj (hj.symm.trans HZ.out)
            omega
          · exact HP.out j m hj (by omega))
        go_wp2_with fail
        go_round
        case rel => exact ⟨k + 1, by omega, int_eq (by omega), HP2⟩
        case measure => simp [intOf]; omega
    · exfalso
      have e : k = 3 := by omega
      have hall : ∀ m ∈ ms, 0 ≤ m := fun m hm => by
        obtain ⟨j, hj, rfl⟩ := List.getElem_of_mem hm
        exact HP.out j _ (List.getElem?_eq_getElem hj) (by have := HLM.out; have := HN3.out; omega)
      have := HNO.out
      unfold crOk at this
      rw [HV.out, decide_eq_true (by have := HLM.out; have := HN3.out; omega), decide_eq_true (by have := HLT.out; have := HT3.out; omega), List.all_eq_true.2 (fun m hm => decide_eq_true (hall m hm))] at this
      cases this
set_option maxHeartbeats 8000000 in
theorem specRaidCrash_yes (A : Option Addr) (n c : Nat) (ds : List DV) (Am : Option Addr) (nm cm : Nat) (ms : List Int) (At : Option Addr) (nt ct : Nat) (ts : List Int) (w : World) (h : RIn w A n ds) (hm : n ≤ maxLen) (hMM : Rd w 1 Am nm (ms.map (Value.int .i64))) (hTT : Rd w 1 At nt (ts.map (Value.int .i64))) (hyes : crOk ds ms ts = true) (hs : ∀ d ∈ ds, d.Src w) (hr : ∀ m ∈ ms, m ≤ 9223372036854775807) :
    Calls Try.prog 21 #[.agg #[.slice A n c], .slice Am nm cm, .slice At nt ct] w (RaidP ((ds.map DV.val).mapIdx (crV ms ts)) w) := by
  have hb : Below w.heap.size w ((w.alloc (.cells #[.slice A n c] 24)).alloc (.cells #[.slice none 0 0] 24)) := ((Below.refl _ _).alloc (Nat.le_refl _) _).alloc (by simp) _
  have K1 := hide ((Bk.fresh w 24 #[.slice A n c]).alloc (.cells #[.slice none 0 0] 24))
  have K2 := hide (show Bk ((w.alloc (.cells #[.slice A n c] 24)).alloc (.cells #[.slice none 0 0] 24)) (w.heap.size + 1) 24 #[.slice none 0 0] by
    have h := Bk.fresh (w.alloc (.cells #[.slice A n c] 24)) 24 #[.slice none 0 0]
    rw [show (w.alloc (.cells #[.slice A n c] 24)).heap.size = w.heap.size + 1 by simp] at h
    exact h)
  have H := hide (h.after hb)
  have HMM := hide (hMM.after hb)
  have HTT := hide (hTT.after hb)
  have HB := hide hb
  have HM := hide hm
  have HLN := hide h.len
  have HLM := hide (show ms.length = nm by have := hMM.len; simpa using this)
  have HLT := hide (show ts.length = nt by have := hTT.len; simpa using this)
  obtain ⟨hv, hm3, ht3, hpos⟩ := crOk_true hyes
  have HV := hide hv
  obtain ⟨hl3, hoks⟩ := rok_true hv
  have HO := hide hoks
  have HDL := hide hl3
  have HPOS := hide hpos
  have HRG := hide hr
  have HS := hide (fun d hd => (hs d hd).after hb)
  have HN3 := hide (show nm = 3 by have := HLM.out; omega)
  have HT3 := hide (show nt = 3 by have := HLT.out; omega)
  have b3 : ((nm : Int) != 3) = false := by rw [bne_eq_false_iff_eq]; have := HN3.out; omega
  have b4 : ((nt : Int) != 3) = false := by rw [bne_eq_false_iff_eq]; have := HT3.out; omega
  clear h hMM hTT hb hm hyes hv hm3 ht3 hpos hl3 hoks hs hr
  go_enter Try.func21, Try.ntmps21
  go_wp2_with fail
  refine (specRaidOk_v (A := A) (n := n) (c := c) HV.out _ H.out HM.out).mono ?_; rintro r x1 ⟨rfl, hb1⟩
  have K1 := hide (K1.out.after hb1)
  have K2 := hide (K2.out.after hb1)
  have HMM := hide (HMM.out.after hb1)
  have HTT := hide (HTT.out.after hb1)
  have HB := hide (HB.out.trans (hb1.mono HB.out.size))
  have H := hide (H.out.after hb1)
  have HS := hide (fun d hd => (HS.out d hd).after hb1)
  clear hb1
  go_wp2_with fail
  clear b3 b4
  go_loop [7] (fun i => ∃ k : Nat, k ≤ 3 ∧ i = .int .i64 k) (fun i => 3 - (intOf i).toNat)
  case atStart => exact ⟨0, by omega, rfl⟩
  case round =>
    obtain ⟨k, hk, rfl⟩ := hrel
    by_cases hlt : k < 3
    · have hlt' : (k : Int) < 3 := by omega
      obtain ⟨b, o, z, hAe, hbl, hz, hc⟩ := HMM.out.int_at (k := k) (by have := HN3.out; omega)
      subst hAe
      have i0 : (0 : Int) ≤ (k : Int) := by omega
      have i1 : (k : Int) < (nm : Int) := by have := HN3.out; omega
      have hneg : ¬ z < 0 := by have := HPOS.out z (List.mem_of_getElem? hz); omega
      clear hz hbl
      go_wp2_with fail
      go_round
      case rel => exact ⟨k + 1, by omega, int_eq (by omega)⟩
      case measure => simp [intOf]; omega
    · have hge : ¬ (k : Int) < 3 := by omega
      have t1 := K1.out.c1
      clear hlt
      go_wp2_with fail
      refine (l4Copy_any A n c ds _ H.out HS.out (by have := HLN.out; have := HDL.out; omega)).mono ?_; rintro r x2 ⟨V, es', rfl, hcop, hvl', hb2⟩
      have hel : es'.length = ds.length := by have := congrArg List.length hvl'; simpa using this
      obtain ⟨g, ca, cs, rfl, hpl, hcz, hcc, hcm, hgb⟩ := hcop.pl (by have := HDL.out; omega)
      obtain ⟨N, hN⟩ : ∃ N, N = es'.length := ⟨_, rfl⟩
      have HL3 := hide (show N = 3 by rw [hN, hel]; exact HDL.out)
      rw [← hN] at hpl hcc
      rw [← hN]
      have hb3 := bel1 x2 (.cells #[.slice (some ⟨g, 0, none⟩) N ca] 24)
      have hcop := hcop.after hb3
      have K2 := hide ((K2.out.after hb2).after hb3)
      have K8 := hide (Bk.fresh x2 24 #[.slice (some ⟨g, 0, none⟩) N ca])
      have HP := hide (hpl.after hb3)
      have HZ := hide hcz
      have HCC := hide hcc
      have HCM := hide hcm
      have HGB := hide hgb
      have HEO := hide (rok_val' hvl' HO.out)
      have HVL' := hide hvl'
      have HC := hide (hb2.trans (hb3.mono hb2.size))
      have HA := hide hcop.apart
      have HNL := hide hN.symm
      have HD := hide (show PlD x1.heap.size (x2.alloc (.cells #[.slice (some ⟨g, 0, none⟩) N ca] 24)) (crV ms ts) es' es' 0 from fun j d hd => ⟨d, hd, rfl, fun q => absurd q (by omega), fun _ => ⟨rfl, hcop.each d (List.mem_of_getElem? hd)⟩⟩)
      clear hb2 hb3 hcop hpl hcz hcc hcm hgb hvl' hel hN t1
      go_wp2_with fail
      go_loopw [9] (fun i wr => ∃ (k : Nat) (cs : Array Value) (es : List DV), k ≤ 3 ∧ i = .int .i64 k ∧ Hid (Bk wr x2.heap.size 24 #[.slice (some ⟨g, 0, none⟩) N ca]) ∧ Hid (Bk wr (w.heap.size + 1) 24 #[.slice none 0 0]) ∧ Hid (PlS wr g cs N es) ∧ Hid (PlD x1.heap.size wr (crV ms ts) es' es k) ∧ Hid (cs.size = ca * 3) ∧ Hid (Below x1.heap.size x1 wr)) (fun i _ => 3 - (intOf i).toNat)
      case atStart => exact ⟨0, cs, es', by omega, rfl, K8, K2, HP, HD, HZ, HC⟩
      case round =>
        clear K8 K2 HP HD HZ HC
        obtain ⟨k, cs, es, hk, rfl, K8, K2, HP, HD, HZ, HC⟩ := hrel
        have t0 := K8.out.cell 0
        by_cases hlt : k < 3
        · have hlt' : (k : Int) < 3 := by omega
          have i0 : (0 : Int) ≤ (k : Int) := by omega
          have i1 : (k : Int) < (N : Int) := by have := HL3.out; omega
          have i2 : (k : Int) < (nm : Int) := by have := HN3.out; omega
          have i3 : (k : Int) < (nt : Int) := by have := HT3.out; omega
          have hkd : k < es'.length := by rw [HNL.out, HL3.out]; exact hlt
          obtain ⟨d, hdk⟩ : ∃ d, es'[k]? = some d := ⟨es'[k]'hkd, List.getElem?_eq_getElem hkd⟩
          have hb := (Below.refl wr.heap.size wr).drew
          have HBS := hide HC.out.size
          have K2 := hide (K2.out.after hb)
          have HP := hide (HP.out.after hb)
          have HD := hide (HD.out.after hb)
          have HC := hide (HC.out.trans (hb.mono HBS.out))
          obtain ⟨bm, om, z, hAe, hbm, hz, hcm⟩ := (HMM.out.after HC.out).int_at (k := k) (by have := HN3.out; omega)
          have lm : bm < x1.heap.size := by
            obtain ⟨b', o', z', e', hl', _⟩ := HMM.out.int_at (k := k) (by have := HN3.out; omega)
            rw [hAe] at e'; injection e' with e'; injection e' with e' _ _; omega
          obtain ⟨m, hmz⟩ : ∃ m : Nat, z = (m : Int) := ⟨z.toNat, by have := HPOS.out z (List.mem_of_getElem? hz); omega⟩
          have hml : m < 9223372036854775808 := by have := HRG.out z (List.mem_of_getElem? hz); omega
          subst hmz
          obtain ⟨bt, ot, t, hAt, hbt, htz, hct⟩ := (HTT.out.after HC.out).int_at (k := k) (by have := HT3.out; omega)
          have lt : bt < x1.heap.size := by
            obtain ⟨b', o', z', e', hl', _⟩ := HTT.out.int_at (k := k) (by have := HT3.out; omega)
            rw [hAt] at e'; injection e' with e'; injection e' with e' _ _; omega
          have HMV := hide (show (ms.getD k 0).toNat = m by rw [List.getD_eq_getElem?_getD, hz]; simp)
          have HTV := hide (show ts.getD k 0 = t by rw [List.getD_eq_getElem?_getD, htz]; simp)
          have HML := hide hml
          obtain ⟨e, q1, q2, q3, q4⟩ := HD.out k d hdk
          obtain ⟨q5, hmd⟩ := q4 (Nat.le_refl _)
          have q6 := q5.symm
          clear q5
          subst q6
          have hok := ok_parts (HEO.out d (List.mem_of_getElem? hdk))
          have HEK := hide q1
          have HDK := hide hdk
          have HA1 := hide hmd.a1
          have HA2 := hide hmd.a2
          have HN1 := hide (show d.n1 = 64 by rw [← hmd.l1]; exact hok.1)
          have HR1 := hide hmd.r1
          have HR2 := hide (show Rd wr.drew 2 (some ⟨d.b2, 0, none⟩) d.n2 (waitCells d.z2) from hmd.r2.rd (by rw [waitCells_len, hmd.l2]))
          have HM2 := hide hmd.m2
          have HL1 := hide hok.1
          have HOK := hide hok.2.1
          have HSZ := hide hok.2.2
          have HBB := hide hmd.base
          obtain ⟨y1, hRB, _⟩ := hmd.r1
          obtain ⟨y2, hRB2, _⟩ := hmd.r2
          have HNE := hide (hRB2.ne_type hRB (by decide))
          have HP0 := hide HP.out.1
          have HGN := hide (hRB.ne_type HP.out.1 (by decide))
          have HXB := hide (show ¬ (g = d.b) from fun e => HGN.out e.symm)
          have HX0 := hide (show ¬ (x2.heap.size = d.b) from (K8.out.drewN 1).ne_type hRB (by decide))
          have HX1 := hide (show ¬ (w.heap.size + 1 = d.b) from K2.out.ne_type hRB (by decide))
          have HXG := hide (show ¬ (x2.heap.size = g) from (K8.out.drewN 1).ne_type HP.out.1 (by decide))
          have HXH := hide (show ¬ (w.heap.size + 1 = g) from K2.out.ne_type HP.out.1 (by decide))
          have HXM := hide (show ¬ (bm = d.b) by have := HBB.out; omega)
          have HXT := hide (show ¬ (bt = d.b) by have := HBB.out; omega)
          have HXGM := hide (show ¬ (bm = g) by have := HGB.out; omega)
          have HXGT := hide (show ¬ (bt = g) by have := HGB.out; omega)
          subst hAe
          subst hAt
          obtain ⟨R, hR⟩ : ∃ R, settleT (crashF m t) 0 d.z2 d.z1 = R := ⟨_, rfl⟩
          have HSR := hide hR
          have HRL := hide (show R.length = 64 by rw [← hR, settle_len]; exact hok.1)
          have HH0 := hide (show KM wr.drew x2.heap.size (.slice (some ⟨g, 0, none⟩) N ca) ⟨bm, om + k, none⟩ ⟨bt, ot + k, none⟩ m t from ⟨K8.out, hbm, hbt, hcm, hct⟩)
          clear hb q1 q2 q3 q4 hmd hok hdk hkd hR hRB hRB2 hz htz hbm hbt hcm hct lm lt hml
          go_upto_region 12 with fail
          clear t0
          refine wp_region_held_drew (S := fun x => KM x x2.heap.size (.slice (some ⟨g, 0, none⟩) N ca) ⟨bm, om + k, none⟩ ⟨bt, ot + k, none⟩ m t) (by kernel_rfl) (HH0.out) (fun hH0 => ?_)
          refine wpAnyH_take (i := 0) (v := ?_) rfl (by kernel_rfl) (by kernel_rfl) (by kernel_rfl) (fun _ _ _ h => h) (Or.inl ⟨by rfl, fun wS hS => ?_⟩) hH0 ?_
          rotate_left
          · have s0 := (KM.k hS).c1; have s1 := KM.cm hS; have s2 := KM.ct hS; go_simp; try exact rfl
          simp only [Act.put, List.setIfInBounds_toArray, List.set_cons_zero, List.set_cons_succ, List.getElem_toArray, List.getElem_cons_zero]
          refine wpAnyH_take (i := 1) (v := ?_) rfl (by kernel_rfl) (by kernel_rfl) (by kernel_rfl) (fun _ _ _ h => h) (Or.inl ⟨by rfl, fun wS hS => ?_⟩) hH0 ?_
          rotate_left
          · have s0 := (KM.k hS).c1; have s1 := KM.cm hS; have s2 := KM.ct hS; go_simp; try exact rfl
          simp only [Act.put, List.setIfInBounds_toArray, List.set_cons_zero, List.set_cons_succ, List.getElem_toArray, List.getElem_cons_zero, List.getElem_cons_succ]
          refine wpAnyH_take (i := 2) (v := ?_) rfl (by kernel_rfl) (by kernel_rfl) (by kernel_rfl) (fun _ _ _ h => h) (Or.inl ⟨by rfl, fun wS hS => ?_⟩) hH0 ?_
          rotate_left
          · have s0 := (KM.k hS).c1; have s1 := KM.cm hS; have s2 := KM.ct hS; go_simp; try exact rfl
          simp only [Act.put, List.setIfInBounds_toArray, List.set_cons_zero, List.set_cons_succ, List.getElem_toArray, List.getElem_cons_zero, List.getElem_cons_succ]
          refine wpAnyH_take (i := 3) (v := ?_) rfl (by kernel_rfl) (by kernel_rfl) (by kernel_rfl) (fun _ _ _ h => h) (Or.inl ⟨by rfl, fun wS hS => ?_⟩) hH0 ?_
          rotate_left
          · have s0 := (KM.k hS).c1; have s1 := KM.cm hS; have s2 := KM.ct hS; go_simp; try exact rfl
          simp only [Act.put, List.setIfInBounds_toArray, List.set_cons_zero, List.set_cons_succ, List.getElem_toArray, List.getElem_cons_zero, List.getElem_cons_succ]
          refine wpAnyH_take (i := 4) (v := ?_) rfl (by kernel_rfl) (by kernel_rfl) (by kernel_rfl) (fun _ _ _ h => h) (Or.inl ⟨by rfl, fun wS hS => ?_⟩) hH0 ?_
          rotate_left
          · have s0 := (KM.k hS).c1; have s1 := KM.cm hS; have s2 := KM.ct hS; go_simp; try exact rfl
          simp only [Act.put, List.setIfInBounds_toArray, List.set_cons_zero, List.set_cons_succ, List.getElem_toArray, List.getElem_cons_zero, List.getElem_cons_succ]
          refine wpAnyH_take (i := 5) (v := ?_) rfl (by kernel_rfl) (by kernel_rfl) (by kernel_rfl) (fun _ _ _ h => h) (Or.inl ⟨by rfl, fun wS hS => ?_⟩) hH0 ?_
          rotate_left
          · have s0 := (KM.k hS).c1; have s1 := KM.cm hS; have s2 := KM.ct hS; go_simp; try exact rfl
          simp only [Act.put, List.setIfInBounds_toArray, List.set_cons_zero, List.set_cons_succ, List.getElem_toArray, List.getElem_cons_zero, List.getElem_cons_succ]
          refine wpAnyH_take (i := 6) (v := ?_) rfl (by kernel_rfl) (by kernel_rfl) (by kernel_rfl) (fun _ _ _ h => h) (Or.inl ⟨by rfl, fun wS hS => ?_⟩) hH0 ?_
          rotate_left
          · have s0 := (KM.k hS).c1; have s1 := KM.cm hS; have s2 := KM.ct hS; go_simp; try exact rfl
          simp only [Act.put, List.setIfInBounds_toArray, List.set_cons_zero, List.set_cons_succ, List.getElem_toArray, List.getElem_cons_zero, List.getElem_cons_succ]
          refine wpAnyH_take (i := 8) (v := ?_) rfl (by kernel_rfl) (by kernel_rfl) (by kernel_rfl) (fun _ _ _ h => h) (Or.inl ⟨by rfl, fun wS hS => ?_⟩) hH0 ?_
          rotate_left
          · have s0 := (KM.k hS).c1; have s1 := KM.cm hS; have s2 := KM.ct hS; go_simp; try exact rfl
          simp only [Act.put, List.setIfInBounds_toArray, List.set_cons_zero, List.set_cons_succ, List.getElem_toArray, List.getElem_cons_zero, List.getElem_cons_succ]
          refine wpAnyH_take (i := 9) (v := ?_) rfl (by kernel_rfl) (by kernel_rfl) (by kernel_rfl) (fun _ _ _ h => h) (Or.inl ⟨by rfl, fun wS hS => ?_⟩) hH0 ?_
          rotate_left
          · have s0 := (KM.k hS).c1; have s1 := KM.cm hS; have s2 := KM.ct hS; go_simp; try exact rfl
          simp only [Act.put, List.setIfInBounds_toArray, List.set_cons_zero, List.set_cons_succ, List.getElem_toArray, List.getElem_cons_zero, List.getElem_cons_succ]
          refine wpAnyH_take (i := 10) (v := ?_) rfl (by kernel_rfl) (by kernel_rfl) (by kernel_rfl) (fun _ _ _ h => h) (Or.inl ⟨by rfl, fun wS hS => ?_⟩) hH0 ?_
          rotate_left
          · have s0 := (KM.k hS).c1; have s1 := KM.cm hS; have s2 := KM.ct hS; go_simp; try exact rfl
          simp only [Act.put, List.setIfInBounds_toArray, List.set_cons_zero, List.set_cons_succ, List.getElem_toArray, List.getElem_cons_zero, List.getElem_cons_succ]
          refine wpAnyH_take (i := 11) (v := ?_) rfl (by kernel_rfl) (by kernel_rfl) (by kernel_rfl) (fun _ _ _ h => h) (Or.inl ⟨by rfl, fun wS hS => ?_⟩) hH0 ?_
          rotate_left
          · have s0 := (KM.k hS).c1; have s1 := KM.cm hS; have s2 := KM.ct hS; go_simp; try exact rfl
          simp only [Act.put, List.setIfInBounds_toArray, List.set_cons_zero, List.set_cons_succ, List.getElem_toArray, List.getElem_cons_zero, List.getElem_cons_succ]
          refine wpAnyH_take (i := 12) (v := ?_) rfl (by kernel_rfl) (by kernel_rfl) (by kernel_rfl) (fun _ _ _ h => h) (Or.inl ⟨by rfl, fun wS hS => ?_⟩) hH0 ?_
          rotate_left
          · have s0 := (KM.k hS).c1; have s1 := KM.cm hS; have s2 := KM.ct hS; go_simp; try exact rfl
          simp only [Act.put, List.setIfInBounds_toArray, List.set_cons_zero, List.set_cons_succ, List.getElem_toArray, List.getElem_cons_zero, List.getElem_cons_succ]
          refine wpAnyH_take (i := 13) (v := ?_) rfl (by kernel_rfl) (by kernel_rfl) (by kernel_rfl) (fun _ _ _ h => h) (Or.inl ⟨by rfl, fun wS hS => ?_⟩) hH0 ?_
          rotate_left
          · have s0 := (KM.k hS).c1; have s1 := KM.cm hS; have s2 := KM.ct hS; go_simp; try exact rfl
          simp only [Act.put, List.setIfInBounds_toArray, List.set_cons_zero, List.set_cons_succ, List.getElem_toArray, List.getElem_cons_zero, List.getElem_cons_succ]
          refine wpAnyH_take (i := 14) (v := ?_) rfl (by kernel_rfl) (by kernel_rfl) (by kernel_rfl) (fun _ _ _ h => h) (Or.inl ⟨by rfl, fun wS hS => ?_⟩) hH0 ?_
          rotate_left
          · have s0 := (KM.k hS).c1; have s1 := KM.cm hS; have s2 := KM.ct hS; go_simp; try exact rfl
          simp only [Act.put, List.setIfInBounds_toArray, List.set_cons_zero, List.set_cons_succ, List.getElem_toArray, List.getElem_cons_zero, List.getElem_cons_succ]
          refine wpAnyH_take (i := 15) (v := ?_) rfl (by kernel_rfl) (by kernel_rfl) (by kernel_rfl) (fun _ _ _ h => h) (Or.inl ⟨by rfl, fun wS hS => ?_⟩) hH0 ?_
          rotate_left
          · have s0 := (KM.k hS).c1; have s1 := KM.cm hS; have s2 := KM.ct hS; go_simp; try exact rfl
          simp only [Act.put, List.setIfInBounds_toArray, List.set_cons_zero, List.set_cons_succ, List.getElem_toArray, List.getElem_cons_zero, List.getElem_cons_succ]
          refine wpAnyH_ready (rs := [7]) (by kernel_rfl) (by simp) (AllReadyH.cons rfl (fun K hK => ?_) (AllReadyH.nil))
          obtain ⟨s0, s1, s2⟩ := HP.out.at_ HEK.out
          rw [HA1.out, HN1.out] at s0
          rw [HA2.out] at s1
          go_simp
          refine hK.out _ _ (hH0) (fun hH1 => ?_)
          clear hK K
          try simp only [Act.put]
          clear s0 s1 s2
          refine wpAnyH_ready (rs := [16]) (by kernel_rfl) (by simp) (AllReadyH.cons rfl (fun K hK => ?_) (AllReadyH.nil))
          go_simp
          go_at_call 48
          refine (l3Crash_any d.b d.c1 d.b2 0 d.n2 d.c2 d.z1 R d.z2 d.g m t _ HR1.out HL1.out HR2.out HM2.out HNE.out HOK.out HSR.out HSZ.out HML.out).mono ?_; rintro r x3 ⟨B2, rfl, hr1, hf⟩
          have K2 := hide (K2.out.fr hf HX1.out)
          have HP := hide (HP.out.fr hf HXB.out)
          have HFR := hide hf
          have HRN := hide hr1
          refine hK.out _ _ (hH1.fr hf HX0.out HXM.out HXT.out) (fun hH2 => ?_)
          clear hK K
          try simp only [Act.put]
          clear hr1 hf
          refine wpAnyH_take (i := 17) (v := ?_) rfl (by kernel_rfl) (by kernel_rfl) (by kernel_rfl) (fun _ _ _ h => h) (Or.inl ⟨by rfl, fun wS hS => ?_⟩) hH2 ?_
          rotate_left
          · have s0 := (KM.k hS).c1; have s1 := KM.cm hS; have s2 := KM.ct hS; go_simp; try exact rfl
          simp only [Act.put, List.setIfInBounds_toArray, List.set_cons_zero, List.set_cons_succ, List.getElem_toArray, List.getElem_cons_zero, List.getElem_cons_succ]
          refine wpAnyH_ready (rs := [18]) (by kernel_rfl) (by simp) (AllReadyH.cons rfl (fun K hK => ?_) (AllReadyH.nil))
          obtain ⟨s0, s1, s2⟩ := HP.out.at_ HEK.out
          have f0 := HP.out.1.frozen (k * 3)
          have f1 := HP.out.1.frozen (k * 3 + 1)
          have f2 := HP.out.1.frozen (k * 3 + 2)
          go_simp
          refine hK.out _ _ (hH2.fr ((((Fr.refl (fun i => i = g) _).setCell (p := ⟨g, k * 3, none⟩) (.inl rfl) (.slice (some ⟨d.b, 0, none⟩) 64 d.c1)).setCell (p := ⟨g, k * 3 + 1, none⟩) (.inl rfl) (.slice B2 0 0)).setCell (p := ⟨g, k * 3 + 2, none⟩) (.inl rfl) (.bool d.g)) HXG.out HXGM.out HXGT.out) (fun hH3 => ?_)
          clear hK K
          try simp only [Act.put]
          clear s0 s1 s2 f0 f1 f2
          refine wpAnyH_done (by kernel_rfl) ?_ _
          have W3 := hide ((((Fr.refl (fun i => i = g) x3).setCell (p := ⟨g, k * 3, none⟩) (.inl rfl) (.slice (some ⟨d.b, 0, none⟩) 64 d.c1)).setCell (p := ⟨g, k * 3 + 1, none⟩) (.inl rfl) (.slice B2 0 0)).setCell (p := ⟨g, k * 3 + 2, none⟩) (.inl rfl) (.bool d.g))
          have K8 := hide ((hH3).k)
          have K2 := hide (K2.out.fr W3.out HXH.out)
          have HFA := hide (show Fr (fun i => i = d.b ∨ i = g) wr.drew (((x3.setCell ⟨g, k * 3, none⟩ (.slice (some ⟨d.b, 0, none⟩) 64 d.c1)).setCell ⟨g, k * 3 + 1, none⟩ (.slice B2 0 0)).setCell ⟨g, k * 3 + 2, none⟩ (.bool d.g)) from (HFR.out.mono (fun i _ e => .inl e)).next W3.out (fun i _ e => .inl (.inr e)))
          have HC := hide (HC.out.trans (HFA.out.below HBS.out (fun i e => Or.elim e (fun e => by rw [e]; exact HBB.out) (fun e => by rw [e]; exact HGB.out))))
          have HO := hide (show (⟨some ⟨d.b, 0, none⟩, 64, d.c1, B2, 0, 0, d.g, R, []⟩ : DV).Own x1.heap.size (((x3.setCell ⟨g, k * 3, none⟩ (.slice (some ⟨d.b, 0, none⟩) 64 d.c1)).setCell ⟨g, k * 3 + 1, none⟩ (.slice B2 0 0)).setCell ⟨g, k * 3 + 2, none⟩ (.bool d.g)) from ⟨rfl, HBB.out, rfl, rfl, rfl, HRL.out, HRN.out.fr W3.out HGN.out, rfl⟩)
          have HD := hide (HD.out.step (e' := (⟨some ⟨d.b, 0, none⟩, 64, d.c1, B2, 0, 0, d.g, R, []⟩ : DV)) HA.out HDK.out HP0.out HFA.out (fun i e => e) rfl HO.out (show (⟨some ⟨d.b, 0, none⟩, 64, d.c1, B2, 0, 0, d.g, R, []⟩ : DV).val = crV ms ts k d.val by show (R, [], d.g) = _; rw [← HSR.out, ← HMV.out, ← HTV.out]; rfl))
          have HP := hide (HP.out.put (show k < N by have := HL3.out; omega) (⟨some ⟨d.b, 0, none⟩, 64, d.c1, B2, 0, 0, d.g, R, []⟩ : DV))
          clear HO HFA W3 HFR HRN HP0
          go_wp2_with fail
          go_roundw
          case rel => exact ⟨k + 1, _, _, by omega, int_eq (by omega), K8, K2, HP, HD, hide (by simp only [Array.size_setIfInBounds]; exact HZ.out), HC⟩
          case measure => simp [intOf]; omega
        · have hkn : k = N := by have := HL3.out; omega
          have hge' : ¬ (k : Int) < 3 := by omega
          have u2 := K2.out.cell 0
          have f2 := K2.out.frozen 0
          have HD := hide (show PlD x1.heap.size wr (crV ms ts) es' es N from hkn ▸ HD.out)
          clear hkn hlt
          go_wp2_with fail
          have KF := K2.out.put 0 (.slice (some ⟨g, 0, none⟩) N ca)
          have c0 : (wr.setCell ⟨w.heap.size + 1, 0, none⟩ (.slice (some ⟨g, 0, none⟩) N ca)).cell? ⟨w.heap.size + 1, 0, none⟩ = some (.slice (some ⟨g, 0, none⟩) N ca) := KF.cell 0
          refine bodyPost_ret (v := .agg #[.slice (some ⟨g, 0, none⟩) N ca]) (by simp [results, Try.results21, go_sem, c0]) rfl ?_
          have h := pl_own HP.out HD.out HNL.out HA.out HGB.out HCC.out HCM.out HZ.out
          refine ⟨_, es, rfl, (h.1.set K2.out).mono HB.out.size, by rw [h.2, HVL'.out], (HB.out.trans (HC.out.mono HB.out.size)).setCell (p := ⟨w.heap.size + 1, 0, none⟩) (by show w.heap.size ≤ w.heap.size + 1; omega) _⟩
end Go.Proofs.Ytcaoekaephnimaa
