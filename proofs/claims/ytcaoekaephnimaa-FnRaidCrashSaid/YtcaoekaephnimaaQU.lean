/- RaidFlush of the program and of the reference. -/
import Derived.Test.YtcaoekaephnimaaRaidEachF
namespace Go.Proofs.Ytcaoekaephnimaa
open Go.RowKit
set_option linter.unusedVariables false
set_option maxRecDepth 100000

/-- the disks behind a step on all -/
theorem OwnR.mono {B B' : Nat} {w : World} {V : Value} {ds : List DV} (h : OwnR B w V ds) (hB : B' ≤ B) : OwnR B' w V ds := by
  refine ⟨⟨h.own.1, ?_⟩, fun d hd => (h.each d hd).mono hB, h.apart⟩
  rcases h.own.2 with h2 | ⟨g, cap, cur, hv, hg, r⟩
  · exact .inl h2
  · exact .inr ⟨g, cap, cur, hv, Nat.le_trans hB hg, r⟩
def raidV (ok : Bool) (vs : List DVal) : List DVal := if ok then vs else []
def RaidP (vs : List DVal) (w : World) (r : Ending) (w' : World) : Prop := ∃ V es, r = .returned (.agg #[V]) ∧ OwnR w.heap.size w' V es ∧ es.map DV.val = vs ∧ Below w.heap.size w w'
theorem ownR_nil (B : Nat) (w : World) : OwnR B w (.slice none 0 0) [] := ⟨⟨rfl, .inl ⟨rfl, rfl⟩⟩, (fun d hd => by cases hd), List.Pairwise.nil⟩
theorem rok_true {ds : List DV} (h : raidOk ds = true) : ds.length = 3 ∧ ∀ d ∈ ds, d.ok = true := by
  unfold raidOk at h
  simp only [Bool.and_eq_true, decide_eq_true_eq] at h
  exact ⟨h.1, fun d hd => List.all_eq_true.1 h.2 d hd⟩
theorem CopR.pl {B : Nat} {w : World} {V : Value} {ds : List DV} (h : CopR B w V ds) (hn : 0 < ds.length) : ∃ g c cs, V = .slice (some ⟨g, 0, none⟩) ds.length c ∧ PlS w g cs ds.length ds ∧ cs.size = c * 3 ∧ ds.length ≤ c ∧ c ≤ maxLen ∧ B ≤ g := by
  obtain ⟨h1, h2⟩ := h.own
  rcases h2 with ⟨e1, e2⟩ | ⟨g, c, cur, e, hg, hb, hc, hm, hz, hx⟩
  · omega
  · refine ⟨g, c, cur, e, ⟨hb, by omega, rfl, fun j hj => ?_⟩, hz, hc, hm, hg⟩
    rw [← hx, List.getElem?_take_of_lt (by omega), Array.getElem?_toList]
theorem DV.ok_val {d e : DV} (h : e.val = d.val) : e.ok = d.ok := by
  unfold DV.val at h
  injection h with h1 h
  injection h with h2 h3
  unfold DV.ok
  rw [h1, h2, h3]
theorem rok_val' {ds es : List DV} (h : es.map DV.val = ds.map DV.val) (hok : ∀ d ∈ ds, d.ok = true) : ∀ e ∈ es, e.ok = true := fun e he => by
  have h1 : e.val ∈ ds.map DV.val := by rw [← h]; exact List.mem_map_of_mem he
  obtain ⟨d, hd, h2⟩ := List.mem_map.1 h1
  rw [DV.ok_val h2.symm]
  exact hok d hd
set_option maxHeartbeats 4000000 in
theorem implRaidFlush_any (A : Option Addr) (n c : Nat) (ds : List DV) (v : Bool) (hv : raidOk ds = v) (w : World) (h : RIn w A n ds) (hm : n ≤ maxLen) (hs : ∀ d ∈ ds, d.Has w) :
    Calls Try.prog 20 #[.agg #[.slice A n c]] w (RaidP (raidV v ((ds.map DV.val).mapIdx flushV)) w) := by
  have hb : Below w.heap.size w ((w.alloc (.cells #[.slice A n c] 24)).alloc (.cells #[.slice none 0 0] 24)) := ((Below.refl _ _).alloc (Nat.le_refl _) _).alloc (by simp) _
  have K1 := hide ((Bk.fresh w 24 #[.slice A n c]).alloc (.cells #[.slice none 0 0] 24))
  have K2 := hide (show Bk ((w.alloc (.cells #[.slice A n c] 24)).alloc (.cells #[.slice none 0 0] 24)) (w.heap.size + 1) 24 #[.slice none 0 0] by
    have h := Bk.fresh (w.alloc (.cells #[.slice A n c] 24)) 24 #[.slice none 0 0]
    rw [show (w.alloc (.cells #[.slice A n c] 24)).heap.size = w.heap.size + 1 by simp] at h
    exact h)
  have H := hide (h.after hb)
  have HS := hide (fun d hd => (hs d hd).after hb)
  have HB := hide hb
  have HM := hide hm
  have HV := hide hv
  have HLN := hide h.len
  clear h hs hb hm
  go_enter Try.func20, Try.ntmps20
  go_wp2_with fail
  refine (implRaidOk_v (A := A) (n := n) (c := c) HV.out _ H.out HM.out).mono ?_; rintro r x1 ⟨rfl, hb1⟩
  have K1 := hide (K1.out.after hb1)
  have K2 := hide (K2.out.after hb1)
  have H := hide (H.out.after hb1)
  have HS := hide (fun d hd => (HS.out d hd).after hb1)
  have HB := hide (HB.out.trans (hb1.mono HB.out.size))
  clear hb1
  have t1 := K1.out.c1
  have u2 := K2.out.c1
  have f2 := K2.out.frozen 0
  cases v
  · clear hv
    go_wp2_with fail
    have KF := K2.out.put 0 (.slice none 0 0)
    have HBF := HB.out.setCell (p := ⟨w.heap.size + 1, 0, none⟩) (by show w.heap.size ≤ w.heap.size + 1; omega) (.slice none 0 0)
    have c0 : (x1.setCell ⟨w.heap.size + 1, 0, none⟩ (.slice none 0 0)).cell? ⟨w.heap.size + 1, 0, none⟩ = some (.slice none 0 0) := KF.cell 0
    refine bodyPost_ret (v := .agg #[.slice none 0 0]) (by simp [results, Try.results20, go_sem, c0]) rfl ?_
    exact ⟨_, [], rfl, ownR_nil _ _, rfl, HBF⟩
  · have HK1 := hide K2.out.lt
    obtain ⟨hl3, hoks⟩ := rok_true hv
    have HO := hide hoks
    have hn3 : n ≤ 1000 := by have := HLN.out; omega
    have HL3 := hide hl3
    clear hv hoks hl3
    go_wp2_with fail
    refine (eachFlush_any A n c ds _ H.out (fun d hd => ⟨HO.out d hd, HS.out d hd⟩) hn3).mono ?_; rintro r x2 ⟨V, es, rfl, how, hvl, hb2⟩
    have K2 := hide (K2.out.after hb2)
    have HW := hide (HB.out.trans (hb2.mono HB.out.size))
    have HO := hide (how.mono HB.out.size)
    have HVL := hide hvl
    clear hb2 how hvl
    obtain ⟨A2, c2, rfl⟩ := HO.out.shape
    have K2 := hide (K2.out.alloc (.cells #[.slice A2 es.length c2] 24))
    have HW := hide (HW.out.alloc HW.out.size (.cells #[.slice A2 es.length c2] 24))
    have HO := hide (HO.out.after (bel1 _ (.cells #[.slice A2 es.length c2] 24)))
    have u2 := K2.out.c1
    have f2 := K2.out.frozen 0
    go_wp2_with fail
    have KF := K2.out.put 0 (.slice A2 es.length c2)
    have HBF := HW.out.setCell (p := ⟨w.heap.size + 1, 0, none⟩) (by show w.heap.size ≤ w.heap.size + 1; omega) (.slice A2 es.length c2)
    have HF := HO.out.set K2.out (v := .slice A2 es.length c2)
    have c0 : ((x2.alloc (.cells #[.slice A2 es.length c2] 24)).setCell ⟨w.heap.size + 1, 0, none⟩ (.slice A2 es.length c2)).cell? ⟨w.heap.size + 1, 0, none⟩ = some (.slice A2 es.length c2) := KF.cell 0
    refine bodyPost_ret (v := .agg #[.slice A2 es.length c2]) (by simp [results, Try.results20, go_sem, c0]) rfl ?_
    exact ⟨_, es, rfl, HF, HVL.out, HBF⟩
end Go.Proofs.Ytcaoekaephnimaa

/- RaidFlush of the reference. -/
namespace Go.Proofs.Ytcaoekaephnimaa
open Go.RowKit
set_option linter.unusedVariables false
set_option maxRecDepth 100000

set_option maxHeartbeats 4000000 in
theorem specRaidFlush_any (A : Option Addr) (n c : Nat) (ds : List DV) (v : Bool) (hv : raidOk ds = v) (w : World) (h : RIn w A n ds) (hm : n ≤ maxLen) (hs : ∀ d ∈ ds, d.Src w) :
    Calls Try.prog 19 #[.agg #[.slice A n c]] w (RaidP (raidV v ((ds.map DV.val).mapIdx flushV)) w) := by
  have hb : Below w.heap.size w ((w.alloc (.cells #[.slice A n c] 24)).alloc (.cells #[.slice none 0 0] 24)) := ((Below.refl _ _).alloc (Nat.le_refl _) _).alloc (by simp) _
  have K1 := hide ((Bk.fresh w 24 #[.slice A n c]).alloc (.cells #[.slice none 0 0] 24))
  have K2 := hide (show Bk ((w.alloc (.cells #[.slice A n c] 24)).alloc (.cells #[.slice none 0 0] 24)) (w.heap.size + 1) 24 #[.slice none 0 0] by
    have h := Bk.fresh (w.alloc (.cells #[.slice A n c] 24)) 24 #[.slice none 0 0]
    rw [show (w.alloc (.cells #[.slice A n c] 24)).heap.size = w.heap.size + 1 by simp] at h
    exact h)
  have H := hide (h.after hb)
  have HS := hide (fun d hd => (hs d hd).after hb)
  have HB := hide hb
  have HM := hide hm
  have HV := hide hv
  have HLN := hide h.len
  clear h hs hb hm
  go_enter Try.func19, Try.ntmps19
  go_wp2_with fail
  refine (specRaidOk_v (A := A) (n := n) (c := c) HV.out _ H.out HM.out).mono ?_; rintro r x1 ⟨rfl, hb1⟩
  have K1 := hide (K1.out.after hb1)
  have K2 := hide (K2.out.after hb1)
  have H := hide (H.out.after hb1)
  have HS := hide (fun d hd => (HS.out d hd).after hb1)
  have HB := hide (HB.out.trans (hb1.mono HB.out.size))
  clear hb1
  have t1 := K1.out.c1
  have u2 := K2.out.c1
  have f2 := K2.out.frozen 0
  cases v
  · clear hv
    go_wp2_with fail
    have KF := K2.out.put 0 (.slice none 0 0)
    have HBF := HB.out.setCell (p := ⟨w.heap.size + 1, 0, none⟩) (by show w.heap.size ≤ w.heap.size + 1; omega) (.slice none 0 0)
    have c0 : (x1.setCell ⟨w.heap.size + 1, 0, none⟩ (.slice none 0 0)).cell? ⟨w.heap.size + 1, 0, none⟩ = some (.slice none 0 0) := KF.cell 0
    refine bodyPost_ret (v := .agg #[.slice none 0 0]) (by simp [results, Try.results19, go_sem, c0]) rfl ?_
    exact ⟨_, [], rfl, ownR_nil _ _, rfl, HBF⟩
  · have HK1 := hide K2.out.lt
    obtain ⟨hl3, hoks⟩ := rok_true hv
    have HO := hide hoks
    have hn3 : n ≤ 1000 := by have := HLN.out; omega
    have HL3 := hide hl3
    clear hv hoks hl3
    go_wp2_with fail
    refine (l4Copy_any A n c ds _ H.out HS.out hn3).mono ?_; rintro r x2 ⟨V, es', rfl, hcop, hvl', hb2⟩
    have hel : es'.length = ds.length := by have := congrArg List.length hvl'; simpa using this
    obtain ⟨g, ca, cs, rfl, hpl, hcz, hcc, hcm, hgb⟩ := hcop.pl (by have := HL3.out; omega)
    have K2 := hide (K2.out.after hb2)
    have HW := hide (HB.out.trans (hb2.mono HB.out.size))
    have HC := hide hcop
    have HPL := hide hpl
    have HCZ := hide hcz
    have HCC := hide hcc
    have HCM := hide hcm
    have HGB := hide hgb
    have HEO := hide (rok_val' hvl' HO.out)
    have HVL' := hide hvl'
    have HE3 := hide (show es'.length ≤ 1000 by rw [hel]; have := HL3.out; omega)
    have HX := hide hb2.size
    have HLT := hide (show w.heap.size + 1 < x1.heap.size from HK1.out)
    clear hb2 hcop hpl hcz hcc hcm hgb hvl' hel
    go_wp2_with fail
    refine (l4Flush_at x1.heap.size g es'.length ca cs es' _ HPL.out HCZ.out HCC.out HCM.out HGB.out HX.out (fun e he => ⟨HC.out.each e he, HEO.out e he⟩) HC.out.apart HE3.out).mono ?_; rintro r x3 ⟨es, rfl, how, hvl, hb3⟩
    have K2 := hide (K2.out.below hb3 HLT.out)
    have HW := hide (HW.out.trans (hb3.mono HB.out.size))
    have HO := hide (how.mono HB.out.size)
    have HVL := hide (show es.map DV.val = _ by rw [hvl, HVL'.out])
    clear hb3 how hvl
    have u2 := K2.out.c1
    have f2 := K2.out.frozen 0
    go_wp2_with fail
    have KF := K2.out.put 0 (.slice (some ⟨g, 0, none⟩) es'.length ca)
    have HBF := HW.out.setCell (p := ⟨w.heap.size + 1, 0, none⟩) (by show w.heap.size ≤ w.heap.size + 1; omega) (.slice (some ⟨g, 0, none⟩) es'.length ca)
    have HF := HO.out.set K2.out (v := .slice (some ⟨g, 0, none⟩) es'.length ca)
    have c0 : (x3.setCell ⟨w.heap.size + 1, 0, none⟩ (.slice (some ⟨g, 0, none⟩) es'.length ca)).cell? ⟨w.heap.size + 1, 0, none⟩ = some (.slice (some ⟨g, 0, none⟩) es'.length ca) := KF.cell 0
    refine bodyPost_ret (v := .agg #[.slice (some ⟨g, 0, none⟩) es'.length ca]) (by simp [results, Try.results19, go_sem, c0]) rfl ?_
    exact ⟨_, es, rfl, HF, HVL.out, HBF⟩

end Go.Proofs.Ytcaoekaephnimaa
