/- RaidFlush of the reference. -/
import Derived.Test.YtcaoekaephnimaaRaidFlush
namespace Go.Proofs.Ytcaoekaephnimaa
open Go.RowKit
set_option linter.unusedVariables false
set_option maxRecDepth 100000

set_option maxHeartbeats 4000000 in
theorem specRaidFlush_any (A : Option Addr) (n c : Nat) (ds : List DV) (v : Bool) (hv : raidOk ds = v) (w : World) (h : RIn w A n ds) (hm : n ≤ maxLen) (hs : ∀ d ∈ ds, d.Src w) :
    Calls Try.prog 19 #[.agg #[.slice A n c]] w (RaidP (raidV v ((ds.map DV.val).mapIdx flushV)) w) := by
  have hb : Below w.heap.size w ((w.alloc (.cells #[.slice A n c] 24)).alloc (.cells #[.slice none 0 0] 24)) := ((Below.refl _ _).alloc (Nat.le_refl _) _).alloc (by simp) _
  have K1 := hide ((Bk.fresh w 24 #[.slice A n c]).alloc (.cells #[.slice none 0 0] 24))
  have K2 := hide (show Bk ((w.alloc (.cells #[.slice A n c] 24)).alloc (.cells #[.slice none 0 0] 24)) (w.heap.size + 1) 24 #[.slice none 0 0] by
    have h := Bk.fresh (w.alloc (.cells #[.slice A n c] 24)) 24 #[.slice none 0 0]
    rw [show (w.alloc (.cells #[.slice A n c] 24)).heap.size = w.heap.size + 1 by simp] at h
    exact h)
  have H := hide (h.after hb)
  have HS := hide (fun d hd => (hs d hd).after hb)
  have HB := hide hb
  have HM := hide hm
  have HV := hide hv
  have HLN := hide h.len
  clear h hs hb hm
  go_enter Try.func19, Try.ntmps19
  go_wp2_with fail
  refine (specRaidOk_v (A := A) (n := n) (c := c) HV.out _ H.out HM.out).mono ?_; rintro r x1 ⟨rfl, hb1⟩
  have K1 := hide (K1.out.after hb1)
  have K2 := hide (K2.out.after hb1)
  have H := hide (H.out.after hb1)
  have HS := hide (fun d hd => (HS.out d hd).after hb1)
  have HB := hide (HB.out.trans (hb1.mono HB.out.size))
  clear hb1
  have t1 := K1.out.c1
  have u2 := K2.out.c1
  have f2 := K2.out.frozen 0
  cases v
  · clear hv
    go_wp2_with fail
    have KF := K2.out.put 0 (.slice none 0 0)
    have HBF := HB.out.setCell (p := ⟨w.heap.size + 1, 0, none⟩) (by show w.heap.size ≤ w.heap.size + 1; omega) (.slice none 0 0)
    have c0 : (x1.setCell ⟨w.heap.size + 1, 0, none⟩ (.slice none 0 0)).cell? ⟨w.heap.size + 1, 0, none⟩ = some (.slice none 0 0) := KF.cell 0
    refine bodyPost_ret (v := .agg #[.slice none 0 0]) (by simp [results, Try.results19, go_sem, c0]) rfl ?_
    exact ⟨_, [], rfl, ownR_nil _ _, rfl, HBF⟩
  · have HK1 := hide K2.out.lt
    obtain ⟨hl3, hoks⟩ := rok_true hv
    have HO := hide hoks
    have hn3 : n ≤ 1000 := by have := HLN.out; omega
    have HL3 := hide hl3
    clear hv hoks hl3
    go_wp2_with fail
    refine (l4Copy_any A n c ds _ H.out HS.out hn3).mono ?_; rintro r x2 ⟨V, es', rfl, hcop, hvl', hb2⟩
    have hel : es'.length = ds.length := by have := congrArg List.length hvl'; simpa using this
    obtain ⟨g, ca, cs, rfl, hpl, hcz, hcc, hcm, hgb⟩ := hcop.pl (by have := HL3.out; omega)
    have K2 := hide (K2.out.after hb2)
    have HW := hide (HB.out.trans (hb2.mono HB.out.size))
    have HC := hide hcop
    have HPL := hide hpl
    have HCZ := hide hcz
    have HCC := hide hcc
    have HCM := hide hcm
    have HGB := hide hgb
    have HEO := hide (rok_val' hvl' HO.out)
    have HVL' := hide hvl'
    have HE3 := hide (show es'.length ≤ 1000 by rw [hel]; have := HL3.out; omega)
    have HX := hide hb2.size
    have HLT := hide (show w.heap.size + 1 < x1.heap.size from HK1.out)
    clear hb2 hcop hpl hcz hcc hcm hgb hvl' hel
    go_wp2_with fail
    refine (l4Flush_at x1.heap.size g es'.length ca cs es' _ HPL.out HCZ.out HCC.out HCM.out HGB.out HX.out (fun e he => ⟨HC.out.each e he, HEO.out e he⟩) HC.out.apart HE3.out).mono ?_; rintro r x3 ⟨es, rfl, how, hvl, hb3⟩
    have K2 := hide (K2.out.below hb3 HLT.out)
    have HW := hide (HW.out.trans (hb3.mono HB.out.size))
    have HO := hide (how.mono HB.out.size)
    have HVL := hide (show es.map DV.val = _ by rw [hvl, HVL'.out])
    clear hb3 how hvl
    have u2 := K2.out.c1
    have f2 := K2.out.frozen 0
    go_wp2_with fail
    have KF := K2.out.put 0 (.slice (some ⟨g, 0, none⟩) es'.length ca)
    have HBF := HW.out.setCell (p := ⟨w.heap.size + 1, 0, none⟩) (by show w.heap.size ≤ w.heap.size + 1; omega) (.slice (some ⟨g, 0, none⟩) es'.length ca)
    have HF := HO.out.set K2.out (v := .slice (some ⟨g, 0, none⟩) es'.length ca)
    have c0 : (x3.setCell ⟨w.heap.size + 1, 0, none⟩ (.slice (some ⟨g, 0, none⟩) es'.length ca)).cell? ⟨w.heap.size + 1, 0, none⟩ = some (.slice (some ⟨g, 0, none⟩) es'.length ca) := KF.cell 0
    refine bodyPost_ret (v := .agg #[.slice (some ⟨g, 0, none⟩) es'.length ca]) (by simp [results, Try.results19, go_sem, c0]) rfl ?_
    exact ⟨_, es, rfl, HF, HVL.out, HBF⟩

end Go.Proofs.Ytcaoekaephnimaa
