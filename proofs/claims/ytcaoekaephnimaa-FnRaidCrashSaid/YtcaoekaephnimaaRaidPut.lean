/- l4Put: a write on each disk of a raid. -/
import Derived.Test.YtcaoekaephnimaaRaidWr
namespace Go.Proofs.Ytcaoekaephnimaa
open Go.RowKit
set_option linter.unusedVariables false
set_option maxRecDepth 100000

/-- what a round of l4Put reads -/
structure KW (x : World) (bx : Nat) (V : Value) (g o b c1 b2 n2 c2 : Nat) (pp : Addr) (s : ByteArray) : Prop where
  k : Bk x bx 24 #[V]
  lg : g < x.heap.size
  c0 : x.cell? ⟨g, o, none⟩ = some (.slice (some ⟨b, 0, none⟩) 64 c1)
  c1 : x.cell? ⟨g, o + 1, none⟩ = some (.slice (some ⟨b2, 0, none⟩) n2 c2)
  c2 : x.cell? ⟨g, o + 2, none⟩ = some (.bool false)
  lp : pp.block < x.heap.size
  cp : x.cell? pp = some (.string s)
theorem KW.fr {S : Nat → Prop} {x y : World} {bx : Nat} {V : Value} {g o b c1 b2 n2 c2 : Nat} {pp : Addr} {s : ByteArray} (h : KW x bx V g o b c1 b2 n2 c2 pp s) (hf : Fr S x y) (h1 : ¬ S bx) (h2 : ¬ S g) (h3 : ¬ S pp.block) : KW y bx V g o b c1 b2 n2 c2 pp s :=
  ⟨h.k.fr hf h1, Nat.lt_of_lt_of_le h.lg hf.size, (hf.cell_ (p := ⟨g, _, none⟩) h.lg h2).trans h.c0, (hf.cell_ (p := ⟨g, _, none⟩) h.lg h2).trans h.c1, (hf.cell_ (p := ⟨g, _, none⟩) h.lg h2).trans h.c2, Nat.lt_of_lt_of_le h.lp hf.size, (hf.cell_ h.lp h3).trans h.cp⟩
theorem KW.after {x y : World} {bx : Nat} {V : Value} {g o b c1 b2 n2 c2 : Nat} {pp : Addr} {s : ByteArray} (h : KW x bx V g o b c1 b2 n2 c2 pp s) (hb : Below x.heap.size x y) : KW y bx V g o b c1 b2 n2 c2 pp s := h.fr (Fr.of_below (fun _ => False) hb) id id id
set_option maxHeartbeats 8000000 in
theorem l4PutM (B K g n c : Nat) (es0 : List DV) (y : Int) (Ap Ab : Option Addr) (np cp nb cb : Nat) (ss : List ByteArray) (w : World) (h : GR B K w g c n es0) (hB : B ≤ w.heap.size) (hn : n ≤ 1000) (hp : Rd w 1 Ap np (ss.map Value.string)) (hss : ∀ s ∈ ss, s.size ≤ 200) (hnp : n ≤ np) (hq : Rd w 1 Ab nb ((List.replicate nb true).map Value.bool)) (hnb : n ≤ nb) (hy : inR y 0 63 = true) (hK : K < 120) (hWB : ∀ s : ByteArray, s.size ≤ 200 → waitB (y, s) = true) (hPM : ∀ b o, Ap = some ⟨b, o, none⟩ → ¬ MB g es0 b) (hBM : ∀ b o, Ab = some ⟨b, o, none⟩ → ¬ MB g es0 b) :
    Calls Try.prog 76 #[.agg #[.slice (some ⟨g, 0, none⟩) n c], .int .i64 y, .slice Ap np cp, .slice Ab nb cb] w (GRP B (K + 1) g c n es0 (.tuple #[.agg #[.slice (some ⟨g, 0, none⟩) n c], .bool true]) w) := by
  have hb0 : Below w.heap.size w ((w.alloc (.cells #[.slice (some ⟨g, 0, none⟩) n c] 24)).alloc (.cells #[.slice none 0 0] 24)) := ((Below.refl _ _).alloc (Nat.le_refl _) _).alloc (by simp) _
  have K0 := hide ((Bk.fresh w 24 #[.slice (some ⟨g, 0, none⟩) n c]).alloc (.cells #[.slice none 0 0] 24))
  have K2 := hide (show Bk ((w.alloc (.cells #[.slice (some ⟨g, 0, none⟩) n c] 24)).alloc (.cells #[.slice none 0 0] 24)) (w.heap.size + 1) 24 #[.slice none 0 0] by
    have h := Bk.fresh (w.alloc (.cells #[.slice (some ⟨g, 0, none⟩) n c] 24)) 24 #[.slice none 0 0]
    rw [show (w.alloc (.cells #[.slice (some ⟨g, 0, none⟩) n c] 24)).heap.size = w.heap.size + 1 by simp] at h
    exact h)
  have HGR := hide (show GR B (K + 1) _ g c n es0 from ⟨(h.after hb0).pl, h.nc, h.cm, h.base, fun d hd => ⟨((h.after hb0).each d hd).1, (h.each d hd).2.mono (Nat.le_succ _)⟩, h.apart⟩)
  have HNK := hide (show ∀ j d', es0[j]? = some d' → 0 ≤ j → d'.n2 ≤ K from fun j d' hd' _ => (h.each d' (List.mem_of_getElem? hd')).2.n2)
  have HFF := hide (Fr.of_below (MB g es0) hb0)
  have HMB := hide (fun i (hi : MB g es0 i) => hi)
  have HBS0 := hide hB
  have HGL := hide (show g < w.heap.size by obtain ⟨cs, h1, _⟩ := h.pl; exact h1.1.lt)
  have HPP := hide hp
  have HQQ := hide hq
  have HSA := hide hss
  have HNP := hide hnp
  have HNB := hide hnb
  have HY := hide hy
  have HKK := hide hK
  have HWB := hide hWB
  have HPM := hide hPM
  have HBM := hide hBM
  clear h hb0 hp hq hss hnp hnb hy hK hWB hPM hBM
  go_enter Try.func76, Try.ntmps76
  go_wp2_with fail
  go_loopw [10] (fun i wr => ∃ (k : Nat) (es : List DV), k ≤ n ∧ i = .int .i64 k ∧ Hid (Bk wr w.heap.size 24 #[.slice (some ⟨g, 0, none⟩) n c]) ∧ Hid (Bk wr (w.heap.size + 1) 24 #[.slice none 0 0]) ∧ Hid (GR B (K + 1) wr g c n es) ∧ Hid (Fr (MB g es0) w wr) ∧ Hid (∀ i, MB g es i → MB g es0 i) ∧ Hid (∀ j d', es[j]? = some d' → k ≤ j → d'.n2 ≤ K)) (fun i _ => n - (intOf i).toNat)
  case atStart => exact ⟨0, es0, by omega, rfl, K0, K2, HGR, HFF, HMB, HNK⟩
  case round =>
    clear K0 K2 HGR HFF HMB HNK
    obtain ⟨k, es, hk, rfl, K0, K2, HGR, HFF, HMB, HNK⟩ := hrel
    have t0 := K0.out.cell 0
    by_cases hlt : k < n
    · have i0 : (0 : Int) ≤ (k : Int) := by omega
      have i1 : (k : Int) < (n : Int) := by omega
      have i2 : (k : Int) < (np : Int) := by have := HNP.out; omega
      have i3 : (k : Int) < (nb : Int) := by have := HNB.out; omega
      obtain ⟨bb, ob, eb, lbb, hbc⟩ := HQQ.out.at_ (by have := HNB.out; omega)
      have hbk : w.cell? ⟨bb, ob + k, none⟩ = some (.bool true) := hbc k _ (by rw [List.getElem?_map, List.getElem?_replicate, if_pos (by have := HNB.out; omega)]; rfl)
      obtain ⟨bp, op, ep, lbp, hpc⟩ := HPP.out.at_ (by have := HNP.out; omega)
      have hkl : k < ss.length := by have := HPP.out.len; simp at this; have := HNP.out; omega
      obtain ⟨s, hs⟩ : ∃ s, ss[k]? = some s := ⟨ss[k]'hkl, List.getElem?_eq_getElem hkl⟩
      have hpk : w.cell? ⟨bp, op + k, none⟩ = some (.string s) := hpc k _ (by rw [List.getElem?_map, hs]; rfl)
      have HSS := hide (HSA.out s (List.mem_of_getElem? hs))
      have hpm := HPM.out bp op ep
      have hbm := HBM.out bb ob eb
      have hbk := (HFF.out.cell_ (p := ⟨bb, _, none⟩) lbb hbm).trans hbk
      have hpk := (HFF.out.cell_ (p := ⟨bp, _, none⟩) lbp hpm).trans hpk
      have lbp' : bp < wr.heap.size := Nat.lt_of_lt_of_le lbp HFF.out.size
      have hgl' : g < wr.heap.size := Nat.lt_of_lt_of_le HGL.out HFF.out.size
      have HLT := hide (show w.heap.size < wr.heap.size ∧ g < wr.heap.size ∧ bp < wr.heap.size from ⟨K0.out.lt, hgl', lbp'⟩)
      subst eb
      subst ep
      have hb := (Below.refl wr.heap.size wr).drew
      have HB0 := hide (show Below wr.drew.heap.size wr.drew wr.drew from Below.refl _ _)
      have HBS := hide (show B ≤ wr.drew.heap.size from Nat.le_trans HBS0.out (Nat.le_trans HFF.out.size hb.size))
      have K2 := hide (K2.out.after hb)
      have HGR := hide (HGR.out.after hb)
      have HFF := hide (HFF.out.drew)
      obtain ⟨d, hdk, hmd, hgd, s0, s1, s2⟩ := HGR.out.at_ hlt
      obtain ⟨cs, hpl, hcz⟩ := HGR.out.pl
      have HDK := hide hdk
      have HMD := hide hmd
      have HN1 := hide hgd.n1
      have HN2 := hide (show d.n2 < 120 by have := HNK.out k d hdk (Nat.le_refl _); have := HKK.out; omega)
      have HR1 := hide hmd.r1
      have HR2 := hide (show Rd wr.drew 2 (some ⟨d.b2, 0, none⟩) d.n2 (waitCells d.z2) from hmd.r2.rd (by rw [waitCells_len, hmd.l2]))
      have HOK := hide hgd.ok
      have HBB := hide hmd.base
      have HG0 := hide (show Bk wr.drew g 49 cs ∧ n * 3 ≤ cs.size from ⟨hpl.1, hpl.2.1⟩)
      have HXG := hide (show ¬ (w.heap.size = g) by have := HGL.out; omega)
      have HXH := hide (show ¬ (w.heap.size + 1 = g) by have := HGL.out; omega)
      have HWB := hide (HWB.out s HSS.out)
      have HH0 := hide (show KW wr.drew w.heap.size (.slice (some ⟨g, 0, none⟩) n c) g (k * 3) d.b d.c1 d.b2 d.n2 d.c2 ⟨bp, op + k, none⟩ s from ⟨K0.out, hgl', s0, s1, s2, lbp', hpk⟩)
      have s2 : wr.cell? ⟨g, k * 3 + 2, none⟩ = some (.bool false) := s2
      clear hb hdk hmd hgd s0 s1 hpl hcz hpk lbp' hgl' hpm hbm lbb lbp hbc hpc hs hkl
      go_upto_region 5 with fail
      clear t0 s2 hbk
      refine wp_region_held_drew (S := fun x => KW x w.heap.size (.slice (some ⟨g, 0, none⟩) n c) g (k * 3) d.b d.c1 d.b2 d.n2 d.c2 ⟨bp, op + k, none⟩ s) (by kernel_rfl) (HH0.out) (fun hH0 => ?_)
      refine wpAnyH_take (i := 0) (v := ?_) rfl (by kernel_rfl) (by kernel_rfl) (by kernel_rfl) (fun _ _ _ h => h) (Or.inl ⟨by rfl, fun wS hS => ?_⟩) hH0 ?_
      rotate_left
      · have s0 := (KW.k hS).c1; have s1 := KW.c0 hS; have s2 := KW.c1 hS; have s3 := KW.c2 hS; have s4 := KW.cp hS; go_simp; try exact rfl
      simp only [Act.put, List.setIfInBounds_toArray, List.set_cons_zero, List.set_cons_succ, List.getElem_toArray, List.getElem_cons_zero]
      refine wpAnyH_take (i := 1) (v := ?_) rfl (by kernel_rfl) (by kernel_rfl) (by kernel_rfl) (fun _ _ _ h => h) (Or.inl ⟨by rfl, fun wS hS => ?_⟩) hH0 ?_
      rotate_left
      · have s0 := (KW.k hS).c1; have s1 := KW.c0 hS; have s2 := KW.c1 hS; have s3 := KW.c2 hS; have s4 := KW.cp hS; go_simp; try exact rfl
      simp only [Act.put, List.setIfInBounds_toArray, List.set_cons_zero, List.set_cons_succ, List.getElem_toArray, List.getElem_cons_zero, List.getElem_cons_succ]
      refine wpAnyH_take (i := 2) (v := ?_) rfl (by kernel_rfl) (by kernel_rfl) (by kernel_rfl) (fun _ _ _ h => h) (Or.inl ⟨by rfl, fun wS hS => ?_⟩) hH0 ?_
      rotate_left
      · have s0 := (KW.k hS).c1; have s1 := KW.c0 hS; have s2 := KW.c1 hS; have s3 := KW.c2 hS; have s4 := KW.cp hS; go_simp; try exact rfl
      simp only [Act.put, List.setIfInBounds_toArray, List.set_cons_zero, List.set_cons_succ, List.getElem_toArray, List.getElem_cons_zero, List.getElem_cons_succ]
      refine wpAnyH_take (i := 3) (v := ?_) rfl (by kernel_rfl) (by kernel_rfl) (by kernel_rfl) (fun _ _ _ h => h) (Or.inl ⟨by rfl, fun wS hS => ?_⟩) hH0 ?_
      rotate_left
      · have s0 := (KW.k hS).c1; have s1 := KW.c0 hS; have s2 := KW.c1 hS; have s3 := KW.c2 hS; have s4 := KW.cp hS; go_simp; try exact rfl
      simp only [Act.put, List.setIfInBounds_toArray, List.set_cons_zero, List.set_cons_succ, List.getElem_toArray, List.getElem_cons_zero, List.getElem_cons_succ]
      refine wpAnyH_take (i := 4) (v := ?_) rfl (by kernel_rfl) (by kernel_rfl) (by kernel_rfl) (fun _ _ _ h => h) (Or.inl ⟨by rfl, fun wS hS => ?_⟩) hH0 ?_
      rotate_left
      · have s0 := (KW.k hS).c1; have s1 := KW.c0 hS; have s2 := KW.c1 hS; have s3 := KW.c2 hS; have s4 := KW.cp hS; go_simp; try exact rfl
      simp only [Act.put, List.setIfInBounds_toArray, List.set_cons_zero, List.set_cons_succ, List.getElem_toArray, List.getElem_cons_zero, List.getElem_cons_succ]
      refine wpAnyH_take (i := 5) (v := ?_) rfl (by kernel_rfl) (by kernel_rfl) (by kernel_rfl) (fun _ _ _ h => h) (Or.inl ⟨by rfl, fun wS hS => ?_⟩) hH0 ?_
      rotate_left
      · have s0 := (KW.k hS).c1; have s1 := KW.c0 hS; have s2 := KW.c1 hS; have s3 := KW.c2 hS; have s4 := KW.cp hS; go_simp; try exact rfl
      simp only [Act.put, List.setIfInBounds_toArray, List.set_cons_zero, List.set_cons_succ, List.getElem_toArray, List.getElem_cons_zero, List.getElem_cons_succ]
      refine wpAnyH_take (i := 6) (v := ?_) rfl (by kernel_rfl) (by kernel_rfl) (by kernel_rfl) (fun _ _ _ h => h) (Or.inl ⟨by rfl, fun wS hS => ?_⟩) hH0 ?_
      rotate_left
      · have s0 := (KW.k hS).c1; have s1 := KW.c0 hS; have s2 := KW.c1 hS; have s3 := KW.c2 hS; have s4 := KW.cp hS; go_simp; try exact rfl
      simp only [Act.put, List.setIfInBounds_toArray, List.set_cons_zero, List.set_cons_succ, List.getElem_toArray, List.getElem_cons_zero, List.getElem_cons_succ]
      refine wpAnyH_take (i := 7) (v := ?_) rfl (by kernel_rfl) (by kernel_rfl) (by kernel_rfl) (fun _ _ _ h => h) (Or.inl ⟨by rfl, fun wS hS => ?_⟩) hH0 ?_
      rotate_left
      · have s0 := (KW.k hS).c1; have s1 := KW.c0 hS; have s2 := KW.c1 hS; have s3 := KW.c2 hS; have s4 := KW.cp hS; go_simp; try exact rfl
      simp only [Act.put, List.setIfInBounds_toArray, List.set_cons_zero, List.set_cons_succ, List.getElem_toArray, List.getElem_cons_zero, List.getElem_cons_succ]
      refine wpAnyH_take (i := 8) (v := ?_) rfl (by kernel_rfl) (by kernel_rfl) (by kernel_rfl) (fun _ _ _ h => h) (Or.inl ⟨by rfl, fun wS hS => ?_⟩) hH0 ?_
      rotate_left
      · have s0 := (KW.k hS).c1; have s1 := KW.c0 hS; have s2 := KW.c1 hS; have s3 := KW.c2 hS; have s4 := KW.cp hS; go_simp; try exact rfl
      simp only [Act.put, List.setIfInBounds_toArray, List.set_cons_zero, List.set_cons_succ, List.getElem_toArray, List.getElem_cons_zero, List.getElem_cons_succ]
      refine wpAnyH_take (i := 9) (v := ?_) rfl (by kernel_rfl) (by kernel_rfl) (by kernel_rfl) (fun _ _ _ h => h) (Or.inl ⟨by rfl, fun wS hS => ?_⟩) hH0 ?_
      rotate_left
      · have s0 := (KW.k hS).c1; have s1 := KW.c0 hS; have s2 := KW.c1 hS; have s3 := KW.c2 hS; have s4 := KW.cp hS; go_simp; try exact rfl
      simp only [Act.put, List.setIfInBounds_toArray, List.set_cons_zero, List.set_cons_succ, List.getElem_toArray, List.getElem_cons_zero, List.getElem_cons_succ]
      refine wpAnyH_ready (rs := [10, 14]) (by kernel_rfl) (by simp) (AllReadyH.cons rfl (fun K hK => ?_) (AllReadyH.cons rfl (fun K hK => ?_) (AllReadyH.nil)))
      · go_simp
        go_at_call 95
        refine (l3WriteM d.b d.c1 d.b2 d.n2 d.c2 d.z2 y s _ (HR2.out.after HB0.out) HY.out HSS.out HN2.out).mono ?_; rintro r x1 ⟨e2, c3, rfl, he2, hr2, hb⟩
        have HRW := hide hr2
        have HE2 := hide (Nat.le_trans HB0.out.size he2)
        have HBC := hide (HB0.out.trans (hb.mono HB0.out.size))
        refine hK.out _ _ (hH0.after hb) (fun hH1 => ?_)
        clear hK K
        try simp only [Act.put]
        clear hb hr2 he2
        refine wpAnyH_take (i := 11) (v := ?_) rfl (by kernel_rfl) (by kernel_rfl) (by kernel_rfl) (fun _ _ _ h => h) (Or.inl ⟨by rfl, fun wS hS => ?_⟩) hH1 ?_
        rotate_left
        · have s0 := (KW.k hS).c1; have s1 := KW.c0 hS; have s2 := KW.c1 hS; have s3 := KW.c2 hS; have s4 := KW.cp hS; go_simp; try exact rfl
        simp only [Act.put, List.setIfInBounds_toArray, List.set_cons_zero, List.set_cons_succ, List.getElem_toArray, List.getElem_cons_zero, List.getElem_cons_succ]
        refine wpAnyH_take (i := 12) (v := ?_) rfl (by kernel_rfl) (by kernel_rfl) (by kernel_rfl) (fun _ _ _ h => h) (Or.inl ⟨by rfl, fun wS hS => ?_⟩) hH1 ?_
        rotate_left
        · have s0 := (KW.k hS).c1; have s1 := KW.c0 hS; have s2 := KW.c1 hS; have s3 := KW.c2 hS; have s4 := KW.cp hS; go_simp; try exact rfl
        simp only [Act.put, List.setIfInBounds_toArray, List.set_cons_zero, List.set_cons_succ, List.getElem_toArray, List.getElem_cons_zero, List.getElem_cons_succ]
        refine wpAnyH_take (i := 13) (v := ?_) rfl (by kernel_rfl) (by kernel_rfl) (by kernel_rfl) (fun _ _ _ h => h) (Or.inl ⟨by rfl, fun wS hS => ?_⟩) hH1 ?_
        rotate_left
        · have s0 := (KW.k hS).c1; have s1 := KW.c0 hS; have s2 := KW.c1 hS; have s3 := KW.c2 hS; have s4 := KW.cp hS; go_simp; try exact rfl
        simp only [Act.put, List.setIfInBounds_toArray, List.set_cons_zero, List.set_cons_succ, List.getElem_toArray, List.getElem_cons_zero, List.getElem_cons_succ]
        refine wpAnyH_ready (rs := [14]) (by kernel_rfl) (by simp) (AllReadyH.cons rfl (fun K hK => ?_) (AllReadyH.nil))
        go_simp
        refine hK.out _ _ (hH1.after (bel1 _ (.cells #[.slice none 0 0, .slice none 0 0, .bool false] 49))) (fun hH2 => ?_)
        clear hK K
        try simp only [Act.put]
        have K11 := hide ((Bk.fresh x1 49 #[.slice none 0 0, .slice none 0 0, .bool false]).at_ (g' := x1.heap.size) rfl)
        have HBA := hide (HBC.out.alloc HBC.out.size (.cells #[.slice none 0 0, .slice none 0 0, .bool false] 49))
        have HRW0 := hide HRW.out
        have HRW := hide (HRW.out.after (bel1 _ (.cells #[.slice none 0 0, .slice none 0 0, .bool false] 49)))
        refine wpAnyH_ready (rs := [15]) (by kernel_rfl) (by simp) (AllReadyH.cons rfl (fun K hK => ?_) (AllReadyH.nil))
        have K11 := hide (Bk.fresh x1 49 #[.slice (some ⟨d.b, 0, none⟩) 64 d.c1, .slice (some ⟨e2, 0, none⟩) (d.n2 + 1) c3, .bool false])
        have HRW := hide (HRW0.out.after (bel1 _ (.cells #[.slice (some ⟨d.b, 0, none⟩) 64 d.c1, .slice (some ⟨e2, 0, none⟩) (d.n2 + 1) c3, .bool false] 49)))
        have HBX := hide (HBC.out.alloc HBC.out.size (.cells #[.slice (some ⟨d.b, 0, none⟩) 64 d.c1, .slice (some ⟨e2, 0, none⟩) (d.n2 + 1) c3, .bool false] 49))
        go_simp
        refine hK.out _ _ (hH1.after (bel1 _ (.cells #[.slice (some ⟨d.b, 0, none⟩) 64 d.c1, .slice (some ⟨e2, 0, none⟩) (d.n2 + 1) c3, .bool false] 49))) (fun hH3 => ?_)
        clear hK K
        try simp only [Act.put]
        refine wpAnyH_take (i := 16) (v := ?_) rfl (by kernel_rfl) (by kernel_rfl) (by kernel_rfl) (fun _ _ _ h => h) (Or.inl ⟨by rfl, fun wS hS => ?_⟩) hH3 ?_
        rotate_left
        · have s0 := (KW.k hS).c1; have s1 := KW.c0 hS; have s2 := KW.c1 hS; have s3 := KW.c2 hS; have s4 := KW.cp hS; go_simp; try exact rfl
        simp only [Act.put, List.setIfInBounds_toArray, List.set_cons_zero, List.set_cons_succ, List.getElem_toArray, List.getElem_cons_zero, List.getElem_cons_succ]
        refine wpAnyH_done (by kernel_rfl) ?_ _
        obtain ⟨Z, hZ⟩ : ∃ Z : World, Z = (x1.alloc (.cells #[.slice (some ⟨d.b, 0, none⟩) 64 d.c1, .slice (some ⟨e2, 0, none⟩) (d.n2 + 1) c3, .bool false] 49)) := ⟨_, rfl⟩
        have HS := hide (hH3)
        rw [← hZ] at HS HRW HBX K11
        rw [← hZ]
        clear hZ
        have K0 := hide HS.out.k
        have K2 := hide (K2.out.after HBX.out)
        have HZG := hide (HG0.out.1.after HBX.out)
        have t0 := K0.out.c1
        obtain ⟨r0, r1, r2⟩ := K11.out.c3
        have hcat : ∀ j, j < 3 → ∃ u, Z.cell? ⟨g, k * 3 + j, none⟩ = some u := fun j hj => ⟨cs[k * 3 + j]'(by have := HG0.out.2; omega), by rw [HZG.out.cell]; exact Array.getElem?_eq_getElem _⟩
        obtain ⟨u0, s0⟩ := hcat 0 (by omega)
        obtain ⟨u1, s1⟩ := hcat 1 (by omega)
        obtain ⟨u2, s2⟩ := hcat 2 (by omega)
        have s0 : Z.cell? ⟨g, k * 3, none⟩ = some u0 := s0
        have f0 := HZG.out.frozen (k * 3)
        have f1 := HZG.out.frozen (k * 3 + 1)
        have f2 := HZG.out.frozen (k * 3 + 2)
        have HO := hide (show (⟨some ⟨d.b, 0, none⟩, 64, d.c1, some ⟨e2, 0, none⟩, d.n2 + 1, c3, false, d.z1, d.z2 ++ [(y, s)]⟩ : DV).Made B Z from ⟨rfl, rfl, HBB.out, Nat.le_trans HBS.out HE2.out, HMD.out.l1.trans HN1.out, by show (d.z2 ++ [(y, s)]).length = d.n2 + 1; rw [List.length_append, HMD.out.l2]; rfl, by show (64 : Nat) ≤ 1048576; omega, by have := HN2.out; show d.n2 + 1 ≤ 1048576; omega, HR1.out.after HBX.out, HRW.out⟩)
        have HN := hide (HGR.out.put (e := (⟨some ⟨d.b, 0, none⟩, 64, d.c1, some ⟨e2, 0, none⟩, d.n2 + 1, c3, false, d.z1, d.z2 ++ [(y, s)]⟩ : DV)) (K' := K + 1) hlt HDK.out (Fr.of_below _ HBX.out) HO.out ⟨rfl, rfl, by show (d.z2 ++ [(y, s)]).all waitB = true; rw [List.all_append, HOK.out]; simp [HWB.out], by have := HNK.out k d HDK.out (Nat.le_refl _); show d.n2 + 1 ≤ K + 1; omega⟩ (Nat.le_refl _) (HGR.out.same HDK.out rfl))
        have W3 := hide (show Fr (fun i => i = g) Z (((Z.setCell ⟨g, k * 3, none⟩ (.slice (some ⟨d.b, 0, none⟩) 64 d.c1)).setCell ⟨g, k * 3 + 1, none⟩ (.slice (some ⟨e2, 0, none⟩) (d.n2 + 1) c3)).setCell ⟨g, k * 3 + 2, none⟩ (.bool false)) from (((Fr.refl (fun i => i = g) Z).setCell (p := ⟨g, k * 3, none⟩) (.inl rfl) _).setCell (p := ⟨g, k * 3 + 1, none⟩) (.inl rfl) _).setCell (p := ⟨g, k * 3 + 2, none⟩) (.inl rfl) _)
        have HFA := hide (show Fr (MB g es0) w _ from (HFF.out.trans (Fr.of_below (MB g es0) HBX.out)).next W3.out (fun i _ e => .inl (.inl e)))
        have HMB := hide (fun i (hi : MB g (es.set k (⟨some ⟨d.b, 0, none⟩, 64, d.c1, some ⟨e2, 0, none⟩, d.n2 + 1, c3, false, d.z1, d.z2 ++ [(y, s)]⟩ : DV)) i) => HMB.out i (MB.set (e := (⟨some ⟨d.b, 0, none⟩, 64, d.c1, some ⟨e2, 0, none⟩, d.n2 + 1, c3, false, d.z1, d.z2 ++ [(y, s)]⟩ : DV)) HDK.out rfl hi))
        have HNK := hide (show ∀ j d', (es.set k (⟨some ⟨d.b, 0, none⟩, 64, d.c1, some ⟨e2, 0, none⟩, d.n2 + 1, c3, false, d.z1, d.z2 ++ [(y, s)]⟩ : DV))[j]? = some d' → k + 1 ≤ j → d'.n2 ≤ K from fun j d' hd' hj => by rw [List.getElem?_set, if_neg (by omega)] at hd'; exact HNK.out j d' hd' (by omega))
        clear hcat HS HO
        go_wp2_with fail
        have K0 := hide (K0.out.fr W3.out HXG.out)
        have K2 := hide (K2.out.fr W3.out HXH.out)
        clear W3
        go_roundw
        case rel => exact ⟨k + 1, _, by omega, int_eq (by omega), K0, K2, HN, HFA, HMB, HNK⟩
        case measure => simp [intOf]; omega
      · go_simp
        refine hK.out _ _ (hH0.after (bel1 _ (.cells #[.slice none 0 0, .slice none 0 0, .bool false] 49))) (fun hH1 => ?_)
        clear hK K
        try simp only [Act.put]
        have K11 := hide ((Bk.fresh wr.drew 49 #[.slice none 0 0, .slice none 0 0, .bool false]).at_ (g' := wr.heap.size) rfl)
        have HBA := hide (HB0.out.alloc HB0.out.size (.cells #[.slice none 0 0, .slice none 0 0, .bool false] 49))
        refine wpAnyH_ready (rs := [10]) (by kernel_rfl) (by simp) (AllReadyH.cons rfl (fun K hK => ?_) (AllReadyH.nil))
        go_simp
        go_at_call 95
        refine (l3WriteM d.b d.c1 d.b2 d.n2 d.c2 d.z2 y s _ (HR2.out.after HBA.out) HY.out HSS.out HN2.out).mono ?_; rintro r x1 ⟨e2, c3, rfl, he2, hr2, hb⟩
        have HRW := hide hr2
        have HE2 := hide (Nat.le_trans HBA.out.size he2)
        have HBC := hide (HBA.out.trans (hb.mono HBA.out.size))
        have K11 := hide (K11.out.after hb)
        refine hK.out _ _ (hH1.after hb) (fun hH2 => ?_)
        clear hK K
        try simp only [Act.put]
        clear hb hr2 he2
        refine wpAnyH_take (i := 11) (v := ?_) rfl (by kernel_rfl) (by kernel_rfl) (by kernel_rfl) (fun _ _ _ h => h) (Or.inl ⟨by rfl, fun wS hS => ?_⟩) hH2 ?_
        rotate_left
        · have s0 := (KW.k hS).c1; have s1 := KW.c0 hS; have s2 := KW.c1 hS; have s3 := KW.c2 hS; have s4 := KW.cp hS; go_simp; try exact rfl
        simp only [Act.put, List.setIfInBounds_toArray, List.set_cons_zero, List.set_cons_succ, List.getElem_toArray, List.getElem_cons_zero, List.getElem_cons_succ]
        refine wpAnyH_take (i := 12) (v := ?_) rfl (by kernel_rfl) (by kernel_rfl) (by kernel_rfl) (fun _ _ _ h => h) (Or.inl ⟨by rfl, fun wS hS => ?_⟩) hH2 ?_
        rotate_left
        · have s0 := (KW.k hS).c1; have s1 := KW.c0 hS; have s2 := KW.c1 hS; have s3 := KW.c2 hS; have s4 := KW.cp hS; go_simp; try exact rfl
        simp only [Act.put, List.setIfInBounds_toArray, List.set_cons_zero, List.set_cons_succ, List.getElem_toArray, List.getElem_cons_zero, List.getElem_cons_succ]
        refine wpAnyH_take (i := 13) (v := ?_) rfl (by kernel_rfl) (by kernel_rfl) (by kernel_rfl) (fun _ _ _ h => h) (Or.inl ⟨by rfl, fun wS hS => ?_⟩) hH2 ?_
        rotate_left
        · have s0 := (KW.k hS).c1; have s1 := KW.c0 hS; have s2 := KW.c1 hS; have s3 := KW.c2 hS; have s4 := KW.cp hS; go_simp; try exact rfl
        simp only [Act.put, List.setIfInBounds_toArray, List.set_cons_zero, List.set_cons_succ, List.getElem_toArray, List.getElem_cons_zero, List.getElem_cons_succ]
        refine wpAnyH_ready (rs := [15]) (by kernel_rfl) (by simp) (AllReadyH.cons rfl (fun K hK => ?_) (AllReadyH.nil))
        obtain ⟨s0, s1, s2⟩ := K11.out.c3
        have f0 := K11.out.frozen 0
        have f1 := K11.out.frozen 1
        have f2 := K11.out.frozen 2
        have hrne : e2 ≠ wr.heap.size := by obtain ⟨x, hx, _⟩ := HRW.out; exact hx.ne_type K11.out (by decide)
        have HRW := hide (HRW.out.fr (fr3 (Fr.refl (· = wr.heap.size) _) (.inl rfl) (.slice (some ⟨d.b, 0, none⟩) 64 d.c1) (.slice (some ⟨e2, 0, none⟩) (d.n2 + 1) c3) (.bool false)) hrne)
        have HBX := hide (fr3 (Fr.refl (· = wr.heap.size) x1) (.inl rfl) (.slice (some ⟨d.b, 0, none⟩) 64 d.c1) (.slice (some ⟨e2, 0, none⟩) (d.n2 + 1) c3) (.bool false))
        have HBX := hide (HBC.out.trans (HBX.out.below HBC.out.size (fun i e => by rw [e]; exact Nat.le_refl _)))
        have K11 := hide (put3 K11.out (.slice (some ⟨d.b, 0, none⟩) 64 d.c1) (.slice (some ⟨e2, 0, none⟩) (d.n2 + 1) c3) (.bool false))
        go_simp
        refine hK.out _ _ (hH2.fr (fr3 (Fr.refl (· = wr.heap.size) _) (.inl rfl) (.slice (some ⟨d.b, 0, none⟩) 64 d.c1) (.slice (some ⟨e2, 0, none⟩) (d.n2 + 1) c3) (.bool false)) (by have := HLT.out.1; omega) (by have := HLT.out.2.1; omega) (by have := HLT.out.2.2; show ¬ bp = _; omega)) (fun hH3 => ?_)
        clear hK K
        try simp only [Act.put]
        clear s0 s1 s2 f0 f1 f2 hrne
        refine wpAnyH_take (i := 16) (v := ?_) rfl (by kernel_rfl) (by kernel_rfl) (by kernel_rfl) (fun _ _ _ h => h) (Or.inl ⟨by rfl, fun wS hS => ?_⟩) hH3 ?_
        rotate_left
        · have s0 := (KW.k hS).c1; have s1 := KW.c0 hS; have s2 := KW.c1 hS; have s3 := KW.c2 hS; have s4 := KW.cp hS; go_simp; try exact rfl
        simp only [Act.put, List.setIfInBounds_toArray, List.set_cons_zero, List.set_cons_succ, List.getElem_toArray, List.getElem_cons_zero, List.getElem_cons_succ]
        refine wpAnyH_done (by kernel_rfl) ?_ _
        obtain ⟨Z, hZ⟩ : ∃ Z : World, Z = (((x1.setCell ⟨wr.heap.size, 0, none⟩ (.slice (some ⟨d.b, 0, none⟩) 64 d.c1)).setCell ⟨wr.heap.size, 1, none⟩ (.slice (some ⟨e2, 0, none⟩) (d.n2 + 1) c3)).setCell ⟨wr.heap.size, 2, none⟩ (.bool false)) := ⟨_, rfl⟩
        have HS := hide (hH3)
        rw [← hZ] at HS HRW HBX K11
        rw [← hZ]
        clear hZ
        have K0 := hide HS.out.k
        have K2 := hide (K2.out.after HBX.out)
        have HZG := hide (HG0.out.1.after HBX.out)
        have t0 := K0.out.c1
        obtain ⟨r0, r1, r2⟩ := K11.out.c3
        have hcat : ∀ j, j < 3 → ∃ u, Z.cell? ⟨g, k * 3 + j, none⟩ = some u := fun j hj => ⟨cs[k * 3 + j]'(by have := HG0.out.2; omega), by rw [HZG.out.cell]; exact Array.getElem?_eq_getElem _⟩
        obtain ⟨u0, s0⟩ := hcat 0 (by omega)
        obtain ⟨u1, s1⟩ := hcat 1 (by omega)
        obtain ⟨u2, s2⟩ := hcat 2 (by omega)
        have s0 : Z.cell? ⟨g, k * 3, none⟩ = some u0 := s0
        have f0 := HZG.out.frozen (k * 3)
        have f1 := HZG.out.frozen (k * 3 + 1)
        have f2 := HZG.out.frozen (k * 3 + 2)
        have HO := hide (show (⟨some ⟨d.b, 0, none⟩, 64, d.c1, some ⟨e2, 0, none⟩, d.n2 + 1, c3, false, d.z1, d.z2 ++ [(y, s)]⟩ : DV).Made B Z from ⟨rfl, rfl, HBB.out, Nat.le_trans HBS.out HE2.out, HMD.out.l1.trans HN1.out, by show (d.z2 ++ [(y, s)]).length = d.n2 + 1; rw [List.length_append, HMD.out.l2]; rfl, by show (64 : Nat) ≤ 1048576; omega, by have := HN2.out; show d.n2 + 1 ≤ 1048576; omega, HR1.out.after HBX.out, HRW.out⟩)
        have HN := hide (HGR.out.put (e := (⟨some ⟨d.b, 0, none⟩, 64, d.c1, some ⟨e2, 0, none⟩, d.n2 + 1, c3, false, d.z1, d.z2 ++ [(y, s)]⟩ : DV)) (K' := K + 1) hlt HDK.out (Fr.of_below _ HBX.out) HO.out ⟨rfl, rfl, by show (d.z2 ++ [(y, s)]).all waitB = true; rw [List.all_append, HOK.out]; simp [HWB.out], by have := HNK.out k d HDK.out (Nat.le_refl _); show d.n2 + 1 ≤ K + 1; omega⟩ (Nat.le_refl _) (HGR.out.same HDK.out rfl))
        have W3 := hide (show Fr (fun i => i = g) Z (((Z.setCell ⟨g, k * 3, none⟩ (.slice (some ⟨d.b, 0, none⟩) 64 d.c1)).setCell ⟨g, k * 3 + 1, none⟩ (.slice (some ⟨e2, 0, none⟩) (d.n2 + 1) c3)).setCell ⟨g, k * 3 + 2, none⟩ (.bool false)) from (((Fr.refl (fun i => i = g) Z).setCell (p := ⟨g, k * 3, none⟩) (.inl rfl) _).setCell (p := ⟨g, k * 3 + 1, none⟩) (.inl rfl) _).setCell (p := ⟨g, k * 3 + 2, none⟩) (.inl rfl) _)
        have HFA := hide (show Fr (MB g es0) w _ from (HFF.out.trans (Fr.of_below (MB g es0) HBX.out)).next W3.out (fun i _ e => .inl (.inl e)))
        have HMB := hide (fun i (hi : MB g (es.set k (⟨some ⟨d.b, 0, none⟩, 64, d.c1, some ⟨e2, 0, none⟩, d.n2 + 1, c3, false, d.z1, d.z2 ++ [(y, s)]⟩ : DV)) i) => HMB.out i (MB.set (e := (⟨some ⟨d.b, 0, none⟩, 64, d.c1, some ⟨e2, 0, none⟩, d.n2 + 1, c3, false, d.z1, d.z2 ++ [(y, s)]⟩ : DV)) HDK.out rfl hi))
        have HNK := hide (show ∀ j d', (es.set k (⟨some ⟨d.b, 0, none⟩, 64, d.c1, some ⟨e2, 0, none⟩, d.n2 + 1, c3, false, d.z1, d.z2 ++ [(y, s)]⟩ : DV))[j]? = some d' → k + 1 ≤ j → d'.n2 ≤ K from fun j d' hd' hj => by rw [List.getElem?_set, if_neg (by omega)] at hd'; exact HNK.out j d' hd' (by omega))
        clear hcat HS HO
        go_wp2_with fail
        have K0 := hide (K0.out.fr W3.out HXG.out)
        have K2 := hide (K2.out.fr W3.out HXH.out)
        clear W3
        go_roundw
        case rel => exact ⟨k + 1, _, by omega, int_eq (by omega), K0, K2, HN, HFA, HMB, HNK⟩
        case measure => simp [intOf]; omega
    · have u2 := K2.out.cell 0
      have f2 := K2.out.frozen 0
      go_wp2_with fail
      have KF := K2.out.put 0 (.slice (some ⟨g, 0, none⟩) n c)
      have c0 : (wr.setCell ⟨w.heap.size + 1, 0, none⟩ (.slice (some ⟨g, 0, none⟩) n c)).cell? ⟨w.heap.size + 1, 0, none⟩ = some (.slice (some ⟨g, 0, none⟩) n c) := KF.cell 0
      refine bodyPost_ret (v := .tuple #[.agg #[.slice (some ⟨g, 0, none⟩) n c], .bool true]) (by simp [results, Try.results76, go_sem, c0]) rfl ?_
      exact ⟨es, rfl, HGR.out.box K2.out, HFF.out.setCell (p := ⟨w.heap.size + 1, 0, none⟩) (.inr (Nat.le_succ _)) _, HMB.out⟩
end Go.Proofs.Ytcaoekaephnimaa
