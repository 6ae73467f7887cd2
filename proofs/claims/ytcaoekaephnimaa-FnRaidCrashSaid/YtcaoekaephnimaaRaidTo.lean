/- Raids are taken over: toDiskS, toRaid. -/
import Derived.Test.YtcaoekaephnimaaRaidSz
import Derived.Test.YtcaoekaephnimaaRaidMark
namespace Go.Proofs.Ytcaoekaephnimaa
open Go.RowKit
set_option linter.unusedVariables false
set_option maxRecDepth 100000

/-- the block of a disk's waiting writes -/
def DV.b2 (d : DV) : Nat := match d.A2 with | some a => a.block | none => 0
/-- a disk whose rows a call made -/
structure DV.Made (B : Nat) (w : World) (d : DV) : Prop where
  a1 : d.A1 = some ⟨d.b, 0, none⟩
  a2 : d.A2 = some ⟨d.b2, 0, none⟩
  base : B ≤ d.b
  base2 : B ≤ d.b2
  l1 : d.z1.length = d.n1
  l2 : d.z2.length = d.n2
  m1 : d.n1 ≤ 1048576
  m2 : d.n2 ≤ 1048576
  r1 : Row w d.b 9 (d.z1.map Value.string)
  r2 : Row w d.b2 74 (waitCells d.z2)
theorem DV.Made.after {B : Nat} {w w' : World} {d : DV} (h : d.Made B w) (hb : Below w.heap.size w w') : d.Made B w' := ⟨h.a1, h.a2, h.base, h.base2, h.l1, h.l2, h.m1, h.m2, h.r1.after hb, h.r2.after hb⟩
theorem DV.Made.fr {B : Nat} {S : Nat → Prop} {w w' : World} {d : DV} (h : d.Made B w) (hf : Fr S w w') (h1 : ¬ S d.b) (h2 : ¬ S d.b2) : d.Made B w' := ⟨h.a1, h.a2, h.base, h.base2, h.l1, h.l2, h.m1, h.m2, h.r1.fr hf h1, h.r2.fr hf h2⟩
theorem DV.Made.in_ {B : Nat} {w : World} {d : DV} (h : d.Made B w) : d.In w := by
  have e1 := h.m1
  have e2 := h.m2
  refine ⟨?_, ?_, by unfold maxLen; omega, by unfold maxLen; omega⟩
  · rw [h.a1]
    exact h.r1.rd (by rw [List.length_map, h.l1, Nat.mul_one])
  · rw [h.a2]
    exact h.r2.rd (by rw [waitCells_len, h.l2])
/-- a raid that a call made -/
structure MadeR (B : Nat) (w : World) (g n : Nat) (ds : List DV) : Prop where
  base : B ≤ g
  row : Bk w g 49 (rCells ds).toArray
  len : ds.length = n
  each : ∀ d ∈ ds, d.Made B w
theorem MadeR.after {B : Nat} {w w' : World} {g n : Nat} {ds : List DV} (h : MadeR B w g n ds) (hb : Below w.heap.size w w') : MadeR B w' g n ds := ⟨h.base, h.row.after hb, h.len, fun d hd => (h.each d hd).after hb⟩
theorem MadeR.rin {B : Nat} {w : World} {g n : Nat} {ds : List DV} (h : MadeR B w g n ds) : RIn w (some ⟨g, 0, none⟩) n ds :=
  ⟨h.row.rd (by rw [rCells_len, h.len]; omega) (fun j u hu => by rw [List.getElem?_toArray]; exact hu), fun d hd => (h.each d hd).in_⟩
theorem rCells_snoc (ds : List DV) (d : DV) : rCells (ds ++ [d]) = rCells ds ++ d.cells := by simp [rCells]
theorem raid_put {cs : Array Value} {ds : List DV} {k : Nat} {d : DV} (hk : ds.length = k) (hs : k * 3 + 2 < cs.size) (h : ∀ j, j < k * 3 → cs[j]? = (rCells ds)[j]?) :
    ∀ j, j < (k + 1) * 3 → (((cs.setIfInBounds (k * 3) (.slice d.A1 d.n1 d.c1)).setIfInBounds (k * 3 + 1) (.slice d.A2 d.n2 d.c2)).setIfInBounds (k * 3 + 2) (.bool d.g))[j]? = (rCells (ds ++ [d]))[j]? := by
  intro j hj
  rw [rCells_snoc]
  have hl := rCells_len ds
  rw [hk] at hl
  simp only [Array.getElem?_setIfInBounds, Array.size_setIfInBounds]
  by_cases h0 : j < k * 3
  · rw [if_neg (by omega), if_neg (by omega), if_neg (by omega), List.getElem?_append_left (by omega)]
    exact h j h0
  · obtain ⟨i, rfl⟩ : ∃ i, j = k * 3 + i := ⟨j - k * 3, by omega⟩
    have hi : i < 3 := by omega
    rw [List.getElem?_append_right (by omega), show k * 3 + i - (rCells ds).length = i by omega]
    match i, hi with
    | 0, _ => rw [if_neg (by omega), if_neg (by omega), if_pos (by omega), if_pos (by omega)]; rfl
    | 1, _ => rw [if_neg (by omega), if_pos (by omega), if_pos (by omega)]; rfl
    | 2, _ => rw [if_pos (by omega), if_pos (by omega)]; rfl
theorem info_disk2 : (Try.prog.info? 49).map (fun i => (i.zero, i.size, i.bytes)) = some (some (.agg #[.slice none 0 0, .slice none 0 0, .bool false]), 3, 56) := by kernel_rfl
/-- make([]Disk, n) -/
theorem make_disks (n : Nat) (hn : n ≤ 1000000000) (w : World) :
    (Instr.makeSlice 22 (.int .i64 (n : Int)) (.int .i64 (n : Int))).run Try.prog w = .ok (.slice (some ⟨w.heap.size, 0, none⟩) n n) (w.alloc (.cells (madeCells #[.slice none 0 0, .slice none 0 0, .bool false] (n * 3)) 49)) := by
  obtain ⟨i, hi, hz, hs, hb⟩ := info_parts info_disk2
  have hr := run_make (P := Try.prog) w 22 49 i _ Try.underlying22 hi hz .i64 .i64 n n (by omega) (by omega) (by rw [hb]; omega) (by omega)
  simp only [Int.toNat_natCast, hs] at hr
  exact hr
theorem put3i {w : World} {g i : Nat} {t : TypeId} {cs : Array Value} (h : Bk w g t cs) (a b c : Value) :
    Bk (((w.setCell ⟨g, i, none⟩ a).setCell ⟨g, i + 1, none⟩ b).setCell ⟨g, i + 2, none⟩ c) g t (((cs.setIfInBounds i a).setIfInBounds (i + 1) b).setIfInBounds (i + 2) c) := ((h.put i a).put (i + 1) b).put (i + 2) c
theorem vals_more {ds es : List DV} {k : Nat} {d e : DV} (hd : ds[k]? = some d) (h : es.map DV.val = (ds.take k).map DV.val) (he : e.val = d.val) : (es ++ [e]).map DV.val = (ds.take (k + 1)).map DV.val := by
  rw [List.take_add_one, hd, List.map_append, List.map_append, h]
  show _ ++ [e.val] = _ ++ [d.val]
  rw [he]
set_option maxHeartbeats 4000000 in
theorem toDiskS_any (A : Option Addr) (n c : Nat) (ds : List DV) (w : World) (h : RIn w A n ds) (hs : n + tot ds ≤ 1048576) :
    Calls Try.prog 39 #[.slice A n c] w fun r w' => ∃ ds', r = .returned (.slice (some ⟨w.heap.size, 0, none⟩) n n) ∧ MadeR w.heap.size w' w.heap.size n ds' ∧ ds'.map DV.val = ds.map DV.val ∧ Below w.heap.size w w' := by
  have hmk := make_disks n (by omega) w
  have HL := hide h.len
  have H := hide h
  have HT := hide (show ∀ (k : Nat) (d : DV), ds[k]? = some d → d.n1 ≤ 1048576 ∧ d.n2 ≤ 1048576 from fun k d hd => by
    have h1 : tot (ds.take (k + 1)) ≤ tot ds := by
      have : tot ds = tot (ds.take (k + 1)) + tot (ds.drop (k + 1)) := by
        unfold tot
        rw [← List.sum_append, ← List.map_append, List.take_append_drop]
      omega
    rw [tot_more hd] at h1
    omega)
  have hn9 : n ≤ 1048576 := by omega
  clear h hs
  go_enter Try.func39, Try.ntmps39
  go_wp2
  go_loopw [4] (fun i wr => ∃ (k : Nat) (cs : Array Value) (es : List DV), k ≤ n ∧ Hid (Bk wr w.heap.size 49 cs) ∧ Hid (cs.size = n * 3) ∧ Hid (es.length = k) ∧ Hid (es.map DV.val = (ds.take k).map DV.val) ∧ Hid (∀ d ∈ es, d.Made w.heap.size wr) ∧ Hid (∀ j, j < k * 3 → cs[j]? = (rCells es)[j]?) ∧ Hid (Below w.heap.size w wr) ∧ i = .int .i64 k) (fun i _ => n - (intOf i).toNat)
  case atStart => exact ⟨0, _, [], by omega, hide (Bk.fresh _ _ _), hide (size_madeCells _ _), hide rfl, hide rfl, hide (by simp), hide (fun j hj => absurd hj (by omega)), hide (bel1 _ _), rfl⟩
  case round =>
    obtain ⟨k, cs, es, hk, HB, HS, HEL, HEV, HEM, HM, HF, rfl⟩ := hrel
    clear hmk
    by_cases hlt : k < n
    · obtain ⟨b, o, d, rfl, hb, hd, hc0, hc1, hc2⟩ := (H.out.1.after HF.out).disk_at hlt
      have hin := (H.out.2 d (List.mem_of_getElem? hd)).after HF.out
      obtain ⟨t1, t2⟩ := HT.out k d hd
      have HD := hide hd
      have HI := hide hin
      have i0 : (0 : Int) ≤ (k : Int) := by omega
      have i1 : (k : Int) < (n : Int) := by omega
      clear hd hin hb
      go_wp2_with fail
      refine (toDisk_any _ _ _ _ _ _ d.z1 d.z2 _ _ HI.out.1 HI.out.2.1 t1 t2).mono ?_; rintro r w1 ⟨g1, g2, rfl, hne, hg1, hg2, k1, k2, hb1⟩
      have HB1 := HB.out.after hb1
      have ks : k * 3 + 2 < cs.size := by have := HS.out; omega
      have cat : ∀ j, j < 3 → ∃ u, w1.cell? ⟨w.heap.size, k * 3 + j, none⟩ = some u := fun j hj => ⟨cs[k * 3 + j]'(by omega), by rw [HB1.cell]; exact Array.getElem?_eq_getElem _⟩
      obtain ⟨u0, d0⟩ := cat 0 (by omega)
      obtain ⟨u1, d1⟩ := cat 1 (by omega)
      obtain ⟨u2, d2⟩ := cat 2 (by omega)
      rw [Nat.add_zero] at d0
      have f0 := HB1.frozen (k * 3)
      have f1 := HB1.frozen (k * 3 + 1)
      have f2 := HB1.frozen (k * 3 + 2)
      have e1 : d.z1.length = d.n1 := by have := HI.out.1.len; simpa using this
      have e2 : d.z2.length = d.n2 := by have := HI.out.2.1.len; rw [waitCells_len] at this; omega
      have hgw := HB.out.lt
      have HNE := hide (show (⟨some ⟨g1, 0, none⟩, d.n1, d.n1, some ⟨g2, 0, none⟩, d.n2, d.n2, d.g, d.z1, d.z2⟩ : DV).Made w.heap.size w1 from ⟨rfl, rfl, by show w.heap.size ≤ g1; omega, by show w.heap.size ≤ g2; omega, e1, e2, t1, t2, ⟨_, k1, by simp, fun j hj => by rw [List.getElem?_toArray]⟩, ⟨_, k2, by simp, fun j hj => by rw [List.getElem?_toArray]⟩⟩)
      have HP := hide (put3i (i := k * 3) HB1 (.slice (some ⟨g1, 0, none⟩) d.n1 d.n1) (.slice (some ⟨g2, 0, none⟩) d.n2 d.n2) (.bool d.g))
      have W3 : Fr (· = w.heap.size) w1 (((w1.setCell ⟨w.heap.size, k * 3, none⟩ (.slice (some ⟨g1, 0, none⟩) d.n1 d.n1)).setCell ⟨w.heap.size, k * 3 + 1, none⟩ (.slice (some ⟨g2, 0, none⟩) d.n2 d.n2)).setCell ⟨w.heap.size, k * 3 + 2, none⟩ (.bool d.g)) := (((Fr.refl (· = w.heap.size) w1).setCell (p := ⟨w.heap.size, k * 3, none⟩) (.inl rfl) _).setCell (p := ⟨w.heap.size, k * 3 + 1, none⟩) (.inl rfl) _).setCell (p := ⟨w.heap.size, k * 3 + 2, none⟩) (.inl rfl) _
      have HW3 := hide W3
      have HF1 := hide (HF.out.trans (hb1.mono HF.out.size) |>.trans (W3.below (HF.out.trans (hb1.mono HF.out.size)).size (fun i e => Nat.le_of_eq e.symm)))
      have HEM1 := hide (show ∀ d' ∈ es, d'.Made w.heap.size w1 from fun d' hd' => (HEM.out d' hd').after hb1)
      have HMP := hide (raid_put (d := ⟨some ⟨g1, 0, none⟩, d.n1, d.n1, some ⟨g2, 0, none⟩, d.n2, d.n2, d.g, d.z1, d.z2⟩) HEL.out ks HM.out)
      have HBB := hide HB1
      clear hb1 HB1 cat ks W3 k1 k2 hne hg1 hg2 e1 e2
      go_wp2_with fail
      go_roundw
      case rel =>
        refine ⟨k + 1, _, es ++ [⟨some ⟨g1, 0, none⟩, d.n1, d.n1, some ⟨g2, 0, none⟩, d.n2, d.n2, d.g, d.z1, d.z2⟩], by omega, HP, hide (by simp only [Array.size_setIfInBounds]; exact HS.out), hide (by rw [List.length_append, List.length_singleton, HEL.out]), hide (vals_more HD.out HEV.out rfl), hide (fun d' hd' => ?_), HMP, HF1, int_eq (by omega)⟩
        have hm : d'.Made w.heap.size w1 := by
          rcases List.mem_append.1 hd' with h1 | h1
          · exact HEM1.out d' h1
          · rw [List.mem_singleton] at h1; rw [h1]; exact HNE.out
        obtain ⟨x1, hx1, _⟩ := hm.r1
        obtain ⟨x2, hx2, _⟩ := hm.r2
        exact hm.fr HW3.out (fun e => hx1.ne_type HBB.out (by decide) e) (fun e => hx2.ne_type HBB.out (by decide) e)
      case measure => simp [intOf]; omega
    · go_wp2_with fail
      go_ret
      have e : k = n := by omega
      subst e
      have e2 := arr_ext (cs := cs) (xs := rCells es) (by rw [HS.out, rCells_len, HEL.out]; omega) (fun j hj => HM.out j (by rw [rCells_len, HEL.out] at hj; omega))
      refine ⟨es, rfl, ⟨Nat.le_refl _, by rw [← e2]; exact HB.out, HEL.out, HEM.out⟩, ?_, HF.out⟩
      have := HEV.out
      rwa [List.take_of_length_le (Nat.le_of_eq HL.out)] at this
set_option maxHeartbeats 2000000 in
theorem toRaid_any (A : Option Addr) (n c : Nat) (ds : List DV) (w : World) (h : RIn w A n ds) (hs : n + tot ds ≤ 1048576) :
    Calls Try.prog 17 #[.agg #[.slice A n c]] w fun r w' => ∃ g ds', r = .returned (.agg #[.slice (some ⟨g, 0, none⟩) n n]) ∧ MadeR w.heap.size w' g n ds' ∧ ds'.map DV.val = ds.map DV.val ∧ Below w.heap.size w w' := by
  obtain ⟨W0, HW0⟩ : ∃ W : World, W = ((w.alloc (.cells #[.slice A n c] 31)).alloc (.cells #[.slice none 0 0] 24)).alloc (.cells #[.slice none 0 0] 24) := ⟨_, rfl⟩
  have hb0 : Below w.heap.size w W0 := by rw [HW0]; exact (((Below.refl _ _).alloc (Nat.le_refl _) _).alloc (by simp) _).alloc (by simp; omega) _
  have z0 : W0.heap.size = w.heap.size + 1 + 1 + 1 := by rw [HW0]; simp
  have K1 := hide (show Bk W0 (w.heap.size + 1) 24 #[.slice none 0 0] by
    rw [HW0]
    have h := (Bk.fresh (w.alloc (.cells #[.slice A n c] 31)) 24 #[.slice none 0 0]).alloc (.cells #[.slice none 0 0] 24)
    simpa using h)
  have K2 := hide (show Bk W0 (w.heap.size + 1 + 1) 24 #[.slice none 0 0] by
    rw [HW0]
    have h := Bk.fresh ((w.alloc (.cells #[.slice A n c] 31)).alloc (.cells #[.slice none 0 0] 24)) 24 #[.slice none 0 0]
    simpa using h)
  have H := hide (h.after hb0)
  have HB0 := hide hb0
  have HZ0 := hide z0
  clear h hb0 z0
  go_enter Try.func17, Try.ntmps17
  go_wp2_with fail
  rw [← HW0]
  clear HW0
  refine (toDiskS_any _ _ _ ds _ H.out hs).mono ?_; rintro r w1 ⟨es, rfl, hm, hv, hb⟩
  have c1 := (K1.out.after hb).cell 0
  have f1 := (K1.out.after hb).frozen 0
  have c2 := (K2.out.after hb).cell 0
  have f2 := (K2.out.after hb).frozen 0
  have hne : ¬ w.heap.size + 1 + 1 = w.heap.size + 1 := by omega
  have hne' : ¬ w.heap.size + 1 = w.heap.size + 1 + 1 := by omega
  have HW := hide (HB0.out.trans (hb.mono HB0.out.size))
  have KA := hide (K1.out.after hb)
  have KC := hide (K2.out.after hb)
  have HMR := hide hm
  have HV := hide hv
  clear hb hm hv
  go_wp2_with fail
  refine bodyPost_ret (v := .agg #[.slice (some ⟨W0.heap.size, 0, none⟩) n n]) (by simp [results, Try.results17, go_sem, *]) rfl ?_
  have W3 : Fr (fun i => i = w.heap.size + 1 ∨ i = w.heap.size + 1 + 1) w1 ((w1.setCell ⟨w.heap.size + 1 + 1, 0, none⟩ (.slice (some ⟨W0.heap.size, 0, none⟩) n n)).setCell ⟨w.heap.size + 1, 0, none⟩ (.slice (some ⟨W0.heap.size, 0, none⟩) n n)) := ((Fr.refl (fun i => i = w.heap.size + 1 ∨ i = w.heap.size + 1 + 1) w1).setCell (p := ⟨w.heap.size + 1 + 1, 0, none⟩) (.inl (.inr rfl)) _).setCell (p := ⟨w.heap.size + 1, 0, none⟩) (.inl (.inl rfl)) _
  have hz := HZ0.out
  refine ⟨_, es, rfl, ⟨by omega, HMR.out.row.fr W3 (by omega), HMR.out.len, fun d hd => ?_⟩, HV.out, HW.out.trans (W3.below HW.out.size (fun i e => by omega))⟩
  have hm := HMR.out.each d hd
  have hb1 := hm.base
  have hb2 := hm.base2
  have := hm.fr W3 (by omega) (by omega)
  exact ⟨this.a1, this.a2, by omega, by omega, this.l1, this.l2, this.m1, this.m2, this.r1, this.r2⟩
end Go.Proofs.Ytcaoekaephnimaa
