/- spec's l4Flush and RaidFlush. -/
import Derived.Test.YtcaoekaephnimaaRaidCopy
import Derived.Test.YtcaoekaephnimaaRaidOk
import Derived.Test.YtcaoekaephnimaaQF
namespace Go.Proofs.Ytcaoekaephnimaa
open Go.RowKit
set_option linter.unusedVariables false
set_option maxRecDepth 100000

abbrev DVal := List ByteArray × List (Int × ByteArray) × Bool
/-- a disk flushed -/
def flushV (_ : Nat) (v : DVal) : DVal := (settleT (fun _ z _ => z.2) 0 v.2.1 v.1, [], v.2.2)
/-- a row of disks, some changed in place -/
def PlS (w : World) (g : Nat) (cs : Array Value) (n : Nat) (es : List DV) : Prop := Bk w g 49 cs ∧ n * 3 ≤ cs.size ∧ es.length = n ∧ ∀ j, j < n * 3 → cs[j]? = (rCells es)[j]?
theorem PlS.after {w w' : World} {g n : Nat} {cs : Array Value} {es : List DV} (h : PlS w g cs n es) (hb : Below w.heap.size w w') : PlS w' g cs n es := ⟨h.1.after hb, h.2⟩
theorem PlS.fr {S : Nat → Prop} {w w' : World} {g n : Nat} {cs : Array Value} {es : List DV} (h : PlS w g cs n es) (hf : Fr S w w') (hS : ¬ S g) : PlS w' g cs n es := ⟨h.1.fr hf hS, h.2⟩
theorem PlS.at_ {w : World} {g n : Nat} {cs : Array Value} {es : List DV} (h : PlS w g cs n es) {k : Nat} {e : DV} (he : es[k]? = some e) : w.cell? ⟨g, k * 3, none⟩ = some (.slice e.A1 e.n1 e.c1) ∧ w.cell? ⟨g, k * 3 + 1, none⟩ = some (.slice e.A2 e.n2 e.c2) ∧ w.cell? ⟨g, k * 3 + 2, none⟩ = some (.bool e.g) := by
  obtain ⟨h1, h2, h3, h4⟩ := h
  have hk : k < n := by rw [← h3]; exact (List.getElem?_eq_some_iff.1 he).1
  obtain ⟨c0, c1, c2⟩ := rCells_at es k e he
  rw [h1.cell, h1.cell, h1.cell, h4 _ (by omega), h4 _ (by omega), h4 _ (by omega)]
  exact ⟨c0, c1, c2⟩
theorem PlS.put {w : World} {g n : Nat} {cs : Array Value} {es : List DV} (h : PlS w g cs n es) {k : Nat} (hk : k < n) (e : DV) :
    PlS (((w.setCell ⟨g, k * 3, none⟩ (.slice e.A1 e.n1 e.c1)).setCell ⟨g, k * 3 + 1, none⟩ (.slice e.A2 e.n2 e.c2)).setCell ⟨g, k * 3 + 2, none⟩ (.bool e.g)) g (((cs.setIfInBounds (k * 3) (.slice e.A1 e.n1 e.c1)).setIfInBounds (k * 3 + 1) (.slice e.A2 e.n2 e.c2)).setIfInBounds (k * 3 + 2) (.bool e.g)) n (es.set k e) := by
  obtain ⟨h1, h2, h3, h4⟩ := h
  refine ⟨put3i h1 _ _ _, by simp only [Array.size_setIfInBounds]; exact h2, by rw [List.length_set, h3], fun j hj => ?_⟩
  obtain ⟨i, r, hr, rfl⟩ : ∃ i r, r < 3 ∧ j = i * 3 + r := ⟨j / 3, j % 3, by omega, by omega⟩
  have hi : i < n := by omega
  obtain ⟨d, hd⟩ : ∃ d, es[i]? = some d := ⟨es[i], List.getElem?_eq_getElem (by omega)⟩
  have hset : (es.set k e)[i]? = some (if k = i then e else d) := by
    rw [List.getElem?_set]
    by_cases q : k = i
    · rw [if_pos q, if_pos q, if_pos (by omega)]
    · rw [if_neg q, if_neg q, hd]
  obtain ⟨a0, a1, a2⟩ := rCells_at _ i _ hset
  obtain ⟨b0, b1, b2⟩ := rCells_at _ i _ hd
  simp only [Array.getElem?_setIfInBounds, Array.size_setIfInBounds]
  have h40 := h4 (i * 3) (by omega)
  have h41 := h4 (i * 3 + 1) (by omega)
  have h42 := h4 (i * 3 + 2) (by omega)
  by_cases q : k = i
  · subst q
    rw [if_pos rfl] at a0 a1 a2
    match r, hr with
    | 0, _ => rw [if_neg (by omega), if_neg (by omega), if_pos (by omega), if_pos (by omega), Nat.add_zero, a0]
    | 1, _ => rw [if_neg (by omega), if_pos (by omega), if_pos (by omega), a1]
    | 2, _ => rw [if_pos (by omega), if_pos (by omega), a2]
  · rw [if_neg q] at a0 a1 a2
    match r, hr with
    | 0, _ => rw [if_neg (by omega), if_neg (by omega), if_neg (by omega), Nat.add_zero, a0, h40, b0]
    | 1, _ => rw [if_neg (by omega), if_neg (by omega), if_neg (by omega), a1, h41, b1]
    | 2, _ => rw [if_neg (by omega), if_neg (by omega), if_neg (by omega), a2, h42, b2]
/-- the disks of the row, the first k done -/
def PlD (B : Nat) (w : World) (fl : Nat → DVal → DVal) (ds es : List DV) (k : Nat) : Prop :=
  ∀ j d, ds[j]? = some d → ∃ e, es[j]? = some e ∧ e.b = d.b ∧ (j < k → e.Own B w ∧ e.val = fl j d.val) ∧ (k ≤ j → e = d ∧ d.Made B w)
theorem PlD.after {B : Nat} {w w' : World} {fl : Nat → DVal → DVal} {ds es : List DV} {k : Nat} (h : PlD B w fl ds es k) (hb : Below w.heap.size w w') : PlD B w' fl ds es k := fun j d hd => by
  obtain ⟨e, h1, h2, h3, h4⟩ := h j d hd
  exact ⟨e, h1, h2, fun q => ⟨(h3 q).1.after hb, (h3 q).2⟩, fun q => ⟨(h4 q).1, (h4 q).2.after hb⟩⟩
theorem PlD.step {B g : Nat} {S : Nat → Prop} {w w' : World} {fl : Nat → DVal → DVal} {ds es : List DV} {k : Nat} {d e' : DV} {cs : Array Value} (h : PlD B w fl ds es k) (ha : ds.Pairwise (fun d e => d.b ≠ e.b)) (hd : ds[k]? = some d) (hg : Bk w g 49 cs) (hf : Fr S w w') (hS : ∀ i, S i → i = d.b ∨ i = g)
    (he : e'.b = d.b) (ho : e'.Own B w') (hv : e'.val = fl k d.val) : PlD B w' fl ds (es.set k e') (k + 1) := by
  intro j d' hd'
  obtain ⟨e, h1, h2, h3, h4⟩ := h j d' hd'
  obtain ⟨_, _, _, _, h9⟩ := h k d hd
  obtain ⟨xk, hxk, _⟩ := (h9 (Nat.le_refl _)).2.r1
  by_cases q : k = j
  · subst q
    obtain rfl : d' = d := Option.some.inj (hd'.symm.trans hd)
    refine ⟨e', ?_, he, fun _ => ⟨ho, hv⟩, fun q => absurd q (by omega)⟩
    rw [List.getElem?_set, if_pos rfl, if_pos (List.getElem?_eq_some_iff.1 h1).1]
  · have hne := apart_ne ha hd' hd (fun e => q e.symm)
    refine ⟨e, by rw [List.getElem?_set, if_neg q, h1], h2, fun q' => ?_, fun q' => ?_⟩
    · obtain ⟨ho', hv'⟩ := h3 (by omega)
      obtain ⟨x1, hx1, _⟩ := ho'.row
      refine ⟨ho'.fr hf (fun s => ?_), hv'⟩
      rcases hS _ s with s | s
      · exact hne (h2.symm.trans s)
      · exact hx1.ne_type hg (by decide) s
    · obtain ⟨he', hm⟩ := h4 (by omega)
      obtain ⟨x1, hx1, _⟩ := hm.r1
      obtain ⟨x2, hx2, _⟩ := hm.r2
      refine ⟨he', hm.fr hf (fun s => ?_) (fun s => ?_)⟩
      · rcases hS _ s with s | s
        · exact hne s
        · exact hx1.ne_type hg (by decide) s
      · rcases hS _ s with s | s
        · exact hx2.ne_type hxk (by decide) s
        · exact hx2.ne_type hg (by decide) s
/-- done: a raid of the call's own -/
theorem pl_own {B g n c : Nat} {w : World} {fl : Nat → DVal → DVal} {ds es : List DV} {cs : Array Value} (hs : PlS w g cs n es) (hd : PlD B w fl ds es n) (hl : ds.length = n) (ha : ds.Pairwise (fun d e => d.b ≠ e.b)) (hg : B ≤ g) (hc : n ≤ c) (hm : c ≤ maxLen) (hz : cs.size = c * 3) :
    OwnR B w (.slice (some ⟨g, 0, none⟩) n c) es ∧ es.map DV.val = (ds.map DV.val).mapIdx fl := by
  obtain ⟨h1, h2, h3, h4⟩ := hs
  refine ⟨⟨⟨by rw [rCells_len]; omega, .inr ⟨g, c, cs, by rw [h3], hg, h1, by omega, hm, hz, ?_⟩⟩, fun e he => ?_, ?_⟩, ?_⟩
  · apply List.ext_getElem?
    intro j
    by_cases q : j < n * 3
    · rw [List.getElem?_take_of_lt (by omega), ← h4 j q, Array.getElem?_toList]
    · rw [List.getElem?_eq_none (by rw [List.length_take]; omega), List.getElem?_eq_none (by rw [rCells_len]; omega)]
  · obtain ⟨j, hj, rfl⟩ := List.getElem_of_mem he
    obtain ⟨e, q1, q2, q3, q4⟩ := hd j ds[j] (List.getElem?_eq_getElem (by omega))
    rw [List.getElem?_eq_getElem hj] at q1
    rw [Option.some.inj q1]
    exact (q3 (by omega)).1
  · rw [List.pairwise_iff_getElem] at ha ⊢
    intro i j hi hj hij
    obtain ⟨e, q1, q2, _⟩ := hd i ds[i] (List.getElem?_eq_getElem (by omega))
    obtain ⟨e', r1, r2, _⟩ := hd j ds[j] (List.getElem?_eq_getElem (by omega))
    rw [List.getElem?_eq_getElem hi] at q1
    rw [List.getElem?_eq_getElem hj] at r1
    rw [Option.some.inj q1, Option.some.inj r1, q2, r2]
    exact ha i j (by omega) (by omega) hij
  · apply List.ext_getElem?
    intro j
    rw [List.getElem?_map, List.getElem?_mapIdx, List.getElem?_map]
    by_cases q : j < n
    · obtain ⟨e, q1, q2, q3, q4⟩ := hd j ds[j] (List.getElem?_eq_getElem (by omega))
      rw [q1, List.getElem?_eq_getElem (show j < ds.length by omega)]
      exact congrArg some (q3 q).2
    · rw [List.getElem?_eq_none (by omega), List.getElem?_eq_none (by omega)]
      rfl
theorem OwnR.set {B : Nat} {w : World} {V v : Value} {ds : List DV} {b : Nat} {cs : Array Value} (h : OwnR B w V ds) (hb : Bk w b 24 cs) : OwnR B (w.setCell ⟨b, 0, none⟩ v) V ds := by
  have hf := (Fr.refl (fun i => i = b) w).setCell (p := ⟨b, 0, none⟩) (.inl rfl) v
  refine ⟨own_set h.own hb, fun e he => ?_, h.apart⟩
  obtain ⟨x1, hx1, _⟩ := (h.each e he).row
  exact (h.each e he).fr hf (fun q => hx1.ne_type hb (by decide) q)
/-- a valid disk's rows -/
theorem ok_parts {d : DV} (h : d.ok = true) : d.z1.length = 64 ∧ d.z2.all waitB = true ∧ ∀ u ∈ d.z1, u.size ≤ 200 := by
  unfold DV.ok diskOk at h
  simp only [Bool.and_eq_true, decide_eq_true_eq] at h
  refine ⟨h.1.1.1.1, h.2, fun u hu => ?_⟩
  have := List.all_eq_true.1 h.1.2 u hu
  unfold cellB at this
  simp only [Bool.and_eq_true, decide_eq_true_eq] at this
  exact this.1
/-- what a raid in place gives -/
def InPl (B : Nat) (V : Value) (vs : List DVal) (w : World) (r : Ending) (w' : World) : Prop := ∃ es, r = .returned (.agg #[V]) ∧ OwnR B w' V es ∧ es.map DV.val = vs ∧ Below B w w'
theorem Below.size_le {B : Nat} {w w' : World} (h : Below B w w') (hB : B ≤ w.heap.size) : B ≤ w'.heap.size := Nat.le_trans hB h.size
set_option maxHeartbeats 8000000 in
theorem l4Flush_at (B g n c : Nat) (cs : Array Value) (ds : List DV) (w : World) (hs : PlS w g cs n ds) (hz : cs.size = c * 3) (hc : n ≤ c) (hcm : c ≤ maxLen) (hg : B ≤ g) (hB : B ≤ w.heap.size) (he : ∀ d ∈ ds, d.Made B w ∧ d.ok = true) (ha : ds.Pairwise (fun d e => d.b ≠ e.b)) (hn : n ≤ 1000) :
    Calls Try.prog 43 #[.agg #[.slice (some ⟨g, 0, none⟩) n c]] w (InPl B (.slice (some ⟨g, 0, none⟩) n c) ((ds.map DV.val).mapIdx flushV) w) := by
  have hb0 : Below w.heap.size w ((w.alloc (.cells #[.slice (some ⟨g, 0, none⟩) n c] 24)).alloc (.cells #[.slice none 0 0] 24)) := ((Below.refl _ _).alloc (Nat.le_refl _) _).alloc (by simp) _
  have K0 := hide ((Bk.fresh w 24 #[.slice (some ⟨g, 0, none⟩) n c]).alloc (.cells #[.slice none 0 0] 24))
  have K2 := hide (show Bk ((w.alloc (.cells #[.slice (some ⟨g, 0, none⟩) n c] 24)).alloc (.cells #[.slice none 0 0] 24)) (w.heap.size + 1) 24 #[.slice none 0 0] by
    have h := Bk.fresh (w.alloc (.cells #[.slice (some ⟨g, 0, none⟩) n c] 24)) 24 #[.slice none 0 0]
    rw [show (w.alloc (.cells #[.slice (some ⟨g, 0, none⟩) n c] 24)).heap.size = w.heap.size + 1 by simp] at h
    exact h)
  have HP := hide (hs.after hb0)
  have HD := hide (show PlD B _ flushV ds ds 0 from fun j d hd => ⟨d, hd, rfl, fun q => absurd q (by omega), fun _ => ⟨rfl, (he d (List.mem_of_getElem? hd)).1.after hb0⟩⟩)
  have HB := hide (hb0.mono hB)
  have HOKS := hide (show ∀ d ∈ ds, d.ok = true from fun d hd => (he d hd).2)
  have HBS0 := hide hB
  have HGB := hide hg
  have HA := hide ha
  have HLN := hide hs.2.2.1
  have HZ := hide hz
  have HCN := hide hc
  have HCM := hide hcm
  clear hs he ha hz hc hcm hb0 hg
  go_enter Try.func43, Try.ntmps43
  go_wp2_with fail
  go_loopw [3] (fun i wr => ∃ (k : Nat) (cs : Array Value) (es : List DV), k ≤ n ∧ i = .int .i64 k ∧ Hid (Bk wr w.heap.size 24 #[.slice (some ⟨g, 0, none⟩) n c]) ∧ Hid (Bk wr (w.heap.size + 1) 24 #[.slice none 0 0]) ∧ Hid (PlS wr g cs n es) ∧ Hid (PlD B wr flushV ds es k) ∧ Hid (cs.size = c * 3) ∧ Hid (Below B w wr)) (fun i _ => n - (intOf i).toNat)
  case atStart => exact ⟨0, cs, ds, by omega, rfl, K0, K2, HP, HD, HZ, HB⟩
  case round =>
    clear K0 K2 HP HD HZ HB
    obtain ⟨k, cs, es, hk, rfl, K0, K2, HP, HD, HZ, HB⟩ := hrel
    have t0 := K0.out.cell 0
    by_cases hlt : k < n
    · have i0 : (0 : Int) ≤ (k : Int) := by omega
      have i1 : (k : Int) < (n : Int) := by omega
      have hkd : k < ds.length := by rw [HLN.out]; exact hlt
      obtain ⟨d, hdk⟩ : ∃ d, ds[k]? = some d := ⟨ds[k]'hkd, List.getElem?_eq_getElem hkd⟩
      have hb := (Below.refl wr.heap.size wr).drew
      have HBS := hide (Below.size_le HB.out HBS0.out)
      have K2 := hide (K2.out.after hb)
      have HP := hide (HP.out.after hb)
      have HD := hide (HD.out.after hb)
      have HB := hide (HB.out.trans (hb.mono HBS.out))
      obtain ⟨e, q1, q2, q3, q4⟩ := HD.out k d hdk
      obtain ⟨q5, hmd⟩ := q4 (Nat.le_refl _)
      have q6 := q5.symm
      clear q5
      subst q6
      have hok := ok_parts (HOKS.out d (List.mem_of_getElem? hdk))
      have HEK := hide q1
      have HDK := hide hdk
      have HA1 := hide hmd.a1
      have HA2 := hide hmd.a2
      have HN1 := hide (show d.n1 = 64 by rw [← hmd.l1]; exact hok.1)
      have HR1 := hide hmd.r1
      have HR2 := hide (show Rd wr.drew 2 (some ⟨d.b2, 0, none⟩) d.n2 (waitCells d.z2) from hmd.r2.rd (by rw [waitCells_len, hmd.l2]))
      have HM2 := hide hmd.m2
      have HL1 := hide hok.1
      have HOK := hide hok.2.1
      have HBB := hide hmd.base
      obtain ⟨y1, hRB, _⟩ := hmd.r1
      obtain ⟨y2, hRB2, _⟩ := hmd.r2
      have HNE := hide (hRB2.ne_type hRB (by decide))
      have HP0 := hide HP.out.1
      have HGN := hide (hRB.ne_type HP.out.1 (by decide))
      have HX0 := hide (show ¬ (w.heap.size = d.b) from (K0.out.drewN 1).ne_type hRB (by decide))
      have HX1 := hide (show ¬ (w.heap.size + 1 = d.b) from K2.out.ne_type hRB (by decide))
      have HXG := hide (show ¬ (w.heap.size = g) from (K0.out.drewN 1).ne_type HP.out.1 (by decide))
      have HXH := hide (show ¬ (w.heap.size + 1 = g) from K2.out.ne_type HP.out.1 (by decide))
      obtain ⟨R, hR⟩ : ∃ R, settleT (fun _ z _ => z.2) 0 d.z2 d.z1 = R := ⟨_, rfl⟩
      have HSR := hide hR
      have HRL := hide (show R.length = 64 by rw [← hR, settle_len]; exact hok.1)
      have HH0 := hide (show Bk wr.drew w.heap.size 24 #[.slice (some ⟨g, 0, none⟩) n c] from K0.out)
      clear hb q1 q2 q3 q4 hmd hok hdk hkd hR hRB hRB2
      go_upto_region 4 with fail
      clear t0
      refine wp_region_held_drew (S := fun x => Bk x w.heap.size 24 #[.slice (some ⟨g, 0, none⟩) n c]) (by kernel_rfl) (HH0.out) (fun hH0 => ?_)
      refine wpAnyH_take (i := 0) (v := ?_) rfl (by kernel_rfl) (by kernel_rfl) (by kernel_rfl) (fun _ _ _ h => h) (Or.inl ⟨by rfl, fun wS hS => ?_⟩) hH0 ?_
      rotate_left
      · have s0 := Bk.c1 hS; go_simp; try exact rfl
      simp only [Act.put, List.setIfInBounds_toArray, List.set_cons_zero, List.set_cons_succ, List.getElem_toArray, List.getElem_cons_zero]
      refine wpAnyH_take (i := 1) (v := ?_) rfl (by kernel_rfl) (by kernel_rfl) (by kernel_rfl) (fun _ _ _ h => h) (Or.inl ⟨by rfl, fun wS hS => ?_⟩) hH0 ?_
      rotate_left
      · have s0 := Bk.c1 hS; go_simp; try exact rfl
      simp only [Act.put, List.setIfInBounds_toArray, List.set_cons_zero, List.set_cons_succ, List.getElem_toArray, List.getElem_cons_zero, List.getElem_cons_succ]
      refine wpAnyH_take (i := 2) (v := ?_) rfl (by kernel_rfl) (by kernel_rfl) (by kernel_rfl) (fun _ _ _ h => h) (Or.inl ⟨by rfl, fun wS hS => ?_⟩) hH0 ?_
      rotate_left
      · have s0 := Bk.c1 hS; go_simp; try exact rfl
      simp only [Act.put, List.setIfInBounds_toArray, List.set_cons_zero, List.set_cons_succ, List.getElem_toArray, List.getElem_cons_zero, List.getElem_cons_succ]
      refine wpAnyH_take (i := 3) (v := ?_) rfl (by kernel_rfl) (by kernel_rfl) (by kernel_rfl) (fun _ _ _ h => h) (Or.inl ⟨by rfl, fun wS hS => ?_⟩) hH0 ?_
      rotate_left
      · have s0 := Bk.c1 hS; go_simp; try exact rfl
      simp only [Act.put, List.setIfInBounds_toArray, List.set_cons_zero, List.set_cons_succ, List.getElem_toArray, List.getElem_cons_zero, List.getElem_cons_succ]
      refine wpAnyH_take (i := 4) (v := ?_) rfl (by kernel_rfl) (by kernel_rfl) (by kernel_rfl) (fun _ _ _ h => h) (Or.inl ⟨by rfl, fun wS hS => ?_⟩) hH0 ?_
      rotate_left
      · have s0 := Bk.c1 hS; go_simp; try exact rfl
      simp only [Act.put, List.setIfInBounds_toArray, List.set_cons_zero, List.set_cons_succ, List.getElem_toArray, List.getElem_cons_zero, List.getElem_cons_succ]
      refine wpAnyH_take (i := 5) (v := ?_) rfl (by kernel_rfl) (by kernel_rfl) (by kernel_rfl) (fun _ _ _ h => h) (Or.inl ⟨by rfl, fun wS hS => ?_⟩) hH0 ?_
      rotate_left
      · have s0 := Bk.c1 hS; go_simp; try exact rfl
      simp only [Act.put, List.setIfInBounds_toArray, List.set_cons_zero, List.set_cons_succ, List.getElem_toArray, List.getElem_cons_zero, List.getElem_cons_succ]
      refine wpAnyH_take (i := 6) (v := ?_) rfl (by kernel_rfl) (by kernel_rfl) (by kernel_rfl) (fun _ _ _ h => h) (Or.inl ⟨by rfl, fun wS hS => ?_⟩) hH0 ?_
      rotate_left
      · have s0 := Bk.c1 hS; go_simp; try exact rfl
      simp only [Act.put, List.setIfInBounds_toArray, List.set_cons_zero, List.set_cons_succ, List.getElem_toArray, List.getElem_cons_zero, List.getElem_cons_succ]
      refine wpAnyH_ready (rs := [7]) (by kernel_rfl) (by simp) (AllReadyH.cons rfl (fun K hK => ?_) (AllReadyH.nil))
      obtain ⟨s0, s1, s2⟩ := HP.out.at_ HEK.out
      rw [HA1.out, HN1.out] at s0
      rw [HA2.out] at s1
      go_simp
      refine hK.out _ _ (hH0) (fun hH1 => ?_)
      clear hK K
      try simp only [Act.put]
      clear s0 s1 s2
      refine wpAnyH_ready (rs := [8]) (by kernel_rfl) (by simp) (AllReadyH.cons rfl (fun K hK => ?_) (AllReadyH.nil))
      go_simp
      go_at_call 69
      refine (l3Flush_any d.b d.c1 d.b2 0 d.n2 d.c2 d.z1 R d.z2 d.g _ HR1.out HL1.out HR2.out HM2.out HNE.out HOK.out HSR.out).mono ?_; rintro r x1 ⟨B2, rfl, hr1, hf⟩
      have hgb : ¬ (g = d.b) := fun e => HGN.out e.symm
      have hx : ¬ (w.heap.size = d.b) := HX0.out
      have K2 := hide (K2.out.fr hf HX1.out)
      have HP := hide (HP.out.fr hf hgb)
      have HFR := hide hf
      have HRN := hide hr1
      refine hK.out _ _ (hH1.fr hf hx) (fun hH2 => ?_)
      clear hK K
      try simp only [Act.put]
      clear hr1 hgb hx hf
      refine wpAnyH_take (i := 9) (v := ?_) rfl (by kernel_rfl) (by kernel_rfl) (by kernel_rfl) (fun _ _ _ h => h) (Or.inl ⟨by rfl, fun wS hS => ?_⟩) hH2 ?_
      rotate_left
      · have s0 := Bk.c1 hS; go_simp; try exact rfl
      simp only [Act.put, List.setIfInBounds_toArray, List.set_cons_zero, List.set_cons_succ, List.getElem_toArray, List.getElem_cons_zero, List.getElem_cons_succ]
      refine wpAnyH_ready (rs := [10]) (by kernel_rfl) (by simp) (AllReadyH.cons rfl (fun K hK => ?_) (AllReadyH.nil))
      obtain ⟨s0, s1, s2⟩ := HP.out.at_ HEK.out
      have f0 := HP.out.1.frozen (k * 3)
      have f1 := HP.out.1.frozen (k * 3 + 1)
      have f2 := HP.out.1.frozen (k * 3 + 2)
      go_simp
      refine hK.out _ _ (hH2.fr ((((Fr.refl (fun i => i = g) _).setCell (p := ⟨g, k * 3, none⟩) (.inl rfl) (.slice (some ⟨d.b, 0, none⟩) 64 d.c1)).setCell (p := ⟨g, k * 3 + 1, none⟩) (.inl rfl) (.slice B2 0 0)).setCell (p := ⟨g, k * 3 + 2, none⟩) (.inl rfl) (.bool d.g)) HXG.out) (fun hH3 => ?_)
      clear hK K
      try simp only [Act.put]
      clear s0 s1 s2 f0 f1 f2
      refine wpAnyH_done (by kernel_rfl) ?_ _
      have W3 := hide ((((Fr.refl (fun i => i = g) x1).setCell (p := ⟨g, k * 3, none⟩) (.inl rfl) (.slice (some ⟨d.b, 0, none⟩) 64 d.c1)).setCell (p := ⟨g, k * 3 + 1, none⟩) (.inl rfl) (.slice B2 0 0)).setCell (p := ⟨g, k * 3 + 2, none⟩) (.inl rfl) (.bool d.g))
      have K0 := hide (hH3)
      have K2 := hide (K2.out.fr W3.out HXH.out)
      have HFA := hide (show Fr (fun i => i = d.b ∨ i = g) wr.drew (((x1.setCell ⟨g, k * 3, none⟩ (.slice (some ⟨d.b, 0, none⟩) 64 d.c1)).setCell ⟨g, k * 3 + 1, none⟩ (.slice B2 0 0)).setCell ⟨g, k * 3 + 2, none⟩ (.bool d.g)) from (HFR.out.mono (fun i _ e => .inl e)).next W3.out (fun i _ e => .inl (.inr e)))
      have HB := hide (HB.out.trans (HFA.out.below HBS.out (fun i e => Or.elim e (fun e => by rw [e]; exact HBB.out) (fun e => by rw [e]; exact HGB.out))))
      have HO := hide (show (⟨some ⟨d.b, 0, none⟩, 64, d.c1, B2, 0, 0, d.g, R, []⟩ : DV).Own B (((x1.setCell ⟨g, k * 3, none⟩ (.slice (some ⟨d.b, 0, none⟩) 64 d.c1)).setCell ⟨g, k * 3 + 1, none⟩ (.slice B2 0 0)).setCell ⟨g, k * 3 + 2, none⟩ (.bool d.g)) from ⟨rfl, HBB.out, rfl, rfl, rfl, HRL.out, HRN.out.fr W3.out HGN.out, rfl⟩)
      have HD := hide (HD.out.step (e' := (⟨some ⟨d.b, 0, none⟩, 64, d.c1, B2, 0, 0, d.g, R, []⟩ : DV)) HA.out HDK.out HP0.out HFA.out (fun i e => e) rfl HO.out (show (⟨some ⟨d.b, 0, none⟩, 64, d.c1, B2, 0, 0, d.g, R, []⟩ : DV).val = flushV k d.val by show (R, [], d.g) = _; rw [← HSR.out]; rfl))
      have HP := hide (HP.out.put hlt (⟨some ⟨d.b, 0, none⟩, 64, d.c1, B2, 0, 0, d.g, R, []⟩ : DV))
      clear HO HFA W3 HFR HRN HP0
      go_wp2_with fail
      go_roundw
      case rel => exact ⟨k + 1, _, _, by omega, int_eq (by omega), K0, K2, HP, HD, hide (by simp only [Array.size_setIfInBounds]; exact HZ.out), HB⟩
      case measure => simp [intOf]; omega
    · have hkn : k = n := by omega
      have u2 := K2.out.cell 0
      have f2 := K2.out.frozen 0
      have HD := hide (show PlD B wr flushV ds es n from hkn ▸ HD.out)
      clear hkn
      go_wp2_with fail
      have KF := K2.out.put 0 (.slice (some ⟨g, 0, none⟩) n c)
      have c0 : (wr.setCell ⟨w.heap.size + 1, 0, none⟩ (.slice (some ⟨g, 0, none⟩) n c)).cell? ⟨w.heap.size + 1, 0, none⟩ = some (.slice (some ⟨g, 0, none⟩) n c) := KF.cell 0
      have hf := (Fr.refl (fun i => i = w.heap.size + 1) wr).setCell (p := ⟨w.heap.size + 1, 0, none⟩) (.inl rfl) (.slice (some ⟨g, 0, none⟩) n c)
      refine bodyPost_ret (v := .agg #[.slice (some ⟨g, 0, none⟩) n c]) (by simp [results, Try.results43, go_sem, c0]) rfl ?_
      have h := pl_own HP.out HD.out HLN.out HA.out HGB.out HCN.out HCM.out HZ.out
      refine ⟨es, rfl, h.1.set K2.out, h.2, HB.out.setCell (p := ⟨w.heap.size + 1, 0, none⟩) (by show B ≤ w.heap.size + 1; have := HBS0.out; omega) _⟩
end Go.Proofs.Ytcaoekaephnimaa
