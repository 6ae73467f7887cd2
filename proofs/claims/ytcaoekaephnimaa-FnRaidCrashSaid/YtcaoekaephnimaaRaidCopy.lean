/- spec's l4Copy: a raid anew. -/
import Derived.Test.YtcaoekaephnimaaRaidTo
import Derived.Test.YtcaoekaephnimaaRaidNew
import Derived.Test.YtcaoekaephnimaaDiskFl
namespace Go.Proofs.Ytcaoekaephnimaa
open Go.RowKit
set_option linter.unusedVariables false
set_option maxRecDepth 100000

/-- a disk that can be copied -/
structure DV.Src (w : World) (d : DV) : Prop where
  in_ : d.In w
  a1 : ∃ b o, d.A1 = some ⟨b, o, none⟩ ∧ b < w.heap.size
  a2 : ∃ b o, d.A2 = some ⟨b, o, none⟩ ∧ b < w.heap.size
  m1 : d.n1 ≤ 1048576
  m2 : d.n2 ≤ 1048576
theorem DV.Src.after {w w' : World} {d : DV} (h : d.Src w) (hb : Below w.heap.size w w') : d.Src w' := by
  obtain ⟨b1, o1, e1, l1⟩ := h.a1
  obtain ⟨b2, o2, e2, l2⟩ := h.a2
  exact ⟨h.in_.after hb, ⟨b1, o1, e1, Nat.lt_of_lt_of_le l1 hb.size⟩, ⟨b2, o2, e2, Nat.lt_of_lt_of_le l2 hb.size⟩, h.m1, h.m2⟩
theorem DV.Made.src {B : Nat} {w : World} {d : DV} (h : d.Made B w) : d.Src w := ⟨h.in_, ⟨_, _, h.a1, h.r1.lt⟩, ⟨_, _, h.a2, h.r2.lt⟩, h.m1, h.m2⟩
theorem DV.Made.mono {B B' : Nat} {w : World} {d : DV} (h : d.Made B w) (hB : B' ≤ B) : d.Made B' w := ⟨h.a1, h.a2, Nat.le_trans hB h.base, Nat.le_trans hB h.base2, h.l1, h.l2, h.m1, h.m2, h.r1, h.r2⟩
/-- a copy of a raid -/
structure CopR (B : Nat) (w : World) (V : Value) (ds : List DV) : Prop where
  own : w.ownsRow B 49 3 V ds.length (rCells ds)
  each : ∀ d ∈ ds, d.Made B w
  apart : ds.Pairwise (fun d e => d.b ≠ e.b)
theorem CopR.after {B : Nat} {w w' : World} {V : Value} {ds : List DV} (h : CopR B w V ds) (hb : Below w.heap.size w w') : CopR B w' V ds := ⟨own_aft h.own hb, fun d hd => (h.each d hd).after hb, h.apart⟩
/-- what turns no block of a raid's kind but the own row -/
theorem CopR.app {B : Nat} {w w' : World} {V V' : Value} {ds : List DV} {d : DV} (h : CopR B w V ds) (ho : w'.ownsRow B 49 3 V' (ds.length + 1) (rCells (ds ++ [d]))) (hf : Fr (fun i => some i = V.ownBlock) w w') (hd : d.Made B w) (hx : ∀ e ∈ ds, e.b ≠ d.b) : CopR B w' V' (ds ++ [d]) := by
  have key : ∀ e : DV, e.Made B w → e.Made B w' := fun e he => by
    obtain ⟨x1, hx1, _⟩ := he.r1
    obtain ⟨x2, hx2, _⟩ := he.r2
    exact he.fr hf (fun q => absurd (own_ty h.own q hx1) (by decide)) (fun q => absurd (own_ty h.own q hx2) (by decide))
  refine ⟨by rw [List.length_append, List.length_singleton]; exact ho, fun e he => ?_, ?_⟩
  · rcases List.mem_append.1 he with h1 | h1
    · exact key e (h.each e h1)
    · rw [List.mem_singleton] at h1; rw [h1]; exact key d hd
  · rw [List.pairwise_append]
    refine ⟨h.apart, List.pairwise_singleton _ _, fun e he f hf => ?_⟩
    rw [List.mem_singleton] at hf
    rw [hf]
    exact hx e he
theorem CopR.set {B : Nat} {w : World} {V v : Value} {ds : List DV} {b : Nat} {cs : Array Value} (h : CopR B w V ds) (hb : Bk w b 24 cs) : CopR B (w.setCell ⟨b, 0, none⟩ v) V ds := by
  have hf := (Fr.refl (fun i => i = b) w).setCell (p := ⟨b, 0, none⟩) (.inl rfl) v
  refine ⟨own_set h.own hb, fun e he => ?_, h.apart⟩
  have hm := h.each e he
  obtain ⟨x1, hx1, _⟩ := hm.r1
  obtain ⟨x2, hx2, _⟩ := hm.r2
  exact hm.fr hf (fun q => hx1.ne_type hb (by decide) q) (fun q => hx2.ne_type hb (by decide) q)
theorem CopR.shape {B : Nat} {w : World} {V : Value} {ds : List DV} (h : CopR B w V ds) : ∃ A c, V = .slice A ds.length c := by
  rcases h.own.2 with ⟨e1, e2⟩ | ⟨g, cap, cur, e, _⟩
  · exact ⟨none, 0, by rw [e1, e2]⟩
  · exact ⟨_, _, e⟩
/-- append(disks, one disk) -/
theorem wp_app_dv {op : Oper} {a : Act} {w : World} {K : Act → World → Prop} {Q : Exit → Act → World → Prop} {base g : Nat} {V : Value} {ds : List DV} {d : DV} (so xo : Operand) (ho : op.op = .call { callee := .builtin .append, args := #[so, xo], argTypes := #[22, 22] }) (hs : a.eval so = V) (hx : a.eval xo = .slice (some ⟨g, 0, none⟩) 1 1)
    (hown : w.ownsRow base 49 3 V ds.length (rCells ds)) (hg : Bk w g 49 d.cells.toArray) (hn : ds.length ≤ 1000) (hb : base ≤ w.heap.size)
    (k : ∀ b2 c w', w'.ownsRow base 49 3 (.slice (some ⟨b2, 0, none⟩) (ds.length + 1) c) (ds.length + 1) (rCells (ds ++ [d])) → Fr (fun i => some i = V.ownBlock) w w' → K (a.put op.dst (.slice (some ⟨b2, 0, none⟩) (ds.length + 1) c)) w') : op.wp Try.prog a w K Q := by
  obtain ⟨i, hi, hz, hsz, hby⟩ := info_parts info_disk
  refine wp_append_own w so xo 22 ho base 49 i _ 3 56 Try.underlying22 hi hz hsz hby rfl (by decide) _ _ _ hs hown ⟨g, 0, none⟩ 1 1 d.cells hx rfl (fun j u hj => ?_) (fun u hu => ?_) (by unfold maxLen; omega) (by omega) hb ?_
  · rw [Addr.add_lit, Nat.zero_add, hg.cell, List.getElem?_toArray]; exact hj
  · simp only [DV.cells, List.mem_cons, List.not_mem_nil, or_false] at hu
    rcases hu with rfl | rfl | rfl <;> rfl
  · intro v' w' hown' hg' hv
    have hne : v' ≠ .slice none 0 0 := fun e => by have := (hv.1 e).2; cases this
    rw [← rCells_snoc] at hown'
    rcases hown'.2 with ⟨e, _⟩ | ⟨b2, c, cur, e, _⟩
    · exact absurd e hne
    · subst e
      exact k b2 c w' hown' ⟨hg'.os, hg'.tape, hg'.output, hg'.size, fun k hk hn => hg'.block k hk (fun e => hn e)⟩
/-- what a region reads: the raid's box, a disk of its row -/
structure KC (x : World) (bx : Nat) (V : Value) (b o : Nat) (d : DV) : Prop where
  k : Bk x bx 24 #[V]
  lt : b < x.heap.size
  c0 : x.cell? ⟨b, o, none⟩ = some (.slice d.A1 d.n1 d.c1)
  c1 : x.cell? ⟨b, o + 1, none⟩ = some (.slice d.A2 d.n2 d.c2)
  c2 : x.cell? ⟨b, o + 2, none⟩ = some (.bool d.g)
theorem KC.after {x y : World} {bx b o : Nat} {V : Value} {d : DV} (h : KC x bx V b o d) (hb : Below x.heap.size x y) : KC y bx V b o d :=
  ⟨h.k.after hb, Nat.lt_of_lt_of_le h.lt hb.size, (hb.cell (p := ⟨b, _, none⟩) h.lt).trans h.c0, (hb.cell (p := ⟨b, _, none⟩) h.lt).trans h.c1, (hb.cell (p := ⟨b, _, none⟩) h.lt).trans h.c2⟩
theorem KC.fr {S : Nat → Prop} {x y : World} {bx b o : Nat} {V : Value} {d : DV} (h : KC x bx V b o d) (hf : Fr S x y) (h1 : ¬ S bx) (h2 : ¬ S b) : KC y bx V b o d :=
  ⟨h.k.fr hf h1, Nat.lt_of_lt_of_le h.lt hf.size, (hf.cell_ (p := ⟨b, _, none⟩) h.lt h2).trans h.c0, (hf.cell_ (p := ⟨b, _, none⟩) h.lt h2).trans h.c1, (hf.cell_ (p := ⟨b, _, none⟩) h.lt h2).trans h.c2⟩
/-- what l4Copy gives -/
def CopyR (ds : List DV) (w : World) (r : Ending) (w' : World) : Prop := ∃ V es, r = .returned (.agg #[V]) ∧ CopR w.heap.size w' V es ∧ es.map DV.val = ds.map DV.val ∧ Below w.heap.size w w'
set_option maxHeartbeats 8000000 in
theorem l4Copy_any (A : Option Addr) (n c : Nat) (ds : List DV) (w : World) (h : RIn w A n ds) (hs : ∀ d ∈ ds, d.Src w) (hn : n ≤ 1000) :
    Calls Try.prog 44 #[.agg #[.slice A n c]] w (CopyR ds w) := by
  obtain ⟨W1, hW1⟩ : ∃ W1, W1 = (((w.alloc (.cells #[.slice A n c] 24)).alloc (.cells #[.slice none 0 0] 24)).alloc (.cells #[] 49)).alloc (.cells #[(.slice (some ⟨w.heap.size + 1 + 1, 0, none⟩) 0 0)] 24) := ⟨_, rfl⟩
  have hz : W1.heap.size = w.heap.size + 1 + 1 + 1 + 1 := by rw [hW1]; simp
  have k0 : Bk W1 w.heap.size 24 #[.slice A n c] := by rw [hW1]; exact (((Bk.fresh w 24 #[.slice A n c]).alloc _).alloc _).alloc _
  have k2 : Bk W1 (w.heap.size + 1) 24 #[.slice none 0 0] := by
    rw [hW1]
    have h := Bk.fresh (w.alloc (.cells #[.slice A n c] 24)) 24 #[.slice none 0 0]
    rw [show (w.alloc (.cells #[.slice A n c] 24)).heap.size = w.heap.size + 1 by simp] at h
    exact (h.alloc _).alloc _
  have ke : Bk W1 (w.heap.size + 1 + 1) 49 #[] := by
    rw [hW1]
    have h := Bk.fresh ((w.alloc (.cells #[.slice A n c] 24)).alloc (.cells #[.slice none 0 0] 24)) 49 #[]
    rw [show ((w.alloc (.cells #[.slice A n c] 24)).alloc (.cells #[.slice none 0 0] 24)).heap.size = w.heap.size + 1 + 1 by simp] at h
    exact h.alloc _
  have k3 : Bk W1 (w.heap.size + 1 + 1 + 1) 24 #[(.slice (some ⟨w.heap.size + 1 + 1, 0, none⟩) 0 0)] := by
    rw [hW1]
    have h := Bk.fresh (((w.alloc (.cells #[.slice A n c] 24)).alloc (.cells #[.slice none 0 0] 24)).alloc (.cells #[] 49)) 24 #[(.slice (some ⟨w.heap.size + 1 + 1, 0, none⟩) 0 0)]
    rw [show (((w.alloc (.cells #[.slice A n c] 24)).alloc (.cells #[.slice none 0 0] 24)).alloc (.cells #[] 49)).heap.size = w.heap.size + 1 + 1 + 1 by simp] at h
    exact h
  have hb : Below w.heap.size w W1 := by
    rw [hW1]
    exact ((((Below.refl w.heap.size w).alloc (Nat.le_refl _) _).alloc (by simp) _).alloc (by simp; omega) _).alloc (by simp; omega) _
  have ho : W1.ownsRow w.heap.size 49 3 (.slice (some ⟨w.heap.size + 1 + 1, 0, none⟩) 0 0) 0 [] := ⟨rfl, .inr ⟨w.heap.size + 1 + 1, 0, #[], rfl, by omega, ke, Nat.le_refl _, by simp [maxLen], rfl, rfl⟩⟩
  have K0 := hide k0
  have K2 := hide k2
  have K3 := hide k3
  have HC := hide (show CopR w.heap.size W1 (.slice (some ⟨w.heap.size + 1 + 1, 0, none⟩) 0 0) [] from ⟨ho, (fun d hd => by cases hd), List.Pairwise.nil⟩)
  have HB := hide hb
  have H := hide h
  have HS := hide hs
  have HLN := hide h.len
  clear k0 k2 k3 ke hb ho hz h hs
  rw [hW1] at K0 K2 K3 HC HB
  clear hW1
  go_enter Try.func44, Try.ntmps44
  go_wp2_with fail
  go_loopw [4] (fun i wr => ∃ (k : Nat) (V : Value) (es : List DV), k ≤ n ∧ i = .int .i64 k ∧ Hid (es.length = k) ∧ Hid (Bk wr w.heap.size 24 #[.slice A n c]) ∧ Hid (Bk wr (w.heap.size + 1) 24 #[.slice none 0 0]) ∧ Hid (Bk wr (w.heap.size + 1 + 1 + 1) 24 #[V]) ∧ Hid (CopR w.heap.size wr V es) ∧ Hid (es.map DV.val = (ds.take k).map DV.val) ∧ Hid (Below w.heap.size w wr)) (fun i _ => n - (intOf i).toNat)
  case atStart => exact ⟨0, _, [], by omega, rfl, hide rfl, K0, K2, K3, HC, hide rfl, HB⟩
  case round =>
    clear K0 K2 K3 HC HB
    obtain ⟨k, V, es, hk, rfl, HL, K0, K2, K3, HC, HV, HB⟩ := hrel
    have t0 := K0.out.cell 0
    by_cases hlt : k < n
    · obtain ⟨b, o, d, hAe, hbl, hd, hc0, hc1, hc2⟩ := H.out.1.disk_at hlt
      subst hAe
      have i0 : (0 : Int) ≤ (k : Int) := by omega
      have i1 : (k : Int) < (n : Int) := by omega
      have HBL := hide hbl
      have HD := hide hd
      have hb0 := HB.out.drew
      have hsr := (HS.out d (List.mem_of_getElem? hd)).after hb0
      obtain ⟨b1, o1, ha1, hl1⟩ := hsr.a1
      obtain ⟨b2', o2', ha2, hl2⟩ := hsr.a2
      have h1 := hsr.in_.1
      have h2 := hsr.in_.2.1
      rw [ha1] at h1
      rw [ha2] at h2
      have HE1 := hide (show d.z1.length = d.n1 by have := h1.len; simpa using this)
      have HE2 := hide (show d.z2.length = d.n2 by have := h2.len; rw [waitCells_len] at this; omega)
      have HS1 := hide h1
      have HS2 := hide h2
      have HM1 := hide hsr.m1
      have HM2 := hide hsr.m2
      have HL1 := hide hl1
      have HL2 := hide hl2
      have HEL := hide (show es.length ≤ 1000 by rw [HL.out]; omega)
      have HK := hide (show KC wr.drew w.heap.size (.slice (some ⟨b, o, none⟩) n c) b (o + k * 3) d from ⟨K0.out, Nat.lt_of_lt_of_le hbl hb0.size, (hb0.cell (p := ⟨b, _, none⟩) hbl).trans hc0, (hb0.cell (p := ⟨b, _, none⟩) hbl).trans hc1, (hb0.cell (p := ⟨b, _, none⟩) hbl).trans hc2⟩)
      have hb := (Below.refl wr.heap.size wr).drew
      have K2 := hide (K2.out.after hb)
      have K3 := hide (K3.out.after hb)
      have HC := hide (HC.out.after hb)
      have HB := hide (HB.out.trans (hb.mono HB.out.size))
      clear hb hb0 hsr h1 h2 hl1 hl2 hd hc0 hc1 hc2 hbl
      go_upto_region 5 with fail
      clear t0
      refine wp_region_held_drew (S := fun x => KC x w.heap.size (.slice (some ⟨b, o, none⟩) n c) b (o + k * 3) d) (by kernel_rfl) (HK.out) (fun hH0 => ?_)
      refine wpAnyH_take (i := 0) (v := ?_) rfl (by kernel_rfl) (by kernel_rfl) (by kernel_rfl) (fun _ _ _ h => h) (Or.inl ⟨by rfl, fun wS hS => ?_⟩) hH0 ?_
      rotate_left
      · have s0 := (KC.k hS).c1; have s1 := KC.c0 hS; have s2 := KC.c1 hS; have s3 := KC.c2 hS; rw [ha1] at s1; rw [ha2] at s2; go_simp; try exact rfl
      simp only [Act.put, List.setIfInBounds_toArray, List.set_cons_zero, List.set_cons_succ, List.getElem_toArray, List.getElem_cons_zero]
      refine wpAnyH_take (i := 2) (v := ?_) rfl (by kernel_rfl) (by kernel_rfl) (by kernel_rfl) (fun _ _ _ h => h) (Or.inl ⟨by rfl, fun wS hS => ?_⟩) hH0 ?_
      rotate_left
      · have s0 := (KC.k hS).c1; have s1 := KC.c0 hS; have s2 := KC.c1 hS; have s3 := KC.c2 hS; rw [ha1] at s1; rw [ha2] at s2; go_simp; try exact rfl
      simp only [Act.put, List.setIfInBounds_toArray, List.set_cons_zero, List.set_cons_succ, List.getElem_toArray, List.getElem_cons_zero, List.getElem_cons_succ]
      refine wpAnyH_take (i := 3) (v := ?_) rfl (by kernel_rfl) (by kernel_rfl) (by kernel_rfl) (fun _ _ _ h => h) (Or.inl ⟨by rfl, fun wS hS => ?_⟩) hH0 ?_
      rotate_left
      · have s0 := (KC.k hS).c1; have s1 := KC.c0 hS; have s2 := KC.c1 hS; have s3 := KC.c2 hS; rw [ha1] at s1; rw [ha2] at s2; go_simp; try exact rfl
      simp only [Act.put, List.setIfInBounds_toArray, List.set_cons_zero, List.set_cons_succ, List.getElem_toArray, List.getElem_cons_zero, List.getElem_cons_succ]
      refine wpAnyH_take (i := 4) (v := ?_) rfl (by kernel_rfl) (by kernel_rfl) (by kernel_rfl) (fun _ _ _ h => h) (Or.inl ⟨by rfl, fun wS hS => ?_⟩) hH0 ?_
      rotate_left
      · have s0 := (KC.k hS).c1; have s1 := KC.c0 hS; have s2 := KC.c1 hS; have s3 := KC.c2 hS; rw [ha1] at s1; rw [ha2] at s2; go_simp; try exact rfl
      simp only [Act.put, List.setIfInBounds_toArray, List.set_cons_zero, List.set_cons_succ, List.getElem_toArray, List.getElem_cons_zero, List.getElem_cons_succ]
      refine wpAnyH_take (i := 5) (v := ?_) rfl (by kernel_rfl) (by kernel_rfl) (by kernel_rfl) (fun _ _ _ h => h) (Or.inl ⟨by rfl, fun wS hS => ?_⟩) hH0 ?_
      rotate_left
      · have s0 := (KC.k hS).c1; have s1 := KC.c0 hS; have s2 := KC.c1 hS; have s3 := KC.c2 hS; rw [ha1] at s1; rw [ha2] at s2; go_simp; try exact rfl
      simp only [Act.put, List.setIfInBounds_toArray, List.set_cons_zero, List.set_cons_succ, List.getElem_toArray, List.getElem_cons_zero, List.getElem_cons_succ]
      refine wpAnyH_take (i := 6) (v := ?_) rfl (by kernel_rfl) (by kernel_rfl) (by kernel_rfl) (fun _ _ _ h => h) (Or.inl ⟨by rfl, fun wS hS => ?_⟩) hH0 ?_
      rotate_left
      · have s0 := (KC.k hS).c1; have s1 := KC.c0 hS; have s2 := KC.c1 hS; have s3 := KC.c2 hS; rw [ha1] at s1; rw [ha2] at s2; go_simp; try exact rfl
      simp only [Act.put, List.setIfInBounds_toArray, List.set_cons_zero, List.set_cons_succ, List.getElem_toArray, List.getElem_cons_zero, List.getElem_cons_succ]
      refine wpAnyH_ready (rs := [1, 7]) (by kernel_rfl) (by simp) (AllReadyH.cons rfl (fun K hK => ?_) (AllReadyH.cons rfl (fun K hK => ?_) (AllReadyH.nil)))
      · have t0 := K3.out.cell 0
        go_simp
        refine hK.out _ _ (hH0) (fun hH1 => ?_)
        clear hK K
        try simp only [Act.put]
        clear t0
        refine wpAnyH_ready (rs := [7]) (by kernel_rfl) (by simp) (AllReadyH.cons rfl (fun K hK => ?_) (AllReadyH.nil))
        go_simp
        go_at_call 70
        refine (l3Copy_any b1 o1 b2' o2' d.n1 d.n2 d.c1 d.c2 d.z1 d.z2 d.g _ HS1.out HS2.out HM1.out HM2.out HL1.out HL2.out).mono ?_; rintro r x1 ⟨g1, g2, ca1, ca2, rfl, hgn, hg1, hg2, hr1, hr2, hb⟩
        have HG1 := hide hg1
        have HMD := hide (show (⟨some ⟨g1, 0, none⟩, d.n1, ca1, some ⟨g2, 0, none⟩, d.n2, ca2, d.g, d.z1, d.z2⟩ : DV).Made w.heap.size x1 from ⟨rfl, rfl, Nat.le_trans HB.out.size hg1, Nat.le_trans HB.out.size hg2, HE1.out, HE2.out, HM1.out, HM2.out, hr1, hr2⟩)
        have HLT := hide (show ∀ e ∈ es, e.b ≠ g1 from fun e he q => by have h1 := (HC.out.each e he).r1.lt; have h2 := HG1.out; omega)
        have K2 := hide (K2.out.after hb)
        have K3 := hide (K3.out.after hb)
        have HC := hide (HC.out.after hb)
        have HB := hide (HB.out.trans ((hb).mono HB.out.size))
        refine hK.out _ _ (hH1.after hb) (fun hH2 => ?_)
        clear hK K
        try simp only [Act.put]
        clear hb hr1 hr2 hg1 hg2 hgn
        refine wpAnyH_ready (rs := [8]) (by kernel_rfl) (by simp) (AllReadyH.cons rfl (fun K hK => ?_) (AllReadyH.nil))
        go_simp
        refine hK.out _ _ (hH2.after (bel1 _ _)) (fun hH3 => ?_)
        clear hK K
        try simp only [Act.put]
        have MK := hide (Bk.fresh x1 49 ((⟨some ⟨g1, 0, none⟩, d.n1, ca1, some ⟨g2, 0, none⟩, d.n2, ca2, d.g, d.z1, d.z2⟩ : DV)).cells.toArray)
        have hb := bel1 x1 (.cells #[.slice (some ⟨g1, 0, none⟩) d.n1 ca1, .slice (some ⟨g2, 0, none⟩) d.n2 ca2, .bool d.g] 49)
        have HMD := hide (HMD.out.after hb)
        have K2 := hide (K2.out.after hb)
        have K3 := hide (K3.out.after hb)
        have HC := hide (HC.out.after hb)
        have HB := hide (HB.out.trans ((hb).mono HB.out.size))
        clear hb
        refine wpAnyH_ready (rs := [9]) (by kernel_rfl) (by simp) (AllReadyH.cons rfl (fun K hK => ?_) (AllReadyH.nil))
        rw [if_pos (by kernel_rfl)]
        refine wp_app_dv (base := w.heap.size) (d := (⟨some ⟨g1, 0, none⟩, d.n1, ca1, some ⟨g2, 0, none⟩, d.n2, ca2, d.g, d.z1, d.z2⟩ : DV)) _ _ (by rfl) (by rfl) (by rfl) HC.out.own MK.out HEL.out HB.out.size ?_; intro b2 c2 x3 ho' hf
        have K2n := K2.out.fr hf (fun e => absurd (own_ty HC.out.own e K2.out) (by decide))
        have K3n := K3.out.fr hf (fun e => absurd (own_ty HC.out.own e K3.out) (by decide))
        have hKb : ¬ (some b = Value.ownBlock V) := fun e => by have := (HC.out.own.lt b e.symm).1; have := HBL.out; omega
        have hKx : ¬ (some w.heap.size = Value.ownBlock V) := fun e => absurd (own_ty HC.out.own e (hH3).k) (by decide)
        have HB := hide (HB.out.trans (hf.below HB.out.size (fun i e => (HC.out.own.lt i e.symm).1)))
        have HC := hide (HC.out.app ho' hf HMD.out HLT.out)
        have K2 := hide K2n
        have K3 := hide K3n
        refine hK.out _ _ (hH3.fr hf hKx hKb) (fun hH4 => ?_)
        clear hK K
        try simp only [Act.put]
        clear hf ho' hKb hKx K2n K3n
        refine wpAnyH_take (i := 10) (v := ?_) rfl (by kernel_rfl) (by kernel_rfl) (by kernel_rfl) (fun _ _ _ h => h) (Or.inl ⟨by rfl, fun wS hS => ?_⟩) hH4 ?_
        rotate_left
        · have s0 := (KC.k hS).c1; have s1 := KC.c0 hS; have s2 := KC.c1 hS; have s3 := KC.c2 hS; rw [ha1] at s1; rw [ha2] at s2; go_simp; try exact rfl
        simp only [Act.put, List.setIfInBounds_toArray, List.set_cons_zero, List.set_cons_succ, List.getElem_toArray, List.getElem_cons_zero, List.getElem_cons_succ]
        refine wpAnyH_ready (rs := [11]) (by kernel_rfl) (by simp) (AllReadyH.cons rfl (fun K hK => ?_) (AllReadyH.nil))
        have t0 := K3.out.cell 0
        have f0 := K3.out.frozen 0
        go_simp
        refine hK.out _ _ (hH4.fr ((Fr.refl (fun i => i = w.heap.size + 1 + 1 + 1) _).setCell (p := ⟨w.heap.size + 1 + 1 + 1, 0, none⟩) (.inl rfl) _) (by omega) (by have := HBL.out; omega)) (fun hH5 => ?_)
        clear hK K
        try simp only [Act.put]
        clear t0 f0
        refine wpAnyH_done (by kernel_rfl) ?_ _
        have K0 := hide (hH5).k
        have HC := hide (HC.out.set K3.out (v := (.slice (some ⟨b2, 0, none⟩) (es.length + 1) c2)))
        have K2 := hide (K2.out.fr ((Fr.refl (fun b => b = w.heap.size + 1 + 1 + 1) x3).setCell (p := ⟨w.heap.size + 1 + 1 + 1, 0, none⟩) (.inl rfl) (.slice (some ⟨b2, 0, none⟩) (es.length + 1) c2)) (by omega))
        have HB := hide (HB.out.setCell (p := ⟨w.heap.size + 1 + 1 + 1, 0, none⟩) (by show w.heap.size ≤ w.heap.size + 1 + 1 + 1; omega) (.slice (some ⟨b2, 0, none⟩) (es.length + 1) c2))
        have K3 := hide (show Bk (x3.setCell ⟨w.heap.size + 1 + 1 + 1, 0, none⟩ (.slice (some ⟨b2, 0, none⟩) (es.length + 1) c2)) (w.heap.size + 1 + 1 + 1) 24 #[(.slice (some ⟨b2, 0, none⟩) (es.length + 1) c2)] from K3.out.put 0 (.slice (some ⟨b2, 0, none⟩) (es.length + 1) c2))
        go_wp2_with fail
        go_roundw
        case rel => exact ⟨k + 1, _, es ++ [(⟨some ⟨g1, 0, none⟩, d.n1, ca1, some ⟨g2, 0, none⟩, d.n2, ca2, d.g, d.z1, d.z2⟩ : DV)], by omega, int_eq (by omega), hide (by rw [List.length_append, List.length_singleton, HL.out]), K0, K2, K3, HC, hide (vals_more HD.out HV.out rfl), HB⟩
        case measure => simp [intOf]; omega
      · go_simp
        go_at_call 70
        refine (l3Copy_any b1 o1 b2' o2' d.n1 d.n2 d.c1 d.c2 d.z1 d.z2 d.g _ HS1.out HS2.out HM1.out HM2.out HL1.out HL2.out).mono ?_; rintro r x1 ⟨g1, g2, ca1, ca2, rfl, hgn, hg1, hg2, hr1, hr2, hb⟩
        have HG1 := hide hg1
        have HMD := hide (show (⟨some ⟨g1, 0, none⟩, d.n1, ca1, some ⟨g2, 0, none⟩, d.n2, ca2, d.g, d.z1, d.z2⟩ : DV).Made w.heap.size x1 from ⟨rfl, rfl, Nat.le_trans HB.out.size hg1, Nat.le_trans HB.out.size hg2, HE1.out, HE2.out, HM1.out, HM2.out, hr1, hr2⟩)
        have HLT := hide (show ∀ e ∈ es, e.b ≠ g1 from fun e he q => by have h1 := (HC.out.each e he).r1.lt; have h2 := HG1.out; omega)
        have K2 := hide (K2.out.after hb)
        have K3 := hide (K3.out.after hb)
        have HC := hide (HC.out.after hb)
        have HB := hide (HB.out.trans ((hb).mono HB.out.size))
        refine hK.out _ _ (hH0.after hb) (fun hH1 => ?_)
        clear hK K
        try simp only [Act.put]
        clear hb hr1 hr2 hg1 hg2 hgn
        refine wpAnyH_ready (rs := [1, 8]) (by kernel_rfl) (by simp) (AllReadyH.cons rfl (fun K hK => ?_) (AllReadyH.cons rfl (fun K hK => ?_) (AllReadyH.nil)))
        · have t0 := K3.out.cell 0
          go_simp
          refine hK.out _ _ (hH1) (fun hH2 => ?_)
          clear hK K
          try simp only [Act.put]
          clear t0
          refine wpAnyH_ready (rs := [8]) (by kernel_rfl) (by simp) (AllReadyH.cons rfl (fun K hK => ?_) (AllReadyH.nil))
          go_simp
          refine hK.out _ _ (hH2.after (bel1 _ _)) (fun hH3 => ?_)
          clear hK K
          try simp only [Act.put]
          have MK := hide (Bk.fresh x1 49 ((⟨some ⟨g1, 0, none⟩, d.n1, ca1, some ⟨g2, 0, none⟩, d.n2, ca2, d.g, d.z1, d.z2⟩ : DV)).cells.toArray)
          have hb := bel1 x1 (.cells #[.slice (some ⟨g1, 0, none⟩) d.n1 ca1, .slice (some ⟨g2, 0, none⟩) d.n2 ca2, .bool d.g] 49)
          have HMD := hide (HMD.out.after hb)
          have K2 := hide (K2.out.after hb)
          have K3 := hide (K3.out.after hb)
          have HC := hide (HC.out.after hb)
          have HB := hide (HB.out.trans ((hb).mono HB.out.size))
          clear hb
          refine wpAnyH_ready (rs := [9]) (by kernel_rfl) (by simp) (AllReadyH.cons rfl (fun K hK => ?_) (AllReadyH.nil))
          rw [if_pos (by kernel_rfl)]
          refine wp_app_dv (base := w.heap.size) (d := (⟨some ⟨g1, 0, none⟩, d.n1, ca1, some ⟨g2, 0, none⟩, d.n2, ca2, d.g, d.z1, d.z2⟩ : DV)) _ _ (by rfl) (by rfl) (by rfl) HC.out.own MK.out HEL.out HB.out.size ?_; intro b2 c2 x3 ho' hf
          have K2n := K2.out.fr hf (fun e => absurd (own_ty HC.out.own e K2.out) (by decide))
          have K3n := K3.out.fr hf (fun e => absurd (own_ty HC.out.own e K3.out) (by decide))
          have hKb : ¬ (some b = Value.ownBlock V) := fun e => by have := (HC.out.own.lt b e.symm).1; have := HBL.out; omega
          have hKx : ¬ (some w.heap.size = Value.ownBlock V) := fun e => absurd (own_ty HC.out.own e (hH3).k) (by decide)
          have HB := hide (HB.out.trans (hf.below HB.out.size (fun i e => (HC.out.own.lt i e.symm).1)))
          have HC := hide (HC.out.app ho' hf HMD.out HLT.out)
          have K2 := hide K2n
          have K3 := hide K3n
          refine hK.out _ _ (hH3.fr hf hKx hKb) (fun hH4 => ?_)
          clear hK K
          try simp only [Act.put]
          clear hf ho' hKb hKx K2n K3n
          refine wpAnyH_take (i := 10) (v := ?_) rfl (by kernel_rfl) (by kernel_rfl) (by kernel_rfl) (fun _ _ _ h => h) (Or.inl ⟨by rfl, fun wS hS => ?_⟩) hH4 ?_
          rotate_left
          · have s0 := (KC.k hS).c1; have s1 := KC.c0 hS; have s2 := KC.c1 hS; have s3 := KC.c2 hS; rw [ha1] at s1; rw [ha2] at s2; go_simp; try exact rfl
          simp only [Act.put, List.setIfInBounds_toArray, List.set_cons_zero, List.set_cons_succ, List.getElem_toArray, List.getElem_cons_zero, List.getElem_cons_succ]
          refine wpAnyH_ready (rs := [11]) (by kernel_rfl) (by simp) (AllReadyH.cons rfl (fun K hK => ?_) (AllReadyH.nil))
          have t0 := K3.out.cell 0
          have f0 := K3.out.frozen 0
          go_simp
          refine hK.out _ _ (hH4.fr ((Fr.refl (fun i => i = w.heap.size + 1 + 1 + 1) _).setCell (p := ⟨w.heap.size + 1 + 1 + 1, 0, none⟩) (.inl rfl) _) (by omega) (by have := HBL.out; omega)) (fun hH5 => ?_)
          clear hK K
          try simp only [Act.put]
          clear t0 f0
          refine wpAnyH_done (by kernel_rfl) ?_ _
          have K0 := hide (hH5).k
          have HC := hide (HC.out.set K3.out (v := (.slice (some ⟨b2, 0, none⟩) (es.length + 1) c2)))
          have K2 := hide (K2.out.fr ((Fr.refl (fun b => b = w.heap.size + 1 + 1 + 1) x3).setCell (p := ⟨w.heap.size + 1 + 1 + 1, 0, none⟩) (.inl rfl) (.slice (some ⟨b2, 0, none⟩) (es.length + 1) c2)) (by omega))
          have HB := hide (HB.out.setCell (p := ⟨w.heap.size + 1 + 1 + 1, 0, none⟩) (by show w.heap.size ≤ w.heap.size + 1 + 1 + 1; omega) (.slice (some ⟨b2, 0, none⟩) (es.length + 1) c2))
          have K3 := hide (show Bk (x3.setCell ⟨w.heap.size + 1 + 1 + 1, 0, none⟩ (.slice (some ⟨b2, 0, none⟩) (es.length + 1) c2)) (w.heap.size + 1 + 1 + 1) 24 #[(.slice (some ⟨b2, 0, none⟩) (es.length + 1) c2)] from K3.out.put 0 (.slice (some ⟨b2, 0, none⟩) (es.length + 1) c2))
          go_wp2_with fail
          go_roundw
          case rel => exact ⟨k + 1, _, es ++ [(⟨some ⟨g1, 0, none⟩, d.n1, ca1, some ⟨g2, 0, none⟩, d.n2, ca2, d.g, d.z1, d.z2⟩ : DV)], by omega, int_eq (by omega), hide (by rw [List.length_append, List.length_singleton, HL.out]), K0, K2, K3, HC, hide (vals_more HD.out HV.out rfl), HB⟩
          case measure => simp [intOf]; omega
        · go_simp
          refine hK.out _ _ (hH1.after (bel1 _ _)) (fun hH2 => ?_)
          clear hK K
          try simp only [Act.put]
          have MK := hide (Bk.fresh x1 49 ((⟨some ⟨g1, 0, none⟩, d.n1, ca1, some ⟨g2, 0, none⟩, d.n2, ca2, d.g, d.z1, d.z2⟩ : DV)).cells.toArray)
          have hb := bel1 x1 (.cells #[.slice (some ⟨g1, 0, none⟩) d.n1 ca1, .slice (some ⟨g2, 0, none⟩) d.n2 ca2, .bool d.g] 49)
          have HMD := hide (HMD.out.after hb)
          have K2 := hide (K2.out.after hb)
          have K3 := hide (K3.out.after hb)
          have HC := hide (HC.out.after hb)
          have HB := hide (HB.out.trans ((hb).mono HB.out.size))
          clear hb
          refine wpAnyH_ready (rs := [1]) (by kernel_rfl) (by simp) (AllReadyH.cons rfl (fun K hK => ?_) (AllReadyH.nil))
          have t0 := K3.out.cell 0
          go_simp
          refine hK.out _ _ (hH2) (fun hH3 => ?_)
          clear hK K
          try simp only [Act.put]
          clear t0
          refine wpAnyH_ready (rs := [9]) (by kernel_rfl) (by simp) (AllReadyH.cons rfl (fun K hK => ?_) (AllReadyH.nil))
          rw [if_pos (by kernel_rfl)]
          refine wp_app_dv (base := w.heap.size) (d := (⟨some ⟨g1, 0, none⟩, d.n1, ca1, some ⟨g2, 0, none⟩, d.n2, ca2, d.g, d.z1, d.z2⟩ : DV)) _ _ (by rfl) (by rfl) (by rfl) HC.out.own MK.out HEL.out HB.out.size ?_; intro b2 c2 x3 ho' hf
          have K2n := K2.out.fr hf (fun e => absurd (own_ty HC.out.own e K2.out) (by decide))
          have K3n := K3.out.fr hf (fun e => absurd (own_ty HC.out.own e K3.out) (by decide))
          have hKb : ¬ (some b = Value.ownBlock V) := fun e => by have := (HC.out.own.lt b e.symm).1; have := HBL.out; omega
          have hKx : ¬ (some w.heap.size = Value.ownBlock V) := fun e => absurd (own_ty HC.out.own e (hH3).k) (by decide)
          have HB := hide (HB.out.trans (hf.below HB.out.size (fun i e => (HC.out.own.lt i e.symm).1)))
          have HC := hide (HC.out.app ho' hf HMD.out HLT.out)
          have K2 := hide K2n
          have K3 := hide K3n
          refine hK.out _ _ (hH3.fr hf hKx hKb) (fun hH4 => ?_)
          clear hK K
          try simp only [Act.put]
          clear hf ho' hKb hKx K2n K3n
          refine wpAnyH_take (i := 10) (v := ?_) rfl (by kernel_rfl) (by kernel_rfl) (by kernel_rfl) (fun _ _ _ h => h) (Or.inl ⟨by rfl, fun wS hS => ?_⟩) hH4 ?_
          rotate_left
          · have s0 := (KC.k hS).c1; have s1 := KC.c0 hS; have s2 := KC.c1 hS; have s3 := KC.c2 hS; rw [ha1] at s1; rw [ha2] at s2; go_simp; try exact rfl
          simp only [Act.put, List.setIfInBounds_toArray, List.set_cons_zero, List.set_cons_succ, List.getElem_toArray, List.getElem_cons_zero, List.getElem_cons_succ]
          refine wpAnyH_ready (rs := [11]) (by kernel_rfl) (by simp) (AllReadyH.cons rfl (fun K hK => ?_) (AllReadyH.nil))
          have t0 := K3.out.cell 0
          have f0 := K3.out.frozen 0
          go_simp
          refine hK.out _ _ (hH4.fr ((Fr.refl (fun i => i = w.heap.size + 1 + 1 + 1) _).setCell (p := ⟨w.heap.size + 1 + 1 + 1, 0, none⟩) (.inl rfl) _) (by omega) (by have := HBL.out; omega)) (fun hH5 => ?_)
          clear hK K
          try simp only [Act.put]
          clear t0 f0
          refine wpAnyH_done (by kernel_rfl) ?_ _
          have K0 := hide (hH5).k
          have HC := hide (HC.out.set K3.out (v := (.slice (some ⟨b2, 0, none⟩) (es.length + 1) c2)))
          have K2 := hide (K2.out.fr ((Fr.refl (fun b => b = w.heap.size + 1 + 1 + 1) x3).setCell (p := ⟨w.heap.size + 1 + 1 + 1, 0, none⟩) (.inl rfl) (.slice (some ⟨b2, 0, none⟩) (es.length + 1) c2)) (by omega))
          have HB := hide (HB.out.setCell (p := ⟨w.heap.size + 1 + 1 + 1, 0, none⟩) (by show w.heap.size ≤ w.heap.size + 1 + 1 + 1; omega) (.slice (some ⟨b2, 0, none⟩) (es.length + 1) c2))
          have K3 := hide (show Bk (x3.setCell ⟨w.heap.size + 1 + 1 + 1, 0, none⟩ (.slice (some ⟨b2, 0, none⟩) (es.length + 1) c2)) (w.heap.size + 1 + 1 + 1) 24 #[(.slice (some ⟨b2, 0, none⟩) (es.length + 1) c2)] from K3.out.put 0 (.slice (some ⟨b2, 0, none⟩) (es.length + 1) c2))
          go_wp2_with fail
          go_roundw
          case rel => exact ⟨k + 1, _, es ++ [(⟨some ⟨g1, 0, none⟩, d.n1, ca1, some ⟨g2, 0, none⟩, d.n2, ca2, d.g, d.z1, d.z2⟩ : DV)], by omega, int_eq (by omega), hide (by rw [List.length_append, List.length_singleton, HL.out]), K0, K2, K3, HC, hide (vals_more HD.out HV.out rfl), HB⟩
          case measure => simp [intOf]; omega
    · have hkn : k = n := by omega
      have t3 := K3.out.cell 0
      have u2 := K2.out.cell 0
      have f2 := K2.out.frozen 0
      have HV := hide (show es.map DV.val = ds.map DV.val by have := HV.out; rwa [List.take_of_length_le (by have := HLN.out; omega)] at this)
      have HKN := hide hkn
      clear hkn
      obtain ⟨A2, c2, rfl⟩ := HC.out.shape
      go_wp2_with fail
      have KF := K2.out.put 0 (.slice A2 es.length c2)
      have HF := HC.out.set K2.out (v := .slice A2 es.length c2)
      have HBF := HB.out.setCell (p := ⟨w.heap.size + 1, 0, none⟩) (by show w.heap.size ≤ w.heap.size + 1; omega) (.slice A2 es.length c2)
      have c0 : (wr.setCell ⟨w.heap.size + 1, 0, none⟩ (.slice A2 es.length c2)).cell? ⟨w.heap.size + 1, 0, none⟩ = some (.slice A2 es.length c2) := KF.cell 0
      refine bodyPost_ret (v := .agg #[.slice A2 es.length c2]) (by simp [results, Try.results44, go_sem, c0]) rfl ?_
      exact ⟨_, es, rfl, HF, HV.out, HBF⟩
end Go.Proofs.Ytcaoekaephnimaa
