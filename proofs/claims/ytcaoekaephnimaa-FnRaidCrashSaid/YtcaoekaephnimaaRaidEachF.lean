/- RaidFlush of a raid, disk by disk. -/
import Derived.Test.YtcaoekaephnimaaRaidFlS
import Derived.Test.YtcaoekaephnimaaDiskNil
namespace Go.Proofs.Ytcaoekaephnimaa
open Go.RowKit
set_option linter.unusedVariables false
set_option maxRecDepth 100000

theorem DV.In.a1 {w : World} {d : DV} (h : d.In w) (hok : d.ok = true) : ∃ b o, d.A1 = some ⟨b, o, none⟩ ∧ b < w.heap.size := by
  obtain ⟨h1, _⟩ := h
  have hl := (ok_parts hok).1
  have := h1.len
  obtain ⟨b, o, e, hb, _⟩ := h1.at_ (by simp at this; omega)
  exact ⟨b, o, e, hb⟩
/-- a disk that the program can settle -/
def DV.Has (w : World) (d : DV) : Prop := d.In w ∧ d.n2 ≤ 1048576 ∧ ((∃ b o, d.A2 = some ⟨b, o, none⟩ ∧ b < w.heap.size) ∨ (d.n2 = 0 ∧ d.c2 = 0))
theorem DV.Has.after {w w' : World} {d : DV} (h : d.Has w) (hb : Below w.heap.size w w') : d.Has w' := by
  obtain ⟨h1, h2, h3⟩ := h
  refine ⟨h1.after hb, h2, ?_⟩
  rcases h3 with ⟨b, o, e, hl⟩ | h3
  · exact .inl ⟨b, o, e, Nat.lt_of_lt_of_le hl hb.size⟩
  · exact .inr h3
theorem DV.Made.has {B : Nat} {w : World} {d : DV} (h : d.Made B w) : d.Has w := ⟨h.in_, h.m2, .inl ⟨_, _, h.a2, h.r2.lt⟩⟩
theorem DV.In.z0 {w : World} {d : DV} (h : d.In w) (hn : d.n2 = 0) : d.z2 = [] := by
  have := h.2.1.len
  rw [waitCells_len, hn] at this
  exact List.length_eq_zero_iff.1 (by omega)
/-- a disk and the word yes -/
def OnePost (R : List ByteArray) (g : Bool) (w : World) (r : Ending) (w' : World) : Prop :=
  ∃ (g1 c1 : Nat) (B : Option Addr), r = .returned (.tuple #[.agg #[.slice (some ⟨g1, 0, none⟩) 64 c1, .slice B 0 0, .bool g], .bool true]) ∧ w.heap.size ≤ g1 ∧ Row w' g1 9 (R.map Value.string) ∧ Below w.heap.size w w'
theorem OwnR.app {B : Nat} {w w' : World} {V V' : Value} {ds : List DV} {d : DV} (h : OwnR B w V ds) (ho : w'.ownsRow B 49 3 V' (ds.length + 1) (rCells (ds ++ [d]))) (hf : Fr (fun i => some i = V.ownBlock) w w') (hd : d.Own B w) (hx : ∀ e ∈ ds, e.b ≠ d.b) : OwnR B w' V' (ds ++ [d]) := by
  have key : ∀ e : DV, e.Own B w → e.Own B w' := fun e he => by
    obtain ⟨x1, hx1, _⟩ := he.row
    exact he.fr hf (fun q => absurd (own_ty h.own q hx1) (by decide))
  refine ⟨by rw [List.length_append, List.length_singleton]; exact ho, fun e he => ?_, ?_⟩
  · rcases List.mem_append.1 he with h1 | h1
    · exact key e (h.each e h1)
    · rw [List.mem_singleton] at h1; rw [h1]; exact key d hd
  · rw [List.pairwise_append]
    refine ⟨h.apart, List.pairwise_singleton _ _, fun e he f hf => ?_⟩
    rw [List.mem_singleton] at hf
    rw [hf]
    exact hx e he
theorem wpList_app_dv {ops : Array Oper} {rest : List Oper} {op : Oper} {a : Act} {w : World} {Q : Exit → Act → World → Prop} (hgd : op.guard = none) {base g : Nat} {V : Value} {ds : List DV} {d : DV} (so xo : Operand) (ho : op.op = .call { callee := .builtin .append, args := #[so, xo], argTypes := #[22, 22] }) (hs : a.eval so = V) (hx : a.eval xo = .slice (some ⟨g, 0, none⟩) 1 1)
    (hown : w.ownsRow base 49 3 V ds.length (rCells ds)) (hg : Bk w g 49 d.cells.toArray) (hn : ds.length ≤ 1000) (hb : base ≤ w.heap.size)
    (k : ∀ b2 c w', w'.ownsRow base 49 3 (.slice (some ⟨b2, 0, none⟩) (ds.length + 1) c) (ds.length + 1) (rCells (ds ++ [d])) → Fr (fun i => some i = V.ownBlock) w w' → wpList Try.prog ops Q rest (a.put op.dst (.slice (some ⟨b2, 0, none⟩) (ds.length + 1) c)) w') : wpList Try.prog ops Q (op :: rest) a w :=
  wpList_plain hgd fun _ hK => wp_app_dv so xo ho hs hx hown hg hn hb (fun g ca w' h1 h2 => hK _ _ (k g ca w' h1 h2))
theorem idx_more {vs : List DVal} {es : List DV} {k : Nat} {v : DVal} {e : DV} {fl : Nat → DVal → DVal} (hv : vs[k]? = some v) (h : es.map DV.val = (vs.mapIdx fl).take k) (he : e.val = fl k v) : (es ++ [e]).map DV.val = (vs.mapIdx fl).take (k + 1) := by
  rw [List.take_add_one, List.map_append, h, List.getElem?_mapIdx, hv]
  show _ ++ [e.val] = _ ++ [fl k v]
  rw [he]
/-- what each gives -/
def EachP (vs : List DVal) (w : World) (r : Ending) (w' : World) : Prop := ∃ V es, r = .returned (.tuple #[.agg #[V], .bool true]) ∧ OwnR w.heap.size w' V es ∧ es.map DV.val = vs ∧ Below w.heap.size w w'
set_option maxHeartbeats 2000000 in
theorem implFlush_v (d : DV) (R : List ByteArray) (w : World) (h : d.Has w) (hok : d.ok = true) (hR : settleT (fun _ z _ => z.2) 0 d.z2 d.z1 = R) :
    Calls Try.prog 47 #[.agg #[.slice d.A1 d.n1 d.c1, .slice d.A2 d.n2 d.c2, .bool d.g]] w (SetPost R d.g w) := by
  obtain ⟨h, m2, h3⟩ := h
  obtain ⟨b1, o1, e1, l1⟩ := h.a1 hok
  have h1 := h.1
  have h2 := h.2.1
  rw [e1] at h1 ⊢
  rcases h3 with ⟨b2, o2, e2, l2⟩ | ⟨hn, hc⟩
  · rw [e2] at h2 ⊢
    exact implFlush_yes b1 o1 d.n1 d.c1 b2 o2 d.n2 d.c2 d.z1 R d.z2 d.g w h1 h2 m2 l1 l2 hok hR
  · have hz := h.z0 hn
    rw [hz] at hR
    rw [hn, hz] at h2
    rw [hn, hc]
    exact implFlush_nil b1 o1 d.n1 d.c1 d.A2 d.z1 R d.g w h1 h2 (by decide) l1 (by rw [← hz]; exact hok) hR
set_option maxHeartbeats 4000000 in
theorem oneFlush_any (i : Int) (d : DV) (R : List ByteArray) (w : World) (h : d.Has w) (hok : d.ok = true) (hR : settleT (fun _ z _ => z.2) 0 d.z2 d.z1 = R) :
    Calls Try.prog 46 #[.int .i64 i, .agg #[.slice d.A1 d.n1 d.c1, .slice d.A2 d.n2 d.c2, .bool d.g]] w (OnePost R d.g w) := by
  obtain ⟨W0, HW0⟩ : ∃ W : World, W = ((w.alloc (.cells #[.slice d.A1 d.n1 d.c1, .slice d.A2 d.n2 d.c2, .bool d.g] 49)).alloc (.cells #[.slice none 0 0, .slice none 0 0, .bool false] 49)) := ⟨_, rfl⟩
  have hb : Below w.heap.size w W0 := by rw [HW0]; exact (((Below.refl _ _).alloc (Nat.le_refl _) _).alloc (by simp) _)
  have z0 : W0.heap.size = w.heap.size + 1 + 1 := by rw [HW0]; simp
  have K2 := hide (show Bk W0 (w.heap.size + 1) 49 #[.slice none 0 0, .slice none 0 0, .bool false] by
    rw [HW0]
    have h := Bk.fresh (w.alloc (.cells #[.slice d.A1 d.n1 d.c1, .slice d.A2 d.n2 d.c2, .bool d.g] 49)) 49 #[.slice none 0 0, .slice none 0 0, .bool false]
    rw [show (w.alloc (.cells #[.slice d.A1 d.n1 d.c1, .slice d.A2 d.n2 d.c2, .bool d.g] 49)).heap.size = w.heap.size + 1 by simp] at h
    exact h)
  have H := hide (h.after hb)
  have HB := hide hb
  have HZ := hide z0
  have HOK := hide hok
  have HR := hide hR
  clear h hb z0 hok hR
  go_enter Try.func46, Try.ntmps46
  rw [HW0] at H HB HZ K2
  clear HW0
  go_wp2_with fail
  refine (implFlush_v d R _ H.out HOK.out HR.out).mono ?_; rintro r x1 ⟨g1, ca, B, rfl, hg1, hrow, hb1⟩
  have K2 := hide (K2.out.after hb1)
  have HB := hide (HB.out.trans (hb1.mono HB.out.size))
  have HG := hide (show w.heap.size + 1 + 1 ≤ g1 from Nat.le_trans (Nat.le_of_eq HZ.out.symm) hg1)
  have HRW := hide hrow
  clear hb1 hrow hg1
  obtain ⟨q0, q1, q2⟩ := K2.out.c3
  have f0 := K2.out.frozen 0
  have f1 := K2.out.frozen 1
  have f2 := K2.out.frozen 2
  have P3 := hide (put3 K2.out (.slice (some ⟨g1, 0, none⟩) 64 ca) (.slice B 0 0) (.bool d.g))
  have PB := hide (((HB.out.setCell (p := ⟨w.heap.size + 1, 0, none⟩) (Nat.le_succ _) (.slice (some ⟨g1, 0, none⟩) 64 ca)).setCell (p := ⟨w.heap.size + 1, 1, none⟩) (Nat.le_succ _) (.slice B 0 0)).setCell (p := ⟨w.heap.size + 1, 2, none⟩) (Nat.le_succ _) (.bool d.g))
  have PR := hide (HRW.out.fr (fr3 (Fr.refl (fun b => b = w.heap.size + 1) _) (.inl rfl) (.slice (some ⟨g1, 0, none⟩) 64 ca) (.slice B 0 0) (.bool d.g)) (by have := HG.out; omega))
  go_wp2_with fail
  clear q0 q1 q2 f0 f1 f2
  obtain ⟨Y, hY⟩ : ∃ Y : World, Y = ((x1.setCell ⟨w.heap.size + 1, 0, none⟩ (.slice (some ⟨g1, 0, none⟩) 64 ca)).setCell ⟨w.heap.size + 1, 1, none⟩ (.slice B 0 0)).setCell ⟨w.heap.size + 1, 2, none⟩ (.bool d.g) := ⟨_, rfl⟩
  rw [← hY] at P3 PB PR
  rw [← hY]
  clear hY
  obtain ⟨r0, r1, r2⟩ := P3.out.c3
  refine bodyPost_ret (v := .tuple #[.agg #[.slice (some ⟨g1, 0, none⟩) 64 ca, .slice B 0 0, .bool d.g], .bool true]) (by simp [results, Try.results46, go_sem, r0, r1, r2]) rfl ?_
  exact ⟨g1, ca, B, rfl, by have := HG.out; omega, PR.out, PB.out⟩
set_option maxHeartbeats 8000000 in
theorem eachFlush_any (A : Option Addr) (n c : Nat) (ds : List DV) (w : World) (h : RIn w A n ds) (hok : ∀ d ∈ ds, d.ok = true ∧ d.Has w) (hn : n ≤ 1000) :
    Calls Try.prog 45 #[.agg #[.slice A n c], .func (.func 46) #[] #[]] w (EachP ((ds.map DV.val).mapIdx flushV) w) := by
  obtain ⟨W1, hW1⟩ : ∃ W1, W1 = ((w.alloc (.cells #[.slice A n c] 24)).alloc (.cells #[.slice none 0 0] 24)).alloc (.cells #[.slice none 0 0] 24) := ⟨_, rfl⟩
  have hb : Below w.heap.size w W1 := by
    rw [hW1]
    exact ((((Below.refl w.heap.size w).alloc (Nat.le_refl _) _).alloc (by simp) _).alloc (by simp; omega) _)
  have k0 : Bk W1 w.heap.size 24 #[.slice A n c] := by rw [hW1]; exact ((Bk.fresh w 24 #[.slice A n c]).alloc _).alloc _
  have k1 : Bk W1 (w.heap.size + 1) 24 #[.slice none 0 0] := by
    rw [hW1]
    have h := Bk.fresh (w.alloc (.cells #[.slice A n c] 24)) 24 #[.slice none 0 0]
    rw [show (w.alloc (.cells #[.slice A n c] 24)).heap.size = w.heap.size + 1 by simp] at h
    exact h.alloc _
  have k2 : Bk W1 (w.heap.size + 1 + 1) 24 #[.slice none 0 0] := by
    rw [hW1]
    have h := Bk.fresh ((w.alloc (.cells #[.slice A n c] 24)).alloc (.cells #[.slice none 0 0] 24)) 24 #[.slice none 0 0]
    rw [show ((w.alloc (.cells #[.slice A n c] 24)).alloc (.cells #[.slice none 0 0] 24)).heap.size = w.heap.size + 1 + 1 by simp] at h
    exact h
  have K0 := hide k0
  have K1 := hide k1
  have K2 := hide k2
  have HC := hide (show OwnR w.heap.size W1 (.slice none 0 0) [] from ⟨⟨rfl, .inl ⟨rfl, rfl⟩⟩, (fun d hd => by cases hd), List.Pairwise.nil⟩)
  have HB := hide hb
  have H := hide h
  have HS := hide hok
  have HLN := hide h.len
  clear k0 k1 k2 hb h hok
  rw [hW1] at K0 K1 K2 HC HB
  clear hW1
  go_enter Try.func45, Try.ntmps45
  go_wp2_with fail
  go_loopw [14] (fun i wr => ∃ (k : Nat) (V : Value) (es : List DV), k ≤ n ∧ i = .int .i64 k ∧ Hid (es.length = k) ∧ Hid (Bk wr w.heap.size 24 #[.slice A n c]) ∧ Hid (Bk wr (w.heap.size + 1) 24 #[.slice none 0 0]) ∧ Hid (Bk wr (w.heap.size + 1 + 1) 24 #[V]) ∧ Hid (OwnR w.heap.size wr V es) ∧ Hid (es.map DV.val = ((ds.map DV.val).mapIdx flushV).take k) ∧ Hid (Below w.heap.size w wr)) (fun i _ => n - (intOf i).toNat)
  case atStart => exact ⟨0, _, [], by omega, rfl, hide rfl, K0, K1, K2, HC, hide rfl, HB⟩
  case round =>
    clear K0 K1 K2 HC HB
    obtain ⟨k, V, es, hk, rfl, HL, K0, K1, K2, HC, HV, HB⟩ := hrel
    by_cases hlt : k < n
    · obtain ⟨b, o, d, hAe, hbl, hd, hc0, hc1, hc2⟩ := (H.out.1.after HB.out).disk_at hlt
      subst hAe
      have i0 : (0 : Int) ≤ (k : Int) := by omega
      have i1 : (k : Int) < (n : Int) := by omega
      have hmem := List.mem_of_getElem? hd
      obtain ⟨hdo, hhs⟩ := HS.out d hmem
      have hb := bel1 wr (.cells #[.slice d.A1 d.n1 d.c1, .slice d.A2 d.n2 d.c2, .bool d.g] 49)
      have HI := hide ((hhs.after HB.out).after hb)
      have HD := hide (show (ds.map DV.val)[k]? = some d.val by rw [List.getElem?_map, hd]; rfl)
      have HDO := hide hdo
      have HEL := hide (show es.length ≤ 1000 by rw [HL.out]; omega)
      have K0 := hide (K0.out.after hb)
      have K1 := hide (K1.out.after hb)
      have K2 := hide (K2.out.after hb)
      have HC := hide (HC.out.after hb)
      have HB := hide (HB.out.trans (hb.mono HB.out.size))
      obtain ⟨R, hR⟩ : ∃ R, settleT (fun _ z _ => z.2) 0 d.z2 d.z1 = R := ⟨_, rfl⟩
      have HSR := hide hR
      clear hb hd hbl hR hmem hdo hhs
      go_wp2_with fail
      refine (oneFlush_any k d R _ HI.out HDO.out HSR.out).mono ?_; rintro r x1 ⟨g1, ca1, B2, rfl, hg1, hrow, hb1⟩
      obtain ⟨E, hE⟩ : ∃ E : DV, E = ⟨some ⟨g1, 0, none⟩, 64, ca1, B2, 0, 0, d.g, R, []⟩ := ⟨_, rfl⟩
      have HRL := hide (show R.length = 64 by rw [← HSR.out, settle_len]; exact (ok_parts HDO.out).1)
      have HLT := hide (show ∀ e ∈ es, e.b ≠ g1 from fun e he q => by have h1 := (HC.out.each e he).row.lt; omega)
      have HO := hide (show E.Own w.heap.size x1 by rw [hE]; exact ⟨rfl, Nat.le_trans HB.out.size hg1, rfl, rfl, rfl, HRL.out, hrow, rfl⟩)
      have HG1 := hide hg1
      clear hg1 hrow
      have K0 := hide ((K0.out.after hb1).alloc (.cells #[.slice (some ⟨g1, 0, none⟩) 64 ca1, .slice B2 0 0, .bool d.g] 49))
      have K1 := hide ((K1.out.after hb1).alloc (.cells #[.slice (some ⟨g1, 0, none⟩) 64 ca1, .slice B2 0 0, .bool d.g] 49))
      have K2 := hide ((K2.out.after hb1).alloc (.cells #[.slice (some ⟨g1, 0, none⟩) 64 ca1, .slice B2 0 0, .bool d.g] 49))
      have hb2 := bel1 x1 (.cells #[.slice (some ⟨g1, 0, none⟩) 64 ca1, .slice B2 0 0, .bool d.g] 49)
      have HC := hide ((HC.out.after hb1).after hb2)
      have HB := hide ((HB.out.trans (hb1.mono HB.out.size)).alloc (Nat.le_trans HB.out.size hb1.size) (.cells #[.slice (some ⟨g1, 0, none⟩) 64 ca1, .slice B2 0 0, .bool d.g] 49))
      have HO := hide (HO.out.after hb2)
      clear hb1 hb2
      have HZ := hide (Nat.le_trans HB.out.size (Nat.le_refl _))
      have t2 := K2.out.c1
      have t2' := (K2.out.alloc (.cells #[.slice (some ⟨g1, 0, none⟩) 64 ca1, .slice B2 0 0, .bool d.g] 49)).c1
      have HSZ2 := hide (Nat.le_trans HB.out.size (bel1 _ (.cells #[.slice (some ⟨g1, 0, none⟩) 64 ca1, .slice B2 0 0, .bool d.g] 49)).size)
      have MK := hide ((Bk.fresh (x1.alloc (.cells #[.slice (some ⟨g1, 0, none⟩) 64 ca1, .slice B2 0 0, .bool d.g] 49)) 49 E.cells.toArray).at_ (g' := x1.heap.size + 1) (by simp))
      have K0 := hide (K0.out.alloc (.cells #[.slice (some ⟨g1, 0, none⟩) 64 ca1, .slice B2 0 0, .bool d.g] 49))
      have K1 := hide (K1.out.alloc (.cells #[.slice (some ⟨g1, 0, none⟩) 64 ca1, .slice B2 0 0, .bool d.g] 49))
      have K2 := hide (K2.out.alloc (.cells #[.slice (some ⟨g1, 0, none⟩) 64 ca1, .slice B2 0 0, .bool d.g] 49))
      have hb3 := bel1 (x1.alloc (.cells #[.slice (some ⟨g1, 0, none⟩) 64 ca1, .slice B2 0 0, .bool d.g] 49)) (.cells #[.slice (some ⟨g1, 0, none⟩) 64 ca1, .slice B2 0 0, .bool d.g] 49)
      have HC := hide (HC.out.after hb3)
      have HO := hide (HO.out.after hb3)
      have HB := hide (HB.out.trans (hb3.mono HB.out.size))
      have HEB := hide (show ∀ e ∈ es, e.b ≠ E.b from fun e he => by rw [hE]; exact HLT.out e he)
      clear hb3
      have HEE := hide hE
      rw [hE] at MK
      clear hE
      have V0 := hide (show E.val = flushV k d.val by rw [HEE.out]; show (R, [], d.g) = _; rw [← HSR.out]; rfl)
      go_wp2_with (at_builtin; refine wpList_app_dv (d := E) (ds := es) (V := V) (by rfl) _ _ (by rfl) (by rfl) (by rfl) HC.out.own (by rw [HEE.out]; exact MK.out) HEL.out HSZ2.out ?_; intro b2 c2 x3 ho' hf; have K0 := hide (K0.out.fr hf (fun e => absurd (own_ty HC.out.own e K0.out) (by decide))); have K1 := hide (K1.out.fr hf (fun e => absurd (own_ty HC.out.own e K1.out) (by decide))); have K2 := hide (K2.out.fr hf (fun e => absurd (own_ty HC.out.own e K2.out) (by decide))); have HB := hide (HB.out.trans (hf.below HB.out.size (fun i e => (HC.out.own.lt i e.symm).1))); have HC := hide (HC.out.app ho' hf HO.out HEB.out); have t2 := K2.out.c1; have f2 := K2.out.frozen 0; clear ho' hf)
      have HC := hide (HC.out.set K2.out (v := .slice (some ⟨b2, 0, none⟩) (es.length + 1) c2))
      have W3 := hide ((Fr.refl (fun b => b = w.heap.size + 1 + 1) x3).setCell (p := ⟨w.heap.size + 1 + 1, 0, none⟩) (.inl rfl) (.slice (some ⟨b2, 0, none⟩) (es.length + 1) c2))
      have K0 := hide (K0.out.fr W3.out (by omega))
      have K1 := hide (K1.out.fr W3.out (by omega))
      have HB := hide (HB.out.setCell (p := ⟨w.heap.size + 1 + 1, 0, none⟩) (by show w.heap.size ≤ w.heap.size + 1 + 1; omega) (.slice (some ⟨b2, 0, none⟩) (es.length + 1) c2))
      have K2 := hide (show Bk (x3.setCell ⟨w.heap.size + 1 + 1, 0, none⟩ (.slice (some ⟨b2, 0, none⟩) (es.length + 1) c2)) (w.heap.size + 1 + 1) 24 #[.slice (some ⟨b2, 0, none⟩) (es.length + 1) c2] from K2.out.put 0 _)
      go_roundw
      case rel => exact ⟨k + 1, _, es ++ [E], by omega, int_eq (by omega), hide (by rw [List.length_append, List.length_singleton, HL.out]), K0, K1, K2, HC, hide (idx_more HD.out HV.out V0.out), HB⟩
      case measure => simp [intOf]; omega
    · have hkn : k = n := by omega
      obtain ⟨A2, c2, rfl⟩ := HC.out.shape
      have t2 := K2.out.cell 0
      have u1 := K1.out.cell 0
      have f1 := K1.out.frozen 0
      have HV := hide (show es.map DV.val = (ds.map DV.val).mapIdx flushV by have := HV.out; rwa [List.take_of_length_le (by rw [List.length_mapIdx, List.length_map, HLN.out]; omega)] at this)
      clear hkn
      go_wp2_with fail
      have KF := K1.out.put 0 (.slice A2 es.length c2)
      have HF := HC.out.set K1.out (v := .slice A2 es.length c2)
      have HBF := HB.out.setCell (p := ⟨w.heap.size + 1, 0, none⟩) (by show w.heap.size ≤ w.heap.size + 1; omega) (.slice A2 es.length c2)
      have c0 : (wr.setCell ⟨w.heap.size + 1, 0, none⟩ (.slice A2 es.length c2)).cell? ⟨w.heap.size + 1, 0, none⟩ = some (.slice A2 es.length c2) := KF.cell 0
      refine bodyPost_ret (v := .tuple #[.agg #[.slice A2 es.length c2], .bool true]) (by simp [results, Try.results45, go_sem, c0]) rfl ?_
      exact ⟨_, es, rfl, HF, HV.out, HBF⟩
end Go.Proofs.Ytcaoekaephnimaa
