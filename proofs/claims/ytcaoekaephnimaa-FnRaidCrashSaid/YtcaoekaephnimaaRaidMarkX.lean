/- Marks on a raid of any sizes. -/
import Derived.Test.YtcaoekaephnimaaRaidMark
import Derived.Test.YtcaoekaephnimaaRaidTo
import Derived.Test.YtcaoekaephnimaaQF
namespace Go.Proofs.Ytcaoekaephnimaa
open Go.RowKit
set_option linter.unusedVariables false
set_option maxRecDepth 100000

set_option maxHeartbeats 2000000 in
theorem markWaitS_k (g n c : Nat) (cs : Array Value) (k0 : Nat) (w : World) (hb : Bk w g 74 cs) (hn : n * 2 ≤ cs.size) (hm : n ≤ 100000000) (h1 : k0 ≤ 100000000) :
    Calls Try.prog 59 #[.slice (some ⟨g, 0, none⟩) n c, .int .i64 k0] w fun r w' => r = .returned (.int .i64 (k0 + 2 * n : Nat)) ∧ (∃ cs', Bk w' g 74 cs' ∧ cs'.size = cs.size) ∧ Fr (· = g) w w' := by
  have HB := hide hb
  have HN := hide hn
  have hg := hb.lt
  clear hb hn
  go_enter Try.func59, Try.ntmps59
  go_wp2
  go_loopw [1, 5] (fun q i wr => ∃ (k q' : Nat) (cs' : Array Value), k ≤ n ∧ Hid (q' = k0 + 2 * k) ∧ Hid (Bk wr g 74 cs') ∧ Hid (cs'.size = cs.size) ∧ Hid (Fr (· = g) w wr) ∧ q = .int .i64 q' ∧ i = .int .i64 k) (fun _ i _ => n - (intOf i).toNat)
  case atStart => exact ⟨0, k0, cs, by omega, hide rfl, HB, hide rfl, hide (Fr.refl _ _), rfl, rfl⟩
  case round =>
    obtain ⟨k, q', cs', hk, hq, HB, HS, HF, rfl, rfl⟩ := hrel
    have qb : q' ≤ 500000000 := by have := hq.out; omega
    by_cases hlt : k < n
    · have hs0 : k * 2 + 1 < cs'.size := by have := HS.out; have := HN.out; omega
      have HS0 := hide hs0
      obtain ⟨u0, d0⟩ : ∃ u, wr.cell? ⟨g, k * 2, none⟩ = some u := ⟨cs'[k * 2], by rw [HB.out.cell]; exact Array.getElem?_eq_getElem (by omega)⟩
      have f0 := HB.out.frozen (k * 2)
      have HP := hide (HB.out.put (k * 2) (.int .i64 q'))
      have HF1 := hide (HF.out.setCell (p := ⟨g, k * 2, none⟩) (.inl rfl) (.int .i64 q'))
      have i0 : (0 : Int) ≤ (k : Int) := by omega
      have i1 : (k : Int) < (n : Int) := by omega
      obtain ⟨q1, hq1⟩ : ∃ q1 : Nat, q1 = q' + 1 := ⟨_, rfl⟩
      have qw : IntKind.i64.wrap (q1 : Int) = (q1 : Int) := by rw [IntKind.wrap_i64]; omega
      have qq : (q' : Int) + 1 = (q1 : Int) := by omega
      have HQ1 := hide hq1
      clear hq1
      clear hs0
      go_upto_region 6 with fail
      clear d0 f0
      obtain ⟨W1, hW1⟩ : ∃ X : World, X = wr.setCell ⟨g, k * 2, none⟩ (.int .i64 q') := ⟨_, rfl⟩
      rw [← hW1] at HP HF1
      rw [← hW1]
      clear hW1
      go_wp2_with fail
      refine (markText_any q1 _ (by have := HQ1.out; omega)).mono ?_; rintro r w1 ⟨rfl, hb1⟩
      have HB2 := HP.out.after hb1
      obtain ⟨cs2, hcs2⟩ : ∃ x, x = cs'.setIfInBounds (k * 2) (.int .i64 q') := ⟨_, rfl⟩
      have hsz2 : cs2.size = cs'.size := by rw [hcs2, Array.size_setIfInBounds]
      rw [← hcs2] at HB2
      obtain ⟨u1, d1⟩ : ∃ u, w1.cell? ⟨g, k * 2 + 1, none⟩ = some u := ⟨cs2[k * 2 + 1]'(by rw [hsz2]; exact HS0.out), by rw [HB2.cell]; exact Array.getElem?_eq_getElem _⟩
      have f1 := HB2.frozen (k * 2 + 1)
      have HP2 := hide (HB2.put (k * 2 + 1) (.string (mtext q1)))
      have HF2 := hide ((HF1.out.trans (Fr.of_below _ hb1)).setCell (p := ⟨g, k * 2 + 1, none⟩) (.inl rfl) (.string (mtext q1)))
      have HSZ2 := hide hsz2
      clear hb1 HB2 hcs2 hsz2
      have qb1 : q1 ≤ 500000001 := by have := HQ1.out; omega
      go_wp2_with fail
      go_roundw
      case rel => exact ⟨k + 1, q1 + 1, _, by omega, hide (by have := hq.out; have := HQ1.out; omega), HP2, hide (by rw [Array.size_setIfInBounds, HSZ2.out]; exact HS.out), HF2, int_eq (by omega), int_eq (by omega)⟩
      case measure => simp [intOf]; omega
    · go_wp2
      go_ret
      have e : k = n := by omega
      exact ⟨ret_int (by have := hq.out; omega), ⟨cs', HB.out, HS.out⟩, HF.out⟩

/-- the blocks of a raid -/
def MS (g : Nat) (ds : List DV) (i : Nat) : Prop := i = g ∨ ∃ d ∈ ds, i = d.b ∨ i = d.b2
theorem MadeR.ms {B : Nat} {w : World} {g n : Nat} {ds : List DV} (h : MadeR B w g n ds) : ∀ i, MS g ds i → B ≤ i ∧ i < w.heap.size := by
  rintro i (rfl | ⟨d, hd, rfl | rfl⟩)
  · exact ⟨h.base, h.row.lt⟩
  · exact ⟨(h.each d hd).base, (h.each d hd).r1.lt⟩
  · exact ⟨(h.each d hd).base2, (h.each d hd).r2.lt⟩
theorem MadeR.not {B : Nat} {w : World} {g n k : Nat} {ds : List DV} {cs : Array Value} (h : MadeR B w g n ds) (hk : Bk w k 24 cs) : ¬ MS g ds k := by
  rintro (rfl | ⟨d, hd, rfl | rfl⟩)
  · exact hk.ne_type h.row (by decide) rfl
  · obtain ⟨x, hx, _⟩ := (h.each d hd).r1
    exact hk.ne_type hx (by decide) rfl
  · obtain ⟨x, hx, _⟩ := (h.each d hd).r2
    exact hk.ne_type hx (by decide) rfl
theorem OwnR.fr {B : Nat} {S : Nat → Prop} {w w' : World} {V : Value} {ds : List DV} (h : OwnR B w V ds) (hf : Fr S w w') (hS : ∀ i, S i → i < B) : OwnR B w' V ds := by
  refine ⟨⟨h.own.1, ?_⟩, fun d hd => (h.each d hd).fr hf (fun q => by have := hS _ q; have := (h.each d hd).base; omega), h.apart⟩
  rcases h.own.2 with h2 | ⟨g, cap, cur, hv, hg, hb, r⟩
  · exact .inl h2
  · exact .inr ⟨g, cap, cur, hv, hg, Bk.fr hb hf (fun q => by have := hS _ q; omega), r⟩
/-- a block of a kind, no smaller than m -/
def Sz (w : World) (g : Nat) (t : TypeId) (m : Nat) : Prop := ∃ cs, Bk w g t cs ∧ m ≤ cs.size
theorem Sz.next {w w' : World} {g g' m : Nat} {t t' : TypeId} {cs cs' : Array Value} (h : Sz w g t m) (hf : Fr (· = g') w w') (h0 : Bk w g' t' cs) (h1 : Bk w' g' t' cs') (hs : cs'.size = cs.size) : Sz w' g t m := by
  obtain ⟨x, hx, hm⟩ := h
  by_cases e : g = g'
  · subst e
    have ht : t = t' := by
      apply Classical.byContradiction
      intro ht
      exact hx.ne_type h0 ht rfl
    subst ht
    have hxx : x = cs := by
      have := hx.symm.trans h0
      simpa using this
    subst hxx
    exact ⟨_, h1, by omega⟩
  · exact ⟨x, hx.fr hf e, hm⟩
/-- what marking needs -/
structure MX (w : World) (g : Nat) (cs : Array Value) (ds : List DV) : Prop where
  row : Bk w g 49 cs
  at_ : ∀ (j : Nat) (d : DV), ds[j]? = some d → cs[j * 3]? = some (.slice (some ⟨d.b, 0, none⟩) d.n1 d.c1) ∧ cs[j * 3 + 1]? = some (.slice (some ⟨d.b2, 0, none⟩) d.n2 d.c2) ∧ j * 3 + 2 < cs.size
  each : ∀ (j : Nat) (d : DV), ds[j]? = some d → Sz w d.b 9 d.n1 ∧ Sz w d.b2 74 (d.n2 * 2)
theorem MX.next {w w' : World} {g g' : Nat} {t : TypeId} {cs c0 c1 : Array Value} {ds : List DV} (h : MX w g cs ds) (hf : Fr (· = g') w w') (h0 : Bk w g' t c0) (h1 : Bk w' g' t c1) (hs : c1.size = c0.size) (ht : t ≠ 49) : MX w' g cs ds :=
  ⟨h.row.fr hf (fun e => h0.ne_type h.row ht e.symm), h.at_, fun j d hd => ⟨(h.each j d hd).1.next hf h0 h1 hs, (h.each j d hd).2.next hf h0 h1 hs⟩⟩
theorem MX.flag {w : World} {g k : Nat} {cs : Array Value} {ds : List DV} (h : MX w g cs ds) (v : Value) : MX (w.setCell ⟨g, k * 3 + 2, none⟩ v) g (cs.setIfInBounds (k * 3 + 2) v) ds := by
  have hf := (Fr.refl (· = g) w).setCell (p := ⟨g, k * 3 + 2, none⟩) (.inl rfl) v
  have h1 := h.row.put (k * 3 + 2) v
  refine ⟨h1, fun j d hd => ?_, fun j d hd => ⟨(h.each j d hd).1.next hf h.row h1 (by simp), (h.each j d hd).2.next hf h.row h1 (by simp)⟩⟩
  obtain ⟨e0, e1, e2⟩ := h.at_ j d hd
  rw [Array.getElem?_setIfInBounds, Array.getElem?_setIfInBounds, if_neg (by omega), if_neg (by omega), Array.size_setIfInBounds]
  exact ⟨e0, e1, e2⟩
theorem tot_le (ds : List DV) (k : Nat) : tot (ds.take k) ≤ tot ds := by
  have : tot ds = tot (ds.take k) + tot (ds.drop k) := by
    unfold tot
    rw [← List.sum_append, ← List.map_append, List.take_append_drop]
  omega
theorem MadeR.mx {B : Nat} {w : World} {g n : Nat} {ds : List DV} (h : MadeR B w g n ds) : MX w g (rCells ds).toArray ds := by
  refine ⟨h.row, fun j d hd => ?_, fun j d hd => ?_⟩
  · obtain ⟨c0, c1, c2⟩ := rCells_at ds j d hd
    have hm := h.each d (List.mem_of_getElem? hd)
    rw [List.getElem?_toArray, List.getElem?_toArray, c0, c1, hm.a1, hm.a2]
    refine ⟨rfl, rfl, ?_⟩
    rw [List.size_toArray]
    exact (List.getElem?_eq_some_iff.1 c2).1
  · have hm := h.each d (List.mem_of_getElem? hd)
    obtain ⟨x1, hx1, hs1, _⟩ := hm.r1
    obtain ⟨x2, hx2, hs2, _⟩ := hm.r2
    rw [List.length_map, hm.l1] at hs1
    rw [waitCells_len, hm.l2] at hs2
    exact ⟨⟨x1, hx1, hs1⟩, ⟨x2, hx2, by omega⟩⟩
set_option maxHeartbeats 4000000 in
theorem markDiskS_x (g n c : Nat) (cs : Array Value) (ds : List DV) (w : World) (h : MX w g cs ds) (hl : ds.length = n) (ht : n + tot ds ≤ 1048576) :
    Calls Try.prog 35 #[.slice (some ⟨g, 0, none⟩) n c, .int .i64 1] w fun r w' => (∃ v : Nat, v ≤ 5000000 ∧ r = .returned (.int .i64 v)) ∧ Fr (MS g ds) w w' := by
  have HX := hide h
  have HLN := hide hl
  have HT := hide ht
  have hn9 : n ≤ 1048576 := by omega
  clear h hl ht
  go_enter Try.func35, Try.ntmps35
  go_wp2
  go_loopw [1, 5] (fun q i wr => ∃ (k Q : Nat) (cs : Array Value), k ≤ n ∧ Q ≤ 5000000 ∧ Hid (Q ≤ 1 + 2 * tot (ds.take k) + k) ∧ Hid (MX wr g cs ds) ∧ Hid (Fr (MS g ds) w wr) ∧ q = .int .i64 Q ∧ i = .int .i64 k) (fun _ i _ => n - (intOf i).toNat)
  case atStart => exact ⟨0, 1, cs, by omega, by omega, hide (by omega), HX, hide (Fr.refl _ _), rfl, rfl⟩
  case round =>
    clear HX
    obtain ⟨k, Q, cs, hk, hQ, HQ, HX, HF, rfl, rfl⟩ := hrel
    by_cases hlt : k < n
    · have hkd : k < ds.length := by rw [HLN.out]; exact hlt
      obtain ⟨d, hd⟩ : ∃ d, ds[k]? = some d := ⟨ds[k]'hkd, List.getElem?_eq_getElem hkd⟩
      have HD := hide hd
      obtain ⟨e0, e1, e2⟩ := HX.out.at_ k d hd
      obtain ⟨⟨x1, hx1, hs1⟩, ⟨x2, hx2, hs2⟩⟩ := HX.out.each k d hd
      have htk := tot_le ds (k + 1)
      rw [tot_more hd] at htk
      have hbd : d.n1 + d.n2 ≤ 1048576 := by have := HT.out; omega
      have HTK := hide htk
      have c0 : wr.cell? ⟨g, k * 3, none⟩ = some (.slice (some ⟨d.b, 0, none⟩) d.n1 d.c1) := by rw [HX.out.row.cell, e0]
      have i0 : (0 : Int) ≤ (k : Int) := by omega
      have i1 : (k : Int) < (n : Int) := by omega
      have HX1 := hide hx1
      have HS1 := hide hs1
      obtain ⟨Q1, hQ1⟩ : ∃ Q1 : Nat, Q1 = Q + d.n1 := ⟨_, rfl⟩
      have Hq1 := hide (show (Q1 : Int) = (Q : Int) + (d.n1 : Nat) by omega)
      have HQ1 := hide hQ1
      have HBD := hide hbd
      have q1b : Q1 ≤ 10000000 := by omega
      clear hkd hd e0 e1 e2 hx1 hs1 hx2 hs2 htk hQ1 hbd
      go_wp2_with fail
      refine (markStringS_at (j := (Q1 : Int)) Q (by rfl) Hq1.out _ HX1.out HS1.out (by have := HBD.out; omega) (by omega)).mono ?_; rintro r w1 ⟨rfl, ⟨t1, T1, ts1, _⟩, hf1⟩
      have HX := hide (HX.out.next hf1 HX1.out T1 ts1 (by decide))
      have HF := hide (HF.out.trans (hf1.mono (fun i _ e => .inr ⟨d, List.mem_of_getElem? HD.out, .inl e⟩)))
      obtain ⟨e0, e1, e2⟩ := HX.out.at_ k d HD.out
      obtain ⟨_, ⟨x2, hx2, hs2⟩⟩ := HX.out.each k d HD.out
      have c1 : w1.cell? ⟨g, k * 3 + 1, none⟩ = some (.slice (some ⟨d.b2, 0, none⟩) d.n2 d.c2) := by rw [HX.out.row.cell, e1]
      have HX2 := hide hx2
      have HS2 := hide hs2
      obtain ⟨Q2, hQ2⟩ : ∃ Q2 : Nat, Q2 = Q1 + 2 * d.n2 := ⟨_, rfl⟩
      have HQ2 := hide hQ2
      have HW := hide (fun w' h => markWaitS_k d.b2 d.n2 d.c2 x2 Q1 w' h hs2 (by have := HBD.out; omega) (by omega))
      rw [← hQ2] at HW
      have q2b : Q2 ≤ 10000000 := by have := HBD.out; have := HQ1.out; omega
      clear hf1 T1 ts1 e0 e1 e2 c0 hx2 hs2 hQ2
      go_wp2_with fail
      refine (HW.out _ HX2.out).mono ?_; rintro r w2 ⟨rfl, ⟨cs3, K3, ks3⟩, hf2⟩
      have HX := hide (HX.out.next hf2 HX2.out K3 ks3 (by decide))
      have HF := hide (HF.out.trans (hf2.mono (fun i _ e => .inr ⟨d, List.mem_of_getElem? HD.out, .inr e⟩)))
      obtain ⟨e0, e1, e2⟩ := HX.out.at_ k d HD.out
      have d2 : ∃ u, w2.cell? ⟨g, k * 3 + 2, none⟩ = some u := ⟨cs[k * 3 + 2], by rw [HX.out.row.cell]; exact Array.getElem?_eq_getElem e2⟩
      obtain ⟨u2, d2⟩ := d2
      have f2 := HX.out.row.frozen (k * 3 + 2)
      have QB := hide (show Q2 + 1 ≤ 1 + 2 * tot (ds.take (k + 1)) + (k + 1) by rw [tot_more HD.out]; have := HQ1.out; have := HQ2.out; have := HQ.out; omega)
      clear hf2 K3 ks3 e0 e1 e2 c1 HW
      go_wp2_with fail
      go_roundw
      case rel => exact ⟨k + 1, Q2 + 1, _, by omega, by have := QB.out; have := HT.out; have := tot_le ds (k + 1); omega, QB, hide (HX.out.flag _), hide (HF.out.setCell (p := ⟨g, k * 3 + 2, none⟩) (.inl (.inl rfl)) _), int_eq (by omega), int_eq (by omega)⟩
      case measure => simp [intOf]; omega
    · go_wp2
      go_ret
      exact ⟨⟨Q, hQ, rfl⟩, HF.out⟩
set_option maxHeartbeats 400000 in
theorem markRaid_x {B g n c : Nat} {ds : List DV} {w : World} (h : MadeR B w g n ds) (ht : n + tot ds ≤ 1048576) :
    Calls Try.prog 13 #[.agg #[.slice (some ⟨g, 0, none⟩) n c], .int .i64 1] w fun r w' => (∃ v : Nat, v ≤ 5000000 ∧ r = .returned (.int .i64 v)) ∧ Fr (MS g ds) w w' := by
  have hb0 := bel1 w (.cells #[.slice (some ⟨g, 0, none⟩) n c] 24)
  have H := hide (h.after hb0)
  have HB := hide hb0
  have HT := hide ht
  clear h hb0 ht
  go_enter Try.func13, Try.ntmps13
  go_wp2_with fail
  refine (markDiskS_x g n c _ ds _ H.out.mx H.out.len HT.out).mono ?_; rintro r w1 ⟨⟨v, hv, rfl⟩, hf1⟩
  go_wp2_with fail
  go_ret
  exact ⟨⟨v, hv, rfl⟩, (Fr.of_below _ HB.out).trans hf1⟩
theorem tot_vals {ds es : List DV} {w w' : World} (h : es.map DV.val = ds.map DV.val) (h1 : ∀ d ∈ ds, d.In w) (h2 : ∀ d ∈ es, d.In w') : tot es = tot ds := by
  have key : ∀ (ds : List DV) (w : World), (∀ d ∈ ds, d.In w) → tot ds = ((ds.map DV.val).map fun v => v.1.length + v.2.1.length).sum := fun ds w hd => by
    unfold tot
    rw [List.map_map]
    congr 1
    refine List.map_congr_left (fun d hm => ?_)
    have h1 := (hd d hm).1.len
    have h2 := (hd d hm).2.1.len
    rw [List.length_map] at h1
    rw [waitCells_len] at h2
    show d.n1 + d.n2 = d.z1.length + d.z2.length
    omega
  rw [key ds w h1, key es w' h2, h]
end Go.Proofs.Ytcaoekaephnimaa
