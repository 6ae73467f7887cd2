/- l91Three: three masks, or tears; what DrawRaidCrash draws. -/
import Derived.Test.YtcaoekaephnimaaQL
namespace Go.Proofs.Ytcaoekaephnimaa
open Go.RowKit
set_option linter.unusedVariables false
set_option maxRecDepth 100000

theorem wpList_app_int {ops : Array Oper} {rest : List Oper} {op : Oper} {a : Act} {w : World} {Q : Exit → Act → World → Prop} (hgd : op.guard = none) {base g : Nat} {V : Value} {l : List Int} {y : Int} (so xo : Operand) (ho : op.op = .call { callee := .builtin .append, args := #[so, xo], argTypes := #[37, 37] }) (hs : a.eval so = V) (hx : a.eval xo = .slice (some ⟨g, 0, none⟩) 1 1)
    (hown : w.ownsRow base 3 1 V l.length (l.map (Value.int .i64))) (hg : Bk w g 3 #[.int .i64 y]) (hn : l.length ≤ 1000) (hb : base ≤ w.heap.size)
    (k : ∀ V' w', w'.ownsRow base 3 1 V' (l ++ [y]).length ((l ++ [y]).map (Value.int .i64)) → Fr (fun i => some i = V.ownBlock) w w' → wpList Try.prog ops Q rest (a.put op.dst V') w') : wpList Try.prog ops Q (op :: rest) a w := by
  obtain ⟨i, hi, hz, hsz, hby⟩ := info_parts info_int
  refine wpList_append_own w hgd so xo 37 ho base 3 i _ 1 8 Try.underlying37 hi hz hsz hby rfl (by decide) _ _ _ hs hown ⟨g, 0, none⟩ 1 1 [.int .i64 y] hx rfl (fun j u hj => ?_) (fun u hu => ?_) (by unfold maxLen; omega) (by omega) hb ?_
  · rw [Addr.add_lit, Nat.zero_add, hg.cell]
    match j, hj with
    | 0, hj => exact hj
    | j + 1, hj => simp at hj
  · simp only [List.mem_cons, List.not_mem_nil, or_false] at hu
    rw [hu]; rfl
  · intro v' w' hown' hg' hv
    refine k v' w' ?_ ⟨hg'.os, hg'.tape, hg'.output, hg'.size, fun k hk hn => hg'.block k hk (fun e => hn e)⟩
    rw [List.length_append, List.map_append]
    exact hown'
theorem own_blk {B i n : Nat} {t : TypeId} {s : Nat} {w : World} {V : Value} {xs : List Value} (h : w.ownsRow B t s V n xs) (hi : some i = V.ownBlock) : B ≤ i ∧ i < w.heap.size := by
  rcases h.2 with ⟨e, _⟩ | ⟨g, cap, cur, e, hb, hg, _⟩
  · rw [e] at hi; cases hi
  · rw [e] at hi
    cases hi
    exact ⟨hb, (Array.getElem?_eq_some_iff.1 hg).1⟩
theorem own_frI {B n s : Nat} {t : TypeId} {S : Nat → Prop} {w w' : World} {V : Value} {xs : List Value} (h : w.ownsRow B t s V n xs) (hf : Fr S w w') (hS : ∀ i, B ≤ i → ¬ S i) : w'.ownsRow B t s V n xs := by
  refine ⟨h.1, ?_⟩
  rcases h.2 with h3 | ⟨g, cap, cur, hv, hb, hg, r⟩
  · exact .inl h3
  · exact .inr ⟨g, cap, cur, hv, hb, Bk.fr hg hf (hS g hb), r⟩
/-- masks, or tears -/
def ThreePost (R p : Nat) (w : World) (r : Ending) (w' : World) : Prop := ∃ (g o n cap q : Nat) (l : List Int), r = .returned (.slice (some ⟨g, o, none⟩) n cap) ∧ l.length = n ∧ n ≤ 3 ∧ Rd w' 1 (some ⟨g, o, none⟩) n (l.map (Value.int .i64)) ∧ w.heap.size ≤ g ∧ g < w'.heap.size ∧ (∀ z ∈ l, -2 ≤ z ∧ z ≤ 1152921504606846975) ∧ q ≤ p + 100 ∧ Rdr w' R q ∧ Fr (· = R) w w'
/-- the state of the draw -/
structure TS (w0 : World) (R q : Nat) (V : Value) (l : List Int) (w : World) : Prop where
  own : w.ownsRow w0.heap.size 3 1 V l.length (l.map (Value.int .i64))
  rd : Rdr w R q
  lt : R < w0.heap.size
  fr : Fr (· = R) w0 w
  bd : ∀ z ∈ l, -2 ≤ z ∧ z ≤ 1152921504606846975
theorem TS.read {w0 : World} {R q q' : Nat} {V : Value} {l : List Int} {w w' : World} (h : TS w0 R q V l w) (hr : Rdr w' R q') (hf : Fr (· = R) w w') : TS w0 R q' V l w' :=
  ⟨own_frI h.own hf (fun i hi e => by have := h.lt; omega), hr, h.lt, h.fr.trans hf, h.bd⟩
theorem TS.after {w0 : World} {R q : Nat} {V : Value} {l : List Int} {w w' : World} (h : TS w0 R q V l w) (hb : Below w.heap.size w w') : TS w0 R q V l w' :=
  ⟨own_aftR h.own hb, h.rd.after hb, h.lt, h.fr.trans (Fr.of_below _ hb), h.bd⟩
theorem TS.app {w0 : World} {R q : Nat} {V V' : Value} {l : List Int} {y : Int} {w w' : World} (h : TS w0 R q V l w) (ho : w'.ownsRow w0.heap.size 3 1 V' (l ++ [y]).length ((l ++ [y]).map (Value.int .i64))) (hf : Fr (fun i => some i = V.ownBlock) w w') (h0 : -2 ≤ y) (h1 : y ≤ 1152921504606846975) : TS w0 R q V' (l ++ [y]) w' :=
  ⟨ho, h.rd.fr hf (fun b hb hi => by have := (own_blk h.own hi).1; have := h.lt; omega), h.lt, h.fr.next hf (fun i _ hi => .inr (own_blk h.own hi).1), fun z hz => by
    rcases List.mem_append.1 hz with h2 | h2
    · exact h.bd z h2
    · rw [List.mem_singleton] at h2; rw [h2]; exact ⟨h0, h1⟩⟩
theorem TS.shape {w0 : World} {R q : Nat} {V : Value} {l : List Int} {w : World} (h : TS w0 R q V l w) (hl : l.length = 3) : ∃ g cap, V = .slice (some ⟨g, 0, none⟩) 3 cap ∧ 3 ≤ cap ∧ cap ≤ maxLen ∧ w0.heap.size ≤ g ∧ g < w.heap.size ∧ Rd w 1 (some ⟨g, 0, none⟩) 3 (l.map (Value.int .i64)) ∧ Rd w 1 (some ⟨g, 1, none⟩) 2 (l.tail.map (Value.int .i64)) := by
  rcases h.own.2 with ⟨_, e2⟩ | ⟨g, cap, cur, e, hb, hg, hnc, hcm, hsz, htk⟩
  · omega
  · have hc : ∀ j u, (l.map (Value.int .i64))[j]? = some u → w.cell? ⟨g, j, none⟩ = some u := fun j u hu => by
      rw [Bk.cell hg, ← Array.getElem?_toList]
      rw [← htk, List.getElem?_take] at hu
      split at hu
      · exact hu
      · cases hu
    rw [hl] at e hnc
    refine ⟨g, cap, e, hnc, hcm, hb, (Array.getElem?_eq_some_iff.1 hg).1, ⟨by rw [List.length_map, hl], fun _ => ⟨g, 0, rfl, (Array.getElem?_eq_some_iff.1 hg).1, fun j u hu => by rw [Nat.zero_add]; exact hc j u hu⟩⟩, ⟨by rw [List.length_map, List.length_tail, hl], fun _ => ⟨g, 1, rfl, (Array.getElem?_eq_some_iff.1 hg).1, fun j u hu => ?_⟩⟩⟩
    rw [Nat.add_comm]
    apply hc
    match l, hl with
    | a :: l', _ => simpa using hu
set_option maxHeartbeats 4000000 in
theorem l91ThreeT_any (R p : Nat) (w : World) (h : Rdr w R p) (hp : p ≤ 100000) :
    Calls Try.prog 53 #[.pointer (some ⟨R, 0, none⟩), .bool true] w (ThreePost R p w) := by
  skip
  have hb0 := bel1 w (.cells #[] 3)
  have TS0 := hide (show TS w R p (.slice (some ⟨w.heap.size, 0, none⟩) 0 0) [] (w.alloc (.cells #[] 3)) from ⟨⟨rfl, .inr ⟨w.heap.size, 0, #[], rfl, Nat.le_refl _, Bk.fresh _ _ _, Nat.le_refl _, by simp [maxLen], rfl, rfl⟩⟩, h.after hb0, h.lt, Fr.of_below _ hb0, fun z hz => by cases hz⟩)
  clear h hb0
  go_enter Try.func53, Try.ntmps53
  go_wp2_with fail
  go_loopw [5, 6] (fun V5 i wr => ∃ (k q : Nat) (l : List Int), i = .int .i64 k ∧ k ≤ 3 ∧ Hid (l.length = k) ∧ Hid (q ≤ p + 10 * k) ∧ Hid (TS w R q V5 l wr)) (fun _ i _ => 3 - (intOf i).toNat)
  case atStart => exact ⟨0, p, [], rfl, by omega, hide rfl, hide (Nat.le_refl _), TS0⟩
  case round =>
    clear TS0
    obtain ⟨k, q, l, rfl, hk, HL, HQ, HT⟩ := hrel
    have hqb : q ≤ 100030 := by have := HQ.out; omega
    have hl3 : l.length ≤ 3 := by have := HL.out; omega
    by_cases hlt : k < 3
    · go_wp2_with fail
      refine (pick_any R q 9 _ HT.out.rd (by omega) (by omega) (by omega)).mono ?_; rintro r x1 ⟨v, rfl, v0, v1, _, hr, hf⟩
      have v2 := v1 (by omega)
      have HT := hide (HT.out.read hr hf)
      clear hr hf v1
      go_wp2_with (at_builtin; refine wpList_app_int (by rfl) _ _ (by rfl) (by rfl) (by rfl) (HT.out.after (bel1 _ _)).own (Bk.fresh _ _ _) (by omega) (by have := HT.out.fr.size; simp; omega) ?_; intro V' x9 ho5 hf5; have HT := hide ((HT.out.after (bel1 _ _)).app ho5 hf5 (by omega) (by omega)); clear ho5 hf5)
      refine ⟨⟨k + 1, _, _, int_eq (by omega), by omega, hide (by rw [List.length_append, HL.out]; rfl), hide (by have h1 := HQ.out; omega), HT⟩, ?_⟩
      simp [intOf]; omega
    · obtain rfl : k = 3 := by omega
      obtain ⟨g, cap, hv, c0, c1, hg, hg2, h1, h2⟩ := HT.out.shape HL.out
      subst hv
      have HG := hide (And.intro hg hg2)
      have H1 := hide h1
      have H2 := hide h2
      clear hg hg2 h1 h2
      go_wp2_with fail
      refine (pick_any R q 30 _ HT.out.rd (by omega) (by omega) (by omega)).mono ?_; rintro r x1 ⟨v, rfl, v0, v1, _, hr, hf⟩
      have hne : ¬ g = R := by have := HG.out.1; have := HT.out.lt; omega
      have H1 := hide (H1.out.fr1 hf hne)
      have H2 := hide (H2.out.fr1 hf hne)
      have HG := hide (And.intro HG.out.1 (Nat.lt_of_lt_of_le HG.out.2 hf.size))
      have HT := hide (HT.out.read hr hf)
      clear hr hf v1 hne
      by_cases hz : v = 0
      · subst hz
        go_wp2_with fail
        go_ret
        exact ⟨g, 1, 2, cap - 1, _, l.tail, rfl, by rw [List.length_tail, HL.out], by omega, H2.out, HG.out.1, HG.out.2, fun z hz => HT.out.bd z (List.mem_of_mem_tail hz), by have := HQ.out; omega, HT.out.rd, HT.out.fr⟩
      · go_wp2_with fail
        go_ret
        exact ⟨g, 0, 3, cap, _, l, rfl, HL.out, Nat.le_refl _, H1.out, HG.out.1, HG.out.2, HT.out.bd, by have := HQ.out; omega, HT.out.rd, HT.out.fr⟩

set_option maxHeartbeats 4000000 in
theorem l91ThreeF_any (R p : Nat) (w : World) (h : Rdr w R p) (hp : p ≤ 100000) :
    Calls Try.prog 53 #[.pointer (some ⟨R, 0, none⟩), .bool false] w (ThreePost R p w) := by
  skip
  have hb0 := bel1 w (.cells #[] 3)
  have TS0 := hide (show TS w R p (.slice (some ⟨w.heap.size, 0, none⟩) 0 0) [] (w.alloc (.cells #[] 3)) from ⟨⟨rfl, .inr ⟨w.heap.size, 0, #[], rfl, Nat.le_refl _, Bk.fresh _ _ _, Nat.le_refl _, by simp [maxLen], rfl, rfl⟩⟩, h.after hb0, h.lt, Fr.of_below _ hb0, fun z hz => by cases hz⟩)
  clear h hb0
  go_enter Try.func53, Try.ntmps53
  go_wp2_with fail
  go_loopw [5, 6] (fun V5 i wr => ∃ (k q : Nat) (l : List Int), i = .int .i64 k ∧ k ≤ 3 ∧ Hid (l.length = k) ∧ Hid (q ≤ p + 10 * k) ∧ Hid (TS w R q V5 l wr)) (fun _ i _ => 3 - (intOf i).toNat)
  case atStart => exact ⟨0, p, [], rfl, by omega, hide rfl, hide (Nat.le_refl _), TS0⟩
  case round =>
    clear TS0
    obtain ⟨k, q, l, rfl, hk, HL, HQ, HT⟩ := hrel
    have hqb : q ≤ 100030 := by have := HQ.out; omega
    have hl3 : l.length ≤ 3 := by have := HL.out; omega
    by_cases hlt : k < 3
    · go_wp2_with fail
      refine (l91Mask_any R q _ HT.out.rd (by omega)).mono ?_; rintro r x1 ⟨v, q2, rfl, v0, v2, hq2, hr, hf⟩
      have HT := hide (HT.out.read hr hf)
      have HQ2 := hide hq2
      clear hr hf hq2
      go_wp2_with (at_builtin; refine wpList_app_int (by rfl) _ _ (by rfl) (by rfl) (by rfl) (HT.out.after (bel1 _ _)).own (Bk.fresh _ _ _) (by omega) (by have := HT.out.fr.size; simp; omega) ?_; intro V' x9 ho5 hf5; have HT := hide ((HT.out.after (bel1 _ _)).app ho5 hf5 (by omega) (by omega)); clear ho5 hf5)
      refine ⟨⟨k + 1, _, _, int_eq (by omega), by omega, hide (by rw [List.length_append, HL.out]; rfl), hide (by have h1 := HQ.out; have h2 := HQ2.out; omega), HT⟩, ?_⟩
      simp [intOf]; omega
    · obtain rfl : k = 3 := by omega
      obtain ⟨g, cap, hv, c0, c1, hg, hg2, h1, h2⟩ := HT.out.shape HL.out
      subst hv
      have HG := hide (And.intro hg hg2)
      have H1 := hide h1
      have H2 := hide h2
      clear hg hg2 h1 h2
      go_wp2_with fail
      refine (pick_any R q 30 _ HT.out.rd (by omega) (by omega) (by omega)).mono ?_; rintro r x1 ⟨v, rfl, v0, v1, _, hr, hf⟩
      have hne : ¬ g = R := by have := HG.out.1; have := HT.out.lt; omega
      have H1 := hide (H1.out.fr1 hf hne)
      have H2 := hide (H2.out.fr1 hf hne)
      have HG := hide (And.intro HG.out.1 (Nat.lt_of_lt_of_le HG.out.2 hf.size))
      have HT := hide (HT.out.read hr hf)
      clear hr hf v1 hne
      by_cases hz : v = 0
      · subst hz
        go_wp2_with fail
        go_ret
        exact ⟨g, 1, 2, cap - 1, _, l.tail, rfl, by rw [List.length_tail, HL.out], by omega, H2.out, HG.out.1, HG.out.2, fun z hz => HT.out.bd z (List.mem_of_mem_tail hz), by have := HQ.out; omega, HT.out.rd, HT.out.fr⟩
      · go_wp2_with fail
        go_ret
        exact ⟨g, 0, 3, cap, _, l, rfl, HL.out, Nat.le_refl _, H1.out, HG.out.1, HG.out.2, HT.out.bd, by have := HQ.out; omega, HT.out.rd, HT.out.fr⟩

/-- what DrawRaidCrash draws -/
def DrawnRC (w : World) (r : Ending) (w' : World) : Prop := ∃ (A : Option Addr) (n c : Nat) (es : List DV) (gm om nm cm : Nat) (ms : List Int) (gt ot nt ct : Nat) (ts : List Int), r = .returned (.tuple #[.agg #[.slice A n c], .slice (some ⟨gm, om, none⟩) nm cm, .slice (some ⟨gt, ot, none⟩) nt ct]) ∧ RDn w.heap.size w' A n es ∧
  Rd w' 1 (some ⟨gm, om, none⟩) nm (ms.map (Value.int .i64)) ∧ Rd w' 1 (some ⟨gt, ot, none⟩) nt (ts.map (Value.int .i64)) ∧ (∀ z ∈ ms, z ≤ 1152921504606846975) ∧ (gm < w'.heap.size ∧ gt < w'.heap.size) ∧ nm ≤ 3 ∧ nt ≤ 3 ∧ Below w.heap.size w w'
set_option maxHeartbeats 4000000 in
theorem drawRaidCrash_any (A : Option Addr) (n c : Nat) (zs : List Int) (w : World) (h : U8s w A n c zs) :
    Calls Try.prog 29 #[.slice A n c] w (DrawnRC w) := by
  have K0 := hide (Bk.fresh w 24 #[.slice none 0 0])
  have H1 := hide (h.afterR (bel1 w (.cells #[.slice none 0 0] 24)))
  have HB := hide (bel1 w (.cells #[.slice none 0 0] 24))
  obtain ⟨R, hR⟩ : ∃ R, R = (w.alloc (.cells #[.slice none 0 0] 24)).heap.size := ⟨_, rfl⟩
  have hR1 : R = w.heap.size + 1 := by rw [hR]; simp
  have HR1 := hide hR1
  clear h hR1
  go_enter Try.func29, Try.ntmps29
  go_wp2_with fail
  refine (l6Open_any _ _ _ _ _ H1.out).mono ?_; rintro r w1 ⟨rfl, hr, hb⟩
  rw [← hR] at hr
  rw [← hR]
  have HR := hide hr
  have HRL := hide hr.lt
  have HL1 := hide (show w.heap.size < w1.heap.size from Nat.lt_of_lt_of_le (by have := HR1.out; omega) (Nat.le_of_lt hr.lt))
  have K0 := hide (K0.out.after hb)
  have HB := hide (bnext HB.out (by simp) hb)
  clear hr hb hR H1
  go_wp2_with fail
  refine (l91Raid_any R 0 _ HR.out (by omega)).mono ?_; rintro r w2 ⟨A5, n5, c5, V5, es, q, rfl, hrd, hq, hr, hf⟩
  have HRG := hide (show ¬ w.heap.size = R by have := HR1.out; omega)
  have K0 := hide (K0.out.fr hf HRG.out)
  have HB := hide (HB.out.trans (hf.below (B := w.heap.size) (Nat.le_of_lt HL1.out) (fun k e => by have := HR1.out; omega)))
  have HL2 := hide (show w1.heap.size ≤ (w2.alloc (.cells #[.slice A5 n5 c5] 24)).drew.heap.size from Nat.le_trans hf.size (bel1 w2 (.cells #[.slice A5 n5 c5] 24)).drew.size)
  have HN2 := hide (show ¬ w2.heap.size = R by have := HRL.out; have := hf.size; omega)
  have HN0 := hide (show w2.heap.size ≠ w.heap.size by have := HL1.out; have := hf.size; omega)
  have hb' := (bel1 w2 (.cells #[.slice A5 n5 c5] 24)).drew
  have K6 := hide ((Bk.fresh w2 24 #[.slice A5 n5 c5]).after (Below.refl _ _).drew)
  have K0 := hide (K0.out.after hb')
  have HB := hide (HB.out.trans (hb'.mono HB.out.size))
  have HR := hide (hr.after hb')
  have HD := hide (hrd.after hb')
  clear hr hf hrd hb'
  go_upto_region 3 with fail
  refine wp_region_held_drew (S := fun x => Bk x w2.heap.size 24 #[.slice A5 n5 c5]) (by kernel_rfl) (K6.out) (fun hH0 => ?_)
  refine wpAnyH_take (i := 0) (v := ?_) rfl (by kernel_rfl) (by kernel_rfl) (by kernel_rfl) (fun _ _ _ h => h) (Or.inl ⟨by rfl, fun wS hS => ?_⟩) hH0 ?_
  rotate_left
  · have s0 := Bk.c1 hS; go_simp; try exact rfl
  simp only [Act.put, List.setIfInBounds_toArray, List.set_cons_zero, List.set_cons_succ, List.getElem_toArray, List.getElem_cons_zero]
  refine wpAnyH_take (i := 1) (v := ?_) rfl (by kernel_rfl) (by kernel_rfl) (by kernel_rfl) (fun _ _ _ h => h) (Or.inl ⟨by rfl, fun wS hS => ?_⟩) hH0 ?_
  rotate_left
  · have s0 := Bk.c1 hS; go_simp; try exact rfl
  simp only [Act.put, List.setIfInBounds_toArray, List.set_cons_zero, List.set_cons_succ, List.getElem_toArray, List.getElem_cons_zero, List.getElem_cons_succ]
  refine wpAnyH_take (i := 3) (v := ?_) rfl (by kernel_rfl) (by kernel_rfl) (by kernel_rfl) (fun _ _ _ h => h) (Or.inl ⟨by rfl, fun wS hS => ?_⟩) hH0 ?_
  rotate_left
  · have s0 := Bk.c1 hS; go_simp; try exact rfl
  simp only [Act.put, List.setIfInBounds_toArray, List.set_cons_zero, List.set_cons_succ, List.getElem_toArray, List.getElem_cons_zero, List.getElem_cons_succ]
  refine wpAnyH_ready (rs := [2]) (by kernel_rfl) (by simp) (AllReadyH.cons rfl (fun K hK => ?_) (AllReadyH.nil))
  go_simp
  go_at_call 53
  refine (l91ThreeF_any R q _ HR.out (by omega)).mono ?_; rintro r x1 ⟨gm, om, nm, cm, qm, ms, rfl, hlm, hnm, hrm, hgm, hgm2, hbm, hqm, hr, hf⟩
  have HMG := hide (show ¬ gm = R by have h1 := HRL.out; have h2 := HL2.out; omega)
  have HL20 := hide HL2.out
  have HL2 := hide (Nat.le_trans HL2.out hf.size)
  have HGM := hide hgm2
  have HGM00 := hide (show w1.heap.size ≤ gm from Nat.le_trans HL20.out hgm)
  have K0 := hide (K0.out.fr hf HRG.out)
  have HD := hide (HD.out.fr_ hf (fun b hb e => by have := HRL.out; omega))
  have HB := hide (HB.out.trans (hf.below (B := w.heap.size) HB.out.size (fun k e => by have := HR1.out; omega)))
  have HR := hide hr
  have HMM := hide hrm
  have HNM := hide hnm
  have HBM := hide hbm
  have HQM := hide hqm
  refine hK.out _ _ (hH0.fr hf HN2.out) (fun hH1 => ?_)
  clear hK K
  try simp only [Act.put]
  clear hlm hnm hrm hgm hgm2 hbm hqm hr hf
  refine wpAnyH_ready (rs := [4]) (by kernel_rfl) (by simp) (AllReadyH.cons rfl (fun K hK => ?_) (AllReadyH.nil))
  go_simp
  go_at_call 53
  refine (l91ThreeT_any R qm _ HR.out (by have := HQM.out; omega)).mono ?_; rintro r x2 ⟨gt, ot, nt, ct, qt, ts, rfl, hlt, hnt, hrt, hgt, hgt2, hbt, hqt, hr, hf⟩
  have HGM := hide (Nat.lt_of_lt_of_le HGM.out hf.size)
  have HGT := hide hgt2
  have HGM0 := HGM00
  have K0 := hide (K0.out.fr hf HRG.out)
  have HD := hide (HD.out.fr_ hf (fun b hb e => by have := HRL.out; omega))
  have HB := hide (HB.out.trans (hf.below (B := w.heap.size) HB.out.size (fun k e => by have := HR1.out; omega)))
  have HMM := hide (HMM.out.fr1 hf HMG.out)
  have HTT := hide hrt
  have HNT := hide hnt
  have HG0 := hide (show w.heap.size < gm ∧ w.heap.size < gt by have h1 := HL1.out; have h2 := HGM0.out; have h3 := HL2.out; have h4 := hgt; omega)
  refine hK.out _ _ (hH1.fr hf HN2.out) (fun hH2 => ?_)
  clear hK K
  try simp only [Act.put]
  clear hlt hnt hrt hgt hgt2 hbt hqt hr hf
  refine wpAnyH_ready (rs := [5]) (by kernel_rfl) (by simp) (AllReadyH.cons rfl (fun K hK => ?_) (AllReadyH.nil))
  have q0 := K0.out.c1
  have f0 := K0.out.frozen 0
  go_simp
  refine hK.out _ _ (hH2.far (p := ⟨w.heap.size, 0, none⟩) HN0.out (.slice A5 n5 c5)) (fun hH3 => ?_)
  clear hK K
  try simp only [Act.put]
  clear q0 f0
  refine wpAnyH_take (i := 6) (v := ?_) rfl (by kernel_rfl) (by kernel_rfl) (by kernel_rfl) (fun _ _ _ h => h) (Or.inl ⟨by rfl, fun wS hS => ?_⟩) hH3 ?_
  rotate_left
  · have s0 := Bk.c1 hS; go_simp; try exact rfl
  simp only [Act.put, List.setIfInBounds_toArray, List.set_cons_zero, List.set_cons_succ, List.getElem_toArray, List.getElem_cons_zero, List.getElem_cons_succ]
  refine wpAnyH_take (i := 7) (v := ?_) rfl (by kernel_rfl) (by kernel_rfl) (by kernel_rfl) (fun _ _ _ h => h) (Or.inl ⟨by rfl, fun wS hS => ?_⟩) hH3 ?_
  rotate_left
  · have s0 := Bk.c1 hS; go_simp; try exact rfl
  simp only [Act.put, List.setIfInBounds_toArray, List.set_cons_zero, List.set_cons_succ, List.getElem_toArray, List.getElem_cons_zero, List.getElem_cons_succ]
  refine wpAnyH_done (by kernel_rfl) ?_ _
  have KF := hide (K0.out.put 0 (.slice A5 n5 c5))
  have HF := hide ((Fr.refl (fun i => i = w.heap.size) x2).setCell (p := ⟨w.heap.size, 0, none⟩) (.inl rfl) (.slice A5 n5 c5))
  go_wp2_with fail
  have c0 : (x2.setCell ⟨w.heap.size, 0, none⟩ (.slice A5 n5 c5)).cell? ⟨w.heap.size, 0, none⟩ = some (.slice A5 n5 c5) := KF.out.cell 0
  refine bodyPost_ret (v := .tuple #[.agg #[.slice A5 n5 c5], .slice (some ⟨gm, om, none⟩) nm cm, .slice (some ⟨gt, ot, none⟩) nt ct]) (by simp [results, Try.results29, go_sem, c0]) rfl ?_
  exact ⟨A5, n5, c5, es, gm, om, nm, cm, ms, gt, ot, nt, ct, ts, rfl, (HD.out.low (Nat.le_of_lt HL1.out)).fr_ HF.out (fun b hb e => by omega), HMM.out.fr1 HF.out (by have := HG0.out; omega), HTT.out.fr1 HF.out (by have := HG0.out; omega), fun z hz => (HBM.out z hz).2, ⟨Nat.lt_of_lt_of_le HGM.out HF.out.size, Nat.lt_of_lt_of_le HGT.out HF.out.size⟩, HNM.out, HNT.out, HB.out.setCell (p := ⟨w.heap.size, 0, none⟩) (Nat.le_refl _) _⟩
end Go.Proofs.Ytcaoekaephnimaa
