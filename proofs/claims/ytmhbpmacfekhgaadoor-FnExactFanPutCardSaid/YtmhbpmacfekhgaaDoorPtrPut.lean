/- Both PtrPut. -/
import Derived.Test.YtmhbpmacfekhgaaDoorPCut
import Derived.Test.YtmhbpmacfekhgaaDoorPtrS
import Derived.Test.YtmhbpmacfekhgaaDoorPtrC
import Derived.Deep.RegionHeld
namespace Go.Proofs.YtmhbpmacfekhgaaDoor
open Go.RowKit
set_option linter.unusedVariables false

/-- the addresses of the cells of a pointer -/
def partC (g : Nat) : Array Value := #[.pointer (some ⟨g, 0, none⟩), .pointer (some ⟨g, 1, none⟩), .pointer (some ⟨g, 2, none⟩), .pointer (some ⟨g, 3, none⟩), .pointer (some ⟨g, 4, none⟩)]
theorem partC_at {w : World} {h g k : Nat} (hb : Bk w h 54 (partC g)) (hk : k < 5) : w.cell? ⟨h, k, none⟩ = some (.pointer (some ⟨g, k, none⟩)) := by
  rw [hb.cell]
  match k, hk with
  | 0, _ => rfl
  | 1, _ => rfl
  | 2, _ => rfl
  | 3, _ => rfl
  | 4, _ => rfl
set_option maxHeartbeats 1000000 in
theorem parts_any (g : Nat) (w : World) :
    Calls Tryd.prog 41 #[.pointer (some ⟨g, 0, none⟩)] w fun r w' => ∃ h, r = .returned (.slice (some ⟨h, 0, none⟩) 5 5) ∧ w.heap.size ≤ h ∧ Bk w' h 54 (partC g) ∧ Below w.heap.size w w' := by
  go_enter Tryd.func41, Tryd.ntmps41
  go_wp2_with fail
  refine wp_region_held_drew (S := fun x => Below w.heap.size w x) (by kernel_rfl) ((Below.refl _ _).drew) (fun hH => ?_)
  refine wpAnyH_take (i := 0) (v := ?_) rfl (by kernel_rfl) (by kernel_rfl) (by kernel_rfl) (fun _ _ _ h => h) (Or.inl ⟨by rfl, fun w hS => ?_⟩) hH ?_
  rotate_left
  · go_simp; try exact rfl
  simp only [Act.put, List.setIfInBounds_toArray, List.set_cons_zero, List.set_cons_succ, List.getElem_toArray, List.getElem_cons_zero]
  refine wpAnyH_take (i := 1) (v := ?_) rfl (by kernel_rfl) (by kernel_rfl) (by kernel_rfl) (fun _ _ _ h => h) (Or.inl ⟨by rfl, fun w hS => ?_⟩) hH ?_
  rotate_left
  · go_simp; try exact rfl
  simp only [Act.put, List.setIfInBounds_toArray, List.set_cons_zero, List.set_cons_succ, List.getElem_toArray, List.getElem_cons_zero, List.getElem_cons_succ]
  refine wpAnyH_take (i := 2) (v := ?_) rfl (by kernel_rfl) (by kernel_rfl) (by kernel_rfl) (fun _ _ _ h => h) (Or.inl ⟨by rfl, fun w hS => ?_⟩) hH ?_
  rotate_left
  · go_simp; try exact rfl
  simp only [Act.put, List.setIfInBounds_toArray, List.set_cons_zero, List.set_cons_succ, List.getElem_toArray, List.getElem_cons_zero, List.getElem_cons_succ]
  refine wpAnyH_take (i := 3) (v := ?_) rfl (by kernel_rfl) (by kernel_rfl) (by kernel_rfl) (fun _ _ _ h => h) (Or.inl ⟨by rfl, fun w hS => ?_⟩) hH ?_
  rotate_left
  · go_simp; try exact rfl
  simp only [Act.put, List.setIfInBounds_toArray, List.set_cons_zero, List.set_cons_succ, List.getElem_toArray, List.getElem_cons_zero, List.getElem_cons_succ]
  refine wpAnyH_take (i := 4) (v := ?_) rfl (by kernel_rfl) (by kernel_rfl) (by kernel_rfl) (fun _ _ _ h => h) (Or.inl ⟨by rfl, fun w hS => ?_⟩) hH ?_
  rotate_left
  · go_simp; try exact rfl
  simp only [Act.put, List.setIfInBounds_toArray, List.set_cons_zero, List.set_cons_succ, List.getElem_toArray, List.getElem_cons_zero, List.getElem_cons_succ]
  refine wpAnyH_take (i := 5) (v := ?_) rfl (by kernel_rfl) (by kernel_rfl) (by kernel_rfl) (fun _ _ _ h => h) (Or.inl ⟨by rfl, fun w hS => ?_⟩) hH ?_
  rotate_left
  · go_simp; try exact rfl
  simp only [Act.put, List.setIfInBounds_toArray, List.set_cons_zero, List.set_cons_succ, List.getElem_toArray, List.getElem_cons_zero, List.getElem_cons_succ]
  refine wpAnyH_take (i := 6) (v := ?_) rfl (by kernel_rfl) (by kernel_rfl) (by kernel_rfl) (fun _ _ _ h => h) (Or.inl ⟨by rfl, fun w hS => ?_⟩) hH ?_
  rotate_left
  · go_simp; try exact rfl
  simp only [Act.put, List.setIfInBounds_toArray, List.set_cons_zero, List.set_cons_succ, List.getElem_toArray, List.getElem_cons_zero, List.getElem_cons_succ]
  refine wpAnyH_take (i := 7) (v := ?_) rfl (by kernel_rfl) (by kernel_rfl) (by kernel_rfl) (fun _ _ _ h => h) (Or.inl ⟨by rfl, fun w hS => ?_⟩) hH ?_
  rotate_left
  · go_simp; try exact rfl
  simp only [Act.put, List.setIfInBounds_toArray, List.set_cons_zero, List.set_cons_succ, List.getElem_toArray, List.getElem_cons_zero, List.getElem_cons_succ]
  refine wpAnyH_take (i := 8) (v := ?_) rfl (by kernel_rfl) (by kernel_rfl) (by kernel_rfl) (fun _ _ _ h => h) (Or.inl ⟨by rfl, fun w hS => ?_⟩) hH ?_
  rotate_left
  · go_simp; try exact rfl
  simp only [Act.put, List.setIfInBounds_toArray, List.set_cons_zero, List.set_cons_succ, List.getElem_toArray, List.getElem_cons_zero, List.getElem_cons_succ]
  refine wpAnyH_take (i := 9) (v := ?_) rfl (by kernel_rfl) (by kernel_rfl) (by kernel_rfl) (fun _ _ _ h => h) (Or.inl ⟨by rfl, fun w hS => ?_⟩) hH ?_
  rotate_left
  · go_simp; try exact rfl
  simp only [Act.put, List.setIfInBounds_toArray, List.set_cons_zero, List.set_cons_succ, List.getElem_toArray, List.getElem_cons_zero, List.getElem_cons_succ]
  refine wpAnyH_take (i := 10) (v := ?_) rfl (by kernel_rfl) (by kernel_rfl) (by kernel_rfl) (fun _ _ _ h => h) (Or.inl ⟨by rfl, fun w hS => ?_⟩) hH ?_
  rotate_left
  · go_simp; try exact rfl
  simp only [Act.put, List.setIfInBounds_toArray, List.set_cons_zero, List.set_cons_succ, List.getElem_toArray, List.getElem_cons_zero, List.getElem_cons_succ]
  refine wpAnyH_take (i := 11) (v := ?_) rfl (by kernel_rfl) (by kernel_rfl) (by kernel_rfl) (fun _ _ _ h => h) (Or.inl ⟨by rfl, fun w hS => ?_⟩) hH ?_
  rotate_left
  · go_simp; try exact rfl
  simp only [Act.put, List.setIfInBounds_toArray, List.set_cons_zero, List.set_cons_succ, List.getElem_toArray, List.getElem_cons_zero, List.getElem_cons_succ]
  refine wpAnyH_take (i := 12) (v := ?_) rfl (by kernel_rfl) (by kernel_rfl) (by kernel_rfl) (fun _ _ _ h => h) (Or.inl ⟨by rfl, fun w hS => ?_⟩) hH ?_
  rotate_left
  · go_simp; try exact rfl
  simp only [Act.put, List.setIfInBounds_toArray, List.set_cons_zero, List.set_cons_succ, List.getElem_toArray, List.getElem_cons_zero, List.getElem_cons_succ]
  refine wpAnyH_take (i := 13) (v := ?_) rfl (by kernel_rfl) (by kernel_rfl) (by kernel_rfl) (fun _ _ _ h => h) (Or.inl ⟨by rfl, fun w hS => ?_⟩) hH ?_
  rotate_left
  · go_simp; try exact rfl
  simp only [Act.put, List.setIfInBounds_toArray, List.set_cons_zero, List.set_cons_succ, List.getElem_toArray, List.getElem_cons_zero, List.getElem_cons_succ]
  refine wpAnyH_take (i := 14) (v := ?_) rfl (by kernel_rfl) (by kernel_rfl) (by kernel_rfl) (fun _ _ _ h => h) (Or.inl ⟨by rfl, fun w hS => ?_⟩) hH ?_
  rotate_left
  · go_simp; try exact rfl
  simp only [Act.put, List.setIfInBounds_toArray, List.set_cons_zero, List.set_cons_succ, List.getElem_toArray, List.getElem_cons_zero, List.getElem_cons_succ]
  refine wpAnyH_ready (rs := [15]) (by kernel_rfl) (by simp) (AllReadyH.cons rfl (fun K hK => ?_) AllReadyH.nil)
  go_simp
  refine hK.out _ _ (hH.alloc hH.size _) (fun hH5 => ?_)
  clear hK K
  try simp only [Act.put, List.setIfInBounds_toArray, List.set_cons_zero, List.set_cons_succ]
  refine wpAnyH_take (i := 16) (v := ?_) rfl (by kernel_rfl) (by kernel_rfl) (by kernel_rfl) (fun _ _ _ h => h) (Or.inl ⟨by rfl, fun w hS => ?_⟩) hH5 ?_
  rotate_left
  · go_simp; try exact rfl
  simp only [Act.put, List.setIfInBounds_toArray, List.set_cons_zero, List.set_cons_succ, List.getElem_toArray, List.getElem_cons_zero, List.getElem_cons_succ]
  refine wpAnyH_done (by kernel_rfl) ?_ _
  go_wp2_with fail
  go_ret
  exact ⟨_, rfl, Nat.le_refl _, Bk.fresh _ _ _, hH5⟩
theorem five_at {w : World} {g k : Nat} {t : TypeId} {a b c d e : Int} (h : Bk w g t #[.int .i64 a, .int .i64 b, .int .i64 c, .int .i64 d, .int .i64 e]) (hk : k < 5) : ∃ v, [a, b, c, d, e][k]? = some v ∧ w.cell? ⟨g, k, none⟩ = some (.int .i64 v) := by
  rw [h.cell]
  match k, hk with
  | 0, _ => exact ⟨a, rfl, rfl⟩
  | 1, _ => exact ⟨b, rfl, rfl⟩
  | 2, _ => exact ⟨c, rfl, rfl⟩
  | 3, _ => exact ⟨d, rfl, rfl⟩
  | 4, _ => exact ⟨e, rfl, rfl⟩
theorem numT_lists {l : List Int} (h : ∀ n ∈ l, 0 ≤ n ∧ n ≤ 999999999) : (l.map numT).map (·.data.toList) = l.map d2 := by
  rw [List.map_map]
  refine List.map_congr_left (fun n hn => ?_)
  obtain ⟨h0, h1⟩ := h n hn
  show (numT n).data.toList = d2 n
  rw [numT_d2 h0 h1]
theorem ok_mem {a b c d e : Int} (h : okB a b c d e = true) (hh : holeB a b c d e = false) : ∀ n ∈ [a, b, c, d, e], 0 ≤ n ∧ n ≤ 999999999 := by
  obtain ⟨r1, r2, r3, r4, r5⟩ := ok_rng h hh
  intro n hn
  simp only [List.mem_cons, List.not_mem_nil, or_false] at hn
  omega
theorem ptrL_five {a b c d e : Int} (h : okB a b c d e = true) (hh : holeB a b c d e = false) : ptrL a b c d e = Lib.join (([a, b, c, d, e].map numT).map (·.data.toList)) [46] := by
  unfold ptrL
  rw [if_pos h, hh, if_neg (by simp), numT_lists (ok_mem h hh)]
  rfl
theorem ptrL_no {a b c d e : Int} (h : okB a b c d e = false) : ptrL a b c d e = [] := by unfold ptrL; rw [h]; rfl
theorem ptrL_hole {a b c d e : Int} (h : okB a b c d e = true) (hh : holeB a b c d e = true) : ptrL a b c d e = [45] := by unfold ptrL; rw [h, hh]; rfl
/-- the text of a pointer, as a value -/
def ptrT (a b c d e : Int) : ByteArray := ⟨(ptrL a b c d e).toArray⟩
theorem ptrT_no {a b c d e : Int} (h : okB a b c d e = false) : ptrT a b c d e = ⟨#[]⟩ := by unfold ptrT; rw [ptrL_no h]
theorem ptrT_hole {a b c d e : Int} (h : okB a b c d e = true) (hh : holeB a b c d e = true) : ptrT a b c d e = ⟨#[45]⟩ := by unfold ptrT; rw [ptrL_hole h hh]
theorem ptrT_five {a b c d e : Int} (h : okB a b c d e = true) (hh : holeB a b c d e = false) : ptrT a b c d e = ⟨(Lib.join (([a, b, c, d, e].map numT).map (·.data.toList)) [46]).toArray⟩ := by unfold ptrT; rw [ptrL_five h hh]
theorem snocV {L : List Int} {k : Nat} {v : Int} (h : L[k]? = some v) : (L.take (k + 1)).map numT = (L.take k).map numT ++ [numT v] := by
  rw [List.take_add_one, h, List.map_append]; rfl

theorem bel_grownB {w wr w1 : World} {base : Nat} {v : Value} {e : TypeId} {k n : Nat} {xs : List Value} (hb : Below w.heap.size w wr) (hB : w.heap.size ≤ base) (ho : wr.ownsRow base e k v n xs) (hg : wr.grownBy w1 v.ownBlock) : Below w.heap.size w w1 := hb.grown hg hb.size (fun i hi => Nat.le_trans hB (ho.lt i hi).1)
/-- what an append to a row of the call's own turns -/
theorem fr_grownB {w w1 : World} {base : Nat} {v : Value} {e : TypeId} {k n : Nat} {xs : List Value} (ho : w.ownsRow base e k v n xs) (hg : w.grownBy w1 v.ownBlock) : Fr (fun i => base ≤ i) w w1 :=
  ⟨hg.os, hg.tape, hg.output, hg.size, fun i hi hn => hg.block i hi (fun e => hn (ho.lt i e.symm).1)⟩
theorem own_cap {w : World} {base n c : Nat} {A : Option Addr} {e : TypeId} {k : Nat} {xs : List Value} (h : w.ownsRow base e k (.slice A n c) n xs) : n ≤ c := by
  rcases h.2 with ⟨e, rfl⟩ | ⟨g, cap, cur, e, _, _, hc, _⟩
  · exact Nat.zero_le _
  · injection e with _ _ e3
    subst e3
    exact hc

set_option maxHeartbeats 4000000 in
set_option maxRecDepth 100000 in
theorem implPtrPut_any (a b c d e : Int) (w : World) (ht : Tab w) :
    Calls Tryd.prog 16 #[.agg #[.int .i64 a, .int .i64 b, .int .i64 c, .int .i64 d, .int .i64 e]] w fun r w' => r = .returned (.string (ptrT a b c d e)) ∧ Below w.heap.size w w' := by
  obtain ⟨i0, hi, hz0, hz1, hz2⟩ := info_parts info_str
  have HT := hide ht
  have HK0 := hide (Bk.fresh w 25 #[.int .i64 a, .int .i64 b, .int .i64 c, .int .i64 d, .int .i64 e])
  have HB0 := hide (bel1 w (.cells #[.int .i64 a, .int .i64 b, .int .i64 c, .int .i64 d, .int .i64 e] 25))
  clear ht
  cases h1 : okB a b c d e
  · have HN := hide (ptrT_no h1)
    have H1 := hide h1
    clear h1
    go_enter Tryd.func16, Tryd.ntmps16
    go_wp2_with fail
    refine (implPtrOk_v H1.out _).mono ?_; rintro r w1 ⟨rfl, hb1⟩
    go_wp2_with fail
    go_ret
    exact ⟨ret_str HN.out.symm, bnext HB0.out (Nat.le_refl _) hb1⟩
  · cases h2 : holeB a b c d e
    · have HN := hide (ptrT_five h1 h2)
      have HL := hide (ptrL_five h1 h2)
      have H1 := hide h1
      have H2 := hide h2
      clear h1 h2
      obtain ⟨T, hT⟩ : ∃ T, T = ptrT a b c d e := ⟨_, rfl⟩
      rw [← hT]
      have HTT := hide hT
      clear hT
      go_enter Tryd.func16, Tryd.ntmps16
      go_wp2_with fail
      refine (implPtrOk_v H1.out _).mono ?_; rintro r w1 ⟨rfl, hb1⟩
      have HK1 := hide (HK0.out.after hb1)
      have HB1 := hide (bnext HB0.out (Nat.le_refl _) hb1)
      clear hb1
      obtain ⟨q0, q1, q2, q3, q4⟩ := HK1.out.c5
      go_wp2_with fail
      refine (implPtrHole_v H2.out _).mono ?_; rintro r w2 ⟨rfl, hb2⟩
      have HK2 := hide (HK1.out.after hb2)
      have HB2 := hide (HB1.out.trans (hb2.mono HB1.out.size))
      clear hb2 q0 q1 q2 q3 q4
      go_wp2_with fail
      refine (parts_any w.heap.size _).mono ?_; rintro r w3 ⟨h, rfl, hh, hk3, hb3⟩
      have HK3 := hide (HK2.out.after hb3)
      have HP3 := hide hk3
      have HB3 := hide (HB2.out.trans (hb3.mono HB2.out.size))
      have HG := hide (show w.heap.size + 1 ≤ h by have := HB2.out.size; have := HK2.out.lt; omega)
      clear hb3 hk3 hh
      go_wp2_with fail
      go_loopw [3, 15] (fun v i wr => ∃ k : Nat, k ≤ 5 ∧ Hid (wr.ownsRow (h + 1) 9 1 v k ((([a, b, c, d, e].take k).map numT).map Value.string)) ∧ Hid (Bk wr w.heap.size 25 #[.int .i64 a, .int .i64 b, .int .i64 c, .int .i64 d, .int .i64 e]) ∧ Hid (Bk wr h 54 (partC w.heap.size)) ∧ Hid (Below w.heap.size w wr) ∧ i = .int .i64 k) (fun _ i _ => 5 - (intOf i).toNat)
      case atStart => exact ⟨0, by omega, hide (owns_nil _ _ _), HK3, HP3, HB3, rfl⟩
      case round =>
        obtain ⟨k, hk, HO, HK, HP, HB, rfl⟩ := hrel
        obtain ⟨A, m, rfl⟩ := own_shape HO.out
        by_cases hlt : k < 5
        · obtain ⟨v, hv, hc⟩ := five_at HK.out hlt
          have hp := partC_at HP.out hlt
          have HV := hide (snocV hv)
          have j0 : (0 : Int) ≤ (k : Int) := by omega
          have j1 : (k : Int) < 5 := by omega
          clear hv
          go_wp2_with fail
          refine (implNumPut_any v _ (HT.out.after HB.out)).mono ?_; rintro r x1 ⟨rfl, hb1⟩
          obtain ⟨z, hz⟩ : ∃ z, numT v = z := ⟨_, rfl⟩
          rw [hz] at HV ⊢
          have HO := hide (own_bel HO.out hb1)
          have HK := hide (HK.out.after hb1)
          have HP := hide (HP.out.after hb1)
          have HB := hide (HB.out.trans (hb1.mono HB.out.size))
          have HL1 := hide (show ((([a, b, c, d, e].take k).map numT)).length = k by rw [List.length_map, List.length_take]; show min k 5 = k; omega)
          clear hb1 hc hp hz
          go_wp2_with (at_builtin; refine wpList_append_own _ (by rfl) _ _ 51 (by rfl) (h + 1) 9 i0 (.string ⟨#[]⟩) 1 16 Tryd.underlying51 hi hz0 hz1 hz2 rfl (by decide) _ k _ (by rfl) (HO.out.alloc (.cells #[.string z] 9)) ⟨x1.heap.size, 0, none⟩ 1 1 [.string z] (by rfl) rfl (World.news_of_block (heap_alloc_new _ _)) (fun u hu => by simp only [List.mem_singleton] at hu; subst hu; rfl) (by unfold maxLen; omega) (by omega) (by have := HP.out.lt; simp; omega) ?_; intro v' w2 hown' hgrow _; have HB4 := hide (bel_grownB (HB.out.alloc HB.out.size (.cells #[.string z] 9)) (Nat.le_succ_of_le (Nat.le_of_succ_le HG.out)) (HO.out.alloc (.cells #[.string z] 9)) hgrow); have HF4 := hide (fr_grownB (HO.out.alloc (.cells #[.string z] 9)) hgrow); have HO4 := hide hown'; clear hown' hgrow)
          go_roundw
          case rel => exact ⟨k + 1, by omega, hide (by rw [HV.out, List.map_append]; exact HO4.out), hide ((HK.out.alloc _).fr HF4.out (by have := HG.out; omega)), hide ((HP.out.alloc _).fr HF4.out (by omega)), HB4, int_eq (by omega)⟩
          case measure => simp [intOf]; omega
        · have hk5 : k = 5 := by omega
          subst hk5
          go_wp2_with fail
          have HO := hide (show wr.ownsRow (h + 1) 9 1 (.slice A 5 m) 5 ([a, b, c, d, e].map numT |>.map Value.string) from HO.out)
          refine (joinC A 5 _ ([a, b, c, d, e].map numT) ⟨#[46]⟩ _ (own_rds HO.out) (by omega) (own_cap HO.out) (by omega) (by have := ptrL_len (a := a) (b := b) (c := c) (d := d) (e := e); rw [HL.out] at this; show (Lib.join _ [46]).length ≤ _; omega)).mono ?_; rintro r x1 ⟨rfl, hb1⟩
          go_wp2_with fail
          go_ret
          exact ⟨ret_str (HN.out.symm.trans HTT.out.symm), HB.out.trans (hb1.mono HB.out.size)⟩
    · have HN := hide (ptrT_hole h1 h2)
      have H1 := hide h1
      have H2 := hide h2
      clear h1 h2
      go_enter Tryd.func16, Tryd.ntmps16
      go_wp2_with fail
      refine (implPtrOk_v H1.out _).mono ?_; rintro r w1 ⟨rfl, hb1⟩
      have HK1 := hide (HK0.out.after hb1)
      have HB1 := hide (bnext HB0.out (Nat.le_refl _) hb1)
      clear hb1
      obtain ⟨q0, q1, q2, q3, q4⟩ := HK1.out.c5
      go_wp2_with fail
      refine (implPtrHole_v H2.out _).mono ?_; rintro r w2 ⟨rfl, hb2⟩
      go_wp2_with fail
      go_ret
      exact ⟨ret_str HN.out.symm, HB1.out.trans (hb2.mono HB1.out.size)⟩
theorem d2_le {n : Int} (h : n ≤ 999999999) : (d2 n).length ≤ 9 := by unfold d2; exact dec_len9 (by omega)
theorem ptr_text {a b c d e : Int} (h : okB a b c d e = true) (hh : holeB a b c d e = false) : (⟨(d2 a).toArray⟩ : ByteArray) ++ ⟨#[46]⟩ ++ ⟨(d2 b).toArray⟩ ++ ⟨#[46]⟩ ++ ⟨(d2 c).toArray⟩ ++ ⟨#[46]⟩ ++ ⟨(d2 d).toArray⟩ ++ ⟨#[46]⟩ ++ ⟨(d2 e).toArray⟩ = ptrT a b c d e := by
  unfold ptrT ptrL
  rw [if_pos h, hh, if_neg (by simp), five, join5]
  rw [show (⟨#[46]⟩ : ByteArray) = ⟨([46] : List UInt8).toArray⟩ from rfl]
  simp only [ba_app]
theorem l6Dec_d2 (n : Int) (h0 : 0 ≤ n) (h1 : n ≤ 999999999) (w : World) : Calls Tryd.prog 40 #[.int .i64 n] w fun r w' => r = .returned (.string ⟨(d2 n).toArray⟩) ∧ Below w.heap.size w w' := by
  obtain ⟨k, rfl⟩ : ∃ k : Nat, n = k := ⟨n.toNat, by omega⟩
  have := l6Dec_any k w (by omega)
  unfold d2
  rw [Int.toNat_natCast]
  exact this
set_option maxHeartbeats 4000000 in
set_option maxRecDepth 100000 in
theorem specPtrPut_any (a b c d e : Int) (w : World) :
    Calls Tryd.prog 14 #[.agg #[.int .i64 a, .int .i64 b, .int .i64 c, .int .i64 d, .int .i64 e]] w fun r w' => r = .returned (.string (ptrT a b c d e)) ∧ Below w.heap.size w w' := by
  have HK0 := hide (Bk.fresh w 25 #[.int .i64 a, .int .i64 b, .int .i64 c, .int .i64 d, .int .i64 e])
  have HB0 := hide (bel1 w (.cells #[.int .i64 a, .int .i64 b, .int .i64 c, .int .i64 d, .int .i64 e] 25))
  cases h1 : okB a b c d e
  · have HN := hide (ptrT_no h1)
    have H1 := hide h1
    clear h1
    go_enter Tryd.func14, Tryd.ntmps14
    go_wp2_with fail
    refine (specPtrOk_v H1.out _).mono ?_; rintro r w1 ⟨rfl, hb1⟩
    go_wp2_with fail
    go_ret
    exact ⟨ret_str HN.out.symm, bnext HB0.out (Nat.le_refl _) hb1⟩
  · cases h2 : holeB a b c d e
    · have HN := hide (ptr_text h1 h2)
      have hm := ok_mem h1 h2
      have R0 := hide (hm a (by simp))
      have R1 := hide (hm b (by simp))
      have R2 := hide (hm c (by simp))
      have R3 := hide (hm d (by simp))
      have R4 := hide (hm e (by simp))
      have H1 := hide h1
      have H2 := hide h2
      have la := d2_le R0.out.2
      have lb := d2_le R1.out.2
      have lc := d2_le R2.out.2
      have ld := d2_le R3.out.2
      have le := d2_le R4.out.2
      clear h1 h2 hm
      go_enter Tryd.func14, Tryd.ntmps14
      go_wp2_with fail
      refine (specPtrOk_v H1.out _).mono ?_; rintro r w1 ⟨rfl, hb1⟩
      have HK1 := hide (HK0.out.after hb1)
      have HB1 := hide (bnext HB0.out (Nat.le_refl _) hb1)
      clear hb1
      obtain ⟨q0, q1, q2, q3, q4⟩ := HK1.out.c5
      go_wp2_with fail
      refine (specPtrHole_v H2.out _).mono ?_; rintro r w2 ⟨rfl, hb2⟩
      have HK2 := hide (HK1.out.after hb2)
      have HB2 := hide (HB1.out.trans (hb2.mono HB1.out.size))
      clear hb2 q0 q1 q2 q3 q4
      go_wp2_with fail
      obtain ⟨ta, hta⟩ : ∃ x, x = d2 a := ⟨_, rfl⟩
      obtain ⟨tb, htb⟩ : ∃ x, x = d2 b := ⟨_, rfl⟩
      obtain ⟨tc, htc⟩ : ∃ x, x = d2 c := ⟨_, rfl⟩
      obtain ⟨td, htd⟩ : ∃ x, x = d2 d := ⟨_, rfl⟩
      obtain ⟨te, hte⟩ : ∃ x, x = d2 e := ⟨_, rfl⟩
      have s0 : ¬ 9223372036854775807 < (d2 a).length + 1 := by omega
      have s1 : ¬ 9223372036854775807 < (d2 a).length + 1 + (d2 b).length := by omega
      have s2 : ¬ 9223372036854775807 < (d2 a).length + 1 + (d2 b).length + 1 := by omega
      have s3 : ¬ 9223372036854775807 < (d2 a).length + 1 + (d2 b).length + 1 + (d2 c).length := by omega
      have s4 : ¬ 9223372036854775807 < (d2 a).length + 1 + (d2 b).length + 1 + (d2 c).length + 1 := by omega
      have s5 : ¬ 9223372036854775807 < (d2 a).length + 1 + (d2 b).length + 1 + (d2 c).length + 1 + (d2 d).length := by omega
      have s6 : ¬ 9223372036854775807 < (d2 a).length + 1 + (d2 b).length + 1 + (d2 c).length + 1 + (d2 d).length + 1 := by omega
      have s7 : ¬ 9223372036854775807 < (d2 a).length + 1 + (d2 b).length + 1 + (d2 c).length + 1 + (d2 d).length + 1 + (d2 e).length := by omega
      clear la lb lc ld le hta htb htc htd hte ta tb tc td te
      refine wp_region_held_drew (S := fun x => Bk x w.heap.size 25 #[.int .i64 a, .int .i64 b, .int .i64 c, .int .i64 d, .int .i64 e] ∧ Below w.heap.size w x) (by kernel_rfl) (⟨HK2.out, HB2.out.drew⟩) (fun hH => ?_)
      refine wpAnyH_take (i := 0) (v := ?_) rfl (by kernel_rfl) (by kernel_rfl) (by kernel_rfl) (fun _ _ _ h => h) (Or.inl ⟨by rfl, fun w hS => ?_⟩) hH ?_
      rotate_left
      · obtain ⟨q0, q1, q2, q3, q4⟩ := hS.1.c5; go_simp; try exact rfl
      simp only [Act.put, List.setIfInBounds_toArray, List.set_cons_zero, List.set_cons_succ, List.getElem_toArray, List.getElem_cons_zero]
      refine wpAnyH_take (i := 1) (v := ?_) rfl (by kernel_rfl) (by kernel_rfl) (by kernel_rfl) (fun _ _ _ h => h) (Or.inl ⟨by rfl, fun w hS => ?_⟩) hH ?_
      rotate_left
      · obtain ⟨q0, q1, q2, q3, q4⟩ := hS.1.c5; go_simp; try exact rfl
      simp only [Act.put, List.setIfInBounds_toArray, List.set_cons_zero, List.set_cons_succ, List.getElem_toArray, List.getElem_cons_zero, List.getElem_cons_succ]
      refine wpAnyH_take (i := 4) (v := ?_) rfl (by kernel_rfl) (by kernel_rfl) (by kernel_rfl) (fun _ _ _ h => h) (Or.inl ⟨by rfl, fun w hS => ?_⟩) hH ?_
      rotate_left
      · obtain ⟨q0, q1, q2, q3, q4⟩ := hS.1.c5; go_simp; try exact rfl
      simp only [Act.put, List.setIfInBounds_toArray, List.set_cons_zero, List.set_cons_succ, List.getElem_toArray, List.getElem_cons_zero, List.getElem_cons_succ]
      refine wpAnyH_take (i := 5) (v := ?_) rfl (by kernel_rfl) (by kernel_rfl) (by kernel_rfl) (fun _ _ _ h => h) (Or.inl ⟨by rfl, fun w hS => ?_⟩) hH ?_
      rotate_left
      · obtain ⟨q0, q1, q2, q3, q4⟩ := hS.1.c5; go_simp; try exact rfl
      simp only [Act.put, List.setIfInBounds_toArray, List.set_cons_zero, List.set_cons_succ, List.getElem_toArray, List.getElem_cons_zero, List.getElem_cons_succ]
      refine wpAnyH_take (i := 9) (v := ?_) rfl (by kernel_rfl) (by kernel_rfl) (by kernel_rfl) (fun _ _ _ h => h) (Or.inl ⟨by rfl, fun w hS => ?_⟩) hH ?_
      rotate_left
      · obtain ⟨q0, q1, q2, q3, q4⟩ := hS.1.c5; go_simp; try exact rfl
      simp only [Act.put, List.setIfInBounds_toArray, List.set_cons_zero, List.set_cons_succ, List.getElem_toArray, List.getElem_cons_zero, List.getElem_cons_succ]
      refine wpAnyH_take (i := 10) (v := ?_) rfl (by kernel_rfl) (by kernel_rfl) (by kernel_rfl) (fun _ _ _ h => h) (Or.inl ⟨by rfl, fun w hS => ?_⟩) hH ?_
      rotate_left
      · obtain ⟨q0, q1, q2, q3, q4⟩ := hS.1.c5; go_simp; try exact rfl
      simp only [Act.put, List.setIfInBounds_toArray, List.set_cons_zero, List.set_cons_succ, List.getElem_toArray, List.getElem_cons_zero, List.getElem_cons_succ]
      refine wpAnyH_take (i := 14) (v := ?_) rfl (by kernel_rfl) (by kernel_rfl) (by kernel_rfl) (fun _ _ _ h => h) (Or.inl ⟨by rfl, fun w hS => ?_⟩) hH ?_
      rotate_left
      · obtain ⟨q0, q1, q2, q3, q4⟩ := hS.1.c5; go_simp; try exact rfl
      simp only [Act.put, List.setIfInBounds_toArray, List.set_cons_zero, List.set_cons_succ, List.getElem_toArray, List.getElem_cons_zero, List.getElem_cons_succ]
      refine wpAnyH_take (i := 15) (v := ?_) rfl (by kernel_rfl) (by kernel_rfl) (by kernel_rfl) (fun _ _ _ h => h) (Or.inl ⟨by rfl, fun w hS => ?_⟩) hH ?_
      rotate_left
      · obtain ⟨q0, q1, q2, q3, q4⟩ := hS.1.c5; go_simp; try exact rfl
      simp only [Act.put, List.setIfInBounds_toArray, List.set_cons_zero, List.set_cons_succ, List.getElem_toArray, List.getElem_cons_zero, List.getElem_cons_succ]
      refine wpAnyH_take (i := 19) (v := ?_) rfl (by kernel_rfl) (by kernel_rfl) (by kernel_rfl) (fun _ _ _ h => h) (Or.inl ⟨by rfl, fun w hS => ?_⟩) hH ?_
      rotate_left
      · obtain ⟨q0, q1, q2, q3, q4⟩ := hS.1.c5; go_simp; try exact rfl
      simp only [Act.put, List.setIfInBounds_toArray, List.set_cons_zero, List.set_cons_succ, List.getElem_toArray, List.getElem_cons_zero, List.getElem_cons_succ]
      refine wpAnyH_take (i := 20) (v := ?_) rfl (by kernel_rfl) (by kernel_rfl) (by kernel_rfl) (fun _ _ _ h => h) (Or.inl ⟨by rfl, fun w hS => ?_⟩) hH ?_
      rotate_left
      · obtain ⟨q0, q1, q2, q3, q4⟩ := hS.1.c5; go_simp; try exact rfl
      simp only [Act.put, List.setIfInBounds_toArray, List.set_cons_zero, List.set_cons_succ, List.getElem_toArray, List.getElem_cons_zero, List.getElem_cons_succ]
      refine wpAnyH_ready (rs := [2]) (by kernel_rfl) (by simp) (AllReadyH.cons rfl (fun K hK => ?_) AllReadyH.nil)
      go_simp
      go_at_call 40
      ((with_reducible refine (l6Dec_d2 a R0.out.1 R0.out.2 _).mono ?_); rintro r x0 ⟨rfl, hb⟩)
      refine hK.out _ _ (⟨hH.1.after hb, hH.2.trans (hb.mono hH.2.size)⟩) (fun hC0 => ?_)
      clear hK K
      try simp only [Act.put, List.setIfInBounds_toArray, List.set_cons_zero, List.set_cons_succ]
      refine wpAnyH_take (i := 3) (v := ?_) rfl (by kernel_rfl) (by kernel_rfl) (by kernel_rfl) (fun _ _ _ h => h) (Or.inl ⟨by rfl, fun w hS => ?_⟩) hC0 ?_
      rotate_left
      · obtain ⟨q0, q1, q2, q3, q4⟩ := hS.1.c5; go_simp; try exact rfl
      simp only [Act.put, List.setIfInBounds_toArray, List.set_cons_zero, List.set_cons_succ, List.getElem_toArray, List.getElem_cons_zero, List.getElem_cons_succ]
      refine wpAnyH_ready (rs := [6]) (by kernel_rfl) (by simp) (AllReadyH.cons rfl (fun K hK => ?_) AllReadyH.nil)
      go_simp
      go_at_call 40
      ((with_reducible refine (l6Dec_d2 b R1.out.1 R1.out.2 _).mono ?_); rintro r x1 ⟨rfl, hb⟩)
      refine hK.out _ _ (⟨hC0.1.after hb, hC0.2.trans (hb.mono hC0.2.size)⟩) (fun hC1 => ?_)
      clear hK K
      try simp only [Act.put, List.setIfInBounds_toArray, List.set_cons_zero, List.set_cons_succ]
      refine wpAnyH_take (i := 7) (v := ?_) rfl (by kernel_rfl) (by kernel_rfl) (by kernel_rfl) (fun _ _ _ h => h) (Or.inl ⟨by rfl, fun w hS => ?_⟩) hC1 ?_
      rotate_left
      · obtain ⟨q0, q1, q2, q3, q4⟩ := hS.1.c5; go_simp; try exact rfl
      simp only [Act.put, List.setIfInBounds_toArray, List.set_cons_zero, List.set_cons_succ, List.getElem_toArray, List.getElem_cons_zero, List.getElem_cons_succ]
      refine wpAnyH_take (i := 8) (v := ?_) rfl (by kernel_rfl) (by kernel_rfl) (by kernel_rfl) (fun _ _ _ h => h) (Or.inl ⟨by rfl, fun w hS => ?_⟩) hC1 ?_
      rotate_left
      · obtain ⟨q0, q1, q2, q3, q4⟩ := hS.1.c5; go_simp; try exact rfl
      simp only [Act.put, List.setIfInBounds_toArray, List.set_cons_zero, List.set_cons_succ, List.getElem_toArray, List.getElem_cons_zero, List.getElem_cons_succ]
      refine wpAnyH_ready (rs := [11]) (by kernel_rfl) (by simp) (AllReadyH.cons rfl (fun K hK => ?_) AllReadyH.nil)
      go_simp
      go_at_call 40
      ((with_reducible refine (l6Dec_d2 c R2.out.1 R2.out.2 _).mono ?_); rintro r x2 ⟨rfl, hb⟩)
      refine hK.out _ _ (⟨hC1.1.after hb, hC1.2.trans (hb.mono hC1.2.size)⟩) (fun hC2 => ?_)
      clear hK K
      try simp only [Act.put, List.setIfInBounds_toArray, List.set_cons_zero, List.set_cons_succ]
      refine wpAnyH_take (i := 12) (v := ?_) rfl (by kernel_rfl) (by kernel_rfl) (by kernel_rfl) (fun _ _ _ h => h) (Or.inl ⟨by rfl, fun w hS => ?_⟩) hC2 ?_
      rotate_left
      · obtain ⟨q0, q1, q2, q3, q4⟩ := hS.1.c5; go_simp; try exact rfl
      simp only [Act.put, List.setIfInBounds_toArray, List.set_cons_zero, List.set_cons_succ, List.getElem_toArray, List.getElem_cons_zero, List.getElem_cons_succ]
      refine wpAnyH_take (i := 13) (v := ?_) rfl (by kernel_rfl) (by kernel_rfl) (by kernel_rfl) (fun _ _ _ h => h) (Or.inl ⟨by rfl, fun w hS => ?_⟩) hC2 ?_
      rotate_left
      · obtain ⟨q0, q1, q2, q3, q4⟩ := hS.1.c5; go_simp; try exact rfl
      simp only [Act.put, List.setIfInBounds_toArray, List.set_cons_zero, List.set_cons_succ, List.getElem_toArray, List.getElem_cons_zero, List.getElem_cons_succ]
      refine wpAnyH_ready (rs := [16]) (by kernel_rfl) (by simp) (AllReadyH.cons rfl (fun K hK => ?_) AllReadyH.nil)
      go_simp
      go_at_call 40
      ((with_reducible refine (l6Dec_d2 d R3.out.1 R3.out.2 _).mono ?_); rintro r x3 ⟨rfl, hb⟩)
      refine hK.out _ _ (⟨hC2.1.after hb, hC2.2.trans (hb.mono hC2.2.size)⟩) (fun hC3 => ?_)
      clear hK K
      try simp only [Act.put, List.setIfInBounds_toArray, List.set_cons_zero, List.set_cons_succ]
      refine wpAnyH_take (i := 17) (v := ?_) rfl (by kernel_rfl) (by kernel_rfl) (by kernel_rfl) (fun _ _ _ h => h) (Or.inl ⟨by rfl, fun w hS => ?_⟩) hC3 ?_
      rotate_left
      · obtain ⟨q0, q1, q2, q3, q4⟩ := hS.1.c5; go_simp; try exact rfl
      simp only [Act.put, List.setIfInBounds_toArray, List.set_cons_zero, List.set_cons_succ, List.getElem_toArray, List.getElem_cons_zero, List.getElem_cons_succ]
      refine wpAnyH_take (i := 18) (v := ?_) rfl (by kernel_rfl) (by kernel_rfl) (by kernel_rfl) (fun _ _ _ h => h) (Or.inl ⟨by rfl, fun w hS => ?_⟩) hC3 ?_
      rotate_left
      · obtain ⟨q0, q1, q2, q3, q4⟩ := hS.1.c5; go_simp; try exact rfl
      simp only [Act.put, List.setIfInBounds_toArray, List.set_cons_zero, List.set_cons_succ, List.getElem_toArray, List.getElem_cons_zero, List.getElem_cons_succ]
      refine wpAnyH_ready (rs := [21]) (by kernel_rfl) (by simp) (AllReadyH.cons rfl (fun K hK => ?_) AllReadyH.nil)
      go_simp
      go_at_call 40
      ((with_reducible refine (l6Dec_d2 e R4.out.1 R4.out.2 _).mono ?_); rintro r x4 ⟨rfl, hb⟩)
      refine hK.out _ _ (⟨hC3.1.after hb, hC3.2.trans (hb.mono hC3.2.size)⟩) (fun hC4 => ?_)
      clear hK K
      try simp only [Act.put, List.setIfInBounds_toArray, List.set_cons_zero, List.set_cons_succ]
      refine wpAnyH_take (i := 22) (v := ?_) rfl (by kernel_rfl) (by kernel_rfl) (by kernel_rfl) (fun _ _ _ h => h) (Or.inl ⟨by rfl, fun w hS => ?_⟩) hC4 ?_
      rotate_left
      · obtain ⟨q0, q1, q2, q3, q4⟩ := hS.1.c5; go_simp; try exact rfl
      simp only [Act.put, List.setIfInBounds_toArray, List.set_cons_zero, List.set_cons_succ, List.getElem_toArray, List.getElem_cons_zero, List.getElem_cons_succ]
      refine wpAnyH_take (i := 23) (v := ?_) rfl (by kernel_rfl) (by kernel_rfl) (by kernel_rfl) (fun _ _ _ h => h) (Or.inl ⟨by rfl, fun w hS => ?_⟩) hC4 ?_
      rotate_left
      · obtain ⟨q0, q1, q2, q3, q4⟩ := hS.1.c5; go_simp; try exact rfl
      simp only [Act.put, List.setIfInBounds_toArray, List.set_cons_zero, List.set_cons_succ, List.getElem_toArray, List.getElem_cons_zero, List.getElem_cons_succ]
      refine wpAnyH_done (by kernel_rfl) ?_ _
      go_wp2_with fail
      go_ret
      exact ⟨ret_str HN.out, hC4.2⟩
    · have HN := hide (ptrT_hole h1 h2)
      have H1 := hide h1
      have H2 := hide h2
      clear h1 h2
      go_enter Tryd.func14, Tryd.ntmps14
      go_wp2_with fail
      refine (specPtrOk_v H1.out _).mono ?_; rintro r w1 ⟨rfl, hb1⟩
      have HK1 := hide (HK0.out.after hb1)
      have HB1 := hide (bnext HB0.out (Nat.le_refl _) hb1)
      clear hb1
      obtain ⟨q0, q1, q2, q3, q4⟩ := HK1.out.c5
      go_wp2_with fail
      refine (specPtrHole_v H2.out _).mono ?_; rintro r w2 ⟨rfl, hb2⟩
      go_wp2_with fail
      go_ret
      exact ⟨ret_str HN.out.symm, HB1.out.trans (hb2.mono HB1.out.size)⟩
end Go.Proofs.YtmhbpmacfekhgaaDoor
