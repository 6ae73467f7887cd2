/- spec's PtrGet. -/
import Derived.Test.YtmhbpmacfekhgaaDoorPtrGet
namespace Go.Proofs.YtmhbpmacfekhgaaDoor
open Go.RowKit
set_option linter.unusedVariables false

theorem piece_le (c : UInt8) : ∀ (l p : List UInt8), p ∈ pieces c l → p.length ≤ l.length
  | [], p, h => by
    rw [pieces, List.mem_singleton] at h
    rw [h]; exact Nat.le_refl _
  | x :: t, p, h => by
    rw [pieces] at h
    split at h
    · rcases List.mem_cons.1 h with h | h
      · rw [h]; exact Nat.zero_le _
      · have := piece_le c t p h; rw [List.length_cons]; omega
    · cases hp : pieces c t with
      | nil => exact absurd hp (pieces_ne c t)
      | cons q r =>
        rw [hp] at h
        rcases List.mem_cons.1 h with h | h
        · have := piece_le c t q (by rw [hp]; exact List.mem_cons_self); rw [h, List.length_cons, List.length_cons]; omega
        · have := piece_le c t p (by rw [hp]; exact List.mem_cons_of_mem _ h); rw [List.length_cons]; omega
theorem owns_litI (w : World) (base : Nat) (h : base ≤ w.heap.size) : (w.alloc (.cells #[] 3)).ownsRow base 3 1 (.slice (some ⟨w.heap.size, 0, none⟩) 0 0) 0 [] :=
  World.ownsRow_lit (base := base) (e := 3) (size := 1) w #[] 0 h (by simp [maxLen]) rfl
theorem ownsRow_leB {w : World} {base base' size n : Nat} {e : TypeId} {v : Value} {xs : List Value} (h : w.ownsRow base e size v n xs) (hb : base' ≤ base) : w.ownsRow base' e size v n xs :=
  ⟨h.1, h.2.elim Or.inl (fun ⟨g, cap, cur, hv, hg, r⟩ => Or.inr ⟨g, cap, cur, hv, Nat.le_trans hb hg, r⟩)⟩
/-- five numbers behind one another -/
def Five (w : World) (g : Nat) (a b c d e : Int) : Prop := g < w.heap.size ∧ w.cell? ⟨g, 0, none⟩ = some (.int .i64 a) ∧ w.cell? ⟨g, 1, none⟩ = some (.int .i64 b) ∧ w.cell? ⟨g, 2, none⟩ = some (.int .i64 c) ∧ w.cell? ⟨g, 3, none⟩ = some (.int .i64 d) ∧ w.cell? ⟨g, 4, none⟩ = some (.int .i64 e)
theorem Five.after {w w' : World} {g : Nat} {a b c d e : Int} (h : Five w g a b c d e) (hb : Below w.heap.size w w') : Five w' g a b c d e := by
  obtain ⟨h0, h1, h2, h3, h4, h5⟩ := h
  exact ⟨Nat.lt_of_lt_of_le h0 hb.size, (hb.cell (p := ⟨g, 0, none⟩) h0).trans h1, (hb.cell (p := ⟨g, 1, none⟩) h0).trans h2, (hb.cell (p := ⟨g, 2, none⟩) h0).trans h3, (hb.cell (p := ⟨g, 3, none⟩) h0).trans h4, (hb.cell (p := ⟨g, 4, none⟩) h0).trans h5⟩
theorem own5 {w : World} {base c0 : Nat} {A : Option Addr} {a b c d e : Int} (h : w.ownsRow base 3 1 (.slice A 5 c0) 5 [.int .i64 a, .int .i64 b, .int .i64 c, .int .i64 d, .int .i64 e]) : ∃ g, A = some ⟨g, 0, none⟩ ∧ base ≤ g ∧ Five w g a b c d e := by
  rcases h.2 with ⟨e, h0⟩ | ⟨g, cap, cur, e, hb, hg, _⟩
  · cases h0
  · injection e with e1 _ _
    subst e1
    refine ⟨g, rfl, hb, (Array.getElem?_eq_some_iff.1 hg).1, ?_, ?_, ?_, ?_, ?_⟩
    · exact h.cells (g := g) rfl 0 _ rfl
    · exact h.cells (g := g) rfl 1 _ rfl
    · exact h.cells (g := g) rfl 2 _ rfl
    · exact h.cells (g := g) rfl 3 _ rfl
    · exact h.cells (g := g) rfl 4 _ rfl
theorem snocI {D : List Int} {k : Nat} {v : Int} (h : D[k]? = some v) : ((D.take (k + 1)).map (Value.int .i64)) = ((D.take k).map (Value.int .i64)) ++ [.int .i64 v] := by
  rw [List.take_add_one, h, List.map_append]; rfl
set_option maxHeartbeats 8000000 in
set_option maxRecDepth 100000 in
theorem specPtrGet_any (s : ByteArray) (w : World) (hs : s.size ≤ 1048576) :
    Calls Tryd.prog 17 #[.string s] w (GetQR s.data.toList w) := by
  obtain ⟨i0, hi, hz0, hz1, hz2⟩ := info_parts info_int
  have K0 := hide (Bk.fresh w 25 #[.int .i64 0, .int .i64 0, .int .i64 0, .int .i64 0, .int .i64 0])
  have B0 := hide (bel1 w (.cells #[.int .i64 0, .int .i64 0, .int .i64 0, .int .i64 0, .int .i64 0] 25))
  by_cases h45 : s = ⟨#[45]⟩
  · subst h45
    have HY := hide (show getQ (⟨#[45]⟩ : ByteArray).data.toList = some (0, 0, 0, 0, 0) from getQ_hole)
    go_enter Tryd.func17, Tryd.ntmps17
    go_wp2_with fail
    refine bodyPost_ret (v := .tuple #[.agg #[.int .i64 0, .int .i64 0, .int .i64 0, .int .i64 0, .int .i64 0], .bool true]) (by simp [results, Tryd.results17, go_sem]) rfl ?_
    exact GetQR.yes HY.out B0.out
  · obtain ⟨j45, hn45⟩ := s45 h45
    have H45 := hide hn45
    clear h45 hn45
    have HSL := hide (show s.data.toList.length = s.size by simp)
    go_enter Tryd.func17, Tryd.ntmps17
    go_wp2_with fail
    refine (l2Cut_v (c := 46) rfl s _ hs).mono ?_; rintro r w1 ⟨A, m, rfl, hk1, hb1⟩
    have KL := hide hk1
    have K0 := hide (K0.out.after hb1)
    have B0 := hide (B0.out.trans (hb1.mono B0.out.size))
    have HPL := hide (pcs_len 46 s)
    clear hb1 hk1
    by_cases h5 : (pcs 46 s).length = 5
    · obtain ⟨pa, pb, pc, pd, pe, hp⟩ := list5 (HPL.out.symm.trans h5)
      have HP := hide hp
      rw [h5] at KL
      rw [h5]
      have HA := hide (show ∀ b o, A = some ⟨b, o, none⟩ → b < w1.heap.size from fun b o e => by
        obtain ⟨b', o', e', hb', _⟩ := KL.out.at_ (by decide)
        rw [e] at e'
        injection e' with e'
        injection e' with e1 _ _
        omega)
      have HO0 := hide (owns_litI w1 w1.heap.size (Nat.le_refl _))
      have KL := hide (KL.out.after (bel1 w1 (.cells #[] 3)))
      have hG := K0.out.lt
      have K0 := hide (K0.out.alloc (.cells #[] 3))
      have B0 := hide (B0.out.alloc B0.out.size (.cells #[] 3))
      have hGW : w1.heap.size ≤ (w1.alloc (.cells #[] 3)).heap.size := by simp
      obtain ⟨G, hGe⟩ : ∃ G, G = w1.heap.size := ⟨_, rfl⟩
      rw [← hGe] at HO0 HA hG hGW
      clear hp h5
      go_wp2_with fail
      rw [← hGe]
      have HGE := hide hGe
      clear hGe
      go_loopw [5, 6] (fun v i wr => ∃ (k : Nat), k ≤ 5 ∧ Hid (wr.ownsRow G 3 1 v k (((dv5 [pa, pb, pc, pd, pe]).take k).map (Value.int .i64))) ∧ Hid (∀ x ∈ [pa, pb, pc, pd, pe].take k, goodN x = true) ∧ Hid (Bk wr w.heap.size 25 #[.int .i64 0, .int .i64 0, .int .i64 0, .int .i64 0, .int .i64 0]) ∧ Hid (Rd wr 1 A 5 ((pcs 46 s).map Value.string)) ∧ G ≤ wr.heap.size ∧ Hid (Below w.heap.size w wr) ∧ i = .int .i64 k) (fun _ i _ => 5 - (intOf i).toNat)
      case atStart => exact ⟨0, by omega, HO0, hide (by intro x hx; cases hx), K0, KL, hGW, B0, rfl⟩
      case round =>
        clear HO0 K0 KL hGW B0
        obtain ⟨k, hk, HO, HGD, K0, KL, hGW, B0, rfl⟩ := hrel
        obtain ⟨A2, c2, rfl⟩ := own_shape HO.out
        by_cases hlt : k < 5
        · obtain ⟨l, hl, hzl⟩ := pcs_at (c := 46) (s := s) HP.out (show k < [pa, pb, pc, pd, pe].length from hlt)
          obtain ⟨bL, oL, z, rfl, hbL, hzk, hc⟩ := KL.out.str_at hlt
          have hAb := HA.out bL oL rfl
          have hzd : z.data.toList = l := by rw [hzk] at hzl; rw [Option.some.inj hzl]
          have hzs : z.size ≤ 1048576 := by
            have h1 := piece_le 46 s.data.toList l (by rw [HP.out]; exact List.mem_of_getElem? hl)
            have h2 : z.data.toList.length = z.size := by simp
            rw [hzd] at h2
            have h3 := HSL.out
            omega
          have HNG := hide (fun w => specNumGet_any z hzs w)
          rw [hzd] at HNG
          have HL := hide hl
          have j0 : (0 : Int) ≤ (k : Int) := by omega
          have j1 : (k : Int) < 5 := by omega
          clear hl hzl hzk hzd hbL
          cases hg : goodN l
          · have HN := hide (getQ_bad HP.out (List.mem_of_getElem? HL.out) hg)
            rw [hg] at HNG
            clear hg
            go_wp2_with fail
            refine (HNG.out _).mono ?_; rintro r x1 ⟨rfl, rfl⟩
            clear hc
            obtain ⟨q0, q1, q2, q3, q4⟩ := K0.out.c5
            have f0 := K0.out.frozen 0
            have f1 := K0.out.frozen 1
            have f2 := K0.out.frozen 2
            have f3 := K0.out.frozen 3
            have f4 := K0.out.frozen 4
            have P5 := hide (put5Z K0.out (0) (0) (0) (0) (0))
            have PB := hide (bel5Z B0.out (Nat.le_refl w.heap.size) (.int .i64 (0)) (.int .i64 (0)) (.int .i64 (0)) (.int .i64 (0)) (.int .i64 (0)))
            go_wp2_with fail
            clear q0 q1 q2 q3 q4 f0 f1 f2 f3 f4
            obtain ⟨X, hX⟩ : ∃ X : World, X = (((((wr).setCell ⟨w.heap.size, 0, none⟩ (.int .i64 (0))).setCell ⟨w.heap.size, 1, none⟩ (.int .i64 (0))).setCell ⟨w.heap.size, 2, none⟩ (.int .i64 (0))).setCell ⟨w.heap.size, 3, none⟩ (.int .i64 (0))).setCell ⟨w.heap.size, 4, none⟩ (.int .i64 (0)) := ⟨_, rfl⟩
            rw [← hX] at P5 PB
            rw [← hX]
            clear hX
            obtain ⟨r0, r1, r2, r3, r4⟩ := P5.out.c5
            refine bodyPost_ret (v := .tuple #[.agg #[.int .i64 (0), .int .i64 (0), .int .i64 (0), .int .i64 (0), .int .i64 (0)], .bool false]) (by simp [results, Tryd.results17, go_sem, r0, r1, r2, r3, r4]) rfl ?_
            exact GetQR.no HN.out PB.out
          · have HG := hide hg
            rw [hg, numG_good hg] at HNG
            have HDV := hide (snocI (dv5_at HL.out))
            clear hg
            obtain ⟨v, hv⟩ : ∃ v : Int, v = (dval l : Int) := ⟨_, rfl⟩
            rw [← hv] at HNG HDV
            clear hv
            go_wp2_with fail
            refine (HNG.out _).mono ?_; rintro r x1 ⟨rfl, rfl⟩
            clear hc
            go_wp2_with (at_builtin; refine wpList_append_own _ (by rfl) _ _ 57 (by rfl) G 3 i0 (.int .i64 0) 1 8 Tryd.underlying57 hi hz0 hz1 hz2 rfl (by decide) _ k _ (by rfl) (HO.out.alloc (.cells #[.int .i64 v] 3)) ⟨wr.heap.size, 0, none⟩ 1 1 [.int .i64 v] (by rfl) rfl (World.news_of_block (heap_alloc_new _ _)) (fun u hu => by simp only [List.mem_singleton] at hu; subst hu; rfl) (by unfold maxLen; omega) (by omega) (by simp; omega) ?_; intro v' w2 hown' hgrow _; have HB4 := hide (bel_grownB (B0.out.alloc B0.out.size (.cells #[.int .i64 v] 3)) (Nat.le_of_lt hG) (HO.out.alloc (.cells #[.int .i64 v] 3)) hgrow); have HF4 := hide (fr_grownB (HO.out.alloc (.cells #[.int .i64 v] 3)) hgrow); have HO4 := hide hown'; clear hown' hgrow)
            go_roundw
            case rel => exact ⟨k + 1, by omega, hide (by rw [HDV.out]; exact HO4.out), hide (good_snoc HGD.out HL.out HG.out), hide ((K0.out.alloc _).fr HF4.out (by omega)), hide ((KL.out.after (bel1 _ _)).fr HF4.out (fun b o e => by have := HA.out b o e; omega)), by have h1 := HF4.out.size; simp at h1; omega, HB4, int_eq (by omega)⟩
            case measure => simp [intOf]; omega
        · have hk5 : k = 5 := by omega
          subst hk5
          have HG5 := good5 HGD.out
          have HQ5 := hide (getQ_five HP.out)
          rw [HG5, Bool.true_and] at HQ5
          obtain ⟨gn, rfl, hgn, h5n⟩ := own5 (a := dval pa) (b := dval pb) (c := dval pc) (d := dval pd) (e := dval pe) HO.out
          clear HG5 HGD HO
          obtain ⟨a, ha⟩ : ∃ a : Int, a = (dval pa : Int) := ⟨_, rfl⟩
          obtain ⟨b, hb⟩ : ∃ a : Int, a = (dval pb : Int) := ⟨_, rfl⟩
          obtain ⟨c, hc⟩ : ∃ a : Int, a = (dval pc : Int) := ⟨_, rfl⟩
          obtain ⟨d, hd⟩ : ∃ a : Int, a = (dval pd : Int) := ⟨_, rfl⟩
          obtain ⟨e, he⟩ : ∃ a : Int, a = (dval pe : Int) := ⟨_, rfl⟩
          rw [← ha, ← hb, ← hc, ← hd, ← he] at h5n HQ5
          have H5N := hide h5n
          clear ha hb hc hd he h5n
          go_wp2_with fail
          refine wp_region_held_drew (S := fun x => Five x gn a b c d e) (by kernel_rfl) (H5N.out.after (Below.refl _ _).drew) (fun hH => ?_)
          refine wpAnyH_take (i := 0) (v := ?_) rfl (by kernel_rfl) (by kernel_rfl) (by kernel_rfl) (fun _ _ _ h => h) (Or.inl ⟨by rfl, fun w hS => ?_⟩) hH ?_
          rotate_left
          · obtain ⟨_, q0, q1, q2, q3, q4⟩ := (hS : Five _ gn a b c d e); go_simp; try exact rfl
          simp only [Act.put, List.setIfInBounds_toArray, List.set_cons_zero, List.set_cons_succ, List.getElem_toArray, List.getElem_cons_zero]
          refine wpAnyH_take (i := 1) (v := ?_) rfl (by kernel_rfl) (by kernel_rfl) (by kernel_rfl) (fun _ _ _ h => h) (Or.inl ⟨by rfl, fun w hS => ?_⟩) hH ?_
          rotate_left
          · obtain ⟨_, q0, q1, q2, q3, q4⟩ := (hS : Five _ gn a b c d e); go_simp; try exact rfl
          simp only [Act.put, List.setIfInBounds_toArray, List.set_cons_zero, List.set_cons_succ, List.getElem_toArray, List.getElem_cons_zero, List.getElem_cons_succ]
          refine wpAnyH_take (i := 2) (v := ?_) rfl (by kernel_rfl) (by kernel_rfl) (by kernel_rfl) (fun _ _ _ h => h) (Or.inl ⟨by rfl, fun w hS => ?_⟩) hH ?_
          rotate_left
          · obtain ⟨_, q0, q1, q2, q3, q4⟩ := (hS : Five _ gn a b c d e); go_simp; try exact rfl
          simp only [Act.put, List.setIfInBounds_toArray, List.set_cons_zero, List.set_cons_succ, List.getElem_toArray, List.getElem_cons_zero, List.getElem_cons_succ]
          refine wpAnyH_take (i := 3) (v := ?_) rfl (by kernel_rfl) (by kernel_rfl) (by kernel_rfl) (fun _ _ _ h => h) (Or.inl ⟨by rfl, fun w hS => ?_⟩) hH ?_
          rotate_left
          · obtain ⟨_, q0, q1, q2, q3, q4⟩ := (hS : Five _ gn a b c d e); go_simp; try exact rfl
          simp only [Act.put, List.setIfInBounds_toArray, List.set_cons_zero, List.set_cons_succ, List.getElem_toArray, List.getElem_cons_zero, List.getElem_cons_succ]
          refine wpAnyH_take (i := 4) (v := ?_) rfl (by kernel_rfl) (by kernel_rfl) (by kernel_rfl) (fun _ _ _ h => h) (Or.inl ⟨by rfl, fun w hS => ?_⟩) hH ?_
          rotate_left
          · obtain ⟨_, q0, q1, q2, q3, q4⟩ := (hS : Five _ gn a b c d e); go_simp; try exact rfl
          simp only [Act.put, List.setIfInBounds_toArray, List.set_cons_zero, List.set_cons_succ, List.getElem_toArray, List.getElem_cons_zero, List.getElem_cons_succ]
          refine wpAnyH_take (i := 5) (v := ?_) rfl (by kernel_rfl) (by kernel_rfl) (by kernel_rfl) (fun _ _ _ h => h) (Or.inl ⟨by rfl, fun w hS => ?_⟩) hH ?_
          rotate_left
          · obtain ⟨_, q0, q1, q2, q3, q4⟩ := (hS : Five _ gn a b c d e); go_simp; try exact rfl
          simp only [Act.put, List.setIfInBounds_toArray, List.set_cons_zero, List.set_cons_succ, List.getElem_toArray, List.getElem_cons_zero, List.getElem_cons_succ]
          refine wpAnyH_take (i := 6) (v := ?_) rfl (by kernel_rfl) (by kernel_rfl) (by kernel_rfl) (fun _ _ _ h => h) (Or.inl ⟨by rfl, fun w hS => ?_⟩) hH ?_
          rotate_left
          · obtain ⟨_, q0, q1, q2, q3, q4⟩ := (hS : Five _ gn a b c d e); go_simp; try exact rfl
          simp only [Act.put, List.setIfInBounds_toArray, List.set_cons_zero, List.set_cons_succ, List.getElem_toArray, List.getElem_cons_zero, List.getElem_cons_succ]
          refine wpAnyH_take (i := 7) (v := ?_) rfl (by kernel_rfl) (by kernel_rfl) (by kernel_rfl) (fun _ _ _ h => h) (Or.inl ⟨by rfl, fun w hS => ?_⟩) hH ?_
          rotate_left
          · obtain ⟨_, q0, q1, q2, q3, q4⟩ := (hS : Five _ gn a b c d e); go_simp; try exact rfl
          simp only [Act.put, List.setIfInBounds_toArray, List.set_cons_zero, List.set_cons_succ, List.getElem_toArray, List.getElem_cons_zero, List.getElem_cons_succ]
          refine wpAnyH_take (i := 8) (v := ?_) rfl (by kernel_rfl) (by kernel_rfl) (by kernel_rfl) (fun _ _ _ h => h) (Or.inl ⟨by rfl, fun w hS => ?_⟩) hH ?_
          rotate_left
          · obtain ⟨_, q0, q1, q2, q3, q4⟩ := (hS : Five _ gn a b c d e); go_simp; try exact rfl
          simp only [Act.put, List.setIfInBounds_toArray, List.set_cons_zero, List.set_cons_succ, List.getElem_toArray, List.getElem_cons_zero, List.getElem_cons_succ]
          refine wpAnyH_take (i := 9) (v := ?_) rfl (by kernel_rfl) (by kernel_rfl) (by kernel_rfl) (fun _ _ _ h => h) (Or.inl ⟨by rfl, fun w hS => ?_⟩) hH ?_
          rotate_left
          · obtain ⟨_, q0, q1, q2, q3, q4⟩ := (hS : Five _ gn a b c d e); go_simp; try exact rfl
          simp only [Act.put, List.setIfInBounds_toArray, List.set_cons_zero, List.set_cons_succ, List.getElem_toArray, List.getElem_cons_zero, List.getElem_cons_succ]
          refine wpAnyH_take (i := 10) (v := ?_) rfl (by kernel_rfl) (by kernel_rfl) (by kernel_rfl) (fun _ _ _ h => h) (Or.inl ⟨by rfl, fun w hS => ?_⟩) hH ?_
          rotate_left
          · obtain ⟨_, q0, q1, q2, q3, q4⟩ := (hS : Five _ gn a b c d e); go_simp; try exact rfl
          simp only [Act.put, List.setIfInBounds_toArray, List.set_cons_zero, List.set_cons_succ, List.getElem_toArray, List.getElem_cons_zero, List.getElem_cons_succ]
          refine wpAnyH_take (i := 11) (v := ?_) rfl (by kernel_rfl) (by kernel_rfl) (by kernel_rfl) (fun _ _ _ h => h) (Or.inl ⟨by rfl, fun w hS => ?_⟩) hH ?_
          rotate_left
          · obtain ⟨_, q0, q1, q2, q3, q4⟩ := (hS : Five _ gn a b c d e); go_simp; try exact rfl
          simp only [Act.put, List.setIfInBounds_toArray, List.set_cons_zero, List.set_cons_succ, List.getElem_toArray, List.getElem_cons_zero, List.getElem_cons_succ]
          refine wpAnyH_take (i := 12) (v := ?_) rfl (by kernel_rfl) (by kernel_rfl) (by kernel_rfl) (fun _ _ _ h => h) (Or.inl ⟨by rfl, fun w hS => ?_⟩) hH ?_
          rotate_left
          · obtain ⟨_, q0, q1, q2, q3, q4⟩ := (hS : Five _ gn a b c d e); go_simp; try exact rfl
          simp only [Act.put, List.setIfInBounds_toArray, List.set_cons_zero, List.set_cons_succ, List.getElem_toArray, List.getElem_cons_zero, List.getElem_cons_succ]
          refine wpAnyH_take (i := 13) (v := ?_) rfl (by kernel_rfl) (by kernel_rfl) (by kernel_rfl) (fun _ _ _ h => h) (Or.inl ⟨by rfl, fun w hS => ?_⟩) hH ?_
          rotate_left
          · obtain ⟨_, q0, q1, q2, q3, q4⟩ := (hS : Five _ gn a b c d e); go_simp; try exact rfl
          simp only [Act.put, List.setIfInBounds_toArray, List.set_cons_zero, List.set_cons_succ, List.getElem_toArray, List.getElem_cons_zero, List.getElem_cons_succ]
          refine wpAnyH_take (i := 14) (v := ?_) rfl (by kernel_rfl) (by kernel_rfl) (by kernel_rfl) (fun _ _ _ h => h) (Or.inl ⟨by rfl, fun w hS => ?_⟩) hH ?_
          rotate_left
          · obtain ⟨_, q0, q1, q2, q3, q4⟩ := (hS : Five _ gn a b c d e); go_simp; try exact rfl
          simp only [Act.put, List.setIfInBounds_toArray, List.set_cons_zero, List.set_cons_succ, List.getElem_toArray, List.getElem_cons_zero, List.getElem_cons_succ]
          refine wpAnyH_take (i := 15) (v := ?_) rfl (by kernel_rfl) (by kernel_rfl) (by kernel_rfl) (fun _ _ _ h => h) (Or.inl ⟨by rfl, fun w hS => ?_⟩) hH ?_
          rotate_left
          · obtain ⟨_, q0, q1, q2, q3, q4⟩ := (hS : Five _ gn a b c d e); go_simp; try exact rfl
          simp only [Act.put, List.setIfInBounds_toArray, List.set_cons_zero, List.set_cons_succ, List.getElem_toArray, List.getElem_cons_zero, List.getElem_cons_succ]
          refine wpAnyH_ready (rs := [16]) (by kernel_rfl) (by simp) (AllReadyH.cons rfl (fun K hK => ?_) AllReadyH.nil)
          go_simp
          refine hK.out _ _ (hH.after (bel1 _ _)) (fun hH5 => ?_)
          clear hK K
          try simp only [Act.put, List.setIfInBounds_toArray, List.set_cons_zero, List.set_cons_succ]
          refine wpAnyH_ready (rs := [17]) (by kernel_rfl) (by simp) (AllReadyH.cons rfl (fun K hK => ?_) AllReadyH.nil)
          go_simp
          refine hK.out _ _ (hH.after (bel1 _ _)) (fun hH6 => ?_)
          clear hK K
          try simp only [Act.put, List.setIfInBounds_toArray, List.set_cons_zero, List.set_cons_succ]
          refine wpAnyH_done (by kernel_rfl) ?_ _
          clear hH6
          have K9 := hide (show Bk ((wr.alloc (.cells #[.int .i64 a, .int .i64 b, .int .i64 c, .int .i64 d, .int .i64 e] 25)).drew) wr.heap.size 25 #[.int .i64 a, .int .i64 b, .int .i64 c, .int .i64 d, .int .i64 e] from Bk.fresh wr 25 _)
          have K0 := hide (show Bk ((wr.alloc (.cells #[.int .i64 a, .int .i64 b, .int .i64 c, .int .i64 d, .int .i64 e] 25)).drew) w.heap.size 25 #[.int .i64 0, .int .i64 0, .int .i64 0, .int .i64 0, .int .i64 0] from K0.out.alloc _)
          have B0 := hide ((B0.out.alloc B0.out.size (.cells #[.int .i64 a, .int .i64 b, .int .i64 c, .int .i64 d, .int .i64 e] 25)).drew)
          obtain ⟨W9, hW9⟩ : ∃ W : World, W = (wr.alloc (.cells #[.int .i64 a, .int .i64 b, .int .i64 c, .int .i64 d, .int .i64 e] 25)).drew := ⟨_, rfl⟩
          obtain ⟨g9, hg9⟩ : ∃ g, g = wr.heap.size := ⟨_, rfl⟩
          rw [← hW9] at K9 K0 B0
          rw [← hg9] at K9
          rw [← hW9, ← hg9]
          clear hW9 hg9
          obtain ⟨s0, s1, s2, s3, s4⟩ := K9.out.c5
          cases hok : okB a b c d e
          · have HN := hide HQ5.out
            rw [hok, Bool.false_and, if_neg (by simp)] at HN
            have HK := hide hok
            clear hok
            go_wp2_with fail
            refine (specPtrOk_v HK.out _).mono ?_; rintro r x1 ⟨rfl, hb1⟩
            have K0 := hide (K0.out.after hb1)
            have B0 := hide (B0.out.trans (hb1.mono B0.out.size))
            clear hb1 s0 s1 s2 s3 s4
            obtain ⟨q0, q1, q2, q3, q4⟩ := K0.out.c5
            have f0 := K0.out.frozen 0
            have f1 := K0.out.frozen 1
            have f2 := K0.out.frozen 2
            have f3 := K0.out.frozen 3
            have f4 := K0.out.frozen 4
            have P5 := hide (put5Z K0.out (0) (0) (0) (0) (0))
            have PB := hide (bel5Z B0.out (Nat.le_refl w.heap.size) (.int .i64 (0)) (.int .i64 (0)) (.int .i64 (0)) (.int .i64 (0)) (.int .i64 (0)))
            go_wp2_with fail
            clear q0 q1 q2 q3 q4 f0 f1 f2 f3 f4
            obtain ⟨X, hX⟩ : ∃ X : World, X = (((((x1).setCell ⟨w.heap.size, 0, none⟩ (.int .i64 (0))).setCell ⟨w.heap.size, 1, none⟩ (.int .i64 (0))).setCell ⟨w.heap.size, 2, none⟩ (.int .i64 (0))).setCell ⟨w.heap.size, 3, none⟩ (.int .i64 (0))).setCell ⟨w.heap.size, 4, none⟩ (.int .i64 (0)) := ⟨_, rfl⟩
            rw [← hX] at P5 PB
            rw [← hX]
            clear hX
            obtain ⟨r0, r1, r2, r3, r4⟩ := P5.out.c5
            refine bodyPost_ret (v := .tuple #[.agg #[.int .i64 (0), .int .i64 (0), .int .i64 (0), .int .i64 (0), .int .i64 (0)], .bool false]) (by simp [results, Tryd.results17, go_sem, r0, r1, r2, r3, r4]) rfl ?_
            exact GetQR.no HN.out PB.out
          · cases hho : holeB a b c d e
            · have HY := hide HQ5.out
              rw [hok, hho, if_pos (by rfl)] at HY
              have HK := hide hok
              have HH := hide hho
              clear hok hho
              go_wp2_with fail
              refine (specPtrOk_v HK.out _).mono ?_; rintro r x1 ⟨rfl, hb1⟩
              have K0 := hide (K0.out.after hb1)
              have K9 := hide (K9.out.after hb1)
              have B0 := hide (B0.out.trans (hb1.mono B0.out.size))
              clear hb1 s0 s1 s2 s3 s4
              obtain ⟨s0, s1, s2, s3, s4⟩ := K9.out.c5
              go_wp2_with fail
              refine (specPtrHole_v HH.out _).mono ?_; rintro r x2 ⟨rfl, hb1⟩
              have K0 := hide (K0.out.after hb1)
              have K9 := hide (K9.out.after hb1)
              have B0 := hide (B0.out.trans (hb1.mono B0.out.size))
              clear hb1 s0 s1 s2 s3 s4
              obtain ⟨s0, s1, s2, s3, s4⟩ := K9.out.c5
              obtain ⟨q0, q1, q2, q3, q4⟩ := K0.out.c5
              have f0 := K0.out.frozen 0
              have f1 := K0.out.frozen 1
              have f2 := K0.out.frozen 2
              have f3 := K0.out.frozen 3
              have f4 := K0.out.frozen 4
              have P5 := hide (put5Z K0.out (a) (b) (c) (d) (e))
              have PB := hide (bel5Z B0.out (Nat.le_refl w.heap.size) (.int .i64 (a)) (.int .i64 (b)) (.int .i64 (c)) (.int .i64 (d)) (.int .i64 (e)))
              go_wp2_with fail
              clear q0 q1 q2 q3 q4 f0 f1 f2 f3 f4
              obtain ⟨X, hX⟩ : ∃ X : World, X = (((((x2).setCell ⟨w.heap.size, 0, none⟩ (.int .i64 (a))).setCell ⟨w.heap.size, 1, none⟩ (.int .i64 (b))).setCell ⟨w.heap.size, 2, none⟩ (.int .i64 (c))).setCell ⟨w.heap.size, 3, none⟩ (.int .i64 (d))).setCell ⟨w.heap.size, 4, none⟩ (.int .i64 (e)) := ⟨_, rfl⟩
              rw [← hX] at P5 PB
              rw [← hX]
              clear hX
              obtain ⟨r0, r1, r2, r3, r4⟩ := P5.out.c5
              refine bodyPost_ret (v := .tuple #[.agg #[.int .i64 (a), .int .i64 (b), .int .i64 (c), .int .i64 (d), .int .i64 (e)], .bool true]) (by simp [results, Tryd.results17, go_sem, r0, r1, r2, r3, r4]) rfl ?_
              exact GetQR.yes HY.out PB.out
            · have HN := hide HQ5.out
              rw [hok, hho, if_neg (by simp)] at HN
              have HK := hide hok
              have HH := hide hho
              clear hok hho
              go_wp2_with fail
              refine (specPtrOk_v HK.out _).mono ?_; rintro r x1 ⟨rfl, hb1⟩
              have K0 := hide (K0.out.after hb1)
              have K9 := hide (K9.out.after hb1)
              have B0 := hide (B0.out.trans (hb1.mono B0.out.size))
              clear hb1 s0 s1 s2 s3 s4
              obtain ⟨s0, s1, s2, s3, s4⟩ := K9.out.c5
              go_wp2_with fail
              refine (specPtrHole_v HH.out _).mono ?_; rintro r x2 ⟨rfl, hb1⟩
              have K0 := hide (K0.out.after hb1)
              have B0 := hide (B0.out.trans (hb1.mono B0.out.size))
              clear hb1 s0 s1 s2 s3 s4
              obtain ⟨q0, q1, q2, q3, q4⟩ := K0.out.c5
              have f0 := K0.out.frozen 0
              have f1 := K0.out.frozen 1
              have f2 := K0.out.frozen 2
              have f3 := K0.out.frozen 3
              have f4 := K0.out.frozen 4
              have P5 := hide (put5Z K0.out (0) (0) (0) (0) (0))
              have PB := hide (bel5Z B0.out (Nat.le_refl w.heap.size) (.int .i64 (0)) (.int .i64 (0)) (.int .i64 (0)) (.int .i64 (0)) (.int .i64 (0)))
              go_wp2_with fail
              clear q0 q1 q2 q3 q4 f0 f1 f2 f3 f4
              obtain ⟨X, hX⟩ : ∃ X : World, X = (((((x2).setCell ⟨w.heap.size, 0, none⟩ (.int .i64 (0))).setCell ⟨w.heap.size, 1, none⟩ (.int .i64 (0))).setCell ⟨w.heap.size, 2, none⟩ (.int .i64 (0))).setCell ⟨w.heap.size, 3, none⟩ (.int .i64 (0))).setCell ⟨w.heap.size, 4, none⟩ (.int .i64 (0)) := ⟨_, rfl⟩
              rw [← hX] at P5 PB
              rw [← hX]
              clear hX
              obtain ⟨r0, r1, r2, r3, r4⟩ := P5.out.c5
              refine bodyPost_ret (v := .tuple #[.agg #[.int .i64 (0), .int .i64 (0), .int .i64 (0), .int .i64 (0), .int .i64 (0)], .bool false]) (by simp [results, Tryd.results17, go_sem, r0, r1, r2, r3, r4]) rfl ?_
              exact GetQR.no HN.out PB.out
    · have HN := hide (getQ_many H45.out (fun e => h5 (HPL.out.trans e)))
      have hn5 : (((pcs 46 s).length : Int) == 5) = false := by rw [beq_eq_false_iff_ne]; omega
      have hn5' : (((pcs 46 s).length : Int) != 5) = true := by rw [bne, hn5]; rfl
      clear h5
      obtain ⟨q0, q1, q2, q3, q4⟩ := K0.out.c5
      have f0 := K0.out.frozen 0
      have f1 := K0.out.frozen 1
      have f2 := K0.out.frozen 2
      have f3 := K0.out.frozen 3
      have f4 := K0.out.frozen 4
      have P5 := hide (put5Z K0.out (0) (0) (0) (0) (0))
      have PB := hide (bel5Z B0.out (Nat.le_refl w.heap.size) (.int .i64 (0)) (.int .i64 (0)) (.int .i64 (0)) (.int .i64 (0)) (.int .i64 (0)))
      go_wp2_with fail
      clear q0 q1 q2 q3 q4 f0 f1 f2 f3 f4
      obtain ⟨X, hX⟩ : ∃ X : World, X = (((((w1).setCell ⟨w.heap.size, 0, none⟩ (.int .i64 (0))).setCell ⟨w.heap.size, 1, none⟩ (.int .i64 (0))).setCell ⟨w.heap.size, 2, none⟩ (.int .i64 (0))).setCell ⟨w.heap.size, 3, none⟩ (.int .i64 (0))).setCell ⟨w.heap.size, 4, none⟩ (.int .i64 (0)) := ⟨_, rfl⟩
      rw [← hX] at P5 PB
      rw [← hX]
      clear hX
      obtain ⟨r0, r1, r2, r3, r4⟩ := P5.out.c5
      refine bodyPost_ret (v := .tuple #[.agg #[.int .i64 (0), .int .i64 (0), .int .i64 (0), .int .i64 (0), .int .i64 (0)], .bool false]) (by simp [results, Tryd.results17, go_sem, r0, r1, r2, r3, r4]) rfl ?_
      exact GetQR.no HN.out PB.out
end Go.Proofs.YtmhbpmacfekhgaaDoor
