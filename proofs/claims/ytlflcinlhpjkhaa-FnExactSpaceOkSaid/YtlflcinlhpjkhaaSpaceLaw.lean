/- The walk of the law FnExactSpaceOk. -/
import Derived.Test.YtlflcinlhpjkhaaSpaceOk
import Derived.Test.YtlflcinlhpjkhaaOpen
namespace Go.Proofs.Ytlflcinlhpjkhaa
open Go.RowKit

/-- what szSpace answers: a negative number, or both lists are small -/
def Small2 (n1 n2 : Nat) (w : World) (r : Ending) (w' : World) : Prop := ∃ v : Int, r = .returned (.int .i64 v) ∧ (v < 0 ∨ (0 ≤ v ∧ n1 ≤ 1048576 ∧ n2 ≤ 1048576)) ∧ Below w.heap.size w w'

set_option maxHeartbeats 400000 in
theorem szSpace_any (A1 A2 : Option Addr) (n1 n2 c1 c2 : Nat) (left : Int) (w : World) (m1 : n1 ≤ maxLen) (m2 : n2 ≤ maxLen) (h0 : 0 ≤ left) (h1 : left ≤ 1048576) :
    Calls Try.prog 34 #[.agg #[.slice A1 n1 c1, .slice A2 n2 c2], .int .i64 left] w (Small2 n1 n2 w) := by
  have hb0 := bel1 w (.cells #[.slice A1 n1 c1, .slice A2 n2 c2] 44)
  by_cases e1 : left < (n1 : Int)
  · have E := hide (show szI left n1 = -1 by unfold szI; rw [if_pos e1])
    go_enter Try.func34, Try.ntmps34
    go_wp2_with fail
    refine (szIntS_any _ _ _ _ _ m1 h0 h1).mono ?_; rintro r w1 ⟨rfl, rfl⟩
    rw [E.out]
    go_wp2_with fail
    go_ret
    exact ⟨_, rfl, .inl (by omega), hb0⟩
  · have E := hide (show szI left n1 = left - n1 by unfold szI; rw [if_neg e1])
    have p1 : ¬ left - (n1 : Int) < 0 := by omega
    by_cases e2 : left - (n1 : Int) < (n2 : Int)
    · have E2 := hide (show szI (left - n1) n2 = -1 by unfold szI; rw [if_pos e2])
      go_enter Try.func34, Try.ntmps34
      go_wp2_with fail
      refine (szIntS_any _ _ _ _ _ m1 h0 h1).mono ?_; rintro r w1 ⟨rfl, rfl⟩
      rw [E.out]
      go_wp2_with fail
      refine (szIntS_any _ _ _ _ _ m2 (by omega) (by omega)).mono ?_; rintro r w1 ⟨rfl, rfl⟩
      rw [E2.out]
      go_wp2_with fail
      go_ret
      exact ⟨_, rfl, .inl (by omega), hb0⟩
    · have E2 := hide (show szI (left - n1) n2 = left - n1 - n2 by unfold szI; rw [if_neg e2])
      have p2 : ¬ left - (n1 : Int) - (n2 : Int) < 0 := by omega
      go_enter Try.func34, Try.ntmps34
      go_wp2_with fail
      refine (szIntS_any _ _ _ _ _ m1 h0 h1).mono ?_; rintro r w1 ⟨rfl, rfl⟩
      rw [E.out]
      go_wp2_with fail
      refine (szIntS_any _ _ _ _ _ m2 (by omega) (by omega)).mono ?_; rintro r w1 ⟨rfl, rfl⟩
      rw [E2.out]
      go_wp2_with fail
      go_ret
      exact ⟨_, rfl, .inr ⟨by omega, by omega, by omega⟩, hb0⟩

/-- what toSpace makes: two new rows that hold what the lists hold -/
def ToSpace (z1 z2 : List Int) (n1 n2 : Nat) (w : World) (r : Ending) (w' : World) : Prop :=
  ∃ g1 g2 : Nat, r = .returned (.agg #[.slice (some ⟨g1, 0, none⟩) n1 n1, .slice (some ⟨g2, 0, none⟩) n2 n2]) ∧ g1 ≠ g2 ∧ w.heap.size ≤ g1 ∧ w.heap.size ≤ g2 ∧
    Bk w' g1 3 (z1.map (Value.int .i64)).toArray ∧ Bk w' g2 3 (z2.map (Value.int .i64)).toArray ∧ Below w.heap.size w w'

set_option maxHeartbeats 400000 in
theorem toSpace_any (A1 A2 : Option Addr) (n1 n2 c1 c2 : Nat) (z1 z2 : List Int) (w : World) (h1 : Rd w 1 A1 n1 (z1.map (Value.int .i64))) (h2 : Rd w 1 A2 n2 (z2.map (Value.int .i64))) (m1 : n1 ≤ 1048576) (m2 : n2 ≤ 1048576) :
    Calls Try.prog 36 #[.agg #[.slice A1 n1 c1, .slice A2 n2 c2]] w (ToSpace z1 z2 n1 n2 w) := by
  obtain ⟨W0, HW0⟩ : ∃ W : World, W = ((w.alloc (.cells #[.slice A1 n1 c1, .slice A2 n2 c2] 44)).alloc (.cells #[.slice none 0 0, .slice none 0 0] 35)).alloc (.cells #[.slice none 0 0, .slice none 0 0] 35) := ⟨_, rfl⟩
  have hb0 : Below w.heap.size w W0 := by rw [HW0]; exact (((Below.refl _ _).alloc (Nat.le_refl _) _).alloc (by simp) _).alloc (by simp; omega) _
  have z0 : W0.heap.size = w.heap.size + 1 + 1 + 1 := by rw [HW0]; simp
  have K0 := hide (show Bk W0 w.heap.size 44 #[.slice A1 n1 c1, .slice A2 n2 c2] by rw [HW0]; exact ((Bk.fresh _ _ _).alloc _).alloc _)
  have K1 := hide (show Bk W0 (w.heap.size + 1) 35 #[.slice none 0 0, .slice none 0 0] by
    rw [HW0]
    have h := (Bk.fresh (w.alloc (.cells #[.slice A1 n1 c1, .slice A2 n2 c2] 44)) 35 #[.slice none 0 0, .slice none 0 0]).alloc (.cells #[.slice none 0 0, .slice none 0 0] 35)
    simpa using h)
  have K2 := hide (show Bk W0 (w.heap.size + 1 + 1) 35 #[.slice none 0 0, .slice none 0 0] by
    rw [HW0]
    have h := Bk.fresh ((w.alloc (.cells #[.slice A1 n1 c1, .slice A2 n2 c2] 44)).alloc (.cells #[.slice none 0 0, .slice none 0 0] 35)) 35 #[.slice none 0 0, .slice none 0 0]
    simpa using h)
  have H1 := hide h1
  have H2 := hide h2
  have HB0 := hide hb0
  have HZ0 := hide z0
  clear h1 h2 hb0 z0
  go_enter Try.func36, Try.ntmps36
  go_wp2_with fail
  rw [← HW0]
  clear HW0
  refine (toIntS_any _ _ _ _ _ (H1.out.after HB0.out) (by omega)).mono ?_; rintro r w1 ⟨rfl, B1, hb1, lt1⟩
  obtain ⟨q0, q1⟩ := (K0.out.after hb1).c2
  obtain ⟨q2, q3⟩ := (K2.out.after hb1).c2
  have f2 := (K2.out.after hb1).frozen 0
  have hne : ¬ w.heap.size = w.heap.size + 1 + 1 := by omega
  obtain ⟨W1, HW1⟩ : ∃ W : World, W = w1.setCell ⟨w.heap.size + 1 + 1, 0, none⟩ (.slice (some ⟨W0.heap.size, 0, none⟩) n1 n1) := ⟨_, rfl⟩
  have P0 := hide (show Bk W1 w.heap.size 44 #[.slice A1 n1 c1, .slice A2 n2 c2] by rw [HW1]; exact (K0.out.after hb1).far (by show w.heap.size ≠ w.heap.size + 1 + 1; omega) _)
  have P1 := hide (show Bk W1 (w.heap.size + 1) 35 #[.slice none 0 0, .slice none 0 0] by rw [HW1]; exact (K1.out.after hb1).far (by show w.heap.size + 1 ≠ w.heap.size + 1 + 1; omega) _)
  have P2 := hide (show Bk W1 (w.heap.size + 1 + 1) 35 #[(.slice (some ⟨W0.heap.size, 0, none⟩) n1 n1), .slice none 0 0] by rw [HW1]; exact (K2.out.after hb1).put 0 _)
  have Q1 := hide (show Bk W1 W0.heap.size 3 (z1.map (Value.int .i64)).toArray by rw [HW1]; exact B1.far (by show W0.heap.size ≠ w.heap.size + 1 + 1; have := HZ0.out; omega) _)
  have HB1 := hide (show Below w.heap.size w W1 by rw [HW1]; exact (HB0.out.trans (hb1.mono HB0.out.size)).setCell (by show w.heap.size ≤ w.heap.size + 1 + 1; omega) _)
  have LT1 := hide (show W0.heap.size < W1.heap.size by rw [HW1]; simpa [World.setCell] using lt1)
  clear K0 K1 K2 hb1 B1 lt1
  go_wp2_with fail
  rw [← HW1]
  clear HW1 q0 q1 q2 q3 f2
  refine (toIntS_any _ _ _ _ _ (H2.out.after HB1.out) (by omega)).mono ?_; rintro r w2 ⟨rfl, B2, hb2, lt2⟩
  obtain ⟨q2, q3⟩ := (P2.out.after hb2).c2
  obtain ⟨q4, q5⟩ := (P1.out.after hb2).c2
  have f2 := (P2.out.after hb2).frozen 1
  have f3 := (P1.out.after hb2).frozen 0
  have f4 := (P1.out.after hb2).frozen 1
  have hne2 : ¬ w.heap.size + 1 = w.heap.size + 1 + 1 := by omega
  have R1 := hide (Q1.out.after hb2)
  have R2 := hide B2
  have HB2 := hide (HB1.out.trans (hb2.mono HB1.out.size))
  have LE := hide (show w.heap.size ≤ W1.heap.size from HB1.out.size)
  clear P0 P1 P2 Q1 hb2 B2 lt2
  go_wp2_with fail
  refine bodyPost_ret (v := .agg #[.slice (some ⟨W0.heap.size, 0, none⟩) n1 n1, .slice (some ⟨W1.heap.size, 0, none⟩) n2 n2]) (by simp [results, Try.results36, go_sem, *]) rfl ?_
  have l0 := HZ0.out
  have l1 := LT1.out
  refine ⟨_, _, rfl, by omega, by omega, LE.out, ?_, ?_, ?_⟩
  · exact ((R1.out.far (by show W0.heap.size ≠ w.heap.size + 1 + 1; omega) _).far (by show W0.heap.size ≠ w.heap.size + 1; omega) _).far (by show W0.heap.size ≠ w.heap.size + 1; omega) _
  · exact ((R2.out.far (by show W1.heap.size ≠ w.heap.size + 1 + 1; omega) _).far (by show W1.heap.size ≠ w.heap.size + 1; omega) _).far (by show W1.heap.size ≠ w.heap.size + 1; omega) _
  · exact ((HB2.out.setCell (by show w.heap.size ≤ w.heap.size + 1 + 1; omega) _).setCell (by show w.heap.size ≤ w.heap.size + 1; omega) _).setCell (by show w.heap.size ≤ w.heap.size + 1; omega) _

theorem ints_rd {w : World} {g n : Nat} {zs : List Int} (h : Bk w g 3 (zs.map (Value.int .i64)).toArray) (hn : zs.length = n) : Rd w 1 (some ⟨g, 0, none⟩) n (zs.map (Value.int .i64)) :=
  h.rd (by simp [hn]) (fun j u hu => by rw [List.getElem?_toArray]; exact hu)

set_option maxHeartbeats 1000000 in
theorem fnExactSpaceOk_walk (A1 A2 : Option Addr) (n1 n2 c1 c2 : Nat) (z1 z2 : List Int) (w : World) (k1 : I64s w A1 n1 c1 z1) (k2 : I64s w A2 n2 c2 z2) :
    Calls Try.prog 11 #[.agg #[.slice A1 n1 c1, .slice A2 n2 c2]] w fun r w' => r = .returned (.bool true) ∧ Below w.heap.size w w' := by
  obtain ⟨hc1, hm1, hz1, _, h1⟩ := k1
  obtain ⟨hc2, hm2, hz2, _, h2⟩ := k2
  have H1 := hide h1
  have H2 := hide h2
  have HB0 := hide (bel1 w (.cells #[.slice A1 n1 c1, .slice A2 n2 c2] 44))
  have K0 := hide (Bk.fresh w 44 #[.slice A1 n1 c1, .slice A2 n2 c2])
  clear h1 h2
  go_enter Try.func11, Try.ntmps11
  go_wp2_with fail
  refine (szSpace_any _ _ _ _ _ _ 1048576 _ (by omega) (by omega) (by omega) (by omega)).mono ?_; rintro r w1 ⟨v, rfl, hv, hb1⟩
  have HB1 := hide (HB0.out.trans (hb1.mono HB0.out.size))
  have K1 := hide (K0.out.after hb1)
  clear hb1
  by_cases hneg : v < 0
  · go_wp2_with fail
    go_ret
    exact ⟨rfl, HB1.out⟩
  · obtain ⟨_, s1, s2⟩ : 0 ≤ v ∧ n1 ≤ 1048576 ∧ n2 ≤ 1048576 := by
      rcases hv with hv | hv
      · exact absurd hv hneg
      · exact hv
    obtain ⟨q0, q1⟩ := K1.out.c2
    go_wp2_with fail
    refine (toSpace_any _ _ _ _ _ _ _ _ _ (H1.out.after HB1.out) (H2.out.after HB1.out) s1 s2).mono ?_; rintro r w2 ⟨e1, e2, rfl, he, _, _, E1, E2, hb2⟩
    have HB2 := hide (HB1.out.trans (hb2.mono HB1.out.size))
    have K2 := hide (K1.out.after hb2)
    clear hb2 q0 q1
    go_wp2_with fail
    refine (specSpaceOk_any _ _ _ _ _ _ _ _ _ (ints_rd E1 hz1) (ints_rd E2 hz2)).mono ?_; rintro r w2b ⟨rfl, hb2⟩
    have HB2b := hide (HB2.out.trans (hb2.mono HB2.out.size))
    have K2b := hide (K2.out.after hb2)
    obtain ⟨q0, q1⟩ := K2b.out.c2
    clear hb2
    go_wp2_with fail
    refine (toSpace_any _ _ _ _ _ _ _ _ _ (H1.out.after HB2b.out) (H2.out.after HB2b.out) s1 s2).mono ?_; rintro r w3 ⟨g1, g2, rfl, hg, _, _, G1, G2, hb3⟩
    have C1 := hide (G1.alloc (.cells #[.slice (some ⟨g1, 0, none⟩) n1 n1, .slice (some ⟨g2, 0, none⟩) n2 n2] 35))
    have C2 := hide (G2.alloc (.cells #[.slice (some ⟨g1, 0, none⟩) n1 n1, .slice (some ⟨g2, 0, none⟩) n2 n2] 35))
    have J3 := hide (Bk.fresh w3 35 #[.slice (some ⟨g1, 0, none⟩) n1 n1, .slice (some ⟨g2, 0, none⟩) n2 n2])
    have K3 := hide ((K2b.out.after hb3).alloc (.cells #[.slice (some ⟨g1, 0, none⟩) n1 n1, .slice (some ⟨g2, 0, none⟩) n2 n2] 35))
    have HB3 := hide ((HB2b.out.trans (hb3.mono HB2b.out.size)).alloc ((HB2b.out.trans (hb3.mono HB2b.out.size)).size) (.cells #[.slice (some ⟨g1, 0, none⟩) n1 n1, .slice (some ⟨g2, 0, none⟩) n2 n2] 35))
    clear hb3 G1 G2 q0 q1
    go_wp2_with fail
    refine (implSpaceOk_any _ _ _ _ _ _ _ _ _ (ints_rd C1.out hz1) (ints_rd C2.out hz2)).mono ?_; rintro r w4 ⟨rfl, hb4⟩
    have HB4 := hide (HB3.out.trans (hb4.mono HB3.out.size))
    have K4 := hide (K3.out.after hb4)
    have J4 := hide (J3.out.after hb4)
    have C1 := hide (C1.out.after hb4)
    have C2 := hide (C2.out.after hb4)
    clear hb4
    go_wp2_with fail
    refine wp_region_held_drew (S := fun w' => Bk w' w.heap.size 44 #[.slice A1 n1 c1, .slice A2 n2 c2] ∧ Bk w' w3.heap.size 35 #[.slice (some ⟨g1, 0, none⟩) n1 n1, .slice (some ⟨g2, 0, none⟩) n2 n2]) (by kernel_rfl) (⟨K4.out, J4.out⟩) (fun hH => ?_)
    refine wpAnyH_take (i := 0) (v := ?_) rfl (by kernel_rfl) (by kernel_rfl) (by kernel_rfl) (fun _ _ _ h => h) (Or.inl ⟨by rfl, fun w hS => ?_⟩) hH ?_
    rotate_left
    · obtain ⟨⟨x0, x1⟩, x2, x3⟩ := And.intro (Bk.c2 hS.1) (Bk.c2 hS.2); go_simp; try exact rfl
    simp only [Act.put, List.setIfInBounds_toArray, List.set_cons_zero, List.set_cons_succ, List.getElem_toArray, List.getElem_cons_zero]
    refine wpAnyH_take (i := 1) (v := ?_) rfl (by kernel_rfl) (by kernel_rfl) (by kernel_rfl) (fun _ _ _ h => h) (Or.inl ⟨by rfl, fun w hS => ?_⟩) hH ?_
    rotate_left
    · obtain ⟨⟨x0, x1⟩, x2, x3⟩ := And.intro (Bk.c2 hS.1) (Bk.c2 hS.2); go_simp; try exact rfl
    simp only [Act.put, List.setIfInBounds_toArray, List.set_cons_zero, List.set_cons_succ, List.getElem_toArray, List.getElem_cons_zero, List.getElem_cons_succ]
    refine wpAnyH_ready (rs := [2]) (by kernel_rfl) (by simp) (AllReadyH.cons rfl (fun K hK => ?_) AllReadyH.nil)
    go_simp
    refine (toSpace_any _ _ _ _ _ _ _ _ _ (H1.out.after (HB4.out.drew)) (H2.out.after (HB4.out.drew)) s1 s2).mono ?_; rintro r w5 ⟨h1, h2, rfl, hh, _, _, D1, D2, hb5⟩
    refine hK.out _ _ (⟨hH.1.after hb5, hH.2.after hb5⟩) (fun hH5 => ?_)
    clear hK K
    try simp only [Act.put, List.setIfInBounds_toArray, List.set_cons_zero, List.set_cons_succ]
    refine wpAnyH_ready (rs := [3]) (by kernel_rfl) (by simp) (AllReadyH.cons rfl (fun K hK => ?_) AllReadyH.nil)
    go_simp
    refine (eqSpace_any _ _ _ _ _ _ _ _ _ _ _ _ _ _ _ _ _ (ints_rd (C1.out.afterE hb5 rfl) hz1) (ints_rd (C2.out.afterE hb5 rfl) hz2) (ints_rd D1 hz1) (ints_rd D2 hz2) (by unfold maxLen; omega) (by unfold maxLen; omega)).mono ?_; rintro r w6 ⟨rfl, hb6⟩
    rw [eqI_refl, eqI_refl]
    refine hK.out _ _ (⟨hH5.1.after hb6, hH5.2.after hb6⟩) (fun hH6 => ?_)
    clear hK K
    try simp only [Act.put, List.setIfInBounds_toArray, List.set_cons_zero, List.set_cons_succ]
    refine wpAnyH_take (i := 4) (v := ?_) rfl (by kernel_rfl) (by kernel_rfl) (by kernel_rfl) (fun _ _ _ h => h) (Or.inl ⟨by rfl, fun w hS => ?_⟩) hH6 ?_
    rotate_left
    · obtain ⟨⟨x0, x1⟩, x2, x3⟩ := And.intro (Bk.c2 hS.1) (Bk.c2 hS.2); go_simp; try exact rfl
    simp only [Act.put, List.setIfInBounds_toArray, List.set_cons_zero, List.set_cons_succ, List.getElem_toArray, List.getElem_cons_zero, List.getElem_cons_succ]
    refine wpAnyH_done (by kernel_rfl) ?_ _
    go_wp2_with fail
    go_ret
    exact ⟨rfl, bnext (bnext HB4.out.drew (Nat.le_refl _) hb5) (Nat.le_refl _) hb6⟩
end Go.Proofs.Ytlflcinlhpjkhaa
