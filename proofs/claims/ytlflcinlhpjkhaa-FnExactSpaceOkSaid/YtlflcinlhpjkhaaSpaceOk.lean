/- Space: what szSpace, toSpace and SpaceOk do; the walk of the law FnExactSpaceOk. -/
import Derived.Test.YtlflcinlhpjkhaaSpaceNew
import Derived.Test.YtlflcinlhpjkhaaPtrB
namespace Go.Proofs.Ytlflcinlhpjkhaa
open Go.RowKit

theorem within_v {n lo hi : Int} {v : Bool} (h : inR n lo hi = v) (w : World) : Calls Try.prog 51 #[.int .i64 n, .int .i64 lo, .int .i64 hi] w fun r w' => r = .returned (.bool v) ∧ w = w' := h ▸ within_any n lo hi w
theorem l6In_v {n lo hi : Int} {v : Bool} (h : inR n lo hi = v) (w : World) : Calls Try.prog 49 #[.int .i64 n, .int .i64 lo, .int .i64 hi] w fun r w' => r = .returned (.bool v) ∧ w = w' := h ▸ l6In_any n lo hi w
theorem l2Row_v {n : Int} {v : Bool} (h : inR n 8 63 = v) (w : World) : Calls Try.prog 48 #[.int .i64 n] w fun r w' => r = .returned (.bool v) ∧ w = w' := h ▸ l2Row_any n w

/-- one row of a space is as it must be -/
def rowB (i refs last : Int) : Bool := inR refs 0 900 && inR last refs 900 && !(refs == 0 && last != 0) && !(decide (0 < refs) && decide (i < 8))
/-- a valid space -/
def spaceB (rs ls : List Int) : Bool := decide (rs.length = 64) && decide (ls.length = 64) && (List.range 64).all fun (i : Nat) => rowB (i : Int) (rs.getD i 0) (ls.getD i 0)
theorem spaceB_n1 {rs ls : List Int} (h : rs.length ≠ 64) : spaceB rs ls = false := by unfold spaceB; rw [decide_eq_false h]; rfl
theorem spaceB_n2 {rs ls : List Int} (h : ls.length ≠ 64) : spaceB rs ls = false := by unfold spaceB; rw [decide_eq_false h, Bool.and_false]; rfl
theorem spaceB_no {rs ls : List Int} {k : Nat} (hk : k < 64) (h : rowB k (rs.getD k 0) (ls.getD k 0) = false) : spaceB rs ls = false := by
  unfold spaceB
  rw [Bool.and_eq_false_iff]
  refine .inr ?_
  rw [List.all_eq_false]
  exact ⟨k, List.mem_range.2 hk, by rw [h]; simp⟩
theorem spaceB_yes {rs ls : List Int} (h1 : rs.length = 64) (h2 : ls.length = 64) (h : ∀ j : Nat, j < 64 → rowB (j : Int) (rs.getD j 0) (ls.getD j 0) = true) : spaceB rs ls = true := by
  unfold spaceB
  rw [decide_eq_true h1, decide_eq_true h2]
  simp only [Bool.and_self, Bool.true_and]
  exact List.all_eq_true.2 fun x hx => h x (List.mem_range.1 hx)
theorem getD_of {zs : List Int} {k : Nat} {z : Int} (h : zs[k]? = some z) : zs.getD k 0 = z := by rw [List.getD_eq_getElem?_getD, h]; rfl
theorem inR_ge {n lo hi : Int} (h : inR n lo hi = true) : lo ≤ n ∧ n ≤ hi := by
  unfold inR at h
  simpa using h
theorem inR_mk {n lo hi : Int} (h : lo ≤ n ∧ n ≤ hi) : inR n lo hi = true := by
  unfold inR
  simpa using h
theorem inR_no {n lo hi : Int} (h : ¬ (lo ≤ n ∧ n ≤ hi)) : inR n lo hi = false := by
  unfold inR
  grind
theorem hid_snoc {P : Nat → Prop} {k : Nat} (h : Hid (∀ j, j < k → P j)) (hk : P k) : Hid (∀ j, j < k + 1 → P j) := fun j hj => by
  rcases Nat.lt_succ_iff_lt_or_eq.1 hj with h1 | rfl
  · exact h.out j h1
  · exact hk


set_option maxHeartbeats 1000000 in
theorem implSpaceOk_any (A1 A2 : Option Addr) (n1 n2 c1 c2 : Nat) (rs ls : List Int) (w : World) (h1 : Rd w 1 A1 n1 (rs.map (Value.int .i64))) (h2 : Rd w 1 A2 n2 (ls.map (Value.int .i64))) :
    Calls Try.prog 37 #[.agg #[.slice A1 n1 c1, .slice A2 n2 c2]] w fun r w' => r = .returned (.bool (spaceB rs ls)) ∧ Below w.heap.size w w' := by
  have l1 : rs.length = n1 := by have := h1.len; simpa using this
  have l2 : ls.length = n2 := by have := h2.len; simpa using this
  have hb0 := bel1 w (.cells #[.slice A1 n1 c1, .slice A2 n2 c2] 35)
  have H1 := hide (h1.after hb0)
  have H2 := hide (h2.after hb0)
  clear h1 h2
  by_cases e1 : n1 = 64
  · by_cases e2 : n2 = 64
    · subst e1 e2
      have L1 := hide l1
      have L2 := hide l2
      have hK := Bk.fresh w 35 #[.slice A1 64 c1, .slice A2 64 c2]
      obtain ⟨q0, q1⟩ := hK.c2
      clear l1 l2 hK
      have HB0 := hide hb0
      clear hb0
      go_enter Try.func37, Try.ntmps37
      go_wp2_with fail
      obtain ⟨W0, HW0⟩ : ∃ W : World, W = w.alloc (.cells #[.slice A1 64 c1, .slice A2 64 c2] 35) := ⟨_, rfl⟩
      rw [← HW0] at q0 q1 H1 H2 HB0 ⊢
      clear HW0
      go_loopw [19] (fun i wr => ∃ k m : Nat, k ≤ 64 ∧ wr = W0.drewN m ∧ Hid (∀ j : Nat, j < k → rowB (j : Int) (rs.getD j 0) (ls.getD j 0) = true) ∧ i = .int .i64 k) (fun i _ => 64 - (intOf i).toNat)
      case atStart => exact ⟨0, 0, by omega, rfl, hide (fun j hj => absurd hj (by omega)), rfl⟩
      case round =>
        obtain ⟨k, m, hk, rfl, HR, rfl⟩ := hrel
        by_cases hlt : k < 64
        · obtain ⟨b, o, x, rfl, hb, hx, hc⟩ := H1.out.int_at hlt
          obtain ⟨b', o', y, rfl, hb', hy, hc'⟩ := H2.out.int_at hlt
          have ER := hide (getD_of hx)
          have EL := hide (getD_of hy)
          have i0 : (0 : Int) ≤ (k : Int) := by omega
          have i1 : (k : Int) < 64 := by omega
          clear hx hy

          cases b1 : inR x 0 900
          · have B1 := hide b1
            have HF := hide (spaceB_no (rs := rs) (ls := ls) hlt (by rw [ER.out, EL.out]; unfold rowB; rw [b1]; rfl))
            clear b1
            go_wp2_with fail
            refine (within_v B1.out _).mono ?_; rintro r w1 ⟨rfl, rfl⟩
            go_wp2_with fail
            go_ret
            exact ⟨ret_bool HF.out.symm, below_drewN HB0.out _⟩
          · cases b2 : inR y x 900
            · have B1 := hide b1
              have B2 := hide b2
              have HF := hide (spaceB_no (rs := rs) (ls := ls) hlt (by rw [ER.out, EL.out]; unfold rowB; rw [b1, b2]; rfl))
              clear b1 b2
              go_wp2_with fail
              refine (within_v B1.out _).mono ?_; rintro r w1 ⟨rfl, rfl⟩
              go_wp2_with fail
              refine (within_v B2.out _).mono ?_; rintro r w2 ⟨rfl, rfl⟩
              go_wp2_with fail
              go_ret
              exact ⟨ret_bool HF.out.symm, below_drewN HB0.out _⟩
            · have B1 := hide b1
              have B2 := hide b2
              have hx0 := (inR_ge b1).1
              by_cases x0 : x = 0
              · subst x0
                by_cases y0 : y = 0
                · subst y0
                  have HF := hide (show rowB (k : Int) (rs.getD k 0) (ls.getD k 0) = true by rw [ER.out, EL.out]; unfold rowB; rw [b1]; rfl)
                  clear b1 b2 hx0
                  go_wp2_with fail
                  refine (within_v B1.out _).mono ?_; rintro r w1 ⟨rfl, rfl⟩
                  go_wp2_with fail
                  refine (within_v B2.out _).mono ?_; rintro r w2 ⟨rfl, rfl⟩
                  go_wp2_with fail
                  go_roundw
                  case rel => exact ⟨k + 1, m, by omega, rfl, hid_snoc HR HF.out, int_eq (by omega)⟩
                  case measure => simp [intOf]; omega
                · have y1 : (y == 0) = false := by simp [y0]
                  have y2 : (y != 0) = true := by simp [y0]
                  have HF := hide (spaceB_no (rs := rs) (ls := ls) hlt (by rw [ER.out, EL.out]; unfold rowB; rw [b1, b2, y2]; rfl))
                  clear b1 b2 hx0 y0
                  go_wp2_with fail
                  refine (within_v B1.out _).mono ?_; rintro r w1 ⟨rfl, rfl⟩
                  go_wp2_with fail
                  refine (within_v B2.out _).mono ?_; rintro r w2 ⟨rfl, rfl⟩
                  go_wp2_with fail
                  go_ret
                  exact ⟨ret_bool HF.out.symm, below_drewN HB0.out _⟩
              · have x1 : (x == 0) = false := by simp [x0]
                have x2 : 0 < x := by omega
                by_cases k8 : (k : Int) < 8
                · have HF := hide (spaceB_no (rs := rs) (ls := ls) hlt (by rw [ER.out, EL.out]; unfold rowB; rw [b1, b2, x1, decide_eq_true x2, decide_eq_true k8]; rfl))
                  clear b1 b2 x0
                  go_wp2_with fail
                  refine (within_v B1.out _).mono ?_; rintro r w1 ⟨rfl, rfl⟩
                  go_wp2_with fail
                  refine (within_v B2.out _).mono ?_; rintro r w2 ⟨rfl, rfl⟩
                  go_wp2_with fail
                  go_ret
                  exact ⟨ret_bool HF.out.symm, below_drewN HB0.out _⟩
                · have HF := hide (show rowB (k : Int) (rs.getD k 0) (ls.getD k 0) = true by rw [ER.out, EL.out]; unfold rowB; rw [b1, b2, x1, decide_eq_true x2, decide_eq_false k8]; rfl)
                  clear b1 b2 x0
                  go_wp2_with fail
                  refine (within_v B1.out _).mono ?_; rintro r w1 ⟨rfl, rfl⟩
                  go_wp2_with fail
                  refine (within_v B2.out _).mono ?_; rintro r w2 ⟨rfl, rfl⟩
                  go_wp2_with fail
                  go_roundw
                  case rel => exact ⟨k + 1, m, by omega, rfl, hid_snoc HR HF.out, int_eq (by omega)⟩
                  case measure => simp [intOf]; omega
        · have HF := hide (spaceB_yes L1.out L2.out (fun j hj => HR.out j (by omega)))
          go_wp2_with fail
          go_ret
          exact ⟨ret_bool HF.out.symm, below_drewN HB0.out _⟩
    · have HF := hide (spaceB_n2 (rs := rs) (ls := ls) (by omega))
      subst e1
      have e3 : ((n2 : Int) == 64) = false := by simp; omega
      have hn2 : ((n2 : Int) != 64) = true := by simp; omega
      have HB0 := hide hb0
      clear l1 l2 e2 hb0
      go_enter Try.func37, Try.ntmps37
      go_wp2_with fail
      go_ret
      exact ⟨ret_bool HF.out.symm, HB0.out⟩
  · have HF := hide (spaceB_n1 (rs := rs) (ls := ls) (by omega))
    have e3 : ((n1 : Int) == 64) = false := by simp; omega
    have hn1 : ((n1 : Int) != 64) = true := by simp; omega
    have HB0 := hide hb0
    clear l1 l2 e1 hb0
    go_enter Try.func37, Try.ntmps37
    go_wp2_with fail
    go_ret
    exact ⟨ret_bool HF.out.symm, HB0.out⟩

/-- one row, as the reference asks -/
def rowS (i r l : Int) : Bool := inR l 0 900 && inR r 0 l && !(r == 0 && l != 0) && !(!inR i 8 63 && decide (0 < r))
theorem rowS_eq (i r l : Int) (hi : i < 64) : rowS i r l = rowB i r l := by
  unfold rowS rowB inR
  grind

set_option maxHeartbeats 1000000 in
theorem specSpaceOk_any (A1 A2 : Option Addr) (n1 n2 c1 c2 : Nat) (rs ls : List Int) (w : World) (h1 : Rd w 1 A1 n1 (rs.map (Value.int .i64))) (h2 : Rd w 1 A2 n2 (ls.map (Value.int .i64))) :
    Calls Try.prog 35 #[.agg #[.slice A1 n1 c1, .slice A2 n2 c2]] w fun r w' => r = .returned (.bool (spaceB rs ls)) ∧ Below w.heap.size w w' := by
  have l1 : rs.length = n1 := by have := h1.len; simpa using this
  have l2 : ls.length = n2 := by have := h2.len; simpa using this
  have hb0 := bel1 w (.cells #[.slice A1 n1 c1, .slice A2 n2 c2] 35)
  have H1 := hide (h1.after hb0)
  have H2 := hide (h2.after hb0)
  clear h1 h2
  by_cases e1 : n1 = 64
  · by_cases e2 : n2 = 64
    · subst e1 e2
      have L1 := hide l1
      have L2 := hide l2
      have hK := Bk.fresh w 35 #[.slice A1 64 c1, .slice A2 64 c2]
      obtain ⟨q0, q1⟩ := hK.c2
      clear l1 l2 hK
      have HB0 := hide hb0
      clear hb0
      go_enter Try.func35, Try.ntmps35
      go_wp2_with fail
      obtain ⟨W0, HW0⟩ : ∃ W : World, W = w.alloc (.cells #[.slice A1 64 c1, .slice A2 64 c2] 35) := ⟨_, rfl⟩
      rw [← HW0] at q0 q1 H1 H2 HB0 ⊢
      clear HW0
      go_loopw [3] (fun i wr => ∃ k m : Nat, k ≤ 64 ∧ wr = W0.drewN m ∧ Hid (∀ j : Nat, j < k → rowB (j : Int) (rs.getD j 0) (ls.getD j 0) = true) ∧ i = .int .i64 k) (fun i _ => 64 - (intOf i).toNat)
      case atStart => exact ⟨0, 0, by omega, rfl, hide (fun j hj => absurd hj (by omega)), rfl⟩
      case round =>
        obtain ⟨k, m, hk, rfl, HR, rfl⟩ := hrel
        by_cases hlt : k < 64
        · obtain ⟨b, o, x, rfl, hb, hx, hc⟩ := H1.out.int_at hlt
          obtain ⟨b', o', y, rfl, hb', hy, hc'⟩ := H2.out.int_at hlt
          have ER := hide (getD_of hx)
          have EL := hide (getD_of hy)
          have i0 : (0 : Int) ≤ (k : Int) := by omega
          have i1 : (k : Int) < 64 := by omega
          clear hx hy

          cases b1 : inR y 0 900
          · have B1 := hide b1
            have HF := hide (spaceB_no (rs := rs) (ls := ls) hlt (by rw [ER.out, EL.out, ← rowS_eq _ _ _ i1]; unfold rowS; rw [b1]; rfl))
            clear b1
            go_wp2_with fail
            go_quiet ((first | (go_at_call 49; with_reducible exact quiet2 (l6In_v B1.out _))))
            go_wp2_with fail
            go_ret
            exact ⟨ret_bool HF.out.symm, below_drewN (below_drewN HB0.out _) _⟩
          · have B1 := hide b1
            cases b2 : inR x 0 y
            · have B2 := hide b2
              have HF := hide (spaceB_no (rs := rs) (ls := ls) hlt (by rw [ER.out, EL.out, ← rowS_eq _ _ _ i1]; unfold rowS; rw [b1, b2]; rfl))
              clear b1 b2
              go_wp2_with fail
              go_quiet ((first | (go_at_call 49; with_reducible exact quiet2 (l6In_v B1.out _)) | (go_at_call 49; with_reducible exact quiet2 (l6In_v B2.out _))))
              go_wp2_with fail
              go_ret
              exact ⟨ret_bool HF.out.symm, below_drewN (below_drewN HB0.out _) _⟩
            · have B2 := hide b2
              have hx0 := (inR_ge b2).1
              by_cases x0 : x = 0
              · subst x0
                by_cases y0 : y = 0
                · subst y0
                  cases b3 : inR (k : Int) 8 63
                  · have B3 := hide b3
                    have HF := hide (show rowB (k : Int) (rs.getD k 0) (ls.getD k 0) = true by rw [ER.out, EL.out, ← rowS_eq _ _ _ i1]; unfold rowS; rw [b1, b2, b3]; rfl)
                    clear b1 b2 b3 hx0
                    go_wp2_with fail
                    go_quiet ((first | (go_at_call 49; with_reducible exact quiet2 (l6In_v B1.out _)) | (go_at_call 49; with_reducible exact quiet2 (l6In_v B2.out _)) | (go_at_call 48; with_reducible exact quiet2 (l2Row_v B3.out _))))
                    go_wp2_with fail
                    go_roundw
                    case rel => exact ⟨k + 1, m + nq, by omega, rfl, hid_snoc HR HF.out, int_eq (by omega)⟩
                    case measure => simp [intOf]; omega
                  · have B3 := hide b3
                    have HF := hide (show rowB (k : Int) (rs.getD k 0) (ls.getD k 0) = true by rw [ER.out, EL.out, ← rowS_eq _ _ _ i1]; unfold rowS; rw [b1, b2, b3]; rfl)
                    clear b1 b2 b3 hx0
                    go_wp2_with fail
                    go_quiet ((first | (go_at_call 49; with_reducible exact quiet2 (l6In_v B1.out _)) | (go_at_call 49; with_reducible exact quiet2 (l6In_v B2.out _)) | (go_at_call 48; with_reducible exact quiet2 (l2Row_v B3.out _))))
                    go_wp2_with fail
                    go_roundw
                    case rel => exact ⟨k + 1, m + nq, by omega, rfl, hid_snoc HR HF.out, int_eq (by omega)⟩
                    case measure => simp [intOf]; omega
                · have y1 : (y == 0) = false := by simp [y0]
                  have y2 : (y != 0) = true := by simp [y0]
                  have HF := hide (spaceB_no (rs := rs) (ls := ls) hlt (by rw [ER.out, EL.out, ← rowS_eq _ _ _ i1]; unfold rowS; rw [b1, b2, y2]; rfl))
                  clear b1 b2 hx0 y0
                  go_wp2_with fail
                  go_quiet ((first | (go_at_call 49; with_reducible exact quiet2 (l6In_v B1.out _)) | (go_at_call 49; with_reducible exact quiet2 (l6In_v B2.out _))))
                  go_wp2_with fail
                  go_ret
                  exact ⟨ret_bool HF.out.symm, below_drewN (below_drewN HB0.out _) _⟩
              · have x1 : (x == 0) = false := by simp [x0]
                have x2 : 0 < x := by omega
                cases b3 : inR (k : Int) 8 63
                · have B3 := hide b3
                  have HF := hide (spaceB_no (rs := rs) (ls := ls) hlt (by rw [ER.out, EL.out, ← rowS_eq _ _ _ i1]; unfold rowS; rw [b1, b2, x1, b3, decide_eq_true x2]; rfl))
                  clear b1 b2 b3 x0
                  go_wp2_with fail
                  go_quiet ((first | (go_at_call 49; with_reducible exact quiet2 (l6In_v B1.out _)) | (go_at_call 49; with_reducible exact quiet2 (l6In_v B2.out _)) | (go_at_call 48; with_reducible exact quiet2 (l2Row_v B3.out _))))
                  go_wp2_with fail
                  go_ret
                  exact ⟨ret_bool HF.out.symm, below_drewN (below_drewN HB0.out _) _⟩
                · have B3 := hide b3
                  have HF := hide (show rowB (k : Int) (rs.getD k 0) (ls.getD k 0) = true by rw [ER.out, EL.out, ← rowS_eq _ _ _ i1]; unfold rowS; rw [b1, b2, x1, b3]; rfl)
                  clear b1 b2 b3 x0
                  go_wp2_with fail
                  go_quiet ((first | (go_at_call 49; with_reducible exact quiet2 (l6In_v B1.out _)) | (go_at_call 49; with_reducible exact quiet2 (l6In_v B2.out _)) | (go_at_call 48; with_reducible exact quiet2 (l2Row_v B3.out _))))
                  go_wp2_with fail
                  go_roundw
                  case rel => exact ⟨k + 1, m + nq, by omega, rfl, hid_snoc HR HF.out, int_eq (by omega)⟩
                  case measure => simp [intOf]; omega
        · have HF := hide (spaceB_yes L1.out L2.out (fun j hj => HR.out j (by omega)))
          go_wp2_with fail
          go_ret
          exact ⟨ret_bool HF.out.symm, below_drewN HB0.out _⟩
    · have HF := hide (spaceB_n2 (rs := rs) (ls := ls) (by omega))
      subst e1
      have e3 : ((n2 : Int) == 64) = false := by simp; omega
      have hn2 : ((n2 : Int) != 64) = true := by simp; omega
      have HB0 := hide hb0
      clear l1 l2 e2 hb0
      go_enter Try.func35, Try.ntmps35
      go_wp2_with fail
      go_ret
      exact ⟨ret_bool HF.out.symm, HB0.out⟩
  · have HF := hide (spaceB_n1 (rs := rs) (ls := ls) (by omega))
    have e3 : ((n1 : Int) == 64) = false := by simp; omega
    have hn1 : ((n1 : Int) != 64) = true := by simp; omega
    have HB0 := hide hb0
    clear l1 l2 e1 hb0
    go_enter Try.func35, Try.ntmps35
    go_wp2_with fail
    go_ret
    exact ⟨ret_bool HF.out.symm, HB0.out⟩

end Go.Proofs.Ytlflcinlhpjkhaa
