/- DrawStripeCut; the walk of the law FnStripeCut. -/
import Derived.Test.YtjcokbpioiakjaaCutPlain
import Derived.Test.YtjcokbpioiakjaaBlock
import Derived.Test.YtjcokbpioiakjaaWhole
namespace Go.Proofs.Ytjcokbpioiakjaa
open Go.RowKit
set_option linter.unusedVariables false

set_option maxHeartbeats 1000000 in
theorem pfTexts_any (A A' : Option Addr) (n c n' c' : Nat) (zs ys : List ByteArray) (w : World) (h : Rd w 1 A n (zs.map Value.string)) (h' : Rd w 1 A' n' (ys.map Value.string)) (hm : n ≤ maxLen) :
    Calls Try.prog 24 #[.slice A n c, .slice A' n' c'] w fun r w' => r = .returned (.bool (eqT zs ys)) ∧ Below w.heap.size w w' := by
  unfold maxLen at hm
  have hzl : zs.length = n := by have := h.len; simpa using this
  have hyl : ys.length = n' := by have := h'.len; simpa using this
  by_cases hl : n = n'
  · subst hl
    have HL := hide (hzl.trans hyl.symm)
    have HZ := hide hzl
    have H := hide h
    have H' := hide h'
    clear hzl hyl h h'
    go_enter Try.func24, Try.ntmps24
    go_wp2
    go_loopw [5] (fun i wr => ∃ k m : Nat, k ≤ n ∧ wr = w.drewN m ∧ Hid (zs.take k = ys.take k) ∧ i = .int .i64 k) (fun i _ => n - (intOf i).toNat)
    case atStart => exact ⟨0, 0, by omega, rfl, hide rfl, rfl⟩
    case round =>
      obtain ⟨k, m, hk, rfl, HE, rfl⟩ := hrel
      by_cases hlt : k < n
      · obtain ⟨b, o, z, rfl, hb, hz, hc⟩ := H.out.str_at hlt
        obtain ⟨b', o', y, rfl, hb', hy, hc'⟩ := H'.out.str_at hlt
        have HZ := hide hz
        have HY := hide hy
        have i0 : (0 : Int) ≤ (k : Int) := by omega
        have i1 : (k : Int) < (n : Int) := by omega
        clear hz hy
        by_cases he : z = y
        · have hne := beqT_eq he
          have HE1 := hide (take_eq_snoc HZ.out HY.out HE.out he)
          clear he
          go_wp2_with fail
          go_quiet (fail)
          go_wp2
          go_roundw
          case rel => exact ⟨k + 1, m + nq, by omega, rfl, HE1, int_eq (by omega)⟩
          case measure => simp [intOf]; omega
        · have hne := beqT_ne he
          have HF := hide (eqT_at HZ.out HY.out he)
          clear he
          go_wp2_with fail
          go_quiet (fail)
          go_wp2
          go_ret
          exact ⟨ret_bool HF.out.symm, below_drewN (below_drewN (Below.refl _ _) _) _⟩
      · have HF := hide (eqT_all HL.out (by have e : k = zs.length := by have := HZ.out; omega
                                            rw [e] at HE; exact HE.out))
        go_wp2
        go_ret
        exact ⟨ret_bool HF.out.symm, below_drewN (Below.refl _ _) _⟩
  · have HF := hide (eqT_len (zs := zs) (ys := ys) (by omega))
    have hn : ((n : Int) == (n' : Int)) = false := by simp; omega
    clear hzl hyl h h'
    go_enter Try.func24, Try.ntmps24
    go_wp2
    all_goals (first | (go_ret; exact ⟨ret_bool HF.out.symm, Below.refl _ _⟩) | (exfalso; simp_all))
theorem pfTexts_v {A A' : Option Addr} {n c n' c' : Nat} {zs ys : List ByteArray} {v : Bool} (hv : eqT zs ys = v) (w : World) (h : Rd w 1 A n (zs.map Value.string)) (h' : Rd w 1 A' n' (ys.map Value.string)) (hm : n ≤ maxLen) :
    Calls Try.prog 24 #[.slice A n c, .slice A' n' c'] w fun r w' => r = .returned (.bool v) ∧ Below w.heap.size w w' := hv ▸ pfTexts_any A A' n c n' c' zs ys w h h' hm
theorem whole_cut (s : ByteArray) (h : inR s.size 1 128 = true) : wholeB (cutT s) s.size = true := by
  have e := cut_join s (-1) h (.inl rfl)
  unfold joinV at e
  by_cases hj : joinOk (cutT s) s.size (-1) = true
  · rw [if_pos hj] at e
    have e2 : joinT (cutT s) s.size (-1) = s := by
      injection e with e
      have := congrArg (fun a => a[0]?) e
      simpa using this
    unfold wholeB
    rw [hj, e2, eqT_same]
    rfl
  · rw [if_neg hj] at e
    injection e with e
    have := congrArg (fun a => a[1]?) e
    simp at this
theorem implWhole_v {P : Option Addr} {n c : Nat} {zs : List ByteArray} {size : Int} {v : Bool} (hv : wholeB zs size = v) (w : World) (h : Rd w 1 P n (zs.map Value.string)) (hz : ∀ z ∈ zs, z.size ≤ 1000000000) (hn : n ≤ maxLen) :
    Calls Try.prog 19 #[.slice P n c, .int .i64 size] w fun r w' => r = .returned (.bool v) ∧ Below w.heap.size w w' := hv ▸ implStripeWhole_any P n c zs size w h hz hn

set_option maxHeartbeats 400000 in
theorem drawStripeCut_any (A : Option Addr) (n c : Nat) (zs : List Int) (w : World) (h : U8s w A n c zs) :
    Calls Try.prog 21 #[.slice A n c] w (DrawnS 129 w) := by
  go_enter Try.func21, Try.ntmps21
  go_wp2_with fail
  refine (l6Open_any _ _ _ _ _ h).mono ?_; rintro r w1 ⟨rfl, hr, hb⟩
  go_wp2_with fail
  refine (l91Block_any _ 0 _ hr (by omega)).mono ?_; rintro r w2 ⟨s, q, rfl, hl, _, _, hf⟩
  go_wp2_with fail
  go_ret
  exact ⟨_, rfl, hl, fr_new hb (Nat.le_refl _) hf⟩
theorem cutT_len (s : ByteArray) : (cutT s).length = 3 := rfl
/-- the columns of a block of the size, as plain parts -/
theorem cut_three (s : ByteArray) (h : inR s.size 1 128 = true) : ∃ x y z : ByteArray, cutT s = [x, y, z] ∧ x.size = z.size ∧ y.size ≤ x.size ∧ x.size ≤ y.size + 1 ∧ x.size ≤ 128 := by
  obtain ⟨x, y, e, hs, hx, hy, hz, _, _⟩ := cut_parts s
  simp only [inR, Bool.and_eq_true, decide_eq_true_eq] at h
  exact ⟨x, y, parT s, e, by omega, by omega, by omega, by omega⟩

set_option maxHeartbeats 4000000 in
theorem fnStripeCut_walk (A1 : Option Addr) (n1 c1 : Nat) (z1 : List Int) (w : World) (h1 : U8s w A1 n1 c1 z1) :
    Calls Try.prog 7 #[.slice A1 n1 c1] w fun r w' => r = .returned (.bool true) ∧ Below w.heap.size w w' := by
  have m1 : n1 ≤ maxLen := Nat.le_trans h1.1 h1.2.1
  have H1 := hide h1
  clear h1
  unfold maxLen at m1
  by_cases g1 : (1048576 : Int) < (n1 : Int)
  · go_enter Try.func7, Try.ntmps7
    go_wp2_with fail
    go_ret
    exact ⟨rfl, Below.refl _ _⟩
  · go_enter Try.func7, Try.ntmps7
    go_wp2_with fail
    refine (drawStripeCut_any _ _ _ _ _ H1.out).mono ?_; rintro r w1 ⟨s, rfl, hs, hb1⟩
    have HB := hide hb1
    clear hb1 H1
    cases hk : inR s.size 1 128
    · have HK := hide hk
      clear hk
      go_wp2_with fail
      refine (implStripeCut_no s HK.out _).mono ?_; rintro r w2 ⟨rfl, rfl⟩
      go_wp2_with fail
      refine (specStripeCut_no s HK.out _).mono ?_; rintro r w2 ⟨rfl, hb2⟩
      have HB := hide (HB.out.trans (hb2.mono HB.out.size))
      clear hb2
      go_wp2_with fail
      refine (pfTexts_v (eqT_same []) _ (Rd.nil _ _ _) (Rd.nil _ _ _) (by simp [maxLen])).mono ?_; rintro r w3 ⟨rfl, hb3⟩
      go_wp2_with fail
      go_ret
      exact ⟨rfl, HB.out.trans (hb3.mono HB.out.size)⟩
    · have HK := hide hk
      clear hk
      go_wp2_with fail
      refine (implStripeCut_ok s HK.out _).mono ?_; rintro r w2 ⟨_, rfl, g0, rfl, hg0, hB0, hb2⟩
      have H0 := hide hB0
      have HB := hide (HB.out.trans (hb2.mono HB.out.size))
      clear hB0 hb2
      go_wp2_with fail
      refine (specStripeCut_ok s HK.out _).mono ?_; rintro r w3 ⟨_, rfl, g1, rfl, hg1, hB1, hb3⟩
      have H0 := hide (H0.out.after hb3)
      have HB := hide (HB.out.trans (hb3.mono HB.out.size))
      have K1 := hide hB1
      clear hB1 hb3
      go_wp2_with fail
      refine (pfTexts_v (eqT_same _) _ H0.out.rdT K1.out.rdT (by simp [maxLen, cutT])).mono ?_; rintro r w4 ⟨rfl, hb4⟩
      have H0 := hide (H0.out.after hb4)
      have HB := hide (HB.out.trans (hb4.mono HB.out.size))
      clear hb4 K1
      obtain ⟨x, y, z, e3, e4, e5, e6, e7⟩ := cut_three s HK.out
      have J := hide (fun l hl => cut_join s l HK.out hl)
      have WH := hide (whole_cut s HK.out)
      have HM := hide (show ∀ u ∈ cutT s, u.size ≤ 1000000000 by
        rw [e3]; intro u hu
        simp only [List.mem_cons, List.not_mem_nil, or_false] at hu
        rcases hu with rfl | rfl | rfl <;> omega)
      rw [cutT_len] at *
      rw [e3] at H0 J WH HM
      clear e3
      have E4 := hide e4
      clear e4
      have hs2 : (s.size : Int) ≤ 129 := by omega
      have hne := beqT_eq (rfl : s = s)
      go_wp2_with fail
      go_loopw [9] (fun i wr => ∃ l : Int, -1 ≤ l ∧ l ≤ 2 ∧ Hid (Bk wr g0 9 ([x, y, z].map Value.string).toArray) ∧ Hid (Below w.heap.size w wr) ∧ i = .int .i64 l) (fun i _ => (2 - intOf i).toNat)
      case atStart => exact ⟨-1, by omega, by omega, H0, HB, rfl⟩
      case round =>
        obtain ⟨l, hl1, hl2, H0, HB, rfl⟩ := hrel
        by_cases hlt : l ≤ 1
        · go_wp2_with fail
          refine (implJoin_v (J.out l (by omega)) _ H0.out.rdT HM.out).mono ?_; rintro r w5 ⟨rfl, hb5⟩
          have H0 := hide (H0.out.after hb5)
          have HB := hide (HB.out.trans (hb5.mono HB.out.size))
          clear hb5
          go_wp2_with fail
          go_roundw
          case rel => exact ⟨l + 1, by omega, by omega, H0, HB, rfl⟩
          case measure => simp [intOf]; omega
        · go_wp2_with fail
          obtain ⟨d, hd⟩ : ∃ d : Nat, d = x.size - y.size := ⟨_, rfl⟩
          have q1 : ((x.size : Int) == (z.size : Int)) = true := by rw [E4.out]; exact beq_self_eq_true _
          have q2 : (x.size : Int) - (y.size : Int) = (d : Int) := by omega
          have q3 : IntKind.i64.wrap ((x.size : Int) - (y.size : Int)) = (d : Int) := by rw [IntKind.wrap_i64]; omega
          have q4 : IntKind.i64.wrap (d : Int) = (d : Int) := by rw [IntKind.wrap_i64]; omega
          have q5 : (d : Int) ≤ 1 := by omega
          clear hd
          refine wp_region_held_drew (S := fun x => Below wr.heap.size wr x) (by kernel_rfl) ((Below.refl _ _).drew) (fun hH => ?_)
          refine wpAnyH_take (i := 0) (v := ?_) rfl (by kernel_rfl) (by kernel_rfl) (by kernel_rfl) (fun _ _ _ h => h) (Or.inl ⟨by rfl, fun w hS => ?_⟩) hH ?_
          rotate_left
          · have c0 := (hS.cell (p := ⟨g0, 0, none⟩) H0.out.lt).trans (H0.out.cell 0); have c1 := (hS.cell (p := ⟨g0, 1, none⟩) H0.out.lt).trans (H0.out.cell 1); have c2 := (hS.cell (p := ⟨g0, 2, none⟩) H0.out.lt).trans (H0.out.cell 2); go_simp; try exact rfl
          simp only [Act.put, List.setIfInBounds_toArray, List.set_cons_zero, List.set_cons_succ, List.getElem_toArray, List.getElem_cons_zero]
          refine wpAnyH_take (i := 1) (v := ?_) rfl (by kernel_rfl) (by kernel_rfl) (by kernel_rfl) (fun _ _ _ h => h) (Or.inl ⟨by rfl, fun w hS => ?_⟩) hH ?_
          rotate_left
          · have c0 := (hS.cell (p := ⟨g0, 0, none⟩) H0.out.lt).trans (H0.out.cell 0); have c1 := (hS.cell (p := ⟨g0, 1, none⟩) H0.out.lt).trans (H0.out.cell 1); have c2 := (hS.cell (p := ⟨g0, 2, none⟩) H0.out.lt).trans (H0.out.cell 2); go_simp; try exact rfl
          simp only [Act.put, List.setIfInBounds_toArray, List.set_cons_zero, List.set_cons_succ, List.getElem_toArray, List.getElem_cons_zero, List.getElem_cons_succ]
          refine wpAnyH_take (i := 2) (v := ?_) rfl (by kernel_rfl) (by kernel_rfl) (by kernel_rfl) (fun _ _ _ h => h) (Or.inl ⟨by rfl, fun w hS => ?_⟩) hH ?_
          rotate_left
          · have c0 := (hS.cell (p := ⟨g0, 0, none⟩) H0.out.lt).trans (H0.out.cell 0); have c1 := (hS.cell (p := ⟨g0, 1, none⟩) H0.out.lt).trans (H0.out.cell 1); have c2 := (hS.cell (p := ⟨g0, 2, none⟩) H0.out.lt).trans (H0.out.cell 2); go_simp; try exact rfl
          simp only [Act.put, List.setIfInBounds_toArray, List.set_cons_zero, List.set_cons_succ, List.getElem_toArray, List.getElem_cons_zero, List.getElem_cons_succ]
          refine wpAnyH_ready (rs := [3]) (by kernel_rfl) (by simp) (AllReadyH.cons rfl (fun K hK => ?_) AllReadyH.nil)
          go_simp
          go_at_call 19
          refine (implWhole_v WH.out wr.drew (n := 3) (show Rd wr.drew 1 (some ⟨g0, 0, none⟩) 3 _ from Bk.rdT (zs := [x, y, z]) (H0.out.drewN 1)) HM.out (by decide)).mono ?_; rintro r w5 ⟨rfl, hb5⟩
          refine hK.out _ _ (hH.trans (hb5.mono hH.size)) (fun hH5 => ?_)
          clear hK K
          try simp only [Act.put, List.setIfInBounds_toArray, List.set_cons_zero, List.set_cons_succ]
          refine wpAnyH_take (i := 4) (v := ?_) rfl (by kernel_rfl) (by kernel_rfl) (by kernel_rfl) (fun _ _ _ h => h) (Or.inl ⟨by rfl, fun w hS => ?_⟩) hH5 ?_
          rotate_left
          · have c0 := (hS.cell (p := ⟨g0, 0, none⟩) H0.out.lt).trans (H0.out.cell 0); have c1 := (hS.cell (p := ⟨g0, 1, none⟩) H0.out.lt).trans (H0.out.cell 1); have c2 := (hS.cell (p := ⟨g0, 2, none⟩) H0.out.lt).trans (H0.out.cell 2); go_simp; try exact rfl
          simp only [Act.put, List.setIfInBounds_toArray, List.set_cons_zero, List.set_cons_succ, List.getElem_toArray, List.getElem_cons_zero, List.getElem_cons_succ]
          refine wpAnyH_take (i := 5) (v := ?_) rfl (by kernel_rfl) (by kernel_rfl) (by kernel_rfl) (fun _ _ _ h => h) (Or.inl ⟨by rfl, fun w hS => ?_⟩) hH5 ?_
          rotate_left
          · have c0 := (hS.cell (p := ⟨g0, 0, none⟩) H0.out.lt).trans (H0.out.cell 0); have c1 := (hS.cell (p := ⟨g0, 1, none⟩) H0.out.lt).trans (H0.out.cell 1); have c2 := (hS.cell (p := ⟨g0, 2, none⟩) H0.out.lt).trans (H0.out.cell 2); go_simp; try exact rfl
          simp only [Act.put, List.setIfInBounds_toArray, List.set_cons_zero, List.set_cons_succ, List.getElem_toArray, List.getElem_cons_zero, List.getElem_cons_succ]
          refine wpAnyH_take (i := 6) (v := ?_) rfl (by kernel_rfl) (by kernel_rfl) (by kernel_rfl) (fun _ _ _ h => h) (Or.inl ⟨by rfl, fun w hS => ?_⟩) hH5 ?_
          rotate_left
          · have c0 := (hS.cell (p := ⟨g0, 0, none⟩) H0.out.lt).trans (H0.out.cell 0); have c1 := (hS.cell (p := ⟨g0, 1, none⟩) H0.out.lt).trans (H0.out.cell 1); have c2 := (hS.cell (p := ⟨g0, 2, none⟩) H0.out.lt).trans (H0.out.cell 2); go_simp; try exact rfl
          simp only [Act.put, List.setIfInBounds_toArray, List.set_cons_zero, List.set_cons_succ, List.getElem_toArray, List.getElem_cons_zero, List.getElem_cons_succ]
          refine wpAnyH_take (i := 7) (v := ?_) rfl (by kernel_rfl) (by kernel_rfl) (by kernel_rfl) (fun _ _ _ h => h) (Or.inl ⟨by rfl, fun w hS => ?_⟩) hH5 ?_
          rotate_left
          · have c0 := (hS.cell (p := ⟨g0, 0, none⟩) H0.out.lt).trans (H0.out.cell 0); have c1 := (hS.cell (p := ⟨g0, 1, none⟩) H0.out.lt).trans (H0.out.cell 1); have c2 := (hS.cell (p := ⟨g0, 2, none⟩) H0.out.lt).trans (H0.out.cell 2); go_simp; try exact rfl
          simp only [Act.put, List.setIfInBounds_toArray, List.set_cons_zero, List.set_cons_succ, List.getElem_toArray, List.getElem_cons_zero, List.getElem_cons_succ]
          refine wpAnyH_take (i := 8) (v := ?_) rfl (by kernel_rfl) (by kernel_rfl) (by kernel_rfl) (fun _ _ _ h => h) (Or.inl ⟨by rfl, fun w hS => ?_⟩) hH5 ?_
          rotate_left
          · have c0 := (hS.cell (p := ⟨g0, 0, none⟩) H0.out.lt).trans (H0.out.cell 0); have c1 := (hS.cell (p := ⟨g0, 1, none⟩) H0.out.lt).trans (H0.out.cell 1); have c2 := (hS.cell (p := ⟨g0, 2, none⟩) H0.out.lt).trans (H0.out.cell 2); go_simp; try exact rfl
          simp only [Act.put, List.setIfInBounds_toArray, List.set_cons_zero, List.set_cons_succ, List.getElem_toArray, List.getElem_cons_zero, List.getElem_cons_succ]
          refine wpAnyH_take (i := 9) (v := ?_) rfl (by kernel_rfl) (by kernel_rfl) (by kernel_rfl) (fun _ _ _ h => h) (Or.inl ⟨by rfl, fun w hS => ?_⟩) hH5 ?_
          rotate_left
          · have c0 := (hS.cell (p := ⟨g0, 0, none⟩) H0.out.lt).trans (H0.out.cell 0); have c1 := (hS.cell (p := ⟨g0, 1, none⟩) H0.out.lt).trans (H0.out.cell 1); have c2 := (hS.cell (p := ⟨g0, 2, none⟩) H0.out.lt).trans (H0.out.cell 2); go_simp; try exact rfl
          simp only [Act.put, List.setIfInBounds_toArray, List.set_cons_zero, List.set_cons_succ, List.getElem_toArray, List.getElem_cons_zero, List.getElem_cons_succ]
          refine wpAnyH_take (i := 10) (v := ?_) rfl (by kernel_rfl) (by kernel_rfl) (by kernel_rfl) (fun _ _ _ h => h) (Or.inl ⟨by rfl, fun w hS => ?_⟩) hH5 ?_
          rotate_left
          · have c0 := (hS.cell (p := ⟨g0, 0, none⟩) H0.out.lt).trans (H0.out.cell 0); have c1 := (hS.cell (p := ⟨g0, 1, none⟩) H0.out.lt).trans (H0.out.cell 1); have c2 := (hS.cell (p := ⟨g0, 2, none⟩) H0.out.lt).trans (H0.out.cell 2); go_simp; try exact rfl
          simp only [Act.put, List.setIfInBounds_toArray, List.set_cons_zero, List.set_cons_succ, List.getElem_toArray, List.getElem_cons_zero, List.getElem_cons_succ]
          refine wpAnyH_take (i := 11) (v := ?_) rfl (by kernel_rfl) (by kernel_rfl) (by kernel_rfl) (fun _ _ _ h => h) (Or.inl ⟨by rfl, fun w hS => ?_⟩) hH5 ?_
          rotate_left
          · have c0 := (hS.cell (p := ⟨g0, 0, none⟩) H0.out.lt).trans (H0.out.cell 0); have c1 := (hS.cell (p := ⟨g0, 1, none⟩) H0.out.lt).trans (H0.out.cell 1); have c2 := (hS.cell (p := ⟨g0, 2, none⟩) H0.out.lt).trans (H0.out.cell 2); go_simp; try exact rfl
          simp only [Act.put, List.setIfInBounds_toArray, List.set_cons_zero, List.set_cons_succ, List.getElem_toArray, List.getElem_cons_zero, List.getElem_cons_succ]
          refine wpAnyH_take (i := 12) (v := ?_) rfl (by kernel_rfl) (by kernel_rfl) (by kernel_rfl) (fun _ _ _ h => h) (Or.inl ⟨by rfl, fun w hS => ?_⟩) hH5 ?_
          rotate_left
          · have c0 := (hS.cell (p := ⟨g0, 0, none⟩) H0.out.lt).trans (H0.out.cell 0); have c1 := (hS.cell (p := ⟨g0, 1, none⟩) H0.out.lt).trans (H0.out.cell 1); have c2 := (hS.cell (p := ⟨g0, 2, none⟩) H0.out.lt).trans (H0.out.cell 2); go_simp; try exact rfl
          simp only [Act.put, List.setIfInBounds_toArray, List.set_cons_zero, List.set_cons_succ, List.getElem_toArray, List.getElem_cons_zero, List.getElem_cons_succ]
          refine wpAnyH_take (i := 13) (v := ?_) rfl (by kernel_rfl) (by kernel_rfl) (by kernel_rfl) (fun _ _ _ h => h) (Or.inl ⟨by rfl, fun w hS => ?_⟩) hH5 ?_
          rotate_left
          · have c0 := (hS.cell (p := ⟨g0, 0, none⟩) H0.out.lt).trans (H0.out.cell 0); have c1 := (hS.cell (p := ⟨g0, 1, none⟩) H0.out.lt).trans (H0.out.cell 1); have c2 := (hS.cell (p := ⟨g0, 2, none⟩) H0.out.lt).trans (H0.out.cell 2); go_simp; try exact rfl
          simp only [Act.put, List.setIfInBounds_toArray, List.set_cons_zero, List.set_cons_succ, List.getElem_toArray, List.getElem_cons_zero, List.getElem_cons_succ]
          refine wpAnyH_take (i := 14) (v := ?_) rfl (by kernel_rfl) (by kernel_rfl) (by kernel_rfl) (fun _ _ _ h => h) (Or.inl ⟨by rfl, fun w hS => ?_⟩) hH5 ?_
          rotate_left
          · have c0 := (hS.cell (p := ⟨g0, 0, none⟩) H0.out.lt).trans (H0.out.cell 0); have c1 := (hS.cell (p := ⟨g0, 1, none⟩) H0.out.lt).trans (H0.out.cell 1); have c2 := (hS.cell (p := ⟨g0, 2, none⟩) H0.out.lt).trans (H0.out.cell 2); go_simp; try exact rfl
          simp only [Act.put, List.setIfInBounds_toArray, List.set_cons_zero, List.set_cons_succ, List.getElem_toArray, List.getElem_cons_zero, List.getElem_cons_succ]
          refine wpAnyH_take (i := 15) (v := ?_) rfl (by kernel_rfl) (by kernel_rfl) (by kernel_rfl) (fun _ _ _ h => h) (Or.inl ⟨by rfl, fun w hS => ?_⟩) hH5 ?_
          rotate_left
          · have c0 := (hS.cell (p := ⟨g0, 0, none⟩) H0.out.lt).trans (H0.out.cell 0); have c1 := (hS.cell (p := ⟨g0, 1, none⟩) H0.out.lt).trans (H0.out.cell 1); have c2 := (hS.cell (p := ⟨g0, 2, none⟩) H0.out.lt).trans (H0.out.cell 2); go_simp; try exact rfl
          simp only [Act.put, List.setIfInBounds_toArray, List.set_cons_zero, List.set_cons_succ, List.getElem_toArray, List.getElem_cons_zero, List.getElem_cons_succ]
          refine wpAnyH_take (i := 16) (v := ?_) rfl (by kernel_rfl) (by kernel_rfl) (by kernel_rfl) (fun _ _ _ h => h) (Or.inl ⟨by rfl, fun w hS => ?_⟩) hH5 ?_
          rotate_left
          · have c0 := (hS.cell (p := ⟨g0, 0, none⟩) H0.out.lt).trans (H0.out.cell 0); have c1 := (hS.cell (p := ⟨g0, 1, none⟩) H0.out.lt).trans (H0.out.cell 1); have c2 := (hS.cell (p := ⟨g0, 2, none⟩) H0.out.lt).trans (H0.out.cell 2); go_simp; try exact rfl
          simp only [Act.put, List.setIfInBounds_toArray, List.set_cons_zero, List.set_cons_succ, List.getElem_toArray, List.getElem_cons_zero, List.getElem_cons_succ]
          refine wpAnyH_take (i := 17) (v := ?_) rfl (by kernel_rfl) (by kernel_rfl) (by kernel_rfl) (fun _ _ _ h => h) (Or.inl ⟨by rfl, fun w hS => ?_⟩) hH5 ?_
          rotate_left
          · have c0 := (hS.cell (p := ⟨g0, 0, none⟩) H0.out.lt).trans (H0.out.cell 0); have c1 := (hS.cell (p := ⟨g0, 1, none⟩) H0.out.lt).trans (H0.out.cell 1); have c2 := (hS.cell (p := ⟨g0, 2, none⟩) H0.out.lt).trans (H0.out.cell 2); go_simp; try exact rfl
          simp only [Act.put, List.setIfInBounds_toArray, List.set_cons_zero, List.set_cons_succ, List.getElem_toArray, List.getElem_cons_zero, List.getElem_cons_succ]
          refine wpAnyH_take (i := 18) (v := ?_) rfl (by kernel_rfl) (by kernel_rfl) (by kernel_rfl) (fun _ _ _ h => h) (Or.inl ⟨by rfl, fun w hS => ?_⟩) hH5 ?_
          rotate_left
          · have c0 := (hS.cell (p := ⟨g0, 0, none⟩) H0.out.lt).trans (H0.out.cell 0); have c1 := (hS.cell (p := ⟨g0, 1, none⟩) H0.out.lt).trans (H0.out.cell 1); have c2 := (hS.cell (p := ⟨g0, 2, none⟩) H0.out.lt).trans (H0.out.cell 2); go_simp; try exact rfl
          simp only [Act.put, List.setIfInBounds_toArray, List.set_cons_zero, List.set_cons_succ, List.getElem_toArray, List.getElem_cons_zero, List.getElem_cons_succ]
          refine wpAnyH_take (i := 19) (v := ?_) rfl (by kernel_rfl) (by kernel_rfl) (by kernel_rfl) (fun _ _ _ h => h) (Or.inl ⟨by rfl, fun w hS => ?_⟩) hH5 ?_
          rotate_left
          · have c0 := (hS.cell (p := ⟨g0, 0, none⟩) H0.out.lt).trans (H0.out.cell 0); have c1 := (hS.cell (p := ⟨g0, 1, none⟩) H0.out.lt).trans (H0.out.cell 1); have c2 := (hS.cell (p := ⟨g0, 2, none⟩) H0.out.lt).trans (H0.out.cell 2); go_simp; try exact rfl
          simp only [Act.put, List.setIfInBounds_toArray, List.set_cons_zero, List.set_cons_succ, List.getElem_toArray, List.getElem_cons_zero, List.getElem_cons_succ]
          refine wpAnyH_take (i := 20) (v := ?_) rfl (by kernel_rfl) (by kernel_rfl) (by kernel_rfl) (fun _ _ _ h => h) (Or.inl ⟨by rfl, fun w hS => ?_⟩) hH5 ?_
          rotate_left
          · have c0 := (hS.cell (p := ⟨g0, 0, none⟩) H0.out.lt).trans (H0.out.cell 0); have c1 := (hS.cell (p := ⟨g0, 1, none⟩) H0.out.lt).trans (H0.out.cell 1); have c2 := (hS.cell (p := ⟨g0, 2, none⟩) H0.out.lt).trans (H0.out.cell 2); go_simp; try exact rfl
          simp only [Act.put, List.setIfInBounds_toArray, List.set_cons_zero, List.set_cons_succ, List.getElem_toArray, List.getElem_cons_zero, List.getElem_cons_succ]
          refine wpAnyH_take (i := 21) (v := ?_) rfl (by kernel_rfl) (by kernel_rfl) (by kernel_rfl) (fun _ _ _ h => h) (Or.inl ⟨by rfl, fun w hS => ?_⟩) hH5 ?_
          rotate_left
          · have c0 := (hS.cell (p := ⟨g0, 0, none⟩) H0.out.lt).trans (H0.out.cell 0); have c1 := (hS.cell (p := ⟨g0, 1, none⟩) H0.out.lt).trans (H0.out.cell 1); have c2 := (hS.cell (p := ⟨g0, 2, none⟩) H0.out.lt).trans (H0.out.cell 2); go_simp; try exact rfl
          simp only [Act.put, List.setIfInBounds_toArray, List.set_cons_zero, List.set_cons_succ, List.getElem_toArray, List.getElem_cons_zero, List.getElem_cons_succ]
          refine wpAnyH_take (i := 22) (v := ?_) rfl (by kernel_rfl) (by kernel_rfl) (by kernel_rfl) (fun _ _ _ h => h) (Or.inl ⟨by rfl, fun w hS => ?_⟩) hH5 ?_
          rotate_left
          · have c0 := (hS.cell (p := ⟨g0, 0, none⟩) H0.out.lt).trans (H0.out.cell 0); have c1 := (hS.cell (p := ⟨g0, 1, none⟩) H0.out.lt).trans (H0.out.cell 1); have c2 := (hS.cell (p := ⟨g0, 2, none⟩) H0.out.lt).trans (H0.out.cell 2); go_simp; try exact rfl
          simp only [Act.put, List.setIfInBounds_toArray, List.set_cons_zero, List.set_cons_succ, List.getElem_toArray, List.getElem_cons_zero, List.getElem_cons_succ]
          refine wpAnyH_take (i := 23) (v := ?_) rfl (by kernel_rfl) (by kernel_rfl) (by kernel_rfl) (fun _ _ _ h => h) (Or.inl ⟨by rfl, fun w hS => ?_⟩) hH5 ?_
          rotate_left
          · have c0 := (hS.cell (p := ⟨g0, 0, none⟩) H0.out.lt).trans (H0.out.cell 0); have c1 := (hS.cell (p := ⟨g0, 1, none⟩) H0.out.lt).trans (H0.out.cell 1); have c2 := (hS.cell (p := ⟨g0, 2, none⟩) H0.out.lt).trans (H0.out.cell 2); go_simp; try exact rfl
          simp only [Act.put, List.setIfInBounds_toArray, List.set_cons_zero, List.set_cons_succ, List.getElem_toArray, List.getElem_cons_zero, List.getElem_cons_succ]
          refine wpAnyH_take (i := 24) (v := ?_) rfl (by kernel_rfl) (by kernel_rfl) (by kernel_rfl) (fun _ _ _ h => h) (Or.inl ⟨by rfl, fun w hS => ?_⟩) hH5 ?_
          rotate_left
          · have c0 := (hS.cell (p := ⟨g0, 0, none⟩) H0.out.lt).trans (H0.out.cell 0); have c1 := (hS.cell (p := ⟨g0, 1, none⟩) H0.out.lt).trans (H0.out.cell 1); have c2 := (hS.cell (p := ⟨g0, 2, none⟩) H0.out.lt).trans (H0.out.cell 2); go_simp; try exact rfl
          simp only [Act.put, List.setIfInBounds_toArray, List.set_cons_zero, List.set_cons_succ, List.getElem_toArray, List.getElem_cons_zero, List.getElem_cons_succ]
          refine wpAnyH_take (i := 25) (v := ?_) rfl (by kernel_rfl) (by kernel_rfl) (by kernel_rfl) (fun _ _ _ h => h) (Or.inl ⟨by rfl, fun w hS => ?_⟩) hH5 ?_
          rotate_left
          · have c0 := (hS.cell (p := ⟨g0, 0, none⟩) H0.out.lt).trans (H0.out.cell 0); have c1 := (hS.cell (p := ⟨g0, 1, none⟩) H0.out.lt).trans (H0.out.cell 1); have c2 := (hS.cell (p := ⟨g0, 2, none⟩) H0.out.lt).trans (H0.out.cell 2); go_simp; try exact rfl
          simp only [Act.put, List.setIfInBounds_toArray, List.set_cons_zero, List.set_cons_succ, List.getElem_toArray, List.getElem_cons_zero, List.getElem_cons_succ]
          refine wpAnyH_take (i := 26) (v := ?_) rfl (by kernel_rfl) (by kernel_rfl) (by kernel_rfl) (fun _ _ _ h => h) (Or.inl ⟨by rfl, fun w hS => ?_⟩) hH5 ?_
          rotate_left
          · have c0 := (hS.cell (p := ⟨g0, 0, none⟩) H0.out.lt).trans (H0.out.cell 0); have c1 := (hS.cell (p := ⟨g0, 1, none⟩) H0.out.lt).trans (H0.out.cell 1); have c2 := (hS.cell (p := ⟨g0, 2, none⟩) H0.out.lt).trans (H0.out.cell 2); go_simp; try exact rfl
          simp only [Act.put, List.setIfInBounds_toArray, List.set_cons_zero, List.set_cons_succ, List.getElem_toArray, List.getElem_cons_zero, List.getElem_cons_succ]
          refine wpAnyH_take (i := 27) (v := ?_) rfl (by kernel_rfl) (by kernel_rfl) (by kernel_rfl) (fun _ _ _ h => h) (Or.inl ⟨by rfl, fun w hS => ?_⟩) hH5 ?_
          rotate_left
          · have c0 := (hS.cell (p := ⟨g0, 0, none⟩) H0.out.lt).trans (H0.out.cell 0); have c1 := (hS.cell (p := ⟨g0, 1, none⟩) H0.out.lt).trans (H0.out.cell 1); have c2 := (hS.cell (p := ⟨g0, 2, none⟩) H0.out.lt).trans (H0.out.cell 2); go_simp; try exact rfl
          simp only [Act.put, List.setIfInBounds_toArray, List.set_cons_zero, List.set_cons_succ, List.getElem_toArray, List.getElem_cons_zero, List.getElem_cons_succ]
          refine wpAnyH_done (by kernel_rfl) ?_ _
          go_wp2_with fail
          go_ret
          exact ⟨rfl, HB.out.trans (hH5.mono HB.out.size)⟩
end Go.Proofs.Ytjcokbpioiakjaa
