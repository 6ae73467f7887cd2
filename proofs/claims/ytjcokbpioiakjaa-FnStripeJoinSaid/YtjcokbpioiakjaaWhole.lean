/- StripeWhole of the program and of the reference; the walk of the law FnExactStripeWhole. -/
import Derived.Test.YtjcokbpioiakjaaJoinLaw
namespace Go.Proofs.Ytjcokbpioiakjaa
open Go.RowKit
set_option linter.unusedVariables false

set_option maxHeartbeats 1000000 in
theorem slicesEqual_any (A A' : Option Addr) (n c n' c' : Nat) (zs ys : List ByteArray) (w : World) (h : Rd w 1 A n (zs.map Value.string)) (h' : Rd w 1 A' n' (ys.map Value.string)) (hm : n ≤ maxLen) :
    Calls Try.prog 39 #[.slice A n c, .slice A' n' c'] w fun r w' => r = .returned (.bool (eqT zs ys)) ∧ Below w.heap.size w w' := by
  unfold maxLen at hm
  have hzl : zs.length = n := by have := h.len; simpa using this
  have hyl : ys.length = n' := by have := h'.len; simpa using this
  by_cases hl : n = n'
  · subst hl
    have HL := hide (hzl.trans hyl.symm)
    have HZ := hide hzl
    have H := hide h
    have H' := hide h'
    clear hzl hyl h h'
    go_enter Try.func39, Try.ntmps39
    go_wp2
    go_loopw [13] (fun i wr => ∃ k m : Nat, k ≤ n ∧ wr = w.drewN m ∧ Hid (zs.take k = ys.take k) ∧ i = .int .i64 k) (fun i _ => n - (intOf i).toNat)
    case atStart => exact ⟨0, 0, by omega, rfl, hide rfl, rfl⟩
    case round =>
      obtain ⟨k, m, hk, rfl, HE, rfl⟩ := hrel
      by_cases hlt : k < n
      · obtain ⟨b, o, z, rfl, hb, hz, hc⟩ := H.out.str_at hlt
        obtain ⟨b', o', y, rfl, hb', hy, hc'⟩ := H'.out.str_at hlt
        have HZ := hide hz
        have HY := hide hy
        have i0 : (0 : Int) ≤ (k : Int) := by omega
        have i1 : (k : Int) < (n : Int) := by omega
        clear hz hy
        by_cases he : z = y
        · have hne := beqT_eq he
          have HE1 := hide (take_eq_snoc HZ.out HY.out HE.out he)
          clear he
          go_wp2_with fail
          go_quiet (fail)
          go_wp2
          go_roundw
          case rel => exact ⟨k + 1, m + nq, by omega, rfl, HE1, int_eq (by omega)⟩
          case measure => simp [intOf]; omega
        · have hne := beqT_ne he
          have HF := hide (eqT_at HZ.out HY.out he)
          clear he
          go_wp2_with fail
          go_quiet (fail)
          go_wp2
          go_ret
          exact ⟨ret_bool HF.out.symm, below_drewN (below_drewN (Below.refl _ _) _) _⟩
      · have HF := hide (eqT_all HL.out (by have e : k = zs.length := by have := HZ.out; omega
                                            rw [e] at HE; exact HE.out))
        go_wp2
        go_ret
        exact ⟨ret_bool HF.out.symm, below_drewN (Below.refl _ _) _⟩
  · have HF := hide (eqT_len (zs := zs) (ys := ys) (by omega))
    have hn : ((n : Int) == (n' : Int)) = false := by simp; omega
    clear hzl hyl h h'
    go_enter Try.func39, Try.ntmps39
    go_wp2
    all_goals (first | (go_ret; exact ⟨ret_bool HF.out.symm, Below.refl _ _⟩) | (exfalso; simp_all))


/-- whether columns are those of a block -/
def wholeB (zs : List ByteArray) (size : Int) : Bool := joinOk zs size (-1) && eqT zs (cutT (joinT zs size (-1)))
theorem cut_app (a b : ByteArray) (h : a.size = (a.size + b.size + 1) / 2) : cutT (a ++ b) = [a, b, parT (a ++ b)] := by
  unfold cutT
  rw [ByteArray.size_append, ← h]
  have e1 : (a ++ b).extract 0 a.size = a := by
    apply ByteArray.ext
    simp [ByteArray.data_extract, ByteArray.data_append]
  have e2 : (a ++ b).extract a.size (a.size + b.size) = b := by
    apply ByteArray.ext
    apply Array.ext'
    have e := ext_list (a ++ b) a.size (a.size + b.size)
    rw [e, ByteArray.data_append, Array.toList_append, List.take_of_length_le (by simp)]
    exact List.drop_left' Array.length_toList
  rw [e1, e2]

theorem slicesEqual_v {A A' : Option Addr} {n c n' c' : Nat} {zs ys : List ByteArray} {v : Bool} (hv : eqT zs ys = v) (w : World) (h : Rd w 1 A n (zs.map Value.string)) (h' : Rd w 1 A' n' (ys.map Value.string)) (hm : n ≤ maxLen) :
    Calls Try.prog 39 #[.slice A n c, .slice A' n' c'] w fun r w' => r = .returned (.bool v) ∧ Below w.heap.size w w' := hv ▸ slicesEqual_any A A' n c n' c' zs ys w h h' hm
/-- the ways that StripeWhole goes -/
theorem whole_cases (zs : List ByteArray) (size : Int) : (joinV zs size (-1) = .tuple #[.string ⟨#[]⟩, .bool false] ∧ wholeB zs size = false) ∨
    ∃ a b c, zs = [a, b, c] ∧ joinV zs size (-1) = .tuple #[.string (a ++ b), .bool true] ∧ wholeB zs size = eqT zs (cutT (a ++ b)) ∧ cutT (a ++ b) = [a, b, parT (a ++ b)] ∧ inR ((a ++ b).size : Int) 1 128 = true ∧ (a ++ b).size ≤ 128 := by
  cases h : joinOk zs size (-1)
  · refine .inl ⟨?_, ?_⟩
    · unfold joinV
      rw [if_neg (by rw [h]; decide)]
    · unfold wholeB
      rw [h]
      rfl
  · refine .inr ?_
    match zs, h with
    | [], h => simp [joinOk] at h
    | [_], h => simp [joinOk] at h
    | [_, _], h => simp [joinOk] at h
    | [a, b, c], h =>
      have hj : joinT [a, b, c] size (-1) = a ++ b := by simp [joinT]
      have h0 := h
      simp only [joinOk, inR, Bool.and_eq_true, Bool.or_eq_true, beq_iff_eq, decide_eq_true_eq] at h0
      obtain ⟨⟨⟨⟨⟨s1, s2⟩, _⟩, ha⟩, hb⟩, _⟩ := h0
      have ha' : (a.size : Int) = (size + 1) / 2 := by rcases ha with h | h <;> omega
      have hb' : (b.size : Int) = size - (size + 1) / 2 := by rcases hb with h | h <;> omega
      have hsz : ((a ++ b).size : Int) = size := by rw [ByteArray.size_append]; omega
      refine ⟨a, b, c, rfl, ?_, ?_, cut_app a b (by omega), ?_, by omega⟩
      · unfold joinV
        rw [if_pos h, hj]
      · unfold wholeB
        rw [h, hj]
        rfl
      · simp only [inR, Bool.and_eq_true, decide_eq_true_eq]
        omega
    | _ :: _ :: _ :: _ :: _, h => simp [joinOk] at h

set_option maxHeartbeats 1000000 in
theorem implStripeWhole_any (P : Option Addr) (n c : Nat) (zs : List ByteArray) (size : Int) (w : World) (h : Rd w 1 P n (zs.map Value.string)) (hz : ∀ z ∈ zs, z.size ≤ 1000000000) (hn : n ≤ maxLen) :
    Calls Try.prog 19 #[.slice P n c, .int .i64 size] w fun r w' => r = .returned (.bool (wholeB zs size)) ∧ Below w.heap.size w w' := by
  have H := hide h
  have HZ := hide hz
  have HN := hide hn
  clear h hz hn
  rcases whole_cases zs size with ⟨hj, hw⟩ | ⟨x, y, z, rfl, hj, hw, hc, hi, h128⟩
  · have HJ := hide hj
    have HW := hide hw
    clear hj hw
    go_enter Try.func19, Try.ntmps19
    go_wp2_with fail
    refine (implJoin_v HJ.out _ H.out HZ.out).mono ?_; rintro r w1 ⟨rfl, hb1⟩
    go_wp2_with fail
    go_ret
    exact ⟨ret_bool HW.out.symm, hb1⟩
  · have HJ := hide hj
    have HW := hide hw
    have HI := hide hi
    clear hj hw hc hi h128
    obtain ⟨T, hT⟩ : ∃ T, T = x ++ y := ⟨_, rfl⟩
    rw [← hT] at HJ HW HI
    clear hT
    go_enter Try.func19, Try.ntmps19
    go_wp2_with fail
    refine (implJoin_v HJ.out _ H.out HZ.out).mono ?_; rintro r w1 ⟨rfl, hb1⟩
    have H := hide (H.out.after hb1)
    have HB := hide hb1
    clear hb1
    go_wp2_with fail
    refine (implStripeCut_ok T HI.out _).mono ?_; rintro r w2 ⟨_, rfl, g1, rfl, hg1, hB1, hb2⟩
    have K := hide hB1
    have H := hide (H.out.after hb2)
    have HB := hide (HB.out.trans (hb2.mono HB.out.size))
    clear hB1 hb2
    go_wp2_with fail
    refine (slicesEqual_v HW.out.symm _ H.out K.out.rdT HN.out).mono ?_; rintro r w3 ⟨rfl, hb3⟩
    go_wp2_with fail
    go_ret
    exact ⟨rfl, HB.out.trans (hb3.mono HB.out.size)⟩

set_option maxHeartbeats 2000000 in
theorem specStripeWhole_any (P : Option Addr) (n c : Nat) (zs : List ByteArray) (size : Int) (w : World) (h : Rd w 1 P n (zs.map Value.string)) (hz : ∀ z ∈ zs, z.size ≤ 1000000000) (hn : n ≤ maxLen) :
    Calls Try.prog 17 #[.slice P n c, .int .i64 size] w fun r w' => r = .returned (.bool (wholeB zs size)) ∧ Below w.heap.size w w' := by
  have H := hide h
  have HZ := hide hz
  have HN := hide hn
  have hl : zs.length = n := by have := h.len; simpa using this
  clear h hz hn
  rcases whole_cases zs size with ⟨hj, hw⟩ | ⟨x, y, z, rfl, hj, hw, hc, hi, h128⟩
  · have HJ := hide hj
    have HW := hide hw
    clear hj hw
    go_enter Try.func17, Try.ntmps17
    go_wp2_with fail
    refine (specJoin_v HJ.out _ H.out HZ.out).mono ?_; rintro r w1 ⟨rfl, hb1⟩
    go_wp2_with fail
    go_quiet (fail)
    go_wp2_with fail
    go_ret
    exact ⟨ret_bool HW.out.symm, below_drewN hb1 _⟩
  · have hw2 : wholeB [x, y, z] size = (z.toList == (parT (x ++ y)).toList) := by
      rw [hw, hc]
      unfold eqT
      by_cases e : z = parT (x ++ y)
      · rw [← e, decide_eq_true rfl, beqT_eq rfl]
      · rw [beqT_ne e, decide_eq_false (by simpa using e)]
    obtain rfl : n = 3 := hl.symm
    have HJ := hide hj
    have HW := hide hw2
    have HC := hide hc
    clear hj hw hw2 hc hi hl
    obtain ⟨T, hT⟩ : ∃ T, T = x ++ y := ⟨_, rfl⟩
    rw [← hT] at HJ HW HC h128
    clear hT
    go_enter Try.func17, Try.ntmps17
    go_wp2_with fail
    refine (specJoin_v HJ.out _ H.out HZ.out).mono ?_; rintro r w1 ⟨rfl, hb1⟩
    obtain ⟨g, o, rfl, hg, ca, cb, cd⟩ := (H.out.after hb1).three
    have HB := hide hb1
    have HG := hide hg
    have CD := hide cd
    clear hb1 hg ca cb cd
    go_wp2_with fail
    refine wp_region_held_drew (S := fun x => Below w1.heap.size w1 x) (by kernel_rfl) ((Below.refl _ _).drew) (fun hH => ?_)
    refine wpAnyH_take (i := 0) (v := ?_) rfl (by kernel_rfl) (by kernel_rfl) (by kernel_rfl) (fun _ _ _ h => h) (Or.inl ⟨by rfl, fun w hS => ?_⟩) hH ?_
    rotate_left
    · have cz := (hS.cell (p := ⟨g, o + 2, none⟩) HG.out).trans CD.out; go_simp; try exact rfl
    simp only [Act.put, List.setIfInBounds_toArray, List.set_cons_zero, List.set_cons_succ, List.getElem_toArray, List.getElem_cons_zero]
    refine wpAnyH_take (i := 1) (v := ?_) rfl (by kernel_rfl) (by kernel_rfl) (by kernel_rfl) (fun _ _ _ h => h) (Or.inl ⟨by rfl, fun w hS => ?_⟩) hH ?_
    rotate_left
    · have cz := (hS.cell (p := ⟨g, o + 2, none⟩) HG.out).trans CD.out; go_simp; try exact rfl
    simp only [Act.put, List.setIfInBounds_toArray, List.set_cons_zero, List.set_cons_succ, List.getElem_toArray, List.getElem_cons_zero, List.getElem_cons_succ]
    refine wpAnyH_take (i := 2) (v := ?_) rfl (by kernel_rfl) (by kernel_rfl) (by kernel_rfl) (fun _ _ _ h => h) (Or.inl ⟨by rfl, fun w hS => ?_⟩) hH ?_
    rotate_left
    · have cz := (hS.cell (p := ⟨g, o + 2, none⟩) HG.out).trans CD.out; go_simp; try exact rfl
    simp only [Act.put, List.setIfInBounds_toArray, List.set_cons_zero, List.set_cons_succ, List.getElem_toArray, List.getElem_cons_zero, List.getElem_cons_succ]
    refine wpAnyH_take (i := 3) (v := ?_) rfl (by kernel_rfl) (by kernel_rfl) (by kernel_rfl) (fun _ _ _ h => h) (Or.inl ⟨by rfl, fun w hS => ?_⟩) hH ?_
    rotate_left
    · have cz := (hS.cell (p := ⟨g, o + 2, none⟩) HG.out).trans CD.out; go_simp; try exact rfl
    simp only [Act.put, List.setIfInBounds_toArray, List.set_cons_zero, List.set_cons_succ, List.getElem_toArray, List.getElem_cons_zero, List.getElem_cons_succ]
    refine wpAnyH_take (i := 4) (v := ?_) rfl (by kernel_rfl) (by kernel_rfl) (by kernel_rfl) (fun _ _ _ h => h) (Or.inl ⟨by rfl, fun w hS => ?_⟩) hH ?_
    rotate_left
    · have cz := (hS.cell (p := ⟨g, o + 2, none⟩) HG.out).trans CD.out; go_simp; try exact rfl
    simp only [Act.put, List.setIfInBounds_toArray, List.set_cons_zero, List.set_cons_succ, List.getElem_toArray, List.getElem_cons_zero, List.getElem_cons_succ]
    refine wpAnyH_take (i := 5) (v := ?_) rfl (by kernel_rfl) (by kernel_rfl) (by kernel_rfl) (fun _ _ _ h => h) (Or.inl ⟨by rfl, fun w hS => ?_⟩) hH ?_
    rotate_left
    · have cz := (hS.cell (p := ⟨g, o + 2, none⟩) HG.out).trans CD.out; go_simp; try exact rfl
    simp only [Act.put, List.setIfInBounds_toArray, List.set_cons_zero, List.set_cons_succ, List.getElem_toArray, List.getElem_cons_zero, List.getElem_cons_succ]
    refine wpAnyH_ready (rs := [6]) (by kernel_rfl) (by simp) (AllReadyH.cons rfl (fun K hK => ?_) AllReadyH.nil)
    go_simp
    go_at_call 38
    refine (l4Cut_any T (by omega) _).mono ?_; rintro r w2 ⟨_, rfl, g2, rfl, hg2, K, hb2⟩
    rw [HC.out] at K
    have kc : w2.cell? ⟨g2, 2, none⟩ = some (.string (parT T)) := K.cell 2
    rw [HC.out]
    refine hK.out _ _ (hH.trans (hb2.mono hH.size)) (fun hH5 => ?_)
    clear hK K
    try simp only [Act.put, List.setIfInBounds_toArray, List.set_cons_zero, List.set_cons_succ]
    refine wpAnyH_take (i := 7) (v := ?_) rfl (by kernel_rfl) (by kernel_rfl) (by kernel_rfl) (fun _ _ _ h => h) (Or.inl ⟨by rfl, fun w hS => ?_⟩) hH5 ?_
    rotate_left
    · have cz := (hS.cell (p := ⟨g, o + 2, none⟩) HG.out).trans CD.out; go_simp; try exact rfl
    simp only [Act.put, List.setIfInBounds_toArray, List.set_cons_zero, List.set_cons_succ, List.getElem_toArray, List.getElem_cons_zero, List.getElem_cons_succ]
    refine wpAnyH_ready (rs := [8]) (by kernel_rfl) (by simp) (AllReadyH.cons rfl (fun K hK => ?_) AllReadyH.nil)
    go_simp
    refine hK.out _ _ (hH5) (fun hH6 => ?_)
    clear hK K
    try simp only [Act.put, List.setIfInBounds_toArray, List.set_cons_zero, List.set_cons_succ]
    refine wpAnyH_take (i := 9) (v := ?_) rfl (by kernel_rfl) (by kernel_rfl) (by kernel_rfl) (fun _ _ _ h => h) (Or.inl ⟨by rfl, fun w hS => ?_⟩) hH6 ?_
    rotate_left
    · have cz := (hS.cell (p := ⟨g, o + 2, none⟩) HG.out).trans CD.out; go_simp; try exact rfl
    simp only [Act.put, List.setIfInBounds_toArray, List.set_cons_zero, List.set_cons_succ, List.getElem_toArray, List.getElem_cons_zero, List.getElem_cons_succ]
    refine wpAnyH_take (i := 10) (v := ?_) rfl (by kernel_rfl) (by kernel_rfl) (by kernel_rfl) (fun _ _ _ h => h) (Or.inl ⟨by rfl, fun w hS => ?_⟩) hH6 ?_
    rotate_left
    · have cz := (hS.cell (p := ⟨g, o + 2, none⟩) HG.out).trans CD.out; go_simp; try exact rfl
    simp only [Act.put, List.setIfInBounds_toArray, List.set_cons_zero, List.set_cons_succ, List.getElem_toArray, List.getElem_cons_zero, List.getElem_cons_succ]
    refine wpAnyH_take (i := 11) (v := ?_) rfl (by kernel_rfl) (by kernel_rfl) (by kernel_rfl) (fun _ _ _ h => h) (Or.inl ⟨by rfl, fun w hS => ?_⟩) hH6 ?_
    rotate_left
    · have cz := (hS.cell (p := ⟨g, o + 2, none⟩) HG.out).trans CD.out; go_simp; try exact rfl
    simp only [Act.put, List.setIfInBounds_toArray, List.set_cons_zero, List.set_cons_succ, List.getElem_toArray, List.getElem_cons_zero, List.getElem_cons_succ]
    refine wpAnyH_done (by kernel_rfl) ?_ _
    go_wp2_with fail
    go_ret
    exact ⟨ret_bool HW.out.symm, HB.out.trans (hH6.mono HB.out.size)⟩

set_option maxHeartbeats 2000000 in
theorem fnExactStripeWhole_walk (A : Option Addr) (n c : Nat) (zs : List ByteArray) (size : Int) (ws : (Lit.int .i64 size).wf = true) (w : World) (h : Strs w A n c zs) :
    Calls Try.prog 6 #[.slice A n c, .int .i64 size] w fun r w' => r = .returned (.bool true) ∧ Below w.heap.size w w' := by
  obtain ⟨hnc, hcm, hlen, hzm, hr⟩ := h
  have H := hide hr
  have HM := hide hzm
  have hnm : n ≤ maxLen := Nat.le_trans hnc hcm
  have HNM := hide hnm
  clear hr hzm hnm
  by_cases hs : szT 1048576 zs < 0
  · have HS := hide hs
    clear hs
    obtain ⟨l, hl⟩ : ∃ l, l = szT 1048576 zs := ⟨_, rfl⟩
    have l0 : l < 0 := by rw [hl]; exact HS.out
    have HL := hide hl
    clear hl
    go_enter Try.func6, Try.ntmps6
    go_wp2_with fail
    refine (szStringS_any _ _ _ zs _ _ HNM.out HM.out H.out (by omega) (by omega)).mono ?_; rintro r w1 ⟨rfl, rfl⟩
    rw [← HL.out]
    go_wp2_with fail
    go_ret
    exact ⟨rfl, Below.refl _ _⟩
  · obtain ⟨f1, f2⟩ := szT_fits (left := 1048576) (by omega) (by omega : 0 ≤ szT 1048576 zs)
    have n1 : n ≤ 1000000000 := by omega
    have F2 := hide f2
    have FZ : Hid (∀ z ∈ zs, z.size ≤ 1000000000) := hide (fun z hz => by have := F2.out z hz; omega)
    obtain ⟨l, hl⟩ : ∃ l, l = szT 1048576 zs := ⟨_, rfl⟩
    have l0 : ¬ l < 0 := by rw [hl]; exact hs
    have HL := hide hl
    clear hl f1 f2 hs
    obtain ⟨v, hv⟩ : ∃ v, v = wholeB zs size := ⟨_, rfl⟩
    have HV := hide hv
    clear hv
    go_enter Try.func6, Try.ntmps6
    go_wp2_with fail
    refine (szStringS_any _ _ _ zs _ _ HNM.out HM.out H.out (by omega) (by omega)).mono ?_; rintro r w1 ⟨rfl, rfl⟩
    rw [← HL.out]
    go_wp2_with fail
    refine (toStringS_any _ _ _ zs _ H.out n1).mono ?_; rintro r w1 ⟨rfl, hk1, hb1, _⟩
    have K1 := hide hk1
    have HB := hide hb1
    have H1 := hide (H.out.after hb1)
    clear hk1 hb1
    go_wp2_with fail
    refine (specStripeWhole_any _ _ _ zs size _ (hlen ▸ K1.out.rdT) FZ.out (hlen ▸ HNM.out)).mono ?_; rintro r w2 ⟨rfl, hb2⟩
    rw [← HV.out]
    have H1 := hide (H1.out.after hb2)
    have HB := hide (HB.out.trans (hb2.mono HB.out.size))
    clear hb2
    go_wp2_with fail
    refine (toStringS_any _ _ _ zs _ H1.out n1).mono ?_; rintro r w3 ⟨rfl, hk3, hb3, _⟩
    have K3 := hide hk3
    have H1 := hide (H1.out.after hb3)
    have HB := hide (HB.out.trans (hb3.mono HB.out.size))
    clear hk3 hb3
    go_wp2_with fail
    refine (implStripeWhole_any _ _ _ zs size _ (hlen ▸ K3.out.rdT) FZ.out (hlen ▸ HNM.out)).mono ?_; rintro r w4 ⟨rfl, hb4⟩
    rw [← HV.out]
    have K3 := hide (K3.out.after hb4)
    have H1 := hide (H1.out.after hb4)
    have HB := hide (HB.out.trans (hb4.mono HB.out.size))
    clear hb4
    go_wp2_with fail
    refine (toStringS_any _ _ _ zs _ H1.out n1).mono ?_; rintro r w5 ⟨rfl, hk5, hb5, _⟩
    have K3 := hide (K3.out.after hb5)
    have K5 := hide hk5
    have HB := hide (HB.out.trans (hb5.mono HB.out.size))
    clear hk5 hb5
    go_wp2_with fail
    refine (eqStringS_v (eqT_same zs) _ (hlen ▸ K3.out.rdT) (hlen ▸ K5.out.rdT) HNM.out).mono ?_; rintro r w6 ⟨rfl, hb6⟩
    go_wp2_with fail
    go_ret
    exact ⟨rfl, HB.out.trans (hb6.mono HB.out.size)⟩
end Go.Proofs.Ytjcokbpioiakjaa
