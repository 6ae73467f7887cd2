/- l91Row draws a row; DrawPtrOf draws what PtrOf is asked. -/
import Derived.Test.YtjdnlngahncmfaaBlock
import Derived.Test.YtjdnlngahncmfaaPtrD
import Derived.Deep.DeepCutAuto
namespace Go.Proofs.Ytjdnlngahncmfaa
open Go.RowKit
set_option linter.unusedVariables false

theorem pickI {w : World} {g j : Nat} {t : TypeId} {l : List Int} (h : Bk w g t (l.map (Value.int .i64)).toArray) (hj : j < l.length) : ∃ y : Int, w.cell? ⟨g, j, none⟩ = some (.int .i64 y) := by
  refine ⟨l[j], ?_⟩
  rw [h.cell]
  simp [List.getElem?_eq_getElem hj]
theorem pickL {j : Nat} {l : List Int} (hj : j < l.length) : ∃ y : Int, (l.map (Value.int .i64))[j]? = some (.int .i64 y) := ⟨l[j], by simp [List.getElem?_eq_getElem hj]⟩
/-- a number is drawn -/
def RowPost (R p d : Nat) (w : World) (r : Ending) (w' : World) : Prop := ∃ (v : Int) (q : Nat), r = .returned (.int .i64 v) ∧ q ≤ p + d ∧ Rdr w' R q ∧ Fr (· = R) w w'

set_option maxHeartbeats 1000000 in
theorem l91Row_any (R p : Nat) (w : World) (hr : Rdr w R p) (hp : p ≤ 800000) :
    Calls Try.prog 15 #[.pointer (some ⟨R, 0, none⟩)] w (RowPost R p 3 w) := by
  have HR := hide hr
  clear hr
  go_enter Try.func15, Try.ntmps15
  go_wp2_with fail
  refine (pick_any R p 8 _ HR.out (by omega) (by omega) (by omega)).mono ?_; rintro r w1 ⟨v, rfl, v0, v1, _, hr1, hf1⟩
  have HR := hide hr1
  have HF := hide hf1
  clear hr1 hf1 v1
  by_cases e0 : v = 0
  · subst e0
    have hlt : ¬ w1.heap.size = R := by have := HR.out.lt; omega
    have HK := hide (Bk.fresh w1 3 #[.int .i64 (-1), .int .i64 0, .int .i64 3, .int .i64 7, .int .i64 64, .int .i64 63])
    have HR := hide (HR.out.after (bel1 w1 (.cells #[.int .i64 (-1), .int .i64 0, .int .i64 3, .int .i64 7, .int .i64 64, .int .i64 63] 3)))
    have HF := hide (HF.out.alloc (.cells #[.int .i64 (-1), .int .i64 0, .int .i64 3, .int .i64 7, .int .i64 64, .int .i64 63] 3))
    go_wp2_with fail
    refine (pick_any R (p + 1) 6 _ HR.out (by omega) (by omega) (by omega)).mono ?_; rintro r w2 ⟨x, rfl, x0, x1, _, hr2, hf2⟩
    have x6 := x1 (by omega)
    obtain ⟨j, rfl⟩ : ∃ j : Nat, x = (j : Int) := ⟨x.toNat, by omega⟩
    obtain ⟨y, hy⟩ := pickI (l := [-1, 0, 3, 7, 64, 63]) (HK.out.fr hf2 hlt) (show j < 6 by omega)
    have HR := hide hr2
    have HF := hide (HF.out.trans hf2)
    clear hr2 hf2 x1
    go_wp2_with fail
    go_ret
    exact ⟨y, p + 1 + 1, rfl, by omega, HR.out, HF.out⟩
  · have z0 : (v == 0) = false := by rw [beq_eq_false_iff_ne]; exact e0
    go_wp2_with fail
    refine (pick_any R (p + 1) 12 _ HR.out (by omega) (by omega) (by omega)).mono ?_; rintro r w2 ⟨x, rfl, x0, x1, _, hr2, hf2⟩
    have x6 := x1 (by omega)
    have jw : IntKind.i64.wrap (8 + x) = 8 + x := by rw [IntKind.wrap_i64]; omega
    have HR := hide hr2
    have HF := hide (HF.out.trans hf2)
    clear hr2 hf2 x1
    go_wp2_with fail
    go_ret
    exact ⟨8 + x, p + 1 + 1, rfl, by omega, HR.out, HF.out⟩
/-- what DrawPtrOf draws -/
def DrawnO (w : World) (r : Ending) (w' : World) : Prop := ∃ (a b e : Int) (s : ByteArray), r = .returned (.tuple #[.int .i64 a, .int .i64 b, .int .i64 e, .string s]) ∧ s.size ≤ 129 ∧ Below w.heap.size w w'
theorem fresh_of {w : World} {R p : Nat} (_ : Rdr w R p) (t : TypeId) (cs : Array Value) : Bk (w.alloc (.cells cs t)) w.heap.size t cs := Bk.fresh _ _ _

set_option maxHeartbeats 8000000 in
theorem drawPtrOf_any (A : Option Addr) (n c : Nat) (zs : List Int) (w : World) (h : U8s w A n c zs) :
    Calls Try.prog 5 #[.slice A n c] w (DrawnO w) := by
  go_enter Try.func5, Try.ntmps5
  go_wp2_with fail
  refine (l6Open_any _ _ _ _ _ h).mono ?_; rintro r w1 ⟨rfl, hr, hb⟩
  obtain ⟨R, hR⟩ : ∃ R, R = w.heap.size := ⟨_, rfl⟩
  rw [← hR] at hr
  rw [← hR]
  have hr2 := hr.after (Below.refl _ w1).drew
  have HR := hide hr2
  have HB := hide hb
  have hR' := hide hR
  clear hr hb hR hr2 h
  go_upto_region 2 with fail
  refine wp_region_held_drew (S := fun x => Below w.heap.size w x) (by kernel_rfl) (HB.out.drew) (fun hH0 => ?_)
  refine wpAnyH_take (i := 0) (v := ?_) rfl (by kernel_rfl) (by kernel_rfl) (by kernel_rfl) (fun _ _ _ h => h) (Or.inl ⟨by rfl, fun w hS => ?_⟩) hH0 ?_
  rotate_left
  · go_simp; try exact rfl
  simp only [Act.put, List.setIfInBounds_toArray, List.set_cons_zero, List.set_cons_succ, List.getElem_toArray, List.getElem_cons_zero]
  refine wpAnyH_take (i := 3) (v := ?_) rfl (by kernel_rfl) (by kernel_rfl) (by kernel_rfl) (fun _ _ _ h => h) (Or.inl ⟨by rfl, fun w hS => ?_⟩) hH0 ?_
  rotate_left
  · go_simp; try exact rfl
  simp only [Act.put, List.setIfInBounds_toArray, List.set_cons_zero, List.set_cons_succ, List.getElem_toArray, List.getElem_cons_zero, List.getElem_cons_succ]
  refine wpAnyH_take (i := 7) (v := ?_) rfl (by kernel_rfl) (by kernel_rfl) (by kernel_rfl) (fun _ _ _ h => h) (Or.inl ⟨by rfl, fun w hS => ?_⟩) hH0 ?_
  rotate_left
  · go_simp; try exact rfl
  simp only [Act.put, List.setIfInBounds_toArray, List.set_cons_zero, List.set_cons_succ, List.getElem_toArray, List.getElem_cons_zero, List.getElem_cons_succ]
  refine wpAnyH_take (i := 10) (v := ?_) rfl (by kernel_rfl) (by kernel_rfl) (by kernel_rfl) (fun _ _ _ h => h) (Or.inl ⟨by rfl, fun w hS => ?_⟩) hH0 ?_
  rotate_left
  · go_simp; try exact rfl
  simp only [Act.put, List.setIfInBounds_toArray, List.set_cons_zero, List.set_cons_succ, List.getElem_toArray, List.getElem_cons_zero, List.getElem_cons_succ]
  refine wpAnyH_ready (rs := [1, 2]) (by kernel_rfl) (by simp) (AllReadyH.cons rfl (fun K hK => ?_) (AllReadyH.cons rfl (fun K hK => ?_) (AllReadyH.nil)))
  · go_simp
    go_at_call 15
    refine (l91Row_any R (0) _ HR.out (by omega)).mono ?_; rintro r w5 ⟨at_, q1, rfl, hq1, hr, hf⟩
    have HR := hide hr
    have HF := hide hf
    clear hr hf
    refine hK.out _ _ (fr_new hH0 (Nat.le_of_eq hR'.out.symm) HF.out) (fun hH1 => ?_)
    clear hK K
    try simp only [Act.put, List.setIfInBounds_toArray, List.set_cons_zero, List.set_cons_succ]
    refine wpAnyH_ready (rs := [2, 4]) (by kernel_rfl) (by simp) (AllReadyH.cons rfl (fun K hK => ?_) (AllReadyH.cons rfl (fun K hK => ?_) (AllReadyH.nil)))
    · go_simp
      refine hK.out _ _ (hH1.alloc hH1.size _) (fun hH2 => ?_)
      clear hK K
      try simp only [Act.put, List.setIfInBounds_toArray, List.set_cons_zero, List.set_cons_succ]
      have HNE := hide (Nat.ne_of_gt HR.out.lt)
      have MK := hide (fresh_of HR.out 3 #[.int .i64 1, .int .i64 5, .int .i64 0, .int .i64 900, .int .i64 901])
      have HR := hide (HR.out.after (bel1 _ (.cells #[.int .i64 1, .int .i64 5, .int .i64 0, .int .i64 900, .int .i64 901] 3)))
      refine wpAnyH_ready (rs := [4]) (by kernel_rfl) (by simp) (AllReadyH.cons rfl (fun K hK => ?_) (AllReadyH.nil))
      go_simp
      go_at_call 16
      refine (pick_any R (q1) 5 _ HR.out (by omega) (by omega) (by omega)).mono ?_; rintro r w6 ⟨j, rfl, j0, j1, _, hr, hf⟩
      have j2 := j1 (by omega)
      obtain ⟨j, rfl⟩ : ∃ k : Nat, j = (k : Int) := ⟨j.toNat, by omega⟩
      clear j1
      have MK := hide (MK.out.fr hf HNE.out)
      have HR := hide hr
      have HF := hide hf
      clear hr hf
      refine hK.out _ _ (fr_new hH2 (Nat.le_of_eq hR'.out.symm) HF.out) (fun hH3 => ?_)
      clear hK K
      try simp only [Act.put, List.setIfInBounds_toArray, List.set_cons_zero, List.set_cons_succ]
      refine wpAnyH_take (i := 5) (v := ?_) rfl (by kernel_rfl) (by kernel_rfl) (by kernel_rfl) (fun _ _ _ h => h) (Or.inl ⟨by rfl, fun w hS => ?_⟩) hH3 ?_
      rotate_left
      · go_simp; try exact rfl
      simp only [Act.put, List.setIfInBounds_toArray, List.set_cons_zero, List.set_cons_succ, List.getElem_toArray, List.getElem_cons_zero, List.getElem_cons_succ]
      refine wpAnyH_ready (rs := [6, 8]) (by kernel_rfl) (by simp) (AllReadyH.cons rfl (fun K hK => ?_) (AllReadyH.cons rfl (fun K hK => ?_) (AllReadyH.nil)))
      · obtain ⟨y, hy⟩ := pickI (l := [1, 5, 0, 900, 901]) MK.out (show j < 5 by omega)
        replace hy : w6.cell? ⟨w5.heap.size, j, none⟩ = some (.int .i64 y) := hy
        go_simp
        refine hK.out _ _ (hH3) (fun hH4 => ?_)
        clear hK K
        try simp only [Act.put, List.setIfInBounds_toArray, List.set_cons_zero, List.set_cons_succ]
        refine wpAnyH_ready (rs := [8]) (by kernel_rfl) (by simp) (AllReadyH.cons rfl (fun K hK => ?_) (AllReadyH.nil))
        go_simp
        go_at_call 16
        refine (pick_any R (q1 + 1) 5 _ HR.out (by omega) (by omega) (by omega)).mono ?_; rintro r w7 ⟨e, rfl, e0, e1, _, hr, hf⟩
        have e2 := e1 (by omega)
        have ew : IntKind.i64.wrap (e - 1) = e - 1 := by rw [IntKind.wrap_i64]; omega
        clear e1
        have MK := hide (MK.out.fr hf HNE.out)
        have HR := hide hr
        have HF := hide hf
        clear hr hf
        refine hK.out _ _ (fr_new hH4 (Nat.le_of_eq hR'.out.symm) HF.out) (fun hH5 => ?_)
        clear hK K
        try simp only [Act.put, List.setIfInBounds_toArray, List.set_cons_zero, List.set_cons_succ]
        refine wpAnyH_take (i := 9) (v := ?_) rfl (by kernel_rfl) (by kernel_rfl) (by kernel_rfl) (fun _ _ _ h => h) (Or.inl ⟨by rfl, fun w hS => ?_⟩) hH5 ?_
        rotate_left
        · go_simp; try exact rfl
        simp only [Act.put, List.setIfInBounds_toArray, List.set_cons_zero, List.set_cons_succ, List.getElem_toArray, List.getElem_cons_zero, List.getElem_cons_succ]
        refine wpAnyH_ready (rs := [11]) (by kernel_rfl) (by simp) (AllReadyH.cons rfl (fun K hK => ?_) (AllReadyH.nil))
        go_simp
        go_at_call 17
        refine (l91Block_any R (q1 + 1 + 1) _ HR.out (by omega)).mono ?_; rintro r w8 ⟨s, q2, rfl, hs, hq2, hr, hf⟩
        have MK := hide (MK.out.fr hf HNE.out)
        have HR := hide hr
        have HF := hide hf
        clear hr hf
        refine hK.out _ _ (fr_new hH5 (Nat.le_of_eq hR'.out.symm) HF.out) (fun hH6 => ?_)
        clear hK K
        try simp only [Act.put, List.setIfInBounds_toArray, List.set_cons_zero, List.set_cons_succ]
        refine wpAnyH_take (i := 12) (v := ?_) rfl (by kernel_rfl) (by kernel_rfl) (by kernel_rfl) (fun _ _ _ h => h) (Or.inl ⟨by rfl, fun w hS => ?_⟩) hH6 ?_
        rotate_left
        · go_simp; try exact rfl
        simp only [Act.put, List.setIfInBounds_toArray, List.set_cons_zero, List.set_cons_succ, List.getElem_toArray, List.getElem_cons_zero, List.getElem_cons_succ]
        refine wpAnyH_take (i := 13) (v := ?_) rfl (by kernel_rfl) (by kernel_rfl) (by kernel_rfl) (fun _ _ _ h => h) (Or.inl ⟨by rfl, fun w hS => ?_⟩) hH6 ?_
        rotate_left
        · go_simp; try exact rfl
        simp only [Act.put, List.setIfInBounds_toArray, List.set_cons_zero, List.set_cons_succ, List.getElem_toArray, List.getElem_cons_zero, List.getElem_cons_succ]
        refine wpAnyH_take (i := 14) (v := ?_) rfl (by kernel_rfl) (by kernel_rfl) (by kernel_rfl) (fun _ _ _ h => h) (Or.inl ⟨by rfl, fun w hS => ?_⟩) hH6 ?_
        rotate_left
        · go_simp; try exact rfl
        simp only [Act.put, List.setIfInBounds_toArray, List.set_cons_zero, List.set_cons_succ, List.getElem_toArray, List.getElem_cons_zero, List.getElem_cons_succ]
        refine wpAnyH_take (i := 15) (v := ?_) rfl (by kernel_rfl) (by kernel_rfl) (by kernel_rfl) (fun _ _ _ h => h) (Or.inl ⟨by rfl, fun w hS => ?_⟩) hH6 ?_
        rotate_left
        · go_simp; try exact rfl
        simp only [Act.put, List.setIfInBounds_toArray, List.set_cons_zero, List.set_cons_succ, List.getElem_toArray, List.getElem_cons_zero, List.getElem_cons_succ]
        refine wpAnyH_done (by kernel_rfl) ?_ _
        go_wp2_with fail
        refine bodyPost_ret (v := .tuple #[.int .i64 at_, .int .i64 y, .int .i64 (e - 1), .string s]) (by simp [results, Try.results5, go_sem]) rfl ?_
        exact ⟨_, _, _, _, rfl, hs, hH6⟩
      · go_simp
        go_at_call 16
        refine (pick_any R (q1 + 1) 5 _ HR.out (by omega) (by omega) (by omega)).mono ?_; rintro r w7 ⟨e, rfl, e0, e1, _, hr, hf⟩
        have e2 := e1 (by omega)
        have ew : IntKind.i64.wrap (e - 1) = e - 1 := by rw [IntKind.wrap_i64]; omega
        clear e1
        have MK := hide (MK.out.fr hf HNE.out)
        have HR := hide hr
        have HF := hide hf
        clear hr hf
        refine hK.out _ _ (fr_new hH3 (Nat.le_of_eq hR'.out.symm) HF.out) (fun hH4 => ?_)
        clear hK K
        try simp only [Act.put, List.setIfInBounds_toArray, List.set_cons_zero, List.set_cons_succ]
        refine wpAnyH_take (i := 9) (v := ?_) rfl (by kernel_rfl) (by kernel_rfl) (by kernel_rfl) (fun _ _ _ h => h) (Or.inl ⟨by rfl, fun w hS => ?_⟩) hH4 ?_
        rotate_left
        · go_simp; try exact rfl
        simp only [Act.put, List.setIfInBounds_toArray, List.set_cons_zero, List.set_cons_succ, List.getElem_toArray, List.getElem_cons_zero, List.getElem_cons_succ]
        refine wpAnyH_ready (rs := [6, 11]) (by kernel_rfl) (by simp) (AllReadyH.cons rfl (fun K hK => ?_) (AllReadyH.cons rfl (fun K hK => ?_) (AllReadyH.nil)))
        · obtain ⟨y, hy⟩ := pickI (l := [1, 5, 0, 900, 901]) MK.out (show j < 5 by omega)
          replace hy : w7.cell? ⟨w5.heap.size, j, none⟩ = some (.int .i64 y) := hy
          go_simp
          refine hK.out _ _ (hH4) (fun hH5 => ?_)
          clear hK K
          try simp only [Act.put, List.setIfInBounds_toArray, List.set_cons_zero, List.set_cons_succ]
          refine wpAnyH_ready (rs := [11]) (by kernel_rfl) (by simp) (AllReadyH.cons rfl (fun K hK => ?_) (AllReadyH.nil))
          go_simp
          go_at_call 17
          refine (l91Block_any R (q1 + 1 + 1) _ HR.out (by omega)).mono ?_; rintro r w8 ⟨s, q2, rfl, hs, hq2, hr, hf⟩
          have MK := hide (MK.out.fr hf HNE.out)
          have HR := hide hr
          have HF := hide hf
          clear hr hf
          refine hK.out _ _ (fr_new hH5 (Nat.le_of_eq hR'.out.symm) HF.out) (fun hH6 => ?_)
          clear hK K
          try simp only [Act.put, List.setIfInBounds_toArray, List.set_cons_zero, List.set_cons_succ]
          refine wpAnyH_take (i := 12) (v := ?_) rfl (by kernel_rfl) (by kernel_rfl) (by kernel_rfl) (fun _ _ _ h => h) (Or.inl ⟨by rfl, fun w hS => ?_⟩) hH6 ?_
          rotate_left
          · go_simp; try exact rfl
          simp only [Act.put, List.setIfInBounds_toArray, List.set_cons_zero, List.set_cons_succ, List.getElem_toArray, List.getElem_cons_zero, List.getElem_cons_succ]
          refine wpAnyH_take (i := 13) (v := ?_) rfl (by kernel_rfl) (by kernel_rfl) (by kernel_rfl) (fun _ _ _ h => h) (Or.inl ⟨by rfl, fun w hS => ?_⟩) hH6 ?_
          rotate_left
          · go_simp; try exact rfl
          simp only [Act.put, List.setIfInBounds_toArray, List.set_cons_zero, List.set_cons_succ, List.getElem_toArray, List.getElem_cons_zero, List.getElem_cons_succ]
          refine wpAnyH_take (i := 14) (v := ?_) rfl (by kernel_rfl) (by kernel_rfl) (by kernel_rfl) (fun _ _ _ h => h) (Or.inl ⟨by rfl, fun w hS => ?_⟩) hH6 ?_
          rotate_left
          · go_simp; try exact rfl
          simp only [Act.put, List.setIfInBounds_toArray, List.set_cons_zero, List.set_cons_succ, List.getElem_toArray, List.getElem_cons_zero, List.getElem_cons_succ]
          refine wpAnyH_take (i := 15) (v := ?_) rfl (by kernel_rfl) (by kernel_rfl) (by kernel_rfl) (fun _ _ _ h => h) (Or.inl ⟨by rfl, fun w hS => ?_⟩) hH6 ?_
          rotate_left
          · go_simp; try exact rfl
          simp only [Act.put, List.setIfInBounds_toArray, List.set_cons_zero, List.set_cons_succ, List.getElem_toArray, List.getElem_cons_zero, List.getElem_cons_succ]
          refine wpAnyH_done (by kernel_rfl) ?_ _
          go_wp2_with fail
          refine bodyPost_ret (v := .tuple #[.int .i64 at_, .int .i64 y, .int .i64 (e - 1), .string s]) (by simp [results, Try.results5, go_sem]) rfl ?_
          exact ⟨_, _, _, _, rfl, hs, hH6⟩
        · go_simp
          go_at_call 17
          refine (l91Block_any R (q1 + 1 + 1) _ HR.out (by omega)).mono ?_; rintro r w8 ⟨s, q2, rfl, hs, hq2, hr, hf⟩
          have MK := hide (MK.out.fr hf HNE.out)
          have HR := hide hr
          have HF := hide hf
          clear hr hf
          refine hK.out _ _ (fr_new hH4 (Nat.le_of_eq hR'.out.symm) HF.out) (fun hH5 => ?_)
          clear hK K
          try simp only [Act.put, List.setIfInBounds_toArray, List.set_cons_zero, List.set_cons_succ]
          refine wpAnyH_take (i := 12) (v := ?_) rfl (by kernel_rfl) (by kernel_rfl) (by kernel_rfl) (fun _ _ _ h => h) (Or.inl ⟨by rfl, fun w hS => ?_⟩) hH5 ?_
          rotate_left
          · go_simp; try exact rfl
          simp only [Act.put, List.setIfInBounds_toArray, List.set_cons_zero, List.set_cons_succ, List.getElem_toArray, List.getElem_cons_zero, List.getElem_cons_succ]
          refine wpAnyH_ready (rs := [6]) (by kernel_rfl) (by simp) (AllReadyH.cons rfl (fun K hK => ?_) (AllReadyH.nil))
          obtain ⟨y, hy⟩ := pickI (l := [1, 5, 0, 900, 901]) MK.out (show j < 5 by omega)
          replace hy : w8.cell? ⟨w5.heap.size, j, none⟩ = some (.int .i64 y) := hy
          go_simp
          refine hK.out _ _ (hH5) (fun hH6 => ?_)
          clear hK K
          try simp only [Act.put, List.setIfInBounds_toArray, List.set_cons_zero, List.set_cons_succ]
          refine wpAnyH_take (i := 13) (v := ?_) rfl (by kernel_rfl) (by kernel_rfl) (by kernel_rfl) (fun _ _ _ h => h) (Or.inl ⟨by rfl, fun w hS => ?_⟩) hH6 ?_
          rotate_left
          · go_simp; try exact rfl
          simp only [Act.put, List.setIfInBounds_toArray, List.set_cons_zero, List.set_cons_succ, List.getElem_toArray, List.getElem_cons_zero, List.getElem_cons_succ]
          refine wpAnyH_take (i := 14) (v := ?_) rfl (by kernel_rfl) (by kernel_rfl) (by kernel_rfl) (fun _ _ _ h => h) (Or.inl ⟨by rfl, fun w hS => ?_⟩) hH6 ?_
          rotate_left
          · go_simp; try exact rfl
          simp only [Act.put, List.setIfInBounds_toArray, List.set_cons_zero, List.set_cons_succ, List.getElem_toArray, List.getElem_cons_zero, List.getElem_cons_succ]
          refine wpAnyH_take (i := 15) (v := ?_) rfl (by kernel_rfl) (by kernel_rfl) (by kernel_rfl) (fun _ _ _ h => h) (Or.inl ⟨by rfl, fun w hS => ?_⟩) hH6 ?_
          rotate_left
          · go_simp; try exact rfl
          simp only [Act.put, List.setIfInBounds_toArray, List.set_cons_zero, List.set_cons_succ, List.getElem_toArray, List.getElem_cons_zero, List.getElem_cons_succ]
          refine wpAnyH_done (by kernel_rfl) ?_ _
          go_wp2_with fail
          refine bodyPost_ret (v := .tuple #[.int .i64 at_, .int .i64 y, .int .i64 (e - 1), .string s]) (by simp [results, Try.results5, go_sem]) rfl ?_
          exact ⟨_, _, _, _, rfl, hs, hH6⟩
    · go_simp
      go_at_call 16
      refine (pick_any R (q1) 5 _ HR.out (by omega) (by omega) (by omega)).mono ?_; rintro r w6 ⟨j, rfl, j0, j1, _, hr, hf⟩
      have j2 := j1 (by omega)
      obtain ⟨j, rfl⟩ : ∃ k : Nat, j = (k : Int) := ⟨j.toNat, by omega⟩
      clear j1
      have HR := hide hr
      have HF := hide hf
      clear hr hf
      refine hK.out _ _ (fr_new hH1 (Nat.le_of_eq hR'.out.symm) HF.out) (fun hH2 => ?_)
      clear hK K
      try simp only [Act.put, List.setIfInBounds_toArray, List.set_cons_zero, List.set_cons_succ]
      refine wpAnyH_ready (rs := [2, 8]) (by kernel_rfl) (by simp) (AllReadyH.cons rfl (fun K hK => ?_) (AllReadyH.cons rfl (fun K hK => ?_) (AllReadyH.nil)))
      · go_simp
        refine hK.out _ _ (hH2.alloc hH2.size _) (fun hH3 => ?_)
        clear hK K
        try simp only [Act.put, List.setIfInBounds_toArray, List.set_cons_zero, List.set_cons_succ]
        have HNE := hide (Nat.ne_of_gt HR.out.lt)
        have MK := hide (fresh_of HR.out 3 #[.int .i64 1, .int .i64 5, .int .i64 0, .int .i64 900, .int .i64 901])
        have HR := hide (HR.out.after (bel1 _ (.cells #[.int .i64 1, .int .i64 5, .int .i64 0, .int .i64 900, .int .i64 901] 3)))
        refine wpAnyH_take (i := 5) (v := ?_) rfl (by kernel_rfl) (by kernel_rfl) (by kernel_rfl) (fun _ _ _ h => h) (Or.inl ⟨by rfl, fun w hS => ?_⟩) hH3 ?_
        rotate_left
        · go_simp; try exact rfl
        simp only [Act.put, List.setIfInBounds_toArray, List.set_cons_zero, List.set_cons_succ, List.getElem_toArray, List.getElem_cons_zero, List.getElem_cons_succ]
        refine wpAnyH_ready (rs := [6, 8]) (by kernel_rfl) (by simp) (AllReadyH.cons rfl (fun K hK => ?_) (AllReadyH.cons rfl (fun K hK => ?_) (AllReadyH.nil)))
        · obtain ⟨y, hy⟩ := pickL (l := [1, 5, 0, 900, 901]) (show j < 5 by omega)
          simp only [List.map_cons, List.map_nil] at hy
          go_simp
          refine hK.out _ _ (hH3) (fun hH4 => ?_)
          clear hK K
          try simp only [Act.put, List.setIfInBounds_toArray, List.set_cons_zero, List.set_cons_succ]
          refine wpAnyH_ready (rs := [8]) (by kernel_rfl) (by simp) (AllReadyH.cons rfl (fun K hK => ?_) (AllReadyH.nil))
          go_simp
          go_at_call 16
          refine (pick_any R (q1 + 1) 5 _ HR.out (by omega) (by omega) (by omega)).mono ?_; rintro r w7 ⟨e, rfl, e0, e1, _, hr, hf⟩
          have e2 := e1 (by omega)
          have ew : IntKind.i64.wrap (e - 1) = e - 1 := by rw [IntKind.wrap_i64]; omega
          clear e1
          have MK := hide (MK.out.fr hf HNE.out)
          have HR := hide hr
          have HF := hide hf
          clear hr hf
          refine hK.out _ _ (fr_new hH4 (Nat.le_of_eq hR'.out.symm) HF.out) (fun hH5 => ?_)
          clear hK K
          try simp only [Act.put, List.setIfInBounds_toArray, List.set_cons_zero, List.set_cons_succ]
          refine wpAnyH_take (i := 9) (v := ?_) rfl (by kernel_rfl) (by kernel_rfl) (by kernel_rfl) (fun _ _ _ h => h) (Or.inl ⟨by rfl, fun w hS => ?_⟩) hH5 ?_
          rotate_left
          · go_simp; try exact rfl
          simp only [Act.put, List.setIfInBounds_toArray, List.set_cons_zero, List.set_cons_succ, List.getElem_toArray, List.getElem_cons_zero, List.getElem_cons_succ]
          refine wpAnyH_ready (rs := [11]) (by kernel_rfl) (by simp) (AllReadyH.cons rfl (fun K hK => ?_) (AllReadyH.nil))
          go_simp
          go_at_call 17
          refine (l91Block_any R (q1 + 1 + 1) _ HR.out (by omega)).mono ?_; rintro r w8 ⟨s, q2, rfl, hs, hq2, hr, hf⟩
          have MK := hide (MK.out.fr hf HNE.out)
          have HR := hide hr
          have HF := hide hf
          clear hr hf
          refine hK.out _ _ (fr_new hH5 (Nat.le_of_eq hR'.out.symm) HF.out) (fun hH6 => ?_)
          clear hK K
          try simp only [Act.put, List.setIfInBounds_toArray, List.set_cons_zero, List.set_cons_succ]
          refine wpAnyH_take (i := 12) (v := ?_) rfl (by kernel_rfl) (by kernel_rfl) (by kernel_rfl) (fun _ _ _ h => h) (Or.inl ⟨by rfl, fun w hS => ?_⟩) hH6 ?_
          rotate_left
          · go_simp; try exact rfl
          simp only [Act.put, List.setIfInBounds_toArray, List.set_cons_zero, List.set_cons_succ, List.getElem_toArray, List.getElem_cons_zero, List.getElem_cons_succ]
          refine wpAnyH_take (i := 13) (v := ?_) rfl (by kernel_rfl) (by kernel_rfl) (by kernel_rfl) (fun _ _ _ h => h) (Or.inl ⟨by rfl, fun w hS => ?_⟩) hH6 ?_
          rotate_left
          · go_simp; try exact rfl
          simp only [Act.put, List.setIfInBounds_toArray, List.set_cons_zero, List.set_cons_succ, List.getElem_toArray, List.getElem_cons_zero, List.getElem_cons_succ]
          refine wpAnyH_take (i := 14) (v := ?_) rfl (by kernel_rfl) (by kernel_rfl) (by kernel_rfl) (fun _ _ _ h => h) (Or.inl ⟨by rfl, fun w hS => ?_⟩) hH6 ?_
          rotate_left
          · go_simp; try exact rfl
          simp only [Act.put, List.setIfInBounds_toArray, List.set_cons_zero, List.set_cons_succ, List.getElem_toArray, List.getElem_cons_zero, List.getElem_cons_succ]
          refine wpAnyH_take (i := 15) (v := ?_) rfl (by kernel_rfl) (by kernel_rfl) (by kernel_rfl) (fun _ _ _ h => h) (Or.inl ⟨by rfl, fun w hS => ?_⟩) hH6 ?_
          rotate_left
          · go_simp; try exact rfl
          simp only [Act.put, List.setIfInBounds_toArray, List.set_cons_zero, List.set_cons_succ, List.getElem_toArray, List.getElem_cons_zero, List.getElem_cons_succ]
          refine wpAnyH_done (by kernel_rfl) ?_ _
          go_wp2_with fail
          refine bodyPost_ret (v := .tuple #[.int .i64 at_, .int .i64 y, .int .i64 (e - 1), .string s]) (by simp [results, Try.results5, go_sem]) rfl ?_
          exact ⟨_, _, _, _, rfl, hs, hH6⟩
        · go_simp
          go_at_call 16
          refine (pick_any R (q1 + 1) 5 _ HR.out (by omega) (by omega) (by omega)).mono ?_; rintro r w7 ⟨e, rfl, e0, e1, _, hr, hf⟩
          have e2 := e1 (by omega)
          have ew : IntKind.i64.wrap (e - 1) = e - 1 := by rw [IntKind.wrap_i64]; omega
          clear e1
          have MK := hide (MK.out.fr hf HNE.out)
          have HR := hide hr
          have HF := hide hf
          clear hr hf
          refine hK.out _ _ (fr_new hH3 (Nat.le_of_eq hR'.out.symm) HF.out) (fun hH4 => ?_)
          clear hK K
          try simp only [Act.put, List.setIfInBounds_toArray, List.set_cons_zero, List.set_cons_succ]
          refine wpAnyH_take (i := 9) (v := ?_) rfl (by kernel_rfl) (by kernel_rfl) (by kernel_rfl) (fun _ _ _ h => h) (Or.inl ⟨by rfl, fun w hS => ?_⟩) hH4 ?_
          rotate_left
          · go_simp; try exact rfl
          simp only [Act.put, List.setIfInBounds_toArray, List.set_cons_zero, List.set_cons_succ, List.getElem_toArray, List.getElem_cons_zero, List.getElem_cons_succ]
          refine wpAnyH_ready (rs := [6, 11]) (by kernel_rfl) (by simp) (AllReadyH.cons rfl (fun K hK => ?_) (AllReadyH.cons rfl (fun K hK => ?_) (AllReadyH.nil)))
          · obtain ⟨y, hy⟩ := pickI (l := [1, 5, 0, 900, 901]) MK.out (show j < 5 by omega)
            replace hy : w7.cell? ⟨w6.heap.size, j, none⟩ = some (.int .i64 y) := hy
            go_simp
            refine hK.out _ _ (hH4) (fun hH5 => ?_)
            clear hK K
            try simp only [Act.put, List.setIfInBounds_toArray, List.set_cons_zero, List.set_cons_succ]
            refine wpAnyH_ready (rs := [11]) (by kernel_rfl) (by simp) (AllReadyH.cons rfl (fun K hK => ?_) (AllReadyH.nil))
            go_simp
            go_at_call 17
            refine (l91Block_any R (q1 + 1 + 1) _ HR.out (by omega)).mono ?_; rintro r w8 ⟨s, q2, rfl, hs, hq2, hr, hf⟩
            have MK := hide (MK.out.fr hf HNE.out)
            have HR := hide hr
            have HF := hide hf
            clear hr hf
            refine hK.out _ _ (fr_new hH5 (Nat.le_of_eq hR'.out.symm) HF.out) (fun hH6 => ?_)
            clear hK K
            try simp only [Act.put, List.setIfInBounds_toArray, List.set_cons_zero, List.set_cons_succ]
            refine wpAnyH_take (i := 12) (v := ?_) rfl (by kernel_rfl) (by kernel_rfl) (by kernel_rfl) (fun _ _ _ h => h) (Or.inl ⟨by rfl, fun w hS => ?_⟩) hH6 ?_
            rotate_left
            · go_simp; try exact rfl
            simp only [Act.put, List.setIfInBounds_toArray, List.set_cons_zero, List.set_cons_succ, List.getElem_toArray, List.getElem_cons_zero, List.getElem_cons_succ]
            refine wpAnyH_take (i := 13) (v := ?_) rfl (by kernel_rfl) (by kernel_rfl) (by kernel_rfl) (fun _ _ _ h => h) (Or.inl ⟨by rfl, fun w hS => ?_⟩) hH6 ?_
            rotate_left
            · go_simp; try exact rfl
            simp only [Act.put, List.setIfInBounds_toArray, List.set_cons_zero, List.set_cons_succ, List.getElem_toArray, List.getElem_cons_zero, List.getElem_cons_succ]
            refine wpAnyH_take (i := 14) (v := ?_) rfl (by kernel_rfl) (by kernel_rfl) (by kernel_rfl) (fun _ _ _ h => h) (Or.inl ⟨by rfl, fun w hS => ?_⟩) hH6 ?_
            rotate_left
            · go_simp; try exact rfl
            simp only [Act.put, List.setIfInBounds_toArray, List.set_cons_zero, List.set_cons_succ, List.getElem_toArray, List.getElem_cons_zero, List.getElem_cons_succ]
            refine wpAnyH_take (i := 15) (v := ?_) rfl (by kernel_rfl) (by kernel_rfl) (by kernel_rfl) (fun _ _ _ h => h) (Or.inl ⟨by rfl, fun w hS => ?_⟩) hH6 ?_
            rotate_left
            · go_simp; try exact rfl
            simp only [Act.put, List.setIfInBounds_toArray, List.set_cons_zero, List.set_cons_succ, List.getElem_toArray, List.getElem_cons_zero, List.getElem_cons_succ]
            refine wpAnyH_done (by kernel_rfl) ?_ _
            go_wp2_with fail
            refine bodyPost_ret (v := .tuple #[.int .i64 at_, .int .i64 y, .int .i64 (e - 1), .string s]) (by simp [results, Try.results5, go_sem]) rfl ?_
            exact ⟨_, _, _, _, rfl, hs, hH6⟩
          · go_simp
            go_at_call 17
            refine (l91Block_any R (q1 + 1 + 1) _ HR.out (by omega)).mono ?_; rintro r w8 ⟨s, q2, rfl, hs, hq2, hr, hf⟩
            have MK := hide (MK.out.fr hf HNE.out)
            have HR := hide hr
            have HF := hide hf
            clear hr hf
            refine hK.out _ _ (fr_new hH4 (Nat.le_of_eq hR'.out.symm) HF.out) (fun hH5 => ?_)
            clear hK K
            try simp only [Act.put, List.setIfInBounds_toArray, List.set_cons_zero, List.set_cons_succ]
            refine wpAnyH_take (i := 12) (v := ?_) rfl (by kernel_rfl) (by kernel_rfl) (by kernel_rfl) (fun _ _ _ h => h) (Or.inl ⟨by rfl, fun w hS => ?_⟩) hH5 ?_
            rotate_left
            · go_simp; try exact rfl
            simp only [Act.put, List.setIfInBounds_toArray, List.set_cons_zero, List.set_cons_succ, List.getElem_toArray, List.getElem_cons_zero, List.getElem_cons_succ]
            refine wpAnyH_ready (rs := [6]) (by kernel_rfl) (by simp) (AllReadyH.cons rfl (fun K hK => ?_) (AllReadyH.nil))
            obtain ⟨y, hy⟩ := pickI (l := [1, 5, 0, 900, 901]) MK.out (show j < 5 by omega)
            replace hy : w8.cell? ⟨w6.heap.size, j, none⟩ = some (.int .i64 y) := hy
            go_simp
            refine hK.out _ _ (hH5) (fun hH6 => ?_)
            clear hK K
            try simp only [Act.put, List.setIfInBounds_toArray, List.set_cons_zero, List.set_cons_succ]
            refine wpAnyH_take (i := 13) (v := ?_) rfl (by kernel_rfl) (by kernel_rfl) (by kernel_rfl) (fun _ _ _ h => h) (Or.inl ⟨by rfl, fun w hS => ?_⟩) hH6 ?_
            rotate_left
            · go_simp; try exact rfl
            simp only [Act.put, List.setIfInBounds_toArray, List.set_cons_zero, List.set_cons_succ, List.getElem_toArray, List.getElem_cons_zero, List.getElem_cons_succ]
            refine wpAnyH_take (i := 14) (v := ?_) rfl (by kernel_rfl) (by kernel_rfl) (by kernel_rfl) (fun _ _ _ h => h) (Or.inl ⟨by rfl, fun w hS => ?_⟩) hH6 ?_
            rotate_left
            · go_simp; try exact rfl
            simp only [Act.put, List.setIfInBounds_toArray, List.set_cons_zero, List.set_cons_succ, List.getElem_toArray, List.getElem_cons_zero, List.getElem_cons_succ]
            refine wpAnyH_take (i := 15) (v := ?_) rfl (by kernel_rfl) (by kernel_rfl) (by kernel_rfl) (fun _ _ _ h => h) (Or.inl ⟨by rfl, fun w hS => ?_⟩) hH6 ?_
            rotate_left
            · go_simp; try exact rfl
            simp only [Act.put, List.setIfInBounds_toArray, List.set_cons_zero, List.set_cons_succ, List.getElem_toArray, List.getElem_cons_zero, List.getElem_cons_succ]
            refine wpAnyH_done (by kernel_rfl) ?_ _
            go_wp2_with fail
            refine bodyPost_ret (v := .tuple #[.int .i64 at_, .int .i64 y, .int .i64 (e - 1), .string s]) (by simp [results, Try.results5, go_sem]) rfl ?_
            exact ⟨_, _, _, _, rfl, hs, hH6⟩
      · go_simp
        go_at_call 16
        refine (pick_any R (q1 + 1) 5 _ HR.out (by omega) (by omega) (by omega)).mono ?_; rintro r w7 ⟨e, rfl, e0, e1, _, hr, hf⟩
        have e2 := e1 (by omega)
        have ew : IntKind.i64.wrap (e - 1) = e - 1 := by rw [IntKind.wrap_i64]; omega
        clear e1
        have HR := hide hr
        have HF := hide hf
        clear hr hf
        refine hK.out _ _ (fr_new hH2 (Nat.le_of_eq hR'.out.symm) HF.out) (fun hH3 => ?_)
        clear hK K
        try simp only [Act.put, List.setIfInBounds_toArray, List.set_cons_zero, List.set_cons_succ]
        refine wpAnyH_take (i := 9) (v := ?_) rfl (by kernel_rfl) (by kernel_rfl) (by kernel_rfl) (fun _ _ _ h => h) (Or.inl ⟨by rfl, fun w hS => ?_⟩) hH3 ?_
        rotate_left
        · go_simp; try exact rfl
        simp only [Act.put, List.setIfInBounds_toArray, List.set_cons_zero, List.set_cons_succ, List.getElem_toArray, List.getElem_cons_zero, List.getElem_cons_succ]
        refine wpAnyH_ready (rs := [2, 11]) (by kernel_rfl) (by simp) (AllReadyH.cons rfl (fun K hK => ?_) (AllReadyH.cons rfl (fun K hK => ?_) (AllReadyH.nil)))
        · go_simp
          refine hK.out _ _ (hH3.alloc hH3.size _) (fun hH4 => ?_)
          clear hK K
          try simp only [Act.put, List.setIfInBounds_toArray, List.set_cons_zero, List.set_cons_succ]
          have HNE := hide (Nat.ne_of_gt HR.out.lt)
          have MK := hide (fresh_of HR.out 3 #[.int .i64 1, .int .i64 5, .int .i64 0, .int .i64 900, .int .i64 901])
          have HR := hide (HR.out.after (bel1 _ (.cells #[.int .i64 1, .int .i64 5, .int .i64 0, .int .i64 900, .int .i64 901] 3)))
          refine wpAnyH_take (i := 5) (v := ?_) rfl (by kernel_rfl) (by kernel_rfl) (by kernel_rfl) (fun _ _ _ h => h) (Or.inl ⟨by rfl, fun w hS => ?_⟩) hH4 ?_
          rotate_left
          · go_simp; try exact rfl
          simp only [Act.put, List.setIfInBounds_toArray, List.set_cons_zero, List.set_cons_succ, List.getElem_toArray, List.getElem_cons_zero, List.getElem_cons_succ]
          refine wpAnyH_ready (rs := [6, 11]) (by kernel_rfl) (by simp) (AllReadyH.cons rfl (fun K hK => ?_) (AllReadyH.cons rfl (fun K hK => ?_) (AllReadyH.nil)))
          · obtain ⟨y, hy⟩ := pickL (l := [1, 5, 0, 900, 901]) (show j < 5 by omega)
            simp only [List.map_cons, List.map_nil] at hy
            go_simp
            refine hK.out _ _ (hH4) (fun hH5 => ?_)
            clear hK K
            try simp only [Act.put, List.setIfInBounds_toArray, List.set_cons_zero, List.set_cons_succ]
            refine wpAnyH_ready (rs := [11]) (by kernel_rfl) (by simp) (AllReadyH.cons rfl (fun K hK => ?_) (AllReadyH.nil))
            go_simp
            go_at_call 17
            refine (l91Block_any R (q1 + 1 + 1) _ HR.out (by omega)).mono ?_; rintro r w8 ⟨s, q2, rfl, hs, hq2, hr, hf⟩
            have MK := hide (MK.out.fr hf HNE.out)
            have HR := hide hr
            have HF := hide hf
            clear hr hf
            refine hK.out _ _ (fr_new hH5 (Nat.le_of_eq hR'.out.symm) HF.out) (fun hH6 => ?_)
            clear hK K
            try simp only [Act.put, List.setIfInBounds_toArray, List.set_cons_zero, List.set_cons_succ]
            refine wpAnyH_take (i := 12) (v := ?_) rfl (by kernel_rfl) (by kernel_rfl) (by kernel_rfl) (fun _ _ _ h => h) (Or.inl ⟨by rfl, fun w hS => ?_⟩) hH6 ?_
            rotate_left
            · go_simp; try exact rfl
            simp only [Act.put, List.setIfInBounds_toArray, List.set_cons_zero, List.set_cons_succ, List.getElem_toArray, List.getElem_cons_zero, List.getElem_cons_succ]
            refine wpAnyH_take (i := 13) (v := ?_) rfl (by kernel_rfl) (by kernel_rfl) (by kernel_rfl) (fun _ _ _ h => h) (Or.inl ⟨by rfl, fun w hS => ?_⟩) hH6 ?_
            rotate_left
            · go_simp; try exact rfl
            simp only [Act.put, List.setIfInBounds_toArray, List.set_cons_zero, List.set_cons_succ, List.getElem_toArray, List.getElem_cons_zero, List.getElem_cons_succ]
            refine wpAnyH_take (i := 14) (v := ?_) rfl (by kernel_rfl) (by kernel_rfl) (by kernel_rfl) (fun _ _ _ h => h) (Or.inl ⟨by rfl, fun w hS => ?_⟩) hH6 ?_
            rotate_left
            · go_simp; try exact rfl
            simp only [Act.put, List.setIfInBounds_toArray, List.set_cons_zero, List.set_cons_succ, List.getElem_toArray, List.getElem_cons_zero, List.getElem_cons_succ]
            refine wpAnyH_take (i := 15) (v := ?_) rfl (by kernel_rfl) (by kernel_rfl) (by kernel_rfl) (fun _ _ _ h => h) (Or.inl ⟨by rfl, fun w hS => ?_⟩) hH6 ?_
            rotate_left
            · go_simp; try exact rfl
            simp only [Act.put, List.setIfInBounds_toArray, List.set_cons_zero, List.set_cons_succ, List.getElem_toArray, List.getElem_cons_zero, List.getElem_cons_succ]
            refine wpAnyH_done (by kernel_rfl) ?_ _
            go_wp2_with fail
            refine bodyPost_ret (v := .tuple #[.int .i64 at_, .int .i64 y, .int .i64 (e - 1), .string s]) (by simp [results, Try.results5, go_sem]) rfl ?_
            exact ⟨_, _, _, _, rfl, hs, hH6⟩
          · go_simp
            go_at_call 17
            refine (l91Block_any R (q1 + 1 + 1) _ HR.out (by omega)).mono ?_; rintro r w8 ⟨s, q2, rfl, hs, hq2, hr, hf⟩
            have MK := hide (MK.out.fr hf HNE.out)
            have HR := hide hr
            have HF := hide hf
            clear hr hf
            refine hK.out _ _ (fr_new hH4 (Nat.le_of_eq hR'.out.symm) HF.out) (fun hH5 => ?_)
            clear hK K
            try simp only [Act.put, List.setIfInBounds_toArray, List.set_cons_zero, List.set_cons_succ]
            refine wpAnyH_take (i := 12) (v := ?_) rfl (by kernel_rfl) (by kernel_rfl) (by kernel_rfl) (fun _ _ _ h => h) (Or.inl ⟨by rfl, fun w hS => ?_⟩) hH5 ?_
            rotate_left
            · go_simp; try exact rfl
            simp only [Act.put, List.setIfInBounds_toArray, List.set_cons_zero, List.set_cons_succ, List.getElem_toArray, List.getElem_cons_zero, List.getElem_cons_succ]
            refine wpAnyH_ready (rs := [6]) (by kernel_rfl) (by simp) (AllReadyH.cons rfl (fun K hK => ?_) (AllReadyH.nil))
            obtain ⟨y, hy⟩ := pickI (l := [1, 5, 0, 900, 901]) MK.out (show j < 5 by omega)
            replace hy : w8.cell? ⟨w7.heap.size, j, none⟩ = some (.int .i64 y) := hy
            go_simp
            refine hK.out _ _ (hH5) (fun hH6 => ?_)
            clear hK K
            try simp only [Act.put, List.setIfInBounds_toArray, List.set_cons_zero, List.set_cons_succ]
            refine wpAnyH_take (i := 13) (v := ?_) rfl (by kernel_rfl) (by kernel_rfl) (by kernel_rfl) (fun _ _ _ h => h) (Or.inl ⟨by rfl, fun w hS => ?_⟩) hH6 ?_
            rotate_left
            · go_simp; try exact rfl
            simp only [Act.put, List.setIfInBounds_toArray, List.set_cons_zero, List.set_cons_succ, List.getElem_toArray, List.getElem_cons_zero, List.getElem_cons_succ]
            refine wpAnyH_take (i := 14) (v := ?_) rfl (by kernel_rfl) (by kernel_rfl) (by kernel_rfl) (fun _ _ _ h => h) (Or.inl ⟨by rfl, fun w hS => ?_⟩) hH6 ?_
            rotate_left
            · go_simp; try exact rfl
            simp only [Act.put, List.setIfInBounds_toArray, List.set_cons_zero, List.set_cons_succ, List.getElem_toArray, List.getElem_cons_zero, List.getElem_cons_succ]
            refine wpAnyH_take (i := 15) (v := ?_) rfl (by kernel_rfl) (by kernel_rfl) (by kernel_rfl) (fun _ _ _ h => h) (Or.inl ⟨by rfl, fun w hS => ?_⟩) hH6 ?_
            rotate_left
            · go_simp; try exact rfl
            simp only [Act.put, List.setIfInBounds_toArray, List.set_cons_zero, List.set_cons_succ, List.getElem_toArray, List.getElem_cons_zero, List.getElem_cons_succ]
            refine wpAnyH_done (by kernel_rfl) ?_ _
            go_wp2_with fail
            refine bodyPost_ret (v := .tuple #[.int .i64 at_, .int .i64 y, .int .i64 (e - 1), .string s]) (by simp [results, Try.results5, go_sem]) rfl ?_
            exact ⟨_, _, _, _, rfl, hs, hH6⟩
        · go_simp
          go_at_call 17
          refine (l91Block_any R (q1 + 1 + 1) _ HR.out (by omega)).mono ?_; rintro r w8 ⟨s, q2, rfl, hs, hq2, hr, hf⟩
          have HR := hide hr
          have HF := hide hf
          clear hr hf
          refine hK.out _ _ (fr_new hH3 (Nat.le_of_eq hR'.out.symm) HF.out) (fun hH4 => ?_)
          clear hK K
          try simp only [Act.put, List.setIfInBounds_toArray, List.set_cons_zero, List.set_cons_succ]
          refine wpAnyH_take (i := 12) (v := ?_) rfl (by kernel_rfl) (by kernel_rfl) (by kernel_rfl) (fun _ _ _ h => h) (Or.inl ⟨by rfl, fun w hS => ?_⟩) hH4 ?_
          rotate_left
          · go_simp; try exact rfl
          simp only [Act.put, List.setIfInBounds_toArray, List.set_cons_zero, List.set_cons_succ, List.getElem_toArray, List.getElem_cons_zero, List.getElem_cons_succ]
          refine wpAnyH_ready (rs := [2]) (by kernel_rfl) (by simp) (AllReadyH.cons rfl (fun K hK => ?_) (AllReadyH.nil))
          go_simp
          refine hK.out _ _ (hH4.alloc hH4.size _) (fun hH5 => ?_)
          clear hK K
          try simp only [Act.put, List.setIfInBounds_toArray, List.set_cons_zero, List.set_cons_succ]
          have HNE := hide (Nat.ne_of_gt HR.out.lt)
          have MK := hide (fresh_of HR.out 3 #[.int .i64 1, .int .i64 5, .int .i64 0, .int .i64 900, .int .i64 901])
          have HR := hide (HR.out.after (bel1 _ (.cells #[.int .i64 1, .int .i64 5, .int .i64 0, .int .i64 900, .int .i64 901] 3)))
          refine wpAnyH_take (i := 5) (v := ?_) rfl (by kernel_rfl) (by kernel_rfl) (by kernel_rfl) (fun _ _ _ h => h) (Or.inl ⟨by rfl, fun w hS => ?_⟩) hH5 ?_
          rotate_left
          · go_simp; try exact rfl
          simp only [Act.put, List.setIfInBounds_toArray, List.set_cons_zero, List.set_cons_succ, List.getElem_toArray, List.getElem_cons_zero, List.getElem_cons_succ]
          refine wpAnyH_ready (rs := [6]) (by kernel_rfl) (by simp) (AllReadyH.cons rfl (fun K hK => ?_) (AllReadyH.nil))
          obtain ⟨y, hy⟩ := pickL (l := [1, 5, 0, 900, 901]) (show j < 5 by omega)
          simp only [List.map_cons, List.map_nil] at hy
          go_simp
          refine hK.out _ _ (hH5) (fun hH6 => ?_)
          clear hK K
          try simp only [Act.put, List.setIfInBounds_toArray, List.set_cons_zero, List.set_cons_succ]
          refine wpAnyH_take (i := 13) (v := ?_) rfl (by kernel_rfl) (by kernel_rfl) (by kernel_rfl) (fun _ _ _ h => h) (Or.inl ⟨by rfl, fun w hS => ?_⟩) hH6 ?_
          rotate_left
          · go_simp; try exact rfl
          simp only [Act.put, List.setIfInBounds_toArray, List.set_cons_zero, List.set_cons_succ, List.getElem_toArray, List.getElem_cons_zero, List.getElem_cons_succ]
          refine wpAnyH_take (i := 14) (v := ?_) rfl (by kernel_rfl) (by kernel_rfl) (by kernel_rfl) (fun _ _ _ h => h) (Or.inl ⟨by rfl, fun w hS => ?_⟩) hH6 ?_
          rotate_left
          · go_simp; try exact rfl
          simp only [Act.put, List.setIfInBounds_toArray, List.set_cons_zero, List.set_cons_succ, List.getElem_toArray, List.getElem_cons_zero, List.getElem_cons_succ]
          refine wpAnyH_take (i := 15) (v := ?_) rfl (by kernel_rfl) (by kernel_rfl) (by kernel_rfl) (fun _ _ _ h => h) (Or.inl ⟨by rfl, fun w hS => ?_⟩) hH6 ?_
          rotate_left
          · go_simp; try exact rfl
          simp only [Act.put, List.setIfInBounds_toArray, List.set_cons_zero, List.set_cons_succ, List.getElem_toArray, List.getElem_cons_zero, List.getElem_cons_succ]
          refine wpAnyH_done (by kernel_rfl) ?_ _
          go_wp2_with fail
          refine bodyPost_ret (v := .tuple #[.int .i64 at_, .int .i64 y, .int .i64 (e - 1), .string s]) (by simp [results, Try.results5, go_sem]) rfl ?_
          exact ⟨_, _, _, _, rfl, hs, hH6⟩
  · go_simp
    refine hK.out _ _ (hH0.alloc hH0.size _) (fun hH1 => ?_)
    clear hK K
    try simp only [Act.put, List.setIfInBounds_toArray, List.set_cons_zero, List.set_cons_succ]
    have HNE := hide (Nat.ne_of_gt HR.out.lt)
    have MK := hide (fresh_of HR.out 3 #[.int .i64 1, .int .i64 5, .int .i64 0, .int .i64 900, .int .i64 901])
    have HR := hide (HR.out.after (bel1 _ (.cells #[.int .i64 1, .int .i64 5, .int .i64 0, .int .i64 900, .int .i64 901] 3)))
    refine wpAnyH_ready (rs := [1]) (by kernel_rfl) (by simp) (AllReadyH.cons rfl (fun K hK => ?_) (AllReadyH.nil))
    go_simp
    go_at_call 15
    refine (l91Row_any R (0) _ HR.out (by omega)).mono ?_; rintro r w5 ⟨at_, q1, rfl, hq1, hr, hf⟩
    have MK := hide (MK.out.fr hf HNE.out)
    have HR := hide hr
    have HF := hide hf
    clear hr hf
    refine hK.out _ _ (fr_new hH1 (Nat.le_of_eq hR'.out.symm) HF.out) (fun hH2 => ?_)
    clear hK K
    try simp only [Act.put, List.setIfInBounds_toArray, List.set_cons_zero, List.set_cons_succ]
    refine wpAnyH_ready (rs := [4]) (by kernel_rfl) (by simp) (AllReadyH.cons rfl (fun K hK => ?_) (AllReadyH.nil))
    go_simp
    go_at_call 16
    refine (pick_any R (q1) 5 _ HR.out (by omega) (by omega) (by omega)).mono ?_; rintro r w6 ⟨j, rfl, j0, j1, _, hr, hf⟩
    have j2 := j1 (by omega)
    obtain ⟨j, rfl⟩ : ∃ k : Nat, j = (k : Int) := ⟨j.toNat, by omega⟩
    clear j1
    have MK := hide (MK.out.fr hf HNE.out)
    have HR := hide hr
    have HF := hide hf
    clear hr hf
    refine hK.out _ _ (fr_new hH2 (Nat.le_of_eq hR'.out.symm) HF.out) (fun hH3 => ?_)
    clear hK K
    try simp only [Act.put, List.setIfInBounds_toArray, List.set_cons_zero, List.set_cons_succ]
    refine wpAnyH_take (i := 5) (v := ?_) rfl (by kernel_rfl) (by kernel_rfl) (by kernel_rfl) (fun _ _ _ h => h) (Or.inl ⟨by rfl, fun w hS => ?_⟩) hH3 ?_
    rotate_left
    · go_simp; try exact rfl
    simp only [Act.put, List.setIfInBounds_toArray, List.set_cons_zero, List.set_cons_succ, List.getElem_toArray, List.getElem_cons_zero, List.getElem_cons_succ]
    refine wpAnyH_ready (rs := [6, 8]) (by kernel_rfl) (by simp) (AllReadyH.cons rfl (fun K hK => ?_) (AllReadyH.cons rfl (fun K hK => ?_) (AllReadyH.nil)))
    · obtain ⟨y, hy⟩ := pickI (l := [1, 5, 0, 900, 901]) MK.out (show j < 5 by omega)
      replace hy : w6.cell? ⟨w1.heap.size, j, none⟩ = some (.int .i64 y) := hy
      go_simp
      refine hK.out _ _ (hH3) (fun hH4 => ?_)
      clear hK K
      try simp only [Act.put, List.setIfInBounds_toArray, List.set_cons_zero, List.set_cons_succ]
      refine wpAnyH_ready (rs := [8]) (by kernel_rfl) (by simp) (AllReadyH.cons rfl (fun K hK => ?_) (AllReadyH.nil))
      go_simp
      go_at_call 16
      refine (pick_any R (q1 + 1) 5 _ HR.out (by omega) (by omega) (by omega)).mono ?_; rintro r w7 ⟨e, rfl, e0, e1, _, hr, hf⟩
      have e2 := e1 (by omega)
      have ew : IntKind.i64.wrap (e - 1) = e - 1 := by rw [IntKind.wrap_i64]; omega
      clear e1
      have MK := hide (MK.out.fr hf HNE.out)
      have HR := hide hr
      have HF := hide hf
      clear hr hf
      refine hK.out _ _ (fr_new hH4 (Nat.le_of_eq hR'.out.symm) HF.out) (fun hH5 => ?_)
      clear hK K
      try simp only [Act.put, List.setIfInBounds_toArray, List.set_cons_zero, List.set_cons_succ]
      refine wpAnyH_take (i := 9) (v := ?_) rfl (by kernel_rfl) (by kernel_rfl) (by kernel_rfl) (fun _ _ _ h => h) (Or.inl ⟨by rfl, fun w hS => ?_⟩) hH5 ?_
      rotate_left
      · go_simp; try exact rfl
      simp only [Act.put, List.setIfInBounds_toArray, List.set_cons_zero, List.set_cons_succ, List.getElem_toArray, List.getElem_cons_zero, List.getElem_cons_succ]
      refine wpAnyH_ready (rs := [11]) (by kernel_rfl) (by simp) (AllReadyH.cons rfl (fun K hK => ?_) (AllReadyH.nil))
      go_simp
      go_at_call 17
      refine (l91Block_any R (q1 + 1 + 1) _ HR.out (by omega)).mono ?_; rintro r w8 ⟨s, q2, rfl, hs, hq2, hr, hf⟩
      have MK := hide (MK.out.fr hf HNE.out)
      have HR := hide hr
      have HF := hide hf
      clear hr hf
      refine hK.out _ _ (fr_new hH5 (Nat.le_of_eq hR'.out.symm) HF.out) (fun hH6 => ?_)
      clear hK K
      try simp only [Act.put, List.setIfInBounds_toArray, List.set_cons_zero, List.set_cons_succ]
      refine wpAnyH_take (i := 12) (v := ?_) rfl (by kernel_rfl) (by kernel_rfl) (by kernel_rfl) (fun _ _ _ h => h) (Or.inl ⟨by rfl, fun w hS => ?_⟩) hH6 ?_
      rotate_left
      · go_simp; try exact rfl
      simp only [Act.put, List.setIfInBounds_toArray, List.set_cons_zero, List.set_cons_succ, List.getElem_toArray, List.getElem_cons_zero, List.getElem_cons_succ]
      refine wpAnyH_take (i := 13) (v := ?_) rfl (by kernel_rfl) (by kernel_rfl) (by kernel_rfl) (fun _ _ _ h => h) (Or.inl ⟨by rfl, fun w hS => ?_⟩) hH6 ?_
      rotate_left
      · go_simp; try exact rfl
      simp only [Act.put, List.setIfInBounds_toArray, List.set_cons_zero, List.set_cons_succ, List.getElem_toArray, List.getElem_cons_zero, List.getElem_cons_succ]
      refine wpAnyH_take (i := 14) (v := ?_) rfl (by kernel_rfl) (by kernel_rfl) (by kernel_rfl) (fun _ _ _ h => h) (Or.inl ⟨by rfl, fun w hS => ?_⟩) hH6 ?_
      rotate_left
      · go_simp; try exact rfl
      simp only [Act.put, List.setIfInBounds_toArray, List.set_cons_zero, List.set_cons_succ, List.getElem_toArray, List.getElem_cons_zero, List.getElem_cons_succ]
      refine wpAnyH_take (i := 15) (v := ?_) rfl (by kernel_rfl) (by kernel_rfl) (by kernel_rfl) (fun _ _ _ h => h) (Or.inl ⟨by rfl, fun w hS => ?_⟩) hH6 ?_
      rotate_left
      · go_simp; try exact rfl
      simp only [Act.put, List.setIfInBounds_toArray, List.set_cons_zero, List.set_cons_succ, List.getElem_toArray, List.getElem_cons_zero, List.getElem_cons_succ]
      refine wpAnyH_done (by kernel_rfl) ?_ _
      go_wp2_with fail
      refine bodyPost_ret (v := .tuple #[.int .i64 at_, .int .i64 y, .int .i64 (e - 1), .string s]) (by simp [results, Try.results5, go_sem]) rfl ?_
      exact ⟨_, _, _, _, rfl, hs, hH6⟩
    · go_simp
      go_at_call 16
      refine (pick_any R (q1 + 1) 5 _ HR.out (by omega) (by omega) (by omega)).mono ?_; rintro r w7 ⟨e, rfl, e0, e1, _, hr, hf⟩
      have e2 := e1 (by omega)
      have ew : IntKind.i64.wrap (e - 1) = e - 1 := by rw [IntKind.wrap_i64]; omega
      clear e1
      have MK := hide (MK.out.fr hf HNE.out)
      have HR := hide hr
      have HF := hide hf
      clear hr hf
      refine hK.out _ _ (fr_new hH3 (Nat.le_of_eq hR'.out.symm) HF.out) (fun hH4 => ?_)
      clear hK K
      try simp only [Act.put, List.setIfInBounds_toArray, List.set_cons_zero, List.set_cons_succ]
      refine wpAnyH_take (i := 9) (v := ?_) rfl (by kernel_rfl) (by kernel_rfl) (by kernel_rfl) (fun _ _ _ h => h) (Or.inl ⟨by rfl, fun w hS => ?_⟩) hH4 ?_
      rotate_left
      · go_simp; try exact rfl
      simp only [Act.put, List.setIfInBounds_toArray, List.set_cons_zero, List.set_cons_succ, List.getElem_toArray, List.getElem_cons_zero, List.getElem_cons_succ]
      refine wpAnyH_ready (rs := [6, 11]) (by kernel_rfl) (by simp) (AllReadyH.cons rfl (fun K hK => ?_) (AllReadyH.cons rfl (fun K hK => ?_) (AllReadyH.nil)))
      · obtain ⟨y, hy⟩ := pickI (l := [1, 5, 0, 900, 901]) MK.out (show j < 5 by omega)
        replace hy : w7.cell? ⟨w1.heap.size, j, none⟩ = some (.int .i64 y) := hy
        go_simp
        refine hK.out _ _ (hH4) (fun hH5 => ?_)
        clear hK K
        try simp only [Act.put, List.setIfInBounds_toArray, List.set_cons_zero, List.set_cons_succ]
        refine wpAnyH_ready (rs := [11]) (by kernel_rfl) (by simp) (AllReadyH.cons rfl (fun K hK => ?_) (AllReadyH.nil))
        go_simp
        go_at_call 17
        refine (l91Block_any R (q1 + 1 + 1) _ HR.out (by omega)).mono ?_; rintro r w8 ⟨s, q2, rfl, hs, hq2, hr, hf⟩
        have MK := hide (MK.out.fr hf HNE.out)
        have HR := hide hr
        have HF := hide hf
        clear hr hf
        refine hK.out _ _ (fr_new hH5 (Nat.le_of_eq hR'.out.symm) HF.out) (fun hH6 => ?_)
        clear hK K
        try simp only [Act.put, List.setIfInBounds_toArray, List.set_cons_zero, List.set_cons_succ]
        refine wpAnyH_take (i := 12) (v := ?_) rfl (by kernel_rfl) (by kernel_rfl) (by kernel_rfl) (fun _ _ _ h => h) (Or.inl ⟨by rfl, fun w hS => ?_⟩) hH6 ?_
        rotate_left
        · go_simp; try exact rfl
        simp only [Act.put, List.setIfInBounds_toArray, List.set_cons_zero, List.set_cons_succ, List.getElem_toArray, List.getElem_cons_zero, List.getElem_cons_succ]
        refine wpAnyH_take (i := 13) (v := ?_) rfl (by kernel_rfl) (by kernel_rfl) (by kernel_rfl) (fun _ _ _ h => h) (Or.inl ⟨by rfl, fun w hS => ?_⟩) hH6 ?_
        rotate_left
        · go_simp; try exact rfl
        simp only [Act.put, List.setIfInBounds_toArray, List.set_cons_zero, List.set_cons_succ, List.getElem_toArray, List.getElem_cons_zero, List.getElem_cons_succ]
        refine wpAnyH_take (i := 14) (v := ?_) rfl (by kernel_rfl) (by kernel_rfl) (by kernel_rfl) (fun _ _ _ h => h) (Or.inl ⟨by rfl, fun w hS => ?_⟩) hH6 ?_
        rotate_left
        · go_simp; try exact rfl
        simp only [Act.put, List.setIfInBounds_toArray, List.set_cons_zero, List.set_cons_succ, List.getElem_toArray, List.getElem_cons_zero, List.getElem_cons_succ]
        refine wpAnyH_take (i := 15) (v := ?_) rfl (by kernel_rfl) (by kernel_rfl) (by kernel_rfl) (fun _ _ _ h => h) (Or.inl ⟨by rfl, fun w hS => ?_⟩) hH6 ?_
        rotate_left
        · go_simp; try exact rfl
        simp only [Act.put, List.setIfInBounds_toArray, List.set_cons_zero, List.set_cons_succ, List.getElem_toArray, List.getElem_cons_zero, List.getElem_cons_succ]
        refine wpAnyH_done (by kernel_rfl) ?_ _
        go_wp2_with fail
        refine bodyPost_ret (v := .tuple #[.int .i64 at_, .int .i64 y, .int .i64 (e - 1), .string s]) (by simp [results, Try.results5, go_sem]) rfl ?_
        exact ⟨_, _, _, _, rfl, hs, hH6⟩
      · go_simp
        go_at_call 17
        refine (l91Block_any R (q1 + 1 + 1) _ HR.out (by omega)).mono ?_; rintro r w8 ⟨s, q2, rfl, hs, hq2, hr, hf⟩
        have MK := hide (MK.out.fr hf HNE.out)
        have HR := hide hr
        have HF := hide hf
        clear hr hf
        refine hK.out _ _ (fr_new hH4 (Nat.le_of_eq hR'.out.symm) HF.out) (fun hH5 => ?_)
        clear hK K
        try simp only [Act.put, List.setIfInBounds_toArray, List.set_cons_zero, List.set_cons_succ]
        refine wpAnyH_take (i := 12) (v := ?_) rfl (by kernel_rfl) (by kernel_rfl) (by kernel_rfl) (fun _ _ _ h => h) (Or.inl ⟨by rfl, fun w hS => ?_⟩) hH5 ?_
        rotate_left
        · go_simp; try exact rfl
        simp only [Act.put, List.setIfInBounds_toArray, List.set_cons_zero, List.set_cons_succ, List.getElem_toArray, List.getElem_cons_zero, List.getElem_cons_succ]
        refine wpAnyH_ready (rs := [6]) (by kernel_rfl) (by simp) (AllReadyH.cons rfl (fun K hK => ?_) (AllReadyH.nil))
        obtain ⟨y, hy⟩ := pickI (l := [1, 5, 0, 900, 901]) MK.out (show j < 5 by omega)
        replace hy : w8.cell? ⟨w1.heap.size, j, none⟩ = some (.int .i64 y) := hy
        go_simp
        refine hK.out _ _ (hH5) (fun hH6 => ?_)
        clear hK K
        try simp only [Act.put, List.setIfInBounds_toArray, List.set_cons_zero, List.set_cons_succ]
        refine wpAnyH_take (i := 13) (v := ?_) rfl (by kernel_rfl) (by kernel_rfl) (by kernel_rfl) (fun _ _ _ h => h) (Or.inl ⟨by rfl, fun w hS => ?_⟩) hH6 ?_
        rotate_left
        · go_simp; try exact rfl
        simp only [Act.put, List.setIfInBounds_toArray, List.set_cons_zero, List.set_cons_succ, List.getElem_toArray, List.getElem_cons_zero, List.getElem_cons_succ]
        refine wpAnyH_take (i := 14) (v := ?_) rfl (by kernel_rfl) (by kernel_rfl) (by kernel_rfl) (fun _ _ _ h => h) (Or.inl ⟨by rfl, fun w hS => ?_⟩) hH6 ?_
        rotate_left
        · go_simp; try exact rfl
        simp only [Act.put, List.setIfInBounds_toArray, List.set_cons_zero, List.set_cons_succ, List.getElem_toArray, List.getElem_cons_zero, List.getElem_cons_succ]
        refine wpAnyH_take (i := 15) (v := ?_) rfl (by kernel_rfl) (by kernel_rfl) (by kernel_rfl) (fun _ _ _ h => h) (Or.inl ⟨by rfl, fun w hS => ?_⟩) hH6 ?_
        rotate_left
        · go_simp; try exact rfl
        simp only [Act.put, List.setIfInBounds_toArray, List.set_cons_zero, List.set_cons_succ, List.getElem_toArray, List.getElem_cons_zero, List.getElem_cons_succ]
        refine wpAnyH_done (by kernel_rfl) ?_ _
        go_wp2_with fail
        refine bodyPost_ret (v := .tuple #[.int .i64 at_, .int .i64 y, .int .i64 (e - 1), .string s]) (by simp [results, Try.results5, go_sem]) rfl ?_
        exact ⟨_, _, _, _, rfl, hs, hH6⟩
end Go.Proofs.Ytjdnlngahncmfaa
