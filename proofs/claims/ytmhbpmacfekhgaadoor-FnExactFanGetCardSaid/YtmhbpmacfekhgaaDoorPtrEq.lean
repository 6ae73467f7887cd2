/- Rows of pointers: what eqPtrS, pfPtrs, toPtrS and szPtrS of the laws do. -/
import Derived.Test.YtmhbpmacfekhgaaDoorPtrS
import Derived.Test.YtmhbpmacfekhgaaDoorPtrA
import Derived.Test.YtmhbpmacfekhgaaDoorMark
import Derived.Deep.RegionHeld
namespace Go.Proofs.YtmhbpmacfekhgaaDoor
open Go.RowKit
set_option linter.unusedVariables false

set_option maxHeartbeats 1000000 in
theorem eqPtr_any (a b c d e a' b' c' d' e' : Int) (w : World) :
    Calls Tryd.prog 19 #[.agg #[.int .i64 a, .int .i64 b, .int .i64 c, .int .i64 d, .int .i64 e], .agg #[.int .i64 a', .int .i64 b', .int .i64 c', .int .i64 d', .int .i64 e']] w fun r w' => r = .returned (.bool (decide ((a, b, c, d, e) = (a', b', c', d', e')))) ∧ Below w.heap.size w w' := by
  have hb : ∀ o o2 : Obj, Below w.heap.size w ((w.alloc o).alloc o2) := fun o o2 => ((Below.refl _ _).alloc (Nat.le_refl _) _).alloc (by simp) _
  have HB := hide hb
  clear hb
  go_enter Tryd.func19, Tryd.ntmps19
  go_wp2
  all_goals
    go_ret
    exact ⟨ret_bool (by simp_all), HB.out _ _⟩
theorem eqPtr_v {a b c d e a' b' c' d' e' : Int} {v : Bool} (h : decide ((a, b, c, d, e) = (a', b', c', d', e')) = v) (w : World) :
    Calls Tryd.prog 19 #[.agg #[.int .i64 a, .int .i64 b, .int .i64 c, .int .i64 d, .int .i64 e], .agg #[.int .i64 a', .int .i64 b', .int .i64 c', .int .i64 d', .int .i64 e']] w fun r w' => r = .returned (.bool v) ∧ Below w.heap.size w w' := h ▸ eqPtr_any a b c d e a' b' c' d' e' w

/-- two lists of pointers are one -/
def eqP (zs ys : List P5) : Bool := decide (zs = ys)
theorem eqP_len {zs ys : List P5} (h : zs.length ≠ ys.length) : eqP zs ys = false := decide_eq_false fun e => h (by rw [e])
theorem eqP_at {zs ys : List P5} {k : Nat} {z y : P5} (hz : zs[k]? = some z) (hy : ys[k]? = some y) (h : z ≠ y) : eqP zs ys = false :=
  decide_eq_false fun e => h (by rw [e, hy] at hz; injection hz with hz; exact hz.symm)
theorem eqP_all {zs ys : List P5} (hl : zs.length = ys.length) (h : zs.take zs.length = ys.take zs.length) : eqP zs ys = true := by
  rw [List.take_length, hl, List.take_length] at h
  exact decide_eq_true h
theorem eqP_same (zs : List P5) : eqP zs zs = true := decide_eq_true rfl
theorem P5.eta (p : P5) : (p.1, p.2.1, p.2.2.1, p.2.2.2.1, p.2.2.2.2) = p := rfl

set_option maxHeartbeats 4000000 in
theorem eqPtrS_any (A A' : Option Addr) (n c n' c' : Nat) (zs ys : List P5) (w : World) (h : Rd w 5 A n (ptrCells zs)) (h' : Rd w 5 A' n' (ptrCells ys)) (hm : n ≤ maxLen) :
    Calls Tryd.prog 32 #[.slice A n c, .slice A' n' c'] w fun r w' => r = .returned (.bool (eqP zs ys)) ∧ Below w.heap.size w w' := by
  unfold maxLen at hm
  have hzl : zs.length = n := by have := h.len; rw [ptrCells_len] at this; omega
  have hyl : ys.length = n' := by have := h'.len; rw [ptrCells_len] at this; omega
  by_cases hl : n = n'
  · subst hl
    have HL := hide (hzl.trans hyl.symm)
    have HZ := hide hzl
    have H := hide h
    have H' := hide h'
    clear hzl hyl h h'
    go_enter Tryd.func32, Tryd.ntmps32
    go_wp2
    go_loopw [5] (fun i wr => ∃ k : Nat, k ≤ n ∧ Hid (Below w.heap.size w wr) ∧ Hid (zs.take k = ys.take k) ∧ i = .int .i64 k) (fun i _ => n - (intOf i).toNat)
    case atStart => exact ⟨0, by omega, hide (Below.refl _ _), hide rfl, rfl⟩
    case round =>
      obtain ⟨k, hk, HW, HT, rfl⟩ := hrel
      by_cases hlt : k < n
      · obtain ⟨b, o, z, rfl, hb, hz, hcs⟩ := (H.out.after HW.out).ptr_at hlt
        obtain ⟨b', o', y, rfl, hb', hy, hds⟩ := (H'.out.after HW.out).ptr_at hlt
        have HZ := hide hz
        have HY := hide hy
        have HB0 := hide hb
        have HB1 := hide hb'
        have C0 := hide hcs
        have D0 := hide hds
        have i0 : (0 : Int) ≤ (k : Int) := by omega
        have i1 : (k : Int) < (n : Int) := by omega
        clear hz hy hb hb' hcs hds
        by_cases he : z = y
        · have HE := hide (show decide ((z.1, z.2.1, z.2.2.1, z.2.2.2.1, z.2.2.2.2) = (y.1, y.2.1, y.2.2.1, y.2.2.2.1, y.2.2.2.2)) = true from decide_eq_true he)
          have HE1 := hide (take_eq_snoc HZ.out HY.out HT.out he)
          clear he
          go_wp2_with fail
          refine wp_region_held_drew (S := fun x => Below wr.heap.size wr x) (by kernel_rfl) ((Below.refl _ _).drew) (fun hH => ?_)
          refine wpAnyH_take (i := 0) (v := ?_) rfl (by kernel_rfl) (by kernel_rfl) (by kernel_rfl) (fun _ _ _ h => h) (Or.inl ⟨by rfl, fun w hS => ?_⟩) hH ?_
          rotate_left
          · have c0 := (hS.cell (p := ⟨b, o + k * 5, none⟩) HB0.out).trans C0.out.1; have c1 := (hS.cell (p := ⟨b, o + k * 5 + 1, none⟩) HB0.out).trans C0.out.2.1; have c2 := (hS.cell (p := ⟨b, o + k * 5 + 2, none⟩) HB0.out).trans C0.out.2.2.1; have c3 := (hS.cell (p := ⟨b, o + k * 5 + 3, none⟩) HB0.out).trans C0.out.2.2.2.1; have c4 := (hS.cell (p := ⟨b, o + k * 5 + 4, none⟩) HB0.out).trans C0.out.2.2.2.2; have d0 := (hS.cell (p := ⟨b', o' + k * 5, none⟩) HB1.out).trans D0.out.1; have d1 := (hS.cell (p := ⟨b', o' + k * 5 + 1, none⟩) HB1.out).trans D0.out.2.1; have d2 := (hS.cell (p := ⟨b', o' + k * 5 + 2, none⟩) HB1.out).trans D0.out.2.2.1; have d3 := (hS.cell (p := ⟨b', o' + k * 5 + 3, none⟩) HB1.out).trans D0.out.2.2.2.1; have d4 := (hS.cell (p := ⟨b', o' + k * 5 + 4, none⟩) HB1.out).trans D0.out.2.2.2.2; go_simp; try exact rfl
          simp only [Act.put, List.setIfInBounds_toArray, List.set_cons_zero, List.set_cons_succ, List.getElem_toArray, List.getElem_cons_zero]
          refine wpAnyH_take (i := 1) (v := ?_) rfl (by kernel_rfl) (by kernel_rfl) (by kernel_rfl) (fun _ _ _ h => h) (Or.inl ⟨by rfl, fun w hS => ?_⟩) hH ?_
          rotate_left
          · have c0 := (hS.cell (p := ⟨b, o + k * 5, none⟩) HB0.out).trans C0.out.1; have c1 := (hS.cell (p := ⟨b, o + k * 5 + 1, none⟩) HB0.out).trans C0.out.2.1; have c2 := (hS.cell (p := ⟨b, o + k * 5 + 2, none⟩) HB0.out).trans C0.out.2.2.1; have c3 := (hS.cell (p := ⟨b, o + k * 5 + 3, none⟩) HB0.out).trans C0.out.2.2.2.1; have c4 := (hS.cell (p := ⟨b, o + k * 5 + 4, none⟩) HB0.out).trans C0.out.2.2.2.2; have d0 := (hS.cell (p := ⟨b', o' + k * 5, none⟩) HB1.out).trans D0.out.1; have d1 := (hS.cell (p := ⟨b', o' + k * 5 + 1, none⟩) HB1.out).trans D0.out.2.1; have d2 := (hS.cell (p := ⟨b', o' + k * 5 + 2, none⟩) HB1.out).trans D0.out.2.2.1; have d3 := (hS.cell (p := ⟨b', o' + k * 5 + 3, none⟩) HB1.out).trans D0.out.2.2.2.1; have d4 := (hS.cell (p := ⟨b', o' + k * 5 + 4, none⟩) HB1.out).trans D0.out.2.2.2.2; go_simp; try exact rfl
          simp only [Act.put, List.setIfInBounds_toArray, List.set_cons_zero, List.set_cons_succ, List.getElem_toArray, List.getElem_cons_zero, List.getElem_cons_succ]
          refine wpAnyH_take (i := 2) (v := ?_) rfl (by kernel_rfl) (by kernel_rfl) (by kernel_rfl) (fun _ _ _ h => h) (Or.inl ⟨by rfl, fun w hS => ?_⟩) hH ?_
          rotate_left
          · have c0 := (hS.cell (p := ⟨b, o + k * 5, none⟩) HB0.out).trans C0.out.1; have c1 := (hS.cell (p := ⟨b, o + k * 5 + 1, none⟩) HB0.out).trans C0.out.2.1; have c2 := (hS.cell (p := ⟨b, o + k * 5 + 2, none⟩) HB0.out).trans C0.out.2.2.1; have c3 := (hS.cell (p := ⟨b, o + k * 5 + 3, none⟩) HB0.out).trans C0.out.2.2.2.1; have c4 := (hS.cell (p := ⟨b, o + k * 5 + 4, none⟩) HB0.out).trans C0.out.2.2.2.2; have d0 := (hS.cell (p := ⟨b', o' + k * 5, none⟩) HB1.out).trans D0.out.1; have d1 := (hS.cell (p := ⟨b', o' + k * 5 + 1, none⟩) HB1.out).trans D0.out.2.1; have d2 := (hS.cell (p := ⟨b', o' + k * 5 + 2, none⟩) HB1.out).trans D0.out.2.2.1; have d3 := (hS.cell (p := ⟨b', o' + k * 5 + 3, none⟩) HB1.out).trans D0.out.2.2.2.1; have d4 := (hS.cell (p := ⟨b', o' + k * 5 + 4, none⟩) HB1.out).trans D0.out.2.2.2.2; go_simp; try exact rfl
          simp only [Act.put, List.setIfInBounds_toArray, List.set_cons_zero, List.set_cons_succ, List.getElem_toArray, List.getElem_cons_zero, List.getElem_cons_succ]
          refine wpAnyH_take (i := 3) (v := ?_) rfl (by kernel_rfl) (by kernel_rfl) (by kernel_rfl) (fun _ _ _ h => h) (Or.inl ⟨by rfl, fun w hS => ?_⟩) hH ?_
          rotate_left
          · have c0 := (hS.cell (p := ⟨b, o + k * 5, none⟩) HB0.out).trans C0.out.1; have c1 := (hS.cell (p := ⟨b, o + k * 5 + 1, none⟩) HB0.out).trans C0.out.2.1; have c2 := (hS.cell (p := ⟨b, o + k * 5 + 2, none⟩) HB0.out).trans C0.out.2.2.1; have c3 := (hS.cell (p := ⟨b, o + k * 5 + 3, none⟩) HB0.out).trans C0.out.2.2.2.1; have c4 := (hS.cell (p := ⟨b, o + k * 5 + 4, none⟩) HB0.out).trans C0.out.2.2.2.2; have d0 := (hS.cell (p := ⟨b', o' + k * 5, none⟩) HB1.out).trans D0.out.1; have d1 := (hS.cell (p := ⟨b', o' + k * 5 + 1, none⟩) HB1.out).trans D0.out.2.1; have d2 := (hS.cell (p := ⟨b', o' + k * 5 + 2, none⟩) HB1.out).trans D0.out.2.2.1; have d3 := (hS.cell (p := ⟨b', o' + k * 5 + 3, none⟩) HB1.out).trans D0.out.2.2.2.1; have d4 := (hS.cell (p := ⟨b', o' + k * 5 + 4, none⟩) HB1.out).trans D0.out.2.2.2.2; go_simp; try exact rfl
          simp only [Act.put, List.setIfInBounds_toArray, List.set_cons_zero, List.set_cons_succ, List.getElem_toArray, List.getElem_cons_zero, List.getElem_cons_succ]
          refine wpAnyH_take (i := 4) (v := ?_) rfl (by kernel_rfl) (by kernel_rfl) (by kernel_rfl) (fun _ _ _ h => h) (Or.inl ⟨by rfl, fun w hS => ?_⟩) hH ?_
          rotate_left
          · have c0 := (hS.cell (p := ⟨b, o + k * 5, none⟩) HB0.out).trans C0.out.1; have c1 := (hS.cell (p := ⟨b, o + k * 5 + 1, none⟩) HB0.out).trans C0.out.2.1; have c2 := (hS.cell (p := ⟨b, o + k * 5 + 2, none⟩) HB0.out).trans C0.out.2.2.1; have c3 := (hS.cell (p := ⟨b, o + k * 5 + 3, none⟩) HB0.out).trans C0.out.2.2.2.1; have c4 := (hS.cell (p := ⟨b, o + k * 5 + 4, none⟩) HB0.out).trans C0.out.2.2.2.2; have d0 := (hS.cell (p := ⟨b', o' + k * 5, none⟩) HB1.out).trans D0.out.1; have d1 := (hS.cell (p := ⟨b', o' + k * 5 + 1, none⟩) HB1.out).trans D0.out.2.1; have d2 := (hS.cell (p := ⟨b', o' + k * 5 + 2, none⟩) HB1.out).trans D0.out.2.2.1; have d3 := (hS.cell (p := ⟨b', o' + k * 5 + 3, none⟩) HB1.out).trans D0.out.2.2.2.1; have d4 := (hS.cell (p := ⟨b', o' + k * 5 + 4, none⟩) HB1.out).trans D0.out.2.2.2.2; go_simp; try exact rfl
          simp only [Act.put, List.setIfInBounds_toArray, List.set_cons_zero, List.set_cons_succ, List.getElem_toArray, List.getElem_cons_zero, List.getElem_cons_succ]
          refine wpAnyH_take (i := 5) (v := ?_) rfl (by kernel_rfl) (by kernel_rfl) (by kernel_rfl) (fun _ _ _ h => h) (Or.inl ⟨by rfl, fun w hS => ?_⟩) hH ?_
          rotate_left
          · have c0 := (hS.cell (p := ⟨b, o + k * 5, none⟩) HB0.out).trans C0.out.1; have c1 := (hS.cell (p := ⟨b, o + k * 5 + 1, none⟩) HB0.out).trans C0.out.2.1; have c2 := (hS.cell (p := ⟨b, o + k * 5 + 2, none⟩) HB0.out).trans C0.out.2.2.1; have c3 := (hS.cell (p := ⟨b, o + k * 5 + 3, none⟩) HB0.out).trans C0.out.2.2.2.1; have c4 := (hS.cell (p := ⟨b, o + k * 5 + 4, none⟩) HB0.out).trans C0.out.2.2.2.2; have d0 := (hS.cell (p := ⟨b', o' + k * 5, none⟩) HB1.out).trans D0.out.1; have d1 := (hS.cell (p := ⟨b', o' + k * 5 + 1, none⟩) HB1.out).trans D0.out.2.1; have d2 := (hS.cell (p := ⟨b', o' + k * 5 + 2, none⟩) HB1.out).trans D0.out.2.2.1; have d3 := (hS.cell (p := ⟨b', o' + k * 5 + 3, none⟩) HB1.out).trans D0.out.2.2.2.1; have d4 := (hS.cell (p := ⟨b', o' + k * 5 + 4, none⟩) HB1.out).trans D0.out.2.2.2.2; go_simp; try exact rfl
          simp only [Act.put, List.setIfInBounds_toArray, List.set_cons_zero, List.set_cons_succ, List.getElem_toArray, List.getElem_cons_zero, List.getElem_cons_succ]
          refine wpAnyH_take (i := 6) (v := ?_) rfl (by kernel_rfl) (by kernel_rfl) (by kernel_rfl) (fun _ _ _ h => h) (Or.inl ⟨by rfl, fun w hS => ?_⟩) hH ?_
          rotate_left
          · have c0 := (hS.cell (p := ⟨b, o + k * 5, none⟩) HB0.out).trans C0.out.1; have c1 := (hS.cell (p := ⟨b, o + k * 5 + 1, none⟩) HB0.out).trans C0.out.2.1; have c2 := (hS.cell (p := ⟨b, o + k * 5 + 2, none⟩) HB0.out).trans C0.out.2.2.1; have c3 := (hS.cell (p := ⟨b, o + k * 5 + 3, none⟩) HB0.out).trans C0.out.2.2.2.1; have c4 := (hS.cell (p := ⟨b, o + k * 5 + 4, none⟩) HB0.out).trans C0.out.2.2.2.2; have d0 := (hS.cell (p := ⟨b', o' + k * 5, none⟩) HB1.out).trans D0.out.1; have d1 := (hS.cell (p := ⟨b', o' + k * 5 + 1, none⟩) HB1.out).trans D0.out.2.1; have d2 := (hS.cell (p := ⟨b', o' + k * 5 + 2, none⟩) HB1.out).trans D0.out.2.2.1; have d3 := (hS.cell (p := ⟨b', o' + k * 5 + 3, none⟩) HB1.out).trans D0.out.2.2.2.1; have d4 := (hS.cell (p := ⟨b', o' + k * 5 + 4, none⟩) HB1.out).trans D0.out.2.2.2.2; go_simp; try exact rfl
          simp only [Act.put, List.setIfInBounds_toArray, List.set_cons_zero, List.set_cons_succ, List.getElem_toArray, List.getElem_cons_zero, List.getElem_cons_succ]
          refine wpAnyH_take (i := 7) (v := ?_) rfl (by kernel_rfl) (by kernel_rfl) (by kernel_rfl) (fun _ _ _ h => h) (Or.inl ⟨by rfl, fun w hS => ?_⟩) hH ?_
          rotate_left
          · have c0 := (hS.cell (p := ⟨b, o + k * 5, none⟩) HB0.out).trans C0.out.1; have c1 := (hS.cell (p := ⟨b, o + k * 5 + 1, none⟩) HB0.out).trans C0.out.2.1; have c2 := (hS.cell (p := ⟨b, o + k * 5 + 2, none⟩) HB0.out).trans C0.out.2.2.1; have c3 := (hS.cell (p := ⟨b, o + k * 5 + 3, none⟩) HB0.out).trans C0.out.2.2.2.1; have c4 := (hS.cell (p := ⟨b, o + k * 5 + 4, none⟩) HB0.out).trans C0.out.2.2.2.2; have d0 := (hS.cell (p := ⟨b', o' + k * 5, none⟩) HB1.out).trans D0.out.1; have d1 := (hS.cell (p := ⟨b', o' + k * 5 + 1, none⟩) HB1.out).trans D0.out.2.1; have d2 := (hS.cell (p := ⟨b', o' + k * 5 + 2, none⟩) HB1.out).trans D0.out.2.2.1; have d3 := (hS.cell (p := ⟨b', o' + k * 5 + 3, none⟩) HB1.out).trans D0.out.2.2.2.1; have d4 := (hS.cell (p := ⟨b', o' + k * 5 + 4, none⟩) HB1.out).trans D0.out.2.2.2.2; go_simp; try exact rfl
          simp only [Act.put, List.setIfInBounds_toArray, List.set_cons_zero, List.set_cons_succ, List.getElem_toArray, List.getElem_cons_zero, List.getElem_cons_succ]
          refine wpAnyH_ready (rs := [8]) (by kernel_rfl) (by simp) (AllReadyH.cons rfl (fun K hK => ?_) AllReadyH.nil)
          go_simp
          go_at_call 19
          refine (eqPtr_v HE.out _).mono ?_; rintro r w1 ⟨rfl, hb1⟩
          refine hK.out _ _ (hH.trans (hb1.mono hH.size)) (fun hH5 => ?_)
          clear hK K
          try simp only [Act.put, List.setIfInBounds_toArray, List.set_cons_zero, List.set_cons_succ]
          refine wpAnyH_take (i := 9) (v := ?_) rfl (by kernel_rfl) (by kernel_rfl) (by kernel_rfl) (fun _ _ _ h => h) (Or.inl ⟨by rfl, fun w hS => ?_⟩) hH5 ?_
          rotate_left
          · have c0 := (hS.cell (p := ⟨b, o + k * 5, none⟩) HB0.out).trans C0.out.1; have c1 := (hS.cell (p := ⟨b, o + k * 5 + 1, none⟩) HB0.out).trans C0.out.2.1; have c2 := (hS.cell (p := ⟨b, o + k * 5 + 2, none⟩) HB0.out).trans C0.out.2.2.1; have c3 := (hS.cell (p := ⟨b, o + k * 5 + 3, none⟩) HB0.out).trans C0.out.2.2.2.1; have c4 := (hS.cell (p := ⟨b, o + k * 5 + 4, none⟩) HB0.out).trans C0.out.2.2.2.2; have d0 := (hS.cell (p := ⟨b', o' + k * 5, none⟩) HB1.out).trans D0.out.1; have d1 := (hS.cell (p := ⟨b', o' + k * 5 + 1, none⟩) HB1.out).trans D0.out.2.1; have d2 := (hS.cell (p := ⟨b', o' + k * 5 + 2, none⟩) HB1.out).trans D0.out.2.2.1; have d3 := (hS.cell (p := ⟨b', o' + k * 5 + 3, none⟩) HB1.out).trans D0.out.2.2.2.1; have d4 := (hS.cell (p := ⟨b', o' + k * 5 + 4, none⟩) HB1.out).trans D0.out.2.2.2.2; go_simp; try exact rfl
          simp only [Act.put, List.setIfInBounds_toArray, List.set_cons_zero, List.set_cons_succ, List.getElem_toArray, List.getElem_cons_zero, List.getElem_cons_succ]
          refine wpAnyH_done (by kernel_rfl) ?_ _
          go_wp2_with fail
          go_roundw
          case rel => exact ⟨k + 1, by omega, hide (HW.out.trans (hH5.mono HW.out.size)), HE1, int_eq (by omega)⟩
          case measure => simp [intOf]; omega
        · have HE := hide (show decide ((z.1, z.2.1, z.2.2.1, z.2.2.2.1, z.2.2.2.2) = (y.1, y.2.1, y.2.2.1, y.2.2.2.1, y.2.2.2.2)) = false from decide_eq_false he)
          have HF := hide (eqP_at HZ.out HY.out he)
          clear he
          go_wp2_with fail
          refine wp_region_held_drew (S := fun x => Below wr.heap.size wr x) (by kernel_rfl) ((Below.refl _ _).drew) (fun hH => ?_)
          refine wpAnyH_take (i := 0) (v := ?_) rfl (by kernel_rfl) (by kernel_rfl) (by kernel_rfl) (fun _ _ _ h => h) (Or.inl ⟨by rfl, fun w hS => ?_⟩) hH ?_
          rotate_left
          · have c0 := (hS.cell (p := ⟨b, o + k * 5, none⟩) HB0.out).trans C0.out.1; have c1 := (hS.cell (p := ⟨b, o + k * 5 + 1, none⟩) HB0.out).trans C0.out.2.1; have c2 := (hS.cell (p := ⟨b, o + k * 5 + 2, none⟩) HB0.out).trans C0.out.2.2.1; have c3 := (hS.cell (p := ⟨b, o + k * 5 + 3, none⟩) HB0.out).trans C0.out.2.2.2.1; have c4 := (hS.cell (p := ⟨b, o + k * 5 + 4, none⟩) HB0.out).trans C0.out.2.2.2.2; have d0 := (hS.cell (p := ⟨b', o' + k * 5, none⟩) HB1.out).trans D0.out.1; have d1 := (hS.cell (p := ⟨b', o' + k * 5 + 1, none⟩) HB1.out).trans D0.out.2.1; have d2 := (hS.cell (p := ⟨b', o' + k * 5 + 2, none⟩) HB1.out).trans D0.out.2.2.1; have d3 := (hS.cell (p := ⟨b', o' + k * 5 + 3, none⟩) HB1.out).trans D0.out.2.2.2.1; have d4 := (hS.cell (p := ⟨b', o' + k * 5 + 4, none⟩) HB1.out).trans D0.out.2.2.2.2; go_simp; try exact rfl
          simp only [Act.put, List.setIfInBounds_toArray, List.set_cons_zero, List.set_cons_succ, List.getElem_toArray, List.getElem_cons_zero]
          refine wpAnyH_take (i := 1) (v := ?_) rfl (by kernel_rfl) (by kernel_rfl) (by kernel_rfl) (fun _ _ _ h => h) (Or.inl ⟨by rfl, fun w hS => ?_⟩) hH ?_
          rotate_left
          · have c0 := (hS.cell (p := ⟨b, o + k * 5, none⟩) HB0.out).trans C0.out.1; have c1 := (hS.cell (p := ⟨b, o + k * 5 + 1, none⟩) HB0.out).trans C0.out.2.1; have c2 := (hS.cell (p := ⟨b, o + k * 5 + 2, none⟩) HB0.out).trans C0.out.2.2.1; have c3 := (hS.cell (p := ⟨b, o + k * 5 + 3, none⟩) HB0.out).trans C0.out.2.2.2.1; have c4 := (hS.cell (p := ⟨b, o + k * 5 + 4, none⟩) HB0.out).trans C0.out.2.2.2.2; have d0 := (hS.cell (p := ⟨b', o' + k * 5, none⟩) HB1.out).trans D0.out.1; have d1 := (hS.cell (p := ⟨b', o' + k * 5 + 1, none⟩) HB1.out).trans D0.out.2.1; have d2 := (hS.cell (p := ⟨b', o' + k * 5 + 2, none⟩) HB1.out).trans D0.out.2.2.1; have d3 := (hS.cell (p := ⟨b', o' + k * 5 + 3, none⟩) HB1.out).trans D0.out.2.2.2.1; have d4 := (hS.cell (p := ⟨b', o' + k * 5 + 4, none⟩) HB1.out).trans D0.out.2.2.2.2; go_simp; try exact rfl
          simp only [Act.put, List.setIfInBounds_toArray, List.set_cons_zero, List.set_cons_succ, List.getElem_toArray, List.getElem_cons_zero, List.getElem_cons_succ]
          refine wpAnyH_take (i := 2) (v := ?_) rfl (by kernel_rfl) (by kernel_rfl) (by kernel_rfl) (fun _ _ _ h => h) (Or.inl ⟨by rfl, fun w hS => ?_⟩) hH ?_
          rotate_left
          · have c0 := (hS.cell (p := ⟨b, o + k * 5, none⟩) HB0.out).trans C0.out.1; have c1 := (hS.cell (p := ⟨b, o + k * 5 + 1, none⟩) HB0.out).trans C0.out.2.1; have c2 := (hS.cell (p := ⟨b, o + k * 5 + 2, none⟩) HB0.out).trans C0.out.2.2.1; have c3 := (hS.cell (p := ⟨b, o + k * 5 + 3, none⟩) HB0.out).trans C0.out.2.2.2.1; have c4 := (hS.cell (p := ⟨b, o + k * 5 + 4, none⟩) HB0.out).trans C0.out.2.2.2.2; have d0 := (hS.cell (p := ⟨b', o' + k * 5, none⟩) HB1.out).trans D0.out.1; have d1 := (hS.cell (p := ⟨b', o' + k * 5 + 1, none⟩) HB1.out).trans D0.out.2.1; have d2 := (hS.cell (p := ⟨b', o' + k * 5 + 2, none⟩) HB1.out).trans D0.out.2.2.1; have d3 := (hS.cell (p := ⟨b', o' + k * 5 + 3, none⟩) HB1.out).trans D0.out.2.2.2.1; have d4 := (hS.cell (p := ⟨b', o' + k * 5 + 4, none⟩) HB1.out).trans D0.out.2.2.2.2; go_simp; try exact rfl
          simp only [Act.put, List.setIfInBounds_toArray, List.set_cons_zero, List.set_cons_succ, List.getElem_toArray, List.getElem_cons_zero, List.getElem_cons_succ]
          refine wpAnyH_take (i := 3) (v := ?_) rfl (by kernel_rfl) (by kernel_rfl) (by kernel_rfl) (fun _ _ _ h => h) (Or.inl ⟨by rfl, fun w hS => ?_⟩) hH ?_
          rotate_left
          · have c0 := (hS.cell (p := ⟨b, o + k * 5, none⟩) HB0.out).trans C0.out.1; have c1 := (hS.cell (p := ⟨b, o + k * 5 + 1, none⟩) HB0.out).trans C0.out.2.1; have c2 := (hS.cell (p := ⟨b, o + k * 5 + 2, none⟩) HB0.out).trans C0.out.2.2.1; have c3 := (hS.cell (p := ⟨b, o + k * 5 + 3, none⟩) HB0.out).trans C0.out.2.2.2.1; have c4 := (hS.cell (p := ⟨b, o + k * 5 + 4, none⟩) HB0.out).trans C0.out.2.2.2.2; have d0 := (hS.cell (p := ⟨b', o' + k * 5, none⟩) HB1.out).trans D0.out.1; have d1 := (hS.cell (p := ⟨b', o' + k * 5 + 1, none⟩) HB1.out).trans D0.out.2.1; have d2 := (hS.cell (p := ⟨b', o' + k * 5 + 2, none⟩) HB1.out).trans D0.out.2.2.1; have d3 := (hS.cell (p := ⟨b', o' + k * 5 + 3, none⟩) HB1.out).trans D0.out.2.2.2.1; have d4 := (hS.cell (p := ⟨b', o' + k * 5 + 4, none⟩) HB1.out).trans D0.out.2.2.2.2; go_simp; try exact rfl
          simp only [Act.put, List.setIfInBounds_toArray, List.set_cons_zero, List.set_cons_succ, List.getElem_toArray, List.getElem_cons_zero, List.getElem_cons_succ]
          refine wpAnyH_take (i := 4) (v := ?_) rfl (by kernel_rfl) (by kernel_rfl) (by kernel_rfl) (fun _ _ _ h => h) (Or.inl ⟨by rfl, fun w hS => ?_⟩) hH ?_
          rotate_left
          · have c0 := (hS.cell (p := ⟨b, o + k * 5, none⟩) HB0.out).trans C0.out.1; have c1 := (hS.cell (p := ⟨b, o + k * 5 + 1, none⟩) HB0.out).trans C0.out.2.1; have c2 := (hS.cell (p := ⟨b, o + k * 5 + 2, none⟩) HB0.out).trans C0.out.2.2.1; have c3 := (hS.cell (p := ⟨b, o + k * 5 + 3, none⟩) HB0.out).trans C0.out.2.2.2.1; have c4 := (hS.cell (p := ⟨b, o + k * 5 + 4, none⟩) HB0.out).trans C0.out.2.2.2.2; have d0 := (hS.cell (p := ⟨b', o' + k * 5, none⟩) HB1.out).trans D0.out.1; have d1 := (hS.cell (p := ⟨b', o' + k * 5 + 1, none⟩) HB1.out).trans D0.out.2.1; have d2 := (hS.cell (p := ⟨b', o' + k * 5 + 2, none⟩) HB1.out).trans D0.out.2.2.1; have d3 := (hS.cell (p := ⟨b', o' + k * 5 + 3, none⟩) HB1.out).trans D0.out.2.2.2.1; have d4 := (hS.cell (p := ⟨b', o' + k * 5 + 4, none⟩) HB1.out).trans D0.out.2.2.2.2; go_simp; try exact rfl
          simp only [Act.put, List.setIfInBounds_toArray, List.set_cons_zero, List.set_cons_succ, List.getElem_toArray, List.getElem_cons_zero, List.getElem_cons_succ]
          refine wpAnyH_take (i := 5) (v := ?_) rfl (by kernel_rfl) (by kernel_rfl) (by kernel_rfl) (fun _ _ _ h => h) (Or.inl ⟨by rfl, fun w hS => ?_⟩) hH ?_
          rotate_left
          · have c0 := (hS.cell (p := ⟨b, o + k * 5, none⟩) HB0.out).trans C0.out.1; have c1 := (hS.cell (p := ⟨b, o + k * 5 + 1, none⟩) HB0.out).trans C0.out.2.1; have c2 := (hS.cell (p := ⟨b, o + k * 5 + 2, none⟩) HB0.out).trans C0.out.2.2.1; have c3 := (hS.cell (p := ⟨b, o + k * 5 + 3, none⟩) HB0.out).trans C0.out.2.2.2.1; have c4 := (hS.cell (p := ⟨b, o + k * 5 + 4, none⟩) HB0.out).trans C0.out.2.2.2.2; have d0 := (hS.cell (p := ⟨b', o' + k * 5, none⟩) HB1.out).trans D0.out.1; have d1 := (hS.cell (p := ⟨b', o' + k * 5 + 1, none⟩) HB1.out).trans D0.out.2.1; have d2 := (hS.cell (p := ⟨b', o' + k * 5 + 2, none⟩) HB1.out).trans D0.out.2.2.1; have d3 := (hS.cell (p := ⟨b', o' + k * 5 + 3, none⟩) HB1.out).trans D0.out.2.2.2.1; have d4 := (hS.cell (p := ⟨b', o' + k * 5 + 4, none⟩) HB1.out).trans D0.out.2.2.2.2; go_simp; try exact rfl
          simp only [Act.put, List.setIfInBounds_toArray, List.set_cons_zero, List.set_cons_succ, List.getElem_toArray, List.getElem_cons_zero, List.getElem_cons_succ]
          refine wpAnyH_take (i := 6) (v := ?_) rfl (by kernel_rfl) (by kernel_rfl) (by kernel_rfl) (fun _ _ _ h => h) (Or.inl ⟨by rfl, fun w hS => ?_⟩) hH ?_
          rotate_left
          · have c0 := (hS.cell (p := ⟨b, o + k * 5, none⟩) HB0.out).trans C0.out.1; have c1 := (hS.cell (p := ⟨b, o + k * 5 + 1, none⟩) HB0.out).trans C0.out.2.1; have c2 := (hS.cell (p := ⟨b, o + k * 5 + 2, none⟩) HB0.out).trans C0.out.2.2.1; have c3 := (hS.cell (p := ⟨b, o + k * 5 + 3, none⟩) HB0.out).trans C0.out.2.2.2.1; have c4 := (hS.cell (p := ⟨b, o + k * 5 + 4, none⟩) HB0.out).trans C0.out.2.2.2.2; have d0 := (hS.cell (p := ⟨b', o' + k * 5, none⟩) HB1.out).trans D0.out.1; have d1 := (hS.cell (p := ⟨b', o' + k * 5 + 1, none⟩) HB1.out).trans D0.out.2.1; have d2 := (hS.cell (p := ⟨b', o' + k * 5 + 2, none⟩) HB1.out).trans D0.out.2.2.1; have d3 := (hS.cell (p := ⟨b', o' + k * 5 + 3, none⟩) HB1.out).trans D0.out.2.2.2.1; have d4 := (hS.cell (p := ⟨b', o' + k * 5 + 4, none⟩) HB1.out).trans D0.out.2.2.2.2; go_simp; try exact rfl
          simp only [Act.put, List.setIfInBounds_toArray, List.set_cons_zero, List.set_cons_succ, List.getElem_toArray, List.getElem_cons_zero, List.getElem_cons_succ]
          refine wpAnyH_take (i := 7) (v := ?_) rfl (by kernel_rfl) (by kernel_rfl) (by kernel_rfl) (fun _ _ _ h => h) (Or.inl ⟨by rfl, fun w hS => ?_⟩) hH ?_
          rotate_left
          · have c0 := (hS.cell (p := ⟨b, o + k * 5, none⟩) HB0.out).trans C0.out.1; have c1 := (hS.cell (p := ⟨b, o + k * 5 + 1, none⟩) HB0.out).trans C0.out.2.1; have c2 := (hS.cell (p := ⟨b, o + k * 5 + 2, none⟩) HB0.out).trans C0.out.2.2.1; have c3 := (hS.cell (p := ⟨b, o + k * 5 + 3, none⟩) HB0.out).trans C0.out.2.2.2.1; have c4 := (hS.cell (p := ⟨b, o + k * 5 + 4, none⟩) HB0.out).trans C0.out.2.2.2.2; have d0 := (hS.cell (p := ⟨b', o' + k * 5, none⟩) HB1.out).trans D0.out.1; have d1 := (hS.cell (p := ⟨b', o' + k * 5 + 1, none⟩) HB1.out).trans D0.out.2.1; have d2 := (hS.cell (p := ⟨b', o' + k * 5 + 2, none⟩) HB1.out).trans D0.out.2.2.1; have d3 := (hS.cell (p := ⟨b', o' + k * 5 + 3, none⟩) HB1.out).trans D0.out.2.2.2.1; have d4 := (hS.cell (p := ⟨b', o' + k * 5 + 4, none⟩) HB1.out).trans D0.out.2.2.2.2; go_simp; try exact rfl
          simp only [Act.put, List.setIfInBounds_toArray, List.set_cons_zero, List.set_cons_succ, List.getElem_toArray, List.getElem_cons_zero, List.getElem_cons_succ]
          refine wpAnyH_ready (rs := [8]) (by kernel_rfl) (by simp) (AllReadyH.cons rfl (fun K hK => ?_) AllReadyH.nil)
          go_simp
          go_at_call 19
          refine (eqPtr_v HE.out _).mono ?_; rintro r w1 ⟨rfl, hb1⟩
          refine hK.out _ _ (hH.trans (hb1.mono hH.size)) (fun hH5 => ?_)
          clear hK K
          try simp only [Act.put, List.setIfInBounds_toArray, List.set_cons_zero, List.set_cons_succ]
          refine wpAnyH_take (i := 9) (v := ?_) rfl (by kernel_rfl) (by kernel_rfl) (by kernel_rfl) (fun _ _ _ h => h) (Or.inl ⟨by rfl, fun w hS => ?_⟩) hH5 ?_
          rotate_left
          · have c0 := (hS.cell (p := ⟨b, o + k * 5, none⟩) HB0.out).trans C0.out.1; have c1 := (hS.cell (p := ⟨b, o + k * 5 + 1, none⟩) HB0.out).trans C0.out.2.1; have c2 := (hS.cell (p := ⟨b, o + k * 5 + 2, none⟩) HB0.out).trans C0.out.2.2.1; have c3 := (hS.cell (p := ⟨b, o + k * 5 + 3, none⟩) HB0.out).trans C0.out.2.2.2.1; have c4 := (hS.cell (p := ⟨b, o + k * 5 + 4, none⟩) HB0.out).trans C0.out.2.2.2.2; have d0 := (hS.cell (p := ⟨b', o' + k * 5, none⟩) HB1.out).trans D0.out.1; have d1 := (hS.cell (p := ⟨b', o' + k * 5 + 1, none⟩) HB1.out).trans D0.out.2.1; have d2 := (hS.cell (p := ⟨b', o' + k * 5 + 2, none⟩) HB1.out).trans D0.out.2.2.1; have d3 := (hS.cell (p := ⟨b', o' + k * 5 + 3, none⟩) HB1.out).trans D0.out.2.2.2.1; have d4 := (hS.cell (p := ⟨b', o' + k * 5 + 4, none⟩) HB1.out).trans D0.out.2.2.2.2; go_simp; try exact rfl
          simp only [Act.put, List.setIfInBounds_toArray, List.set_cons_zero, List.set_cons_succ, List.getElem_toArray, List.getElem_cons_zero, List.getElem_cons_succ]
          refine wpAnyH_done (by kernel_rfl) ?_ _
          go_wp2_with fail
          go_ret
          exact ⟨ret_bool HF.out.symm, HW.out.trans (hH5.mono HW.out.size)⟩
      · have HF := hide (eqP_all HL.out (by have e : k = zs.length := by have := HZ.out; omega
                                            rw [e] at HT; exact HT.out))
        go_wp2
        go_ret
        exact ⟨ret_bool HF.out.symm, HW.out⟩
  · have HF := hide (eqP_len (zs := zs) (ys := ys) (by omega))
    have hn : ((n : Int) == (n' : Int)) = false := by simp; omega
    clear hzl hyl h h'
    go_enter Tryd.func32, Tryd.ntmps32
    go_wp2
    all_goals (first | (go_ret; exact ⟨ret_bool HF.out.symm, Below.refl _ _⟩) | (exfalso; simp_all))
theorem eqPtrS_v {A A' : Option Addr} {n c n' c' : Nat} {zs ys : List P5} {v : Bool} (hv : eqP zs ys = v) (w : World) (h : Rd w 5 A n (ptrCells zs)) (h' : Rd w 5 A' n' (ptrCells ys)) (hm : n ≤ maxLen) :
    Calls Tryd.prog 32 #[.slice A n c, .slice A' n' c'] w fun r w' => r = .returned (.bool v) ∧ Below w.heap.size w w' := hv ▸ eqPtrS_any A A' n c n' c' zs ys w h h' hm

theorem info_ptr : (Tryd.prog.info? 25).map (fun i => (i.zero, i.size, i.bytes)) = some (some (.agg #[.int .i64 0, .int .i64 0, .int .i64 0, .int .i64 0, .int .i64 0]), 5, 40) := by kernel_rfl
/-- make([]Ptr, n) -/
theorem make_ptrs (n : Nat) (hn : n ≤ 1000000000) (w : World) :
    (Instr.makeSlice 42 (.int .i64 (n : Int)) (.int .i64 (n : Int))).run Tryd.prog w = .ok (.slice (some ⟨w.heap.size, 0, none⟩) n n) (w.alloc (.cells (madeCells #[.int .i64 0, .int .i64 0, .int .i64 0, .int .i64 0, .int .i64 0] (n * 5)) 25)) := by
  obtain ⟨i, hi, hz, hs, hb⟩ := info_parts info_ptr
  have hr := run_make (P := Tryd.prog) w 42 25 i _ Tryd.underlying42 hi hz .i64 .i64 n n (by omega) (by omega) (by rw [hb]; omega) (by omega)
  simp only [Int.toNat_natCast, hs] at hr
  exact hr
theorem putP5 {w : World} {g i : Nat} {t : TypeId} {cs : Array Value} (h : Bk w g t cs) (a b c d e : Value) :
    Bk (((((w.setCell ⟨g, i, none⟩ a).setCell ⟨g, i + 1, none⟩ b).setCell ⟨g, i + 2, none⟩ c).setCell ⟨g, i + 3, none⟩ d).setCell ⟨g, i + 4, none⟩ e) g t (((((cs.setIfInBounds i a).setIfInBounds (i + 1) b).setIfInBounds (i + 2) c).setIfInBounds (i + 3) d).setIfInBounds (i + 4) e) :=
  ((((h.put i a).put (i + 1) b).put (i + 2) c).put (i + 3) d).put (i + 4) e
theorem ptr_put {zs : List P5} {k : Nat} {z : P5} {cs : Array Value} (hz : zs[k]? = some z) (hs : cs.size = zs.length * 5) (h : ∀ j, j < k * 5 → cs[j]? = (ptrCells zs)[j]?) :
    ∀ j, j < (k + 1) * 5 → (((((cs.setIfInBounds (k * 5) (.int .i64 z.1)).setIfInBounds (k * 5 + 1) (.int .i64 z.2.1)).setIfInBounds (k * 5 + 2) (.int .i64 z.2.2.1)).setIfInBounds (k * 5 + 3) (.int .i64 z.2.2.2.1)).setIfInBounds (k * 5 + 4) (.int .i64 z.2.2.2.2))[j]? = (ptrCells zs)[j]? := by
  intro j hj
  have hk : k < zs.length := (List.getElem?_eq_some_iff.1 hz).1
  simp only [Array.getElem?_setIfInBounds, Array.size_setIfInBounds]
  by_cases h0 : j < k * 5
  · rw [if_neg (by omega), if_neg (by omega), if_neg (by omega), if_neg (by omega), if_neg (by omega)]
    exact h j h0
  · obtain ⟨i, rfl⟩ : ∃ i, j = k * 5 + i := ⟨j - k * 5, by omega⟩
    have hi : i < 5 := by omega
    rw [ptrCells_at zs k i z hz hi]
    match i, hi with
    | 0, _ => rw [if_neg (by omega), if_neg (by omega), if_neg (by omega), if_neg (by omega), if_pos (by omega), if_pos (by omega)]; rfl
    | 1, _ => rw [if_neg (by omega), if_neg (by omega), if_neg (by omega), if_pos (by omega), if_pos (by omega)]; rfl
    | 2, _ => rw [if_neg (by omega), if_neg (by omega), if_pos (by omega), if_pos (by omega)]; rfl
    | 3, _ => rw [if_neg (by omega), if_pos (by omega), if_pos (by omega)]; rfl
    | 4, _ => rw [if_pos (by omega), if_pos (by omega)]; rfl
set_option maxHeartbeats 2000000 in
theorem toPtrS_any (A : Option Addr) (n c : Nat) (zs : List P5) (w : World) (h : Rd w 5 A n (ptrCells zs)) (hm : n ≤ 1000000000) :
    Calls Tryd.prog 30 #[.slice A n c] w fun r w' => r = .returned (.slice (some ⟨w.heap.size, 0, none⟩) n n) ∧ Bk w' w.heap.size 25 (ptrCells zs).toArray ∧ Below w.heap.size w w' ∧ w.heap.size < w'.heap.size := by
  have hmk := make_ptrs n hm
  have hzl : zs.length = n := by have := h.len; rw [ptrCells_len] at this; omega
  have HZ := hide hzl
  have H := hide h
  clear hzl h
  go_enter Tryd.func30, Tryd.ntmps30
  go_wp2
  go_loopw [4] (fun i wr => ∃ (k : Nat) (cs : Array Value), k ≤ n ∧ Hid (Bk wr w.heap.size 25 cs) ∧ Hid (cs.size = n * 5) ∧ Hid (∀ j, j < k * 5 → cs[j]? = (ptrCells zs)[j]?) ∧ Hid (Below w.heap.size w wr) ∧ i = .int .i64 k) (fun i _ => n - (intOf i).toNat)
  case atStart => exact ⟨0, _, by omega, hide (Bk.fresh _ _ _), hide (size_madeCells _ _), hide (fun j hj => absurd hj (by omega)), hide (bel1 _ _), rfl⟩
  case round =>
    obtain ⟨k, cs, hk, HB, HS, HM, HF, rfl⟩ := hrel
    clear hmk
    by_cases hlt : k < n
    · obtain ⟨b, o, z, rfl, hb, hz, hc0, hc1, hc2, hc3, hc4⟩ := (H.out.after HF.out).ptr_at hlt
      have HZk := hide hz
      have i0 : (0 : Int) ≤ (k : Int) := by omega
      have i1 : (k : Int) < (n : Int) := by omega
      clear hz
      go_wp2_with fail
      refine (toPtr_any z.1 z.2.1 z.2.2.1 z.2.2.2.1 z.2.2.2.2 _).mono ?_; rintro r w1 ⟨rfl, hb1⟩
      have HB1 := HB.out.after hb1
      have ks : k * 5 + 4 < cs.size := by have := HS.out; omega
      have cat : ∀ j, j < 5 → ∃ u, w1.cell? ⟨w.heap.size, k * 5 + j, none⟩ = some u := fun j hj => ⟨cs[k * 5 + j]'(by omega), by rw [HB1.cell]; exact Array.getElem?_eq_getElem _⟩
      obtain ⟨u0, d0⟩ := cat 0 (by omega)
      obtain ⟨u1, d1⟩ := cat 1 (by omega)
      obtain ⟨u2, d2⟩ := cat 2 (by omega)
      obtain ⟨u3, d3⟩ := cat 3 (by omega)
      obtain ⟨u4, d4⟩ := cat 4 (by omega)
      rw [Nat.add_zero] at d0
      have f0 := HB1.frozen (k * 5)
      have f1 := HB1.frozen (k * 5 + 1)
      have f2 := HB1.frozen (k * 5 + 2)
      have f3 := HB1.frozen (k * 5 + 3)
      have f4 := HB1.frozen (k * 5 + 4)
      have HP := hide (putP5 (i := k * 5) HB1 (.int .i64 z.1) (.int .i64 z.2.1) (.int .i64 z.2.2.1) (.int .i64 z.2.2.2.1) (.int .i64 z.2.2.2.2))
      have HF1 := hide (((((hide (HF.out.trans (hb1.mono HF.out.size))).out.setCell (p := ⟨w.heap.size, k * 5, none⟩) (Nat.le_refl _) (.int .i64 z.1)).setCell (p := ⟨w.heap.size, k * 5 + 1, none⟩) (Nat.le_refl _) (.int .i64 z.2.1)).setCell (p := ⟨w.heap.size, k * 5 + 2, none⟩) (Nat.le_refl _) (.int .i64 z.2.2.1)).setCell (p := ⟨w.heap.size, k * 5 + 3, none⟩) (Nat.le_refl _) (.int .i64 z.2.2.2.1) |>.setCell (p := ⟨w.heap.size, k * 5 + 4, none⟩) (Nat.le_refl _) (.int .i64 z.2.2.2.2))
      clear hb1 HB1 cat
      go_wp2_with fail
      go_roundw
      case rel => exact ⟨k + 1, _, by omega, HP, hide (by simp only [Array.size_setIfInBounds]; exact HS.out), hide (ptr_put HZk.out (by rw [HZ.out]; exact HS.out) HM.out), HF1, int_eq (by omega)⟩
      case measure => simp [intOf]; omega
    · go_wp2_with fail
      go_ret
      have e : k = n := by omega
      subst e
      refine ⟨rfl, ?_, HF.out, HB.out.lt⟩
      have e2 := arr_ext (cs := cs) (xs := ptrCells zs) (by rw [HS.out, ptrCells_len, HZ.out]) (fun j hj => HM.out j (by rw [ptrCells_len, HZ.out] at hj; exact hj))
      rw [← e2]
      exact HB.out
theorem Bk.rdP {w : World} {g n : Nat} {zs : List P5} (h : Bk w g 25 (ptrCells zs).toArray) (hn : zs.length = n) : Rd w 5 (some ⟨g, 0, none⟩) n (ptrCells zs) :=
  h.rd (by rw [ptrCells_len, hn]) (fun j u hu => by rw [List.getElem?_toArray]; exact hu)
set_option maxHeartbeats 400000 in
theorem szPtrS_any (A : Option Addr) (n c : Nat) (left : Int) (w : World) (hn : n ≤ maxLen) (h0 : 0 ≤ left) (h1 : left ≤ 1048576) :
    Calls Tryd.prog 28 #[.slice A n c, .int .i64 left] w fun r w' => r = .returned (.int .i64 (szI left n)) ∧ w = w' := by
  unfold maxLen at hn
  by_cases hl : left < n
  · have hl' : left - (n : Int) < 0 := by omega
    have e : szI left n = -1 := if_pos hl
    rw [e]
    clear e
    go_enter Tryd.func28, Tryd.ntmps28
    go_wp2
    go_ret
    exact ⟨rfl, rfl⟩
  · have hl' : ¬ left - (n : Int) < 0 := by omega
    have e : szI left n = left - n := if_neg hl
    rw [e]
    clear e
    go_enter Tryd.func28, Tryd.ntmps28
    go_wp2
    go_ret
    exact ⟨rfl, rfl⟩
end Go.Proofs.YtmhbpmacfekhgaaDoor
