/- Disks are compared: eqWait, eqWaitS, eqDisk. -/
import Derived.Test.YtcaoekaephnimaaMark
import Derived.Test.YtcaoekaephnimaaOpenDisk
import Derived.Test.YtcaoekaephnimaaDiskNew
namespace Go.Proofs.Ytcaoekaephnimaa
open Go.RowKit
set_option linter.unusedVariables false

theorem Rd.wait_at {w : World} {A : Option Addr} {n : Nat} {zs : List (Int × ByteArray)} (h : Rd w 2 A n (waitCells zs)) {k : Nat} (hk : k < n) :
    ∃ b o z, A = some ⟨b, o, none⟩ ∧ b < w.heap.size ∧ zs[k]? = some z ∧ w.cell? ⟨b, o + k * 2, none⟩ = some (.int .i64 z.1) ∧ w.cell? ⟨b, o + k * 2 + 1, none⟩ = some (.string z.2) := by
  obtain ⟨b, o, e, hb, hc⟩ := h.at_ (by omega)
  have hl : k < zs.length := by have := h.len; rw [waitCells_len] at this; omega
  obtain ⟨c0, c1⟩ := waitCells_at zs k zs[k] (List.getElem?_eq_getElem hl)
  exact ⟨b, o, zs[k], e, hb, List.getElem?_eq_getElem hl, hc _ _ c0, hc _ _ c1⟩

set_option maxHeartbeats 1000000 in
theorem eqWait_any (a c : Int) (s t : ByteArray) (w : World) :
    Calls Try.prog 98 #[.agg #[.int .i64 a, .string s], .agg #[.int .i64 c, .string t]] w fun r w' => r = .returned (.bool (decide ((a, s) = (c, t)))) ∧ Below w.heap.size w w' := by
  have hb : ∀ o o2 : Obj, Below w.heap.size w ((w.alloc o).alloc o2) := fun o o2 => ((Below.refl _ _).alloc (Nat.le_refl _) _).alloc (by simp) _
  have HB := hide hb
  clear hb
  by_cases e : a = c
  · subst e
    by_cases e2 : s = t
    · have h2 := beqT_eq e2
      have HE := hide (decide_eq_true (show (a, s) = (a, t) by rw [e2]))
      clear e2
      go_enter Try.func98, Try.ntmps98
      go_wp2_with fail
      go_ret
      exact ⟨ret_bool HE.out.symm, HB.out _ _⟩
    · have h2 := beqT_ne e2
      have HE := hide (decide_eq_false (show ¬ (a, s) = (a, t) by intro h; injection h with h3 h4; exact e2 h4))
      clear e2
      go_enter Try.func98, Try.ntmps98
      go_wp2_with fail
      go_ret
      exact ⟨ret_bool HE.out.symm, HB.out _ _⟩
  · have h1 : (a == c) = false := by rw [beq_eq_false_iff_ne]; exact e
    have HE := hide (decide_eq_false (show ¬ (a, s) = (c, t) by intro h; injection h with h3 h4; exact e h3))
    clear e
    go_enter Try.func98, Try.ntmps98
    go_wp2_with fail
    go_ret
    exact ⟨ret_bool HE.out.symm, HB.out _ _⟩
theorem eqWait_v {a c : Int} {s t : ByteArray} {v : Bool} (h : decide ((a, s) = (c, t)) = v) (w : World) :
    Calls Try.prog 98 #[.agg #[.int .i64 a, .string s], .agg #[.int .i64 c, .string t]] w fun r w' => r = .returned (.bool v) ∧ Below w.heap.size w w' := h ▸ eqWait_any a c s t w

/-- two lists of waiting writes are one -/
def eqW (zs ys : List (Int × ByteArray)) : Bool := decide (zs = ys)
theorem eqW_len {zs ys : List (Int × ByteArray)} (h : zs.length ≠ ys.length) : eqW zs ys = false := decide_eq_false fun e => h (by rw [e])
theorem eqW_at {zs ys : List (Int × ByteArray)} {k : Nat} {z y : Int × ByteArray} (hz : zs[k]? = some z) (hy : ys[k]? = some y) (h : z ≠ y) : eqW zs ys = false :=
  decide_eq_false fun e => h (by rw [e, hy] at hz; injection hz with hz; exact hz.symm)
theorem eqW_all {zs ys : List (Int × ByteArray)} (hl : zs.length = ys.length) (h : zs.take zs.length = ys.take zs.length) : eqW zs ys = true := by
  rw [List.take_length, hl, List.take_length] at h
  exact decide_eq_true h
theorem eqW_same (zs : List (Int × ByteArray)) : eqW zs zs = true := decide_eq_true rfl

set_option maxHeartbeats 2000000 in
theorem eqWaitS_any (A A' : Option Addr) (n c n' c' : Nat) (zs ys : List (Int × ByteArray)) (w : World) (h : Rd w 2 A n (waitCells zs)) (h' : Rd w 2 A' n' (waitCells ys)) (hm : n ≤ maxLen) :
    Calls Try.prog 83 #[.slice A n c, .slice A' n' c'] w fun r w' => r = .returned (.bool (eqW zs ys)) ∧ Below w.heap.size w w' := by
  unfold maxLen at hm
  have hzl : zs.length = n := by have := h.len; rw [waitCells_len] at this; omega
  have hyl : ys.length = n' := by have := h'.len; rw [waitCells_len] at this; omega
  by_cases hl : n = n'
  · subst hl
    have HL := hide (hzl.trans hyl.symm)
    have HZ := hide hzl
    have H := hide h
    have H' := hide h'
    clear hzl hyl h h'
    go_enter Try.func83, Try.ntmps83
    go_wp2
    go_loopw [5] (fun i wr => ∃ k : Nat, k ≤ n ∧ Hid (Below w.heap.size w wr) ∧ Hid (zs.take k = ys.take k) ∧ i = .int .i64 k) (fun i _ => n - (intOf i).toNat)
    case atStart => exact ⟨0, by omega, hide (Below.refl _ _), hide rfl, rfl⟩
    case round =>
      obtain ⟨k, hk, HW, HT, rfl⟩ := hrel
      by_cases hlt : k < n
      · obtain ⟨b, o, z, rfl, hb, hz, hc0, hc1⟩ := (H.out.after HW.out).wait_at hlt
        obtain ⟨b', o', y, rfl, hb', hy, hd0, hd1⟩ := (H'.out.after HW.out).wait_at hlt
        have HZ := hide hz
        have HY := hide hy
        have HB0 := hide hb
        have HB1 := hide hb'
        have C0 := hide hc0
        have C1 := hide hc1
        have D0 := hide hd0
        have D1 := hide hd1
        have i0 : (0 : Int) ≤ (k : Int) := by omega
        have i1 : (k : Int) < (n : Int) := by omega
        clear hz hy hb hb' hc0 hc1 hd0 hd1
        by_cases he : z = y
        · have HE := hide (show decide ((z.1, z.2) = (y.1, y.2)) = true from decide_eq_true he)
          have HE1 := hide (take_eq_snoc HZ.out HY.out HT.out he)
          clear he
          go_wp2_with fail
          refine wp_region_held_drew (S := fun x => Below wr.heap.size wr x) (by kernel_rfl) ((Below.refl _ _).drew) (fun hH => ?_)
          refine wpAnyH_take (i := 0) (v := ?_) rfl (by kernel_rfl) (by kernel_rfl) (by kernel_rfl) (fun _ _ _ h => h) (Or.inl ⟨by rfl, fun w hS => ?_⟩) hH ?_
          rotate_left
          · have c0 := (hS.cell (p := ⟨b, o + k * 2, none⟩) HB0.out).trans C0.out; have c1 := (hS.cell (p := ⟨b, o + k * 2 + 1, none⟩) HB0.out).trans C1.out; have d0 := (hS.cell (p := ⟨b', o' + k * 2, none⟩) HB1.out).trans D0.out; have d1 := (hS.cell (p := ⟨b', o' + k * 2 + 1, none⟩) HB1.out).trans D1.out; go_simp; try exact rfl
          simp only [Act.put, List.setIfInBounds_toArray, List.set_cons_zero, List.set_cons_succ, List.getElem_toArray, List.getElem_cons_zero]
          refine wpAnyH_take (i := 1) (v := ?_) rfl (by kernel_rfl) (by kernel_rfl) (by kernel_rfl) (fun _ _ _ h => h) (Or.inl ⟨by rfl, fun w hS => ?_⟩) hH ?_
          rotate_left
          · have c0 := (hS.cell (p := ⟨b, o + k * 2, none⟩) HB0.out).trans C0.out; have c1 := (hS.cell (p := ⟨b, o + k * 2 + 1, none⟩) HB0.out).trans C1.out; have d0 := (hS.cell (p := ⟨b', o' + k * 2, none⟩) HB1.out).trans D0.out; have d1 := (hS.cell (p := ⟨b', o' + k * 2 + 1, none⟩) HB1.out).trans D1.out; go_simp; try exact rfl
          simp only [Act.put, List.setIfInBounds_toArray, List.set_cons_zero, List.set_cons_succ, List.getElem_toArray, List.getElem_cons_zero, List.getElem_cons_succ]
          refine wpAnyH_take (i := 2) (v := ?_) rfl (by kernel_rfl) (by kernel_rfl) (by kernel_rfl) (fun _ _ _ h => h) (Or.inl ⟨by rfl, fun w hS => ?_⟩) hH ?_
          rotate_left
          · have c0 := (hS.cell (p := ⟨b, o + k * 2, none⟩) HB0.out).trans C0.out; have c1 := (hS.cell (p := ⟨b, o + k * 2 + 1, none⟩) HB0.out).trans C1.out; have d0 := (hS.cell (p := ⟨b', o' + k * 2, none⟩) HB1.out).trans D0.out; have d1 := (hS.cell (p := ⟨b', o' + k * 2 + 1, none⟩) HB1.out).trans D1.out; go_simp; try exact rfl
          simp only [Act.put, List.setIfInBounds_toArray, List.set_cons_zero, List.set_cons_succ, List.getElem_toArray, List.getElem_cons_zero, List.getElem_cons_succ]
          refine wpAnyH_take (i := 3) (v := ?_) rfl (by kernel_rfl) (by kernel_rfl) (by kernel_rfl) (fun _ _ _ h => h) (Or.inl ⟨by rfl, fun w hS => ?_⟩) hH ?_
          rotate_left
          · have c0 := (hS.cell (p := ⟨b, o + k * 2, none⟩) HB0.out).trans C0.out; have c1 := (hS.cell (p := ⟨b, o + k * 2 + 1, none⟩) HB0.out).trans C1.out; have d0 := (hS.cell (p := ⟨b', o' + k * 2, none⟩) HB1.out).trans D0.out; have d1 := (hS.cell (p := ⟨b', o' + k * 2 + 1, none⟩) HB1.out).trans D1.out; go_simp; try exact rfl
          simp only [Act.put, List.setIfInBounds_toArray, List.set_cons_zero, List.set_cons_succ, List.getElem_toArray, List.getElem_cons_zero, List.getElem_cons_succ]
          refine wpAnyH_take (i := 4) (v := ?_) rfl (by kernel_rfl) (by kernel_rfl) (by kernel_rfl) (fun _ _ _ h => h) (Or.inl ⟨by rfl, fun w hS => ?_⟩) hH ?_
          rotate_left
          · have c0 := (hS.cell (p := ⟨b, o + k * 2, none⟩) HB0.out).trans C0.out; have c1 := (hS.cell (p := ⟨b, o + k * 2 + 1, none⟩) HB0.out).trans C1.out; have d0 := (hS.cell (p := ⟨b', o' + k * 2, none⟩) HB1.out).trans D0.out; have d1 := (hS.cell (p := ⟨b', o' + k * 2 + 1, none⟩) HB1.out).trans D1.out; go_simp; try exact rfl
          simp only [Act.put, List.setIfInBounds_toArray, List.set_cons_zero, List.set_cons_succ, List.getElem_toArray, List.getElem_cons_zero, List.getElem_cons_succ]
          refine wpAnyH_take (i := 5) (v := ?_) rfl (by kernel_rfl) (by kernel_rfl) (by kernel_rfl) (fun _ _ _ h => h) (Or.inl ⟨by rfl, fun w hS => ?_⟩) hH ?_
          rotate_left
          · have c0 := (hS.cell (p := ⟨b, o + k * 2, none⟩) HB0.out).trans C0.out; have c1 := (hS.cell (p := ⟨b, o + k * 2 + 1, none⟩) HB0.out).trans C1.out; have d0 := (hS.cell (p := ⟨b', o' + k * 2, none⟩) HB1.out).trans D0.out; have d1 := (hS.cell (p := ⟨b', o' + k * 2 + 1, none⟩) HB1.out).trans D1.out; go_simp; try exact rfl
          simp only [Act.put, List.setIfInBounds_toArray, List.set_cons_zero, List.set_cons_succ, List.getElem_toArray, List.getElem_cons_zero, List.getElem_cons_succ]
          refine wpAnyH_take (i := 6) (v := ?_) rfl (by kernel_rfl) (by kernel_rfl) (by kernel_rfl) (fun _ _ _ h => h) (Or.inl ⟨by rfl, fun w hS => ?_⟩) hH ?_
          rotate_left
          · have c0 := (hS.cell (p := ⟨b, o + k * 2, none⟩) HB0.out).trans C0.out; have c1 := (hS.cell (p := ⟨b, o + k * 2 + 1, none⟩) HB0.out).trans C1.out; have d0 := (hS.cell (p := ⟨b', o' + k * 2, none⟩) HB1.out).trans D0.out; have d1 := (hS.cell (p := ⟨b', o' + k * 2 + 1, none⟩) HB1.out).trans D1.out; go_simp; try exact rfl
          simp only [Act.put, List.setIfInBounds_toArray, List.set_cons_zero, List.set_cons_succ, List.getElem_toArray, List.getElem_cons_zero, List.getElem_cons_succ]
          refine wpAnyH_take (i := 7) (v := ?_) rfl (by kernel_rfl) (by kernel_rfl) (by kernel_rfl) (fun _ _ _ h => h) (Or.inl ⟨by rfl, fun w hS => ?_⟩) hH ?_
          rotate_left
          · have c0 := (hS.cell (p := ⟨b, o + k * 2, none⟩) HB0.out).trans C0.out; have c1 := (hS.cell (p := ⟨b, o + k * 2 + 1, none⟩) HB0.out).trans C1.out; have d0 := (hS.cell (p := ⟨b', o' + k * 2, none⟩) HB1.out).trans D0.out; have d1 := (hS.cell (p := ⟨b', o' + k * 2 + 1, none⟩) HB1.out).trans D1.out; go_simp; try exact rfl
          simp only [Act.put, List.setIfInBounds_toArray, List.set_cons_zero, List.set_cons_succ, List.getElem_toArray, List.getElem_cons_zero, List.getElem_cons_succ]
          refine wpAnyH_ready (rs := [8]) (by kernel_rfl) (by simp) (AllReadyH.cons rfl (fun K hK => ?_) AllReadyH.nil)
          go_simp
          go_at_call 98
          refine (eqWait_v HE.out _).mono ?_; rintro r w1 ⟨rfl, hb1⟩
          refine hK.out _ _ (hH.trans (hb1.mono hH.size)) (fun hH5 => ?_)
          clear hK K
          try simp only [Act.put, List.setIfInBounds_toArray, List.set_cons_zero, List.set_cons_succ]
          refine wpAnyH_take (i := 9) (v := ?_) rfl (by kernel_rfl) (by kernel_rfl) (by kernel_rfl) (fun _ _ _ h => h) (Or.inl ⟨by rfl, fun w hS => ?_⟩) hH5 ?_
          rotate_left
          · have c0 := (hS.cell (p := ⟨b, o + k * 2, none⟩) HB0.out).trans C0.out; have c1 := (hS.cell (p := ⟨b, o + k * 2 + 1, none⟩) HB0.out).trans C1.out; have d0 := (hS.cell (p := ⟨b', o' + k * 2, none⟩) HB1.out).trans D0.out; have d1 := (hS.cell (p := ⟨b', o' + k * 2 + 1, none⟩) HB1.out).trans D1.out; go_simp; try exact rfl
          simp only [Act.put, List.setIfInBounds_toArray, List.set_cons_zero, List.set_cons_succ, List.getElem_toArray, List.getElem_cons_zero, List.getElem_cons_succ]
          refine wpAnyH_done (by kernel_rfl) ?_ _
          go_wp2_with fail
          go_roundw
          case rel => exact ⟨k + 1, by omega, hide (HW.out.trans (hH5.mono HW.out.size)), HE1, int_eq (by omega)⟩
          case measure => simp [intOf]; omega
        · have HE := hide (show decide ((z.1, z.2) = (y.1, y.2)) = false from decide_eq_false he)
          have HF := hide (eqW_at HZ.out HY.out he)
          clear he
          go_wp2_with fail
          refine wp_region_held_drew (S := fun x => Below wr.heap.size wr x) (by kernel_rfl) ((Below.refl _ _).drew) (fun hH => ?_)
          refine wpAnyH_take (i := 0) (v := ?_) rfl (by kernel_rfl) (by kernel_rfl) (by kernel_rfl) (fun _ _ _ h => h) (Or.inl ⟨by rfl, fun w hS => ?_⟩) hH ?_
          rotate_left
          · have c0 := (hS.cell (p := ⟨b, o + k * 2, none⟩) HB0.out).trans C0.out; have c1 := (hS.cell (p := ⟨b, o + k * 2 + 1, none⟩) HB0.out).trans C1.out; have d0 := (hS.cell (p := ⟨b', o' + k * 2, none⟩) HB1.out).trans D0.out; have d1 := (hS.cell (p := ⟨b', o' + k * 2 + 1, none⟩) HB1.out).trans D1.out; go_simp; try exact rfl
          simp only [Act.put, List.setIfInBounds_toArray, List.set_cons_zero, List.set_cons_succ, List.getElem_toArray, List.getElem_cons_zero]
          refine wpAnyH_take (i := 1) (v := ?_) rfl (by kernel_rfl) (by kernel_rfl) (by kernel_rfl) (fun _ _ _ h => h) (Or.inl ⟨by rfl, fun w hS => ?_⟩) hH ?_
          rotate_left
          · have c0 := (hS.cell (p := ⟨b, o + k * 2, none⟩) HB0.out).trans C0.out; have c1 := (hS.cell (p := ⟨b, o + k * 2 + 1, none⟩) HB0.out).trans C1.out; have d0 := (hS.cell (p := ⟨b', o' + k * 2, none⟩) HB1.out).trans D0.out; have d1 := (hS.cell (p := ⟨b', o' + k * 2 + 1, none⟩) HB1.out).trans D1.out; go_simp; try exact rfl
          simp only [Act.put, List.setIfInBounds_toArray, List.set_cons_zero, List.set_cons_succ, List.getElem_toArray, List.getElem_cons_zero, List.getElem_cons_succ]
          refine wpAnyH_take (i := 2) (v := ?_) rfl (by kernel_rfl) (by kernel_rfl) (by kernel_rfl) (fun _ _ _ h => h) (Or.inl ⟨by rfl, fun w hS => ?_⟩) hH ?_
          rotate_left
          · have c0 := (hS.cell (p := ⟨b, o + k * 2, none⟩) HB0.out).trans C0.out; have c1 := (hS.cell (p := ⟨b, o + k * 2 + 1, none⟩) HB0.out).trans C1.out; have d0 := (hS.cell (p := ⟨b', o' + k * 2, none⟩) HB1.out).trans D0.out; have d1 := (hS.cell (p := ⟨b', o' + k * 2 + 1, none⟩) HB1.out).trans D1.out; go_simp; try exact rfl
          simp only [Act.put, List.setIfInBounds_toArray, List.set_cons_zero, List.set_cons_succ, List.getElem_toArray, List.getElem_cons_zero, List.getElem_cons_succ]
          refine wpAnyH_take (i := 3) (v := ?_) rfl (by kernel_rfl) (by kernel_rfl) (by kernel_rfl) (fun _ _ _ h => h) (Or.inl ⟨by rfl, fun w hS => ?_⟩) hH ?_
          rotate_left
          · have c0 := (hS.cell (p := ⟨b, o + k * 2, none⟩) HB0.out).trans C0.out; have c1 := (hS.cell (p := ⟨b, o + k * 2 + 1, none⟩) HB0.out).trans C1.out; have d0 := (hS.cell (p := ⟨b', o' + k * 2, none⟩) HB1.out).trans D0.out; have d1 := (hS.cell (p := ⟨b', o' + k * 2 + 1, none⟩) HB1.out).trans D1.out; go_simp; try exact rfl
          simp only [Act.put, List.setIfInBounds_toArray, List.set_cons_zero, List.set_cons_succ, List.getElem_toArray, List.getElem_cons_zero, List.getElem_cons_succ]
          refine wpAnyH_take (i := 4) (v := ?_) rfl (by kernel_rfl) (by kernel_rfl) (by kernel_rfl) (fun _ _ _ h => h) (Or.inl ⟨by rfl, fun w hS => ?_⟩) hH ?_
          rotate_left
          · have c0 := (hS.cell (p := ⟨b, o + k * 2, none⟩) HB0.out).trans C0.out; have c1 := (hS.cell (p := ⟨b, o + k * 2 + 1, none⟩) HB0.out).trans C1.out; have d0 := (hS.cell (p := ⟨b', o' + k * 2, none⟩) HB1.out).trans D0.out; have d1 := (hS.cell (p := ⟨b', o' + k * 2 + 1, none⟩) HB1.out).trans D1.out; go_simp; try exact rfl
          simp only [Act.put, List.setIfInBounds_toArray, List.set_cons_zero, List.set_cons_succ, List.getElem_toArray, List.getElem_cons_zero, List.getElem_cons_succ]
          refine wpAnyH_take (i := 5) (v := ?_) rfl (by kernel_rfl) (by kernel_rfl) (by kernel_rfl) (fun _ _ _ h => h) (Or.inl ⟨by rfl, fun w hS => ?_⟩) hH ?_
          rotate_left
          · have c0 := (hS.cell (p := ⟨b, o + k * 2, none⟩) HB0.out).trans C0.out; have c1 := (hS.cell (p := ⟨b, o + k * 2 + 1, none⟩) HB0.out).trans C1.out; have d0 := (hS.cell (p := ⟨b', o' + k * 2, none⟩) HB1.out).trans D0.out; have d1 := (hS.cell (p := ⟨b', o' + k * 2 + 1, none⟩) HB1.out).trans D1.out; go_simp; try exact rfl
          simp only [Act.put, List.setIfInBounds_toArray, List.set_cons_zero, List.set_cons_succ, List.getElem_toArray, List.getElem_cons_zero, List.getElem_cons_succ]
          refine wpAnyH_take (i := 6) (v := ?_) rfl (by kernel_rfl) (by kernel_rfl) (by kernel_rfl) (fun _ _ _ h => h) (Or.inl ⟨by rfl, fun w hS => ?_⟩) hH ?_
          rotate_left
          · have c0 := (hS.cell (p := ⟨b, o + k * 2, none⟩) HB0.out).trans C0.out; have c1 := (hS.cell (p := ⟨b, o + k * 2 + 1, none⟩) HB0.out).trans C1.out; have d0 := (hS.cell (p := ⟨b', o' + k * 2, none⟩) HB1.out).trans D0.out; have d1 := (hS.cell (p := ⟨b', o' + k * 2 + 1, none⟩) HB1.out).trans D1.out; go_simp; try exact rfl
          simp only [Act.put, List.setIfInBounds_toArray, List.set_cons_zero, List.set_cons_succ, List.getElem_toArray, List.getElem_cons_zero, List.getElem_cons_succ]
          refine wpAnyH_take (i := 7) (v := ?_) rfl (by kernel_rfl) (by kernel_rfl) (by kernel_rfl) (fun _ _ _ h => h) (Or.inl ⟨by rfl, fun w hS => ?_⟩) hH ?_
          rotate_left
          · have c0 := (hS.cell (p := ⟨b, o + k * 2, none⟩) HB0.out).trans C0.out; have c1 := (hS.cell (p := ⟨b, o + k * 2 + 1, none⟩) HB0.out).trans C1.out; have d0 := (hS.cell (p := ⟨b', o' + k * 2, none⟩) HB1.out).trans D0.out; have d1 := (hS.cell (p := ⟨b', o' + k * 2 + 1, none⟩) HB1.out).trans D1.out; go_simp; try exact rfl
          simp only [Act.put, List.setIfInBounds_toArray, List.set_cons_zero, List.set_cons_succ, List.getElem_toArray, List.getElem_cons_zero, List.getElem_cons_succ]
          refine wpAnyH_ready (rs := [8]) (by kernel_rfl) (by simp) (AllReadyH.cons rfl (fun K hK => ?_) AllReadyH.nil)
          go_simp
          go_at_call 98
          refine (eqWait_v HE.out _).mono ?_; rintro r w1 ⟨rfl, hb1⟩
          refine hK.out _ _ (hH.trans (hb1.mono hH.size)) (fun hH5 => ?_)
          clear hK K
          try simp only [Act.put, List.setIfInBounds_toArray, List.set_cons_zero, List.set_cons_succ]
          refine wpAnyH_take (i := 9) (v := ?_) rfl (by kernel_rfl) (by kernel_rfl) (by kernel_rfl) (fun _ _ _ h => h) (Or.inl ⟨by rfl, fun w hS => ?_⟩) hH5 ?_
          rotate_left
          · have c0 := (hS.cell (p := ⟨b, o + k * 2, none⟩) HB0.out).trans C0.out; have c1 := (hS.cell (p := ⟨b, o + k * 2 + 1, none⟩) HB0.out).trans C1.out; have d0 := (hS.cell (p := ⟨b', o' + k * 2, none⟩) HB1.out).trans D0.out; have d1 := (hS.cell (p := ⟨b', o' + k * 2 + 1, none⟩) HB1.out).trans D1.out; go_simp; try exact rfl
          simp only [Act.put, List.setIfInBounds_toArray, List.set_cons_zero, List.set_cons_succ, List.getElem_toArray, List.getElem_cons_zero, List.getElem_cons_succ]
          refine wpAnyH_done (by kernel_rfl) ?_ _
          go_wp2_with fail
          go_ret
          exact ⟨ret_bool HF.out.symm, HW.out.trans (hH5.mono HW.out.size)⟩
      · have HF := hide (eqW_all HL.out (by have e : k = zs.length := by have := HZ.out; omega
                                            rw [e] at HT; exact HT.out))
        go_wp2
        go_ret
        exact ⟨ret_bool HF.out.symm, HW.out⟩
  · have HF := hide (eqW_len (zs := zs) (ys := ys) (by omega))
    have hn : ((n : Int) == (n' : Int)) = false := by simp; omega
    clear hzl hyl h h'
    go_enter Try.func83, Try.ntmps83
    go_wp2
    all_goals (first | (go_ret; exact ⟨ret_bool HF.out.symm, Below.refl _ _⟩) | (exfalso; simp_all))
theorem eqWaitS_v {A A' : Option Addr} {n c n' c' : Nat} {zs ys : List (Int × ByteArray)} {v : Bool} (hv : eqW zs ys = v) (w : World) (h : Rd w 2 A n (waitCells zs)) (h' : Rd w 2 A' n' (waitCells ys)) (hm : n ≤ maxLen) :
    Calls Try.prog 83 #[.slice A n c, .slice A' n' c'] w fun r w' => r = .returned (.bool v) ∧ Below w.heap.size w w' := hv ▸ eqWaitS_any A A' n c n' c' zs ys w h h' hm

/-- two disks are one -/
def eqD (z1 y1 : List ByteArray) (z2 y2 : List (Int × ByteArray)) (g h : Bool) : Bool := eqT z1 y1 && eqW z2 y2 && (g == h)
set_option maxHeartbeats 1000000 in
theorem eqDisk_any (A1 A2 A1' A2' : Option Addr) (n1 n2 c1 c2 n1' n2' c1' c2' : Nat) (z1 y1 : List ByteArray) (z2 y2 : List (Int × ByteArray)) (g h : Bool) (w : World)
    (h1 : Rd w 1 A1 n1 (z1.map Value.string)) (h2 : Rd w 2 A2 n2 (waitCells z2)) (k1 : Rd w 1 A1' n1' (y1.map Value.string)) (k2 : Rd w 2 A2' n2' (waitCells y2)) (m1 : n1 ≤ maxLen) (m2 : n2 ≤ maxLen) :
    Calls Try.prog 57 #[.agg #[.slice A1 n1 c1, .slice A2 n2 c2, .bool g], .agg #[.slice A1' n1' c1', .slice A2' n2' c2', .bool h]] w
      fun r w' => r = .returned (.bool (eqD z1 y1 z2 y2 g h)) ∧ Below w.heap.size w w' := by
  have hb0 : Below w.heap.size w ((w.alloc (.cells #[.slice A1 n1 c1, .slice A2 n2 c2, .bool g] 49)).alloc (.cells #[.slice A1' n1' c1', .slice A2' n2' c2', .bool h] 49)) := ((Below.refl _ _).alloc (Nat.le_refl _) _).alloc (by simp) _
  have K1 := hide ((Bk.fresh w 49 #[.slice A1 n1 c1, .slice A2 n2 c2, .bool g]).alloc (.cells #[.slice A1' n1' c1', .slice A2' n2' c2', .bool h] 49))
  have K2 := Bk.fresh (w.alloc (.cells #[.slice A1 n1 c1, .slice A2 n2 c2, .bool g] 49)) 49 #[.slice A1' n1' c1', .slice A2' n2' c2', .bool h]
  rw [show (w.alloc (.cells #[.slice A1 n1 c1, .slice A2 n2 c2, .bool g] 49)).heap.size = w.heap.size + 1 from by simp] at K2
  have K2 := hide K2
  have H1 := hide (h1.after hb0)
  have H2 := hide (h2.after hb0)
  have L1 := hide (k1.after hb0)
  have L2 := hide (k2.after hb0)
  clear h1 h2 k1 k2
  cases e1 : eqT z1 y1
  · have E1 := hide e1
    have HF := hide (show eqD z1 y1 z2 y2 g h = false by unfold eqD; rw [e1]; rfl)
    clear e1
    go_enter Try.func57, Try.ntmps57
    go_wp2_with fail
    refine (eqStringS_v E1.out _ H1.out L1.out m1).mono ?_; rintro r w1 ⟨rfl, hb1⟩
    go_wp2_with fail
    go_ret
    exact ⟨ret_bool HF.out.symm, bnext hb0 (Nat.le_refl _) hb1⟩
  · cases e2 : eqW z2 y2
    · have E1 := hide e1
      have E2 := hide e2
      have HF := hide (show eqD z1 y1 z2 y2 g h = false by unfold eqD; rw [e1, e2]; rfl)
      clear e1 e2
      go_enter Try.func57, Try.ntmps57
      go_wp2_with fail
      refine (eqStringS_v E1.out _ H1.out L1.out m1).mono ?_; rintro r w1 ⟨rfl, hb1⟩
      obtain ⟨q0, q1, q2⟩ := (K1.out.after hb1).c3
      obtain ⟨q3, q4, q5⟩ := (K2.out.after hb1).c3
      go_wp2_with fail
      refine (eqWaitS_v E2.out _ (H2.out.after hb1) (L2.out.after hb1) m2).mono ?_; rintro r w2 ⟨rfl, hb2⟩
      go_wp2_with fail
      go_ret
      exact ⟨ret_bool HF.out.symm, bnext (bnext hb0 (Nat.le_refl _) hb1) (Nat.le_refl _) hb2⟩
    · have E1 := hide e1
      have E2 := hide e2
      have HF := hide (show eqD z1 y1 z2 y2 g h = (g == h) by unfold eqD; rw [e1, e2]; rfl)
      clear e1 e2
      go_enter Try.func57, Try.ntmps57
      go_wp2_with fail
      refine (eqStringS_v E1.out _ H1.out L1.out m1).mono ?_; rintro r w1 ⟨rfl, hb1⟩
      obtain ⟨q0, q1, q2⟩ := (K1.out.after hb1).c3
      obtain ⟨q3, q4, q5⟩ := (K2.out.after hb1).c3
      go_wp2_with fail
      refine (eqWaitS_v E2.out _ (H2.out.after hb1) (L2.out.after hb1) m2).mono ?_; rintro r w2 ⟨rfl, hb2⟩
      obtain ⟨r0, r1, r2⟩ := ((K1.out.after hb1).after hb2).c3
      obtain ⟨r3, r4, r5⟩ := ((K2.out.after hb1).after hb2).c3
      clear q0 q1 q2 q3 q4 q5
      have hb3 := bnext (bnext hb0 (Nat.le_refl _) hb1) (Nat.le_refl _) hb2
      cases g <;> cases h
      all_goals
        go_wp2_with fail
        go_ret
        exact ⟨ret_bool HF.out.symm, hb3⟩
theorem eqDisk_v {A1 A2 A1' A2' : Option Addr} {n1 n2 c1 c2 n1' n2' c1' c2' : Nat} {z1 y1 : List ByteArray} {z2 y2 : List (Int × ByteArray)} {g h v : Bool} (hv : eqD z1 y1 z2 y2 g h = v) (w : World)
    (h1 : Rd w 1 A1 n1 (z1.map Value.string)) (h2 : Rd w 2 A2 n2 (waitCells z2)) (k1 : Rd w 1 A1' n1' (y1.map Value.string)) (k2 : Rd w 2 A2' n2' (waitCells y2)) (m1 : n1 ≤ maxLen) (m2 : n2 ≤ maxLen) :
    Calls Try.prog 57 #[.agg #[.slice A1 n1 c1, .slice A2 n2 c2, .bool g], .agg #[.slice A1' n1' c1', .slice A2' n2' c2', .bool h]] w
      fun r w' => r = .returned (.bool v) ∧ Below w.heap.size w w' := hv ▸ eqDisk_any A1 A2 A1' A2' n1 n2 c1 c2 n1' n2' c1' c2' z1 y1 z2 y2 g h w h1 h2 k1 k2 m1 m2
theorem eqD_same (z1 : List ByteArray) (z2 : List (Int × ByteArray)) (g : Bool) : eqD z1 z1 z2 z2 g g = true := by
  unfold eqD
  rw [eqT_same, eqW_same]
  simp
end Go.Proofs.Ytcaoekaephnimaa
