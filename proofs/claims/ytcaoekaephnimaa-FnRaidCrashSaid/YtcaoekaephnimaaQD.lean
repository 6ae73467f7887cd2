/- New disks: what DiskNew and DiskLose of both sides make. -/
import Derived.Test.YtcaoekaephnimaaQA
namespace Go.Proofs.Ytcaoekaephnimaa
open Go.RowKit
set_option linter.unusedVariables false

/-- 64 empty texts -/
def es64 (_ : Unit) : Array Value := madeCells #[.string ⟨#[]⟩] 64
/-- a new disk -/
def NewDisk (gone : Bool) (w : World) (r : Ending) (w' : World) : Prop :=
  ∃ (g1 : Nat) (B : Option Addr), r = .returned (.agg #[.slice (some ⟨g1, 0, none⟩) 64 64, .slice B 0 0, .bool gone]) ∧ w.heap.size ≤ g1 ∧ Bk w' g1 9 (es64 ()) ∧ Below w.heap.size w w'
theorem es64_rd {w : World} {g : Nat} (h : Bk w g 9 (es64 ())) : Rd w 1 (some ⟨g, 0, none⟩) 64 ((List.replicate 64 (ByteArray.mk #[])).map Value.string) :=
  h.rd (by simp) (fun j u hu => by
    rw [List.getElem?_map, List.getElem?_replicate] at hu
    by_cases hj : j < 64
    · rw [if_pos hj] at hu
      have hl : j < (es64 ()).size := by rw [show (es64 ()).size = 64 from size_madeCells _ _]; exact hj
      rw [← hu, Array.getElem?_eq_getElem hl]
      simp [es64, madeCells, Nat.mod_one]
    · rw [if_neg hj] at hu
      cases hu)
theorem es64_size : (es64 ()).size = 64 := size_madeCells _ _

theorem newA (w : World) (o : Obj) (z : Array Value) (t : TypeId) : Bk ((w.alloc o).alloc (.cells z t)) (w.heap.size + 1) t z ∧ Below w.heap.size w ((w.alloc o).alloc (.cells z t)) := by
  refine ⟨?_, ?_⟩
  · have h := Bk.fresh (w.alloc o) t z
    rwa [show (w.alloc o).heap.size = w.heap.size + 1 by simp] at h
  · exact ((Below.refl _ _).alloc (Nat.le_refl _) _).alloc (by simp) _
theorem newB (w : World) (o : Obj) (z : Array Value) (t : TypeId) (o2 : Obj) : Bk (((w.alloc o).alloc (.cells z t)).alloc o2) (w.heap.size + 1) t z ∧ Below w.heap.size w (((w.alloc o).alloc (.cells z t)).alloc o2) := by
  obtain ⟨a, b⟩ := newA w o z t
  exact ⟨a.alloc o2, b.alloc b.size _⟩

set_option maxHeartbeats 400000 in
theorem implDiskNew_any (w : World) : Calls Try.prog 33 #[] w (NewDisk false w) := by
  have hmk : ∀ w, (Instr.makeSlice 46 (.int .i64 64) (.int .i64 64)).run Try.prog w = .ok (.slice (some ⟨w.heap.size, 0, none⟩) 64 64) (w.alloc (.cells (es64 ()) 9)) := fun w => make_strs 64 (by omega) w
  go_enter Try.func33, Try.ntmps33
  go_wp2
  obtain ⟨b1, hb⟩ := newA w (.cells #[.slice (some ⟨w.heap.size + 1, 0, none⟩) 64 64, .slice none 0 0, .bool false] 49) (es64 ()) 9
  refine bodyPost_ret (v := .agg #[.slice (some ⟨w.heap.size + 1, 0, none⟩) 64 64, .slice none 0 0, .bool false]) (by simp [results, Try.results33, go_sem]) rfl ?_
  exact ⟨_, _, rfl, by omega, b1, hb⟩
set_option maxHeartbeats 400000 in
theorem specDiskNew_any (w : World) : Calls Try.prog 32 #[] w (NewDisk false w) := by
  have hmk : ∀ w, (Instr.makeSlice 46 (.int .i64 64) (.int .i64 64)).run Try.prog w = .ok (.slice (some ⟨w.heap.size, 0, none⟩) 64 64) (w.alloc (.cells (es64 ()) 9)) := fun w => make_strs 64 (by omega) w
  go_enter Try.func32, Try.ntmps32
  go_wp2
  obtain ⟨b1, hb⟩ := newB w (.cells #[.slice (some ⟨w.heap.size + 1, 0, none⟩) 64 64, .slice (some ⟨w.heap.size + 1 + 1, 0, none⟩) 0 0, .bool false] 49) (es64 ()) 9 (.cells #[] 74)
  refine bodyPost_ret (v := .agg #[.slice (some ⟨w.heap.size + 1, 0, none⟩) 64 64, .slice (some ⟨w.heap.size + 1 + 1, 0, none⟩) 0 0, .bool false]) (by simp [results, Try.results32, go_sem]) rfl ?_
  exact ⟨_, _, rfl, by omega, b1, hb⟩
set_option maxHeartbeats 400000 in
theorem specDiskLose_any (w : World) : Calls Try.prog 78 #[] w (NewDisk true w) := by
  go_enter Try.func78, Try.ntmps78
  go_wp2_with fail
  refine (specDiskNew_any _).mono ?_; rintro r w1 ⟨g1, B, rfl, hg, hB, hb⟩
  have K := hide hB
  have HB := hide hb
  have K0 := ((Bk.fresh w 49 #[.slice none 0 0, .slice none 0 0, .bool false]).after hb).alloc (.cells #[.slice (some ⟨g1, 0, none⟩) 64 64, .slice B 0 0, .bool true] 49)
  obtain ⟨q0, q1, q2⟩ := K0.c3
  have f0 := K0.frozen 0
  have f1 := K0.frozen 1
  have f2 := K0.frozen 2
  have P := hide (((K0.put 0 (.slice (some ⟨g1, 0, none⟩) 64 64)).put 1 (.slice B 0 0)).put 2 (.bool true))
  have hs := hb.size
  have he : (w.alloc (.cells #[.slice none 0 0, .slice none 0 0, .bool false] 49)).heap.size = w.heap.size + 1 := by simp
  rw [he] at hg hs
  clear hB hb K0
  go_wp2
  clear q0 q1 q2 f0 f1 f2
  obtain ⟨X, hX⟩ : ∃ X : World, X = (((w1.alloc (.cells #[.slice (some ⟨g1, 0, none⟩) 64 64, .slice B 0 0, .bool true] 49)).setCell ⟨w.heap.size, 0, none⟩ (.slice (some ⟨g1, 0, none⟩) 64 64)).setCell ⟨w.heap.size, 1, none⟩ (.slice B 0 0)).setCell ⟨w.heap.size, 2, none⟩ (.bool true) := ⟨_, rfl⟩
  rw [← hX] at P
  rw [← hX]
  obtain ⟨r0, r1, r2⟩ := Bk.c3 (a := .slice (some ⟨g1, 0, none⟩) 64 64) (b := .slice B 0 0) (c := .bool true) P.out
  have hfin : Bk X g1 9 (es64 ()) ∧ Below w.heap.size w X := by
    rw [hX]
    refine ⟨?_, ?_⟩
    · refine (((K.out.alloc _).far (p := ⟨w.heap.size, 0, none⟩) ?_ _).far (p := ⟨w.heap.size, 1, none⟩) ?_ _).far (p := ⟨w.heap.size, 2, none⟩) ?_ _
      all_goals
        show ¬ g1 = w.heap.size
        omega
    · have h1 := ((bel1 w (.cells #[.slice none 0 0, .slice none 0 0, .bool false] 49)).trans (HB.out.mono (by rw [he]; omega))).alloc (by omega) (.cells #[.slice (some ⟨g1, 0, none⟩) 64 64, .slice B 0 0, .bool true] 49)
      exact ((h1.setCell (p := ⟨w.heap.size, 0, none⟩) (Nat.le_refl _) _).setCell (p := ⟨w.heap.size, 1, none⟩) (Nat.le_refl _) _).setCell (p := ⟨w.heap.size, 2, none⟩) (Nat.le_refl _) _
  clear hX
  refine bodyPost_ret (v := .agg #[.slice (some ⟨g1, 0, none⟩) 64 64, .slice B 0 0, .bool true]) (by simp [results, Try.results78, go_sem, r0, r1, r2]) rfl ?_
  exact ⟨g1, B, rfl, by omega, hfin.1, hfin.2⟩
end Go.Proofs.Ytcaoekaephnimaa

/- Disks are compared: eqWait, eqWaitS, eqDisk. -/
namespace Go.Proofs.Ytcaoekaephnimaa
open Go.RowKit
set_option linter.unusedVariables false

theorem Rd.wait_at {w : World} {A : Option Addr} {n : Nat} {zs : List (Int × ByteArray)} (h : Rd w 2 A n (waitCells zs)) {k : Nat} (hk : k < n) :
    ∃ b o z, A = some ⟨b, o, none⟩ ∧ b < w.heap.size ∧ zs[k]? = some z ∧ w.cell? ⟨b, o + k * 2, none⟩ = some (.int .i64 z.1) ∧ w.cell? ⟨b, o + k * 2 + 1, none⟩ = some (.string z.2) := by
  obtain ⟨b, o, e, hb, hc⟩ := h.at_ (by omega)
  have hl : k < zs.length := by have := h.len; rw [waitCells_len] at this; omega
  obtain ⟨c0, c1⟩ := waitCells_at zs k zs[k] (List.getElem?_eq_getElem hl)
  exact ⟨b, o, zs[k], e, hb, List.getElem?_eq_getElem hl, hc _ _ c0, hc _ _ c1⟩

set_option maxHeartbeats 1000000 in
theorem eqWait_any (a c : Int) (s t : ByteArray) (w : World) :
    Calls Try.prog 98 #[.agg #[.int .i64 a, .string s], .agg #[.int .i64 c, .string t]] w fun r w' => r = .returned (.bool (decide ((a, s) = (c, t)))) ∧ Below w.heap.size w w' := by
  have hb : ∀ o o2 : Obj, Below w.heap.size w ((w.alloc o).alloc o2) := fun o o2 => ((Below.refl _ _).alloc (Nat.le_refl _) _).alloc (by simp) _
  have HB := hide hb
  clear hb
  by_cases e : a = c
  · subst e
    by_cases e2 : s = t
    · have h2 := beqT_eq e2
      have HE := hide (decide_eq_true (show (a, s) = (a, t) by rw [e2]))
      clear e2
      go_enter Try.func98, Try.ntmps98
      go_wp2_with fail
      go_ret
      exact ⟨ret_bool HE.out.symm, HB.out _ _⟩
    · have h2 := beqT_ne e2
      have HE := hide (decide_eq_false (show ¬ (a, s) = (a, t) by intro h; injection h with h3 h4; exact e2 h4))
      clear e2
      go_enter Try.func98, Try.ntmps98
      go_wp2_with fail
      go_ret
      exact ⟨ret_bool HE.out.symm, HB.out _ _⟩
  · have h1 : (a == c) = false := by rw [beq_eq_false_iff_ne]; exact e
    have HE := hide (decide_eq_false (show ¬ (a, s) = (c, t) by intro h; injection h with h3 h4; exact e h3))
    clear e
    go_enter Try.func98, Try.ntmps98
    go_wp2_with fail
    go_ret
    exact ⟨ret_bool HE.out.symm, HB.out _ _⟩
theorem eqWait_v {a c : Int} {s t : ByteArray} {v : Bool} (h : decide ((a, s) = (c, t)) = v) (w : World) :
    Calls Try.prog 98 #[.agg #[.int .i64 a, .string s], .agg #[.int .i64 c, .string t]] w fun r w' => r = .returned (.bool v) ∧ Below w.heap.size w w' := h ▸ eqWait_any a c s t w

/-- two lists of waiting writes are one -/
def eqW (zs ys : List (Int × ByteArray)) : Bool := decide (zs = ys)
theorem eqW_len {zs ys : List (Int × ByteArray)} (h : zs.length ≠ ys.length) : eqW zs ys = false := decide_eq_false fun e => h (by rw [e])
theorem eqW_at {zs ys : List (Int × ByteArray)} {k : Nat} {z y : Int × ByteArray} (hz : zs[k]? = some z) (hy : ys[k]? = some y) (h : z ≠ y) : eqW zs ys = false :=
  decide_eq_false fun e => h (by rw [e, hy] at hz; injection hz with hz; exact hz.symm)
theorem eqW_all {zs ys : List (Int × ByteArray)} (hl : zs.length = ys.length) (h : zs.take zs.length = ys.take zs.length) : eqW zs ys = true := by
  rw [List.take_length, hl, List.take_length] at h
  exact decide_eq_true h
theorem eqW_same (zs : List (Int × ByteArray)) : eqW zs zs = true := decide_eq_true rfl

set_option maxHeartbeats 2000000 in
theorem eqWaitS_any (A A' : Option Addr) (n c n' c' : Nat) (zs ys : List (Int × ByteArray)) (w : World) (h : Rd w 2 A n (waitCells zs)) (h' : Rd w 2 A' n' (waitCells ys)) (hm : n ≤ maxLen) :
    Calls Try.prog 83 #[.slice A n c, .slice A' n' c'] w fun r w' => r = .returned (.bool (eqW zs ys)) ∧ Below w.heap.size w w' := by
  unfold maxLen at hm
  have hzl : zs.length = n := by have := h.len; rw [waitCells_len] at this; omega
  have hyl : ys.length = n' := by have := h'.len; rw [waitCells_len] at this; omega
  by_cases hl : n = n'
  · subst hl
    have HL := hide (hzl.trans hyl.symm)
    have HZ := hide hzl
    have H := hide h
    have H' := hide h'
    clear hzl hyl h h'
    go_enter Try.func83, Try.ntmps83
    go_wp2
    go_loopw [5] (fun i wr => ∃ k : Nat, k ≤ n ∧ Hid (Below w.heap.size w wr) ∧ Hid (zs.take k = ys.take k) ∧ i = .int .i64 k) (fun i _ => n - (intOf i).toNat)
    case atStart => exact ⟨0, by omega, hide (Below.refl _ _), hide rfl, rfl⟩
    case round =>
      obtain ⟨k, hk, HW, HT, rfl⟩ := hrel
      by_cases hlt : k < n
      · obtain ⟨b, o, z, rfl, hb, hz, hc0, hc1⟩ := (H.out.after HW.out).wait_at hlt
        obtain ⟨b', o', y, rfl, hb', hy, hd0, hd1⟩ := (H'.out.after HW.out).wait_at hlt
        have HZ := hide hz
        have HY := hide hy
        have HB0 := hide hb
        have HB1 := hide hb'
        have C0 := hide hc0
        have C1 := hide hc1
        have D0 := hide hd0
        have D1 := hide hd1
        have i0 : (0 : Int) ≤ (k : Int) := by omega
        have i1 : (k : Int) < (n : Int) := by omega
        clear hz hy hb hb' hc0 hc1 hd0 hd1
        by_cases he : z = y
        · have HE := hide (show decide ((z.1, z.2) = (y.1, y.2)) = true from decide_eq_true he)
          have HE1 := hide (take_eq_snoc HZ.out HY.out HT.out he)
          clear he
          go_wp2_with fail
          refine wp_region_held_drew (S := fun x => Below wr.heap.size wr x) (by kernel_rfl) ((Below.refl _ _).drew) (fun hH => ?_)
          refine wpAnyH_take (i := 0) (v := ?_) rfl (by kernel_rfl) (by kernel_rfl) (by kernel_rfl) (fun _ _ _ h => h) (Or.inl ⟨by rfl, fun w hS => ?_⟩) hH ?_
          rotate_left
          · have c0 := (hS.cell (p := ⟨b, o + k * 2, none⟩) HB0.out).trans C0.out; have c1 := (hS.cell (p := ⟨b, o + k * 2 + 1, none⟩) HB0.out).trans C1.out; have d0 := (hS.cell (p := ⟨b', o' + k * 2, none⟩) HB1.out).trans D0.out; have d1 := (hS.cell (p := ⟨b', o' + k * 2 + 1, none⟩) HB1.out).trans D1.out; go_simp; try exact rfl
          simp only [Act.put, List.setIfInBounds_toArray, List.set_cons_zero, List.set_cons_succ, List.getElem_toArray, List.getElem_cons_zero]
          refine wpAnyH_take (i := 1) (v := ?_) rfl (by kernel_rfl) (by kernel_rfl) (by kernel_rfl) (fun _ _ _ h => h) (Or.inl ⟨by rfl, fun w hS => ?_⟩) hH ?_
          rotate_left
          · have c0 := (hS.cell (p := ⟨b, o + k * 2, none⟩) HB0.out).trans C0.out; have c1 := (hS.cell (p := ⟨b, o + k * 2 + 1, none⟩) HB0.out).trans C1.out; have d0 := (hS.cell (p := ⟨b', o' + k * 2, none⟩) HB1.out).trans D0.out; have d1 := (hS.cell (p := ⟨b', o' + k * 2 + 1, none⟩) HB1.out).trans D1.out; go_simp; try exact rfl
          simp only [Act.put, List.setIfInBounds_toArray, List.set_cons_zero, List.set_cons_succ, List.getElem_toArray, List.getElem_cons_zero, List.getElem_cons_succ]
          refine wpAnyH_take (i := 2) (v := ?_) rfl (by kernel_rfl) (by kernel_rfl) (by kernel_rfl) (fun _ _ _ h => h) (Or.inl ⟨by rfl, fun w hS => ?_⟩) hH ?_
          rotate_left
          · have c0 := (hS.cell (p := ⟨b, o + k * 2, none⟩) HB0.out).trans C0.out; have c1 := (hS.cell (p := ⟨b, o + k * 2 + 1, none⟩) HB0.out).trans C1.out; have d0 := (hS.cell (p := ⟨b', o' + k * 2, none⟩) HB1.out).trans D0.out; have d1 := (hS.cell (p := ⟨b', o' + k * 2 + 1, none⟩) HB1.out).trans D1.out; go_simp; try exact rfl
          simp only [Act.put, List.setIfInBounds_toArray, List.set_cons_zero, List.set_cons_succ, List.getElem_toArray, List.getElem_cons_zero, List.getElem_cons_succ]
          refine wpAnyH_take (i := 3) (v := ?_) rfl (by kernel_rfl) (by kernel_rfl) (by kernel_rfl) (fun _ _ _ h => h) (Or.inl ⟨by rfl, fun w hS => ?_⟩) hH ?_
          rotate_left
          · have c0 := (hS.cell (p := ⟨b, o + k * 2, none⟩) HB0.out).trans C0.out; have c1 := (hS.cell (p := ⟨b, o + k * 2 + 1, none⟩) HB0.out).trans C1.out; have d0 := (hS.cell (p := ⟨b', o' + k * 2, none⟩) HB1.out).trans D0.out; have d1 := (hS.cell (p := ⟨b', o' + k * 2 + 1, none⟩) HB1.out).trans D1.out; go_simp; try exact rfl
          simp only [Act.put, List.setIfInBounds_toArray, List.set_cons_zero, List.set_cons_succ, List.getElem_toArray, List.getElem_cons_zero, List.getElem_cons_succ]
          refine wpAnyH_take (i := 4) (v := ?_) rfl (by kernel_rfl) (by kernel_rfl) (by kernel_rfl) (fun _ _ _ h => h) (Or.inl ⟨by rfl, fun w hS => ?_⟩) hH ?_
          rotate_left
          · have c0 := (hS.cell (p := ⟨b, o + k * 2, none⟩) HB0.out).trans C0.out; have c1 := (hS.cell (p := ⟨b, o + k * 2 + 1, none⟩) HB0.out).trans C1.out; have d0 := (hS.cell (p := ⟨b', o' + k * 2, none⟩) HB1.out).trans D0.out; have d1 := (hS.cell (p := ⟨b', o' + k * 2 + 1, none⟩) HB1.out).trans D1.out; go_simp; try exact rfl
          simp only [Act.put, List.setIfInBounds_toArray, List.set_cons_zero, List.set_cons_succ, List.getElem_toArray, List.getElem_cons_zero, List.getElem_cons_succ]
          refine wpAnyH_take (i := 5) (v := ?_) rfl (by kernel_rfl) (by kernel_rfl) (by kernel_rfl) (fun _ _ _ h => h) (Or.inl ⟨by rfl, fun w hS => ?_⟩) hH ?_
          rotate_left
          · have c0 := (hS.cell (p := ⟨b, o + k * 2, none⟩) HB0.out).trans C0.out; have c1 := (hS.cell (p := ⟨b, o + k * 2 + 1, none⟩) HB0.out).trans C1.out; have d0 := (hS.cell (p := ⟨b', o' + k * 2, none⟩) HB1.out).trans D0.out; have d1 := (hS.cell (p := ⟨b', o' + k * 2 + 1, none⟩) HB1.out).trans D1.out; go_simp; try exact rfl
          simp only [Act.put, List.setIfInBounds_toArray, List.set_cons_zero, List.set_cons_succ, List.getElem_toArray, List.getElem_cons_zero, List.getElem_cons_succ]
          refine wpAnyH_take (i := 6) (v := ?_) rfl (by kernel_rfl) (by kernel_rfl) (by kernel_rfl) (fun _ _ _ h => h) (Or.inl ⟨by rfl, fun w hS => ?_⟩) hH ?_
          rotate_left
          · have c0 := (hS.cell (p := ⟨b, o + k * 2, none⟩) HB0.out).trans C0.out; have c1 := (hS.cell (p := ⟨b, o + k * 2 + 1, none⟩) HB0.out).trans C1.out; have d0 := (hS.cell (p := ⟨b', o' + k * 2, none⟩) HB1.out).trans D0.out; have d1 := (hS.cell (p := ⟨b', o' + k * 2 + 1, none⟩) HB1.out).trans D1.out; go_simp; try exact rfl
          simp only [Act.put, List.setIfInBounds_toArray, List.set_cons_zero, List.set_cons_succ, List.getElem_toArray, List.getElem_cons_zero, List.getElem_cons_succ]
          refine wpAnyH_take (i := 7) (v := ?_) rfl (by kernel_rfl) (by kernel_rfl) (by kernel_rfl) (fun _ _ _ h => h) (Or.inl ⟨by rfl, fun w hS => ?_⟩) hH ?_
          rotate_left
          · have c0 := (hS.cell (p := ⟨b, o + k * 2, none⟩) HB0.out).trans C0.out; have c1 := (hS.cell (p := ⟨b, o + k * 2 + 1, none⟩) HB0.out).trans C1.out; have d0 := (hS.cell (p := ⟨b', o' + k * 2, none⟩) HB1.out).trans D0.out; have d1 := (hS.cell (p := ⟨b', o' + k * 2 + 1, none⟩) HB1.out).trans D1.out; go_simp; try exact rfl
          simp only [Act.put, List.setIfInBounds_toArray, List.set_cons_zero, List.set_cons_succ, List.getElem_toArray, List.getElem_cons_zero, List.getElem_cons_succ]
          refine wpAnyH_ready (rs := [8]) (by kernel_rfl) (by simp) (AllReadyH.cons rfl (fun K hK => ?_) AllReadyH.nil)
          go_simp
          go_at_call 98
          refine (eqWait_v HE.out _).mono ?_; rintro r w1 ⟨rfl, hb1⟩
          refine hK.out _ _ (hH.trans (hb1.mono hH.size)) (fun hH5 => ?_)
          clear hK K
          try simp only [Act.put, List.setIfInBounds_toArray, List.set_cons_zero, List.set_cons_succ]
          refine wpAnyH_take (i := 9) (v := ?_) rfl (by kernel_rfl) (by kernel_rfl) (by kernel_rfl) (fun _ _ _ h => h) (Or.inl ⟨by rfl, fun w hS => ?_⟩) hH5 ?_
          rotate_left
          · have c0 := (hS.cell (p := ⟨b, o + k * 2, none⟩) HB0.out).trans C0.out; have c1 := (hS.cell (p := ⟨b, o + k * 2 + 1, none⟩) HB0.out).trans C1.out; have d0 := (hS.cell (p := ⟨b', o' + k * 2, none⟩) HB1.out).trans D0.out; have d1 := (hS.cell (p := ⟨b', o' + k * 2 + 1, none⟩) HB1.out).trans D1.out; go_simp; try exact rfl
          simp only [Act.put, List.setIfInBounds_toArray, List.set_cons_zero, List.set_cons_succ, List.getElem_toArray, List.getElem_cons_zero, List.getElem_cons_succ]
          refine wpAnyH_done (by kernel_rfl) ?_ _
          go_wp2_with fail
          go_roundw
          case rel => exact ⟨k + 1, by omega, hide (HW.out.trans (hH5.mono HW.out.size)), HE1, int_eq (by omega)⟩
          case measure => simp [intOf]; omega
        · have HE := hide (show decide ((z.1, z.2) = (y.1, y.2)) = false from decide_eq_false he)
          have HF := hide (eqW_at HZ.out HY.out he)
          clear he
          go_wp2_with fail
          refine wp_region_held_drew (S := fun x => Below wr.heap.size wr x) (by kernel_rfl) ((Below.refl _ _).drew) (fun hH => ?_)
          refine wpAnyH_take (i := 0) (v := ?_) rfl (by kernel_rfl) (by kernel_rfl) (by kernel_rfl) (fun _ _ _ h => h) (Or.inl ⟨by rfl, fun w hS => ?_⟩) hH ?_
          rotate_left
          · have c0 := (hS.cell (p := ⟨b, o + k * 2, none⟩) HB0.out).trans C0.out; have c1 := (hS.cell (p := ⟨b, o + k * 2 + 1, none⟩) HB0.out).trans C1.out; have d0 := (hS.cell (p := ⟨b', o' + k * 2, none⟩) HB1.out).trans D0.out; have d1 := (hS.cell (p := ⟨b', o' + k * 2 + 1, none⟩) HB1.out).trans D1.out; go_simp; try exact rfl
          simp only [Act.put, List.setIfInBounds_toArray, List.set_cons_zero, List.set_cons_succ, List.getElem_toArray, List.getElem_cons_zero]
          refine wpAnyH_take (i := 1) (v := ?_) rfl (by kernel_rfl) (by kernel_rfl) (by kernel_rfl) (fun _ _ _ h => h) (Or.inl ⟨by rfl, fun w hS => ?_⟩) hH ?_
          rotate_left
          · have c0 := (hS.cell (p := ⟨b, o + k * 2, none⟩) HB0.out).trans C0.out; have c1 := (hS.cell (p := ⟨b, o + k * 2 + 1, none⟩) HB0.out).trans C1.out; have d0 := (hS.cell (p := ⟨b', o' + k * 2, none⟩) HB1.out).trans D0.out; have d1 := (hS.cell (p := ⟨b', o' + k * 2 + 1, none⟩) HB1.out).trans D1.out; go_simp; try exact rfl
          simp only [Act.put, List.setIfInBounds_toArray, List.set_cons_zero, List.set_cons_succ, List.getElem_toArray, List.getElem_cons_zero, List.getElem_cons_succ]
          refine wpAnyH_take (i := 2) (v := ?_) rfl (by kernel_rfl) (by kernel_rfl) (by kernel_rfl) (fun _ _ _ h => h) (Or.inl ⟨by rfl, fun w hS => ?_⟩) hH ?_
          rotate_left
          · have c0 := (hS.cell (p := ⟨b, o + k * 2, none⟩) HB0.out).trans C0.out; have c1 := (hS.cell (p := ⟨b, o + k * 2 + 1, none⟩) HB0.out).trans C1.out; have d0 := (hS.cell (p := ⟨b', o' + k * 2, none⟩) HB1.out).trans D0.out; have d1 := (hS.cell (p := ⟨b', o' + k * 2 + 1, none⟩) HB1.out).trans D1.out; go_simp; try exact rfl
          simp only [Act.put, List.setIfInBounds_toArray, List.set_cons_zero, List.set_cons_succ, List.getElem_toArray, List.getElem_cons_zero, List.getElem_cons_succ]
          refine wpAnyH_take (i := 3) (v := ?_) rfl (by kernel_rfl) (by kernel_rfl) (by kernel_rfl) (fun _ _ _ h => h) (Or.inl ⟨by rfl, fun w hS => ?_⟩) hH ?_
          rotate_left
          · have c0 := (hS.cell (p := ⟨b, o + k * 2, none⟩) HB0.out).trans C0.out; have c1 := (hS.cell (p := ⟨b, o + k * 2 + 1, none⟩) HB0.out).trans C1.out; have d0 := (hS.cell (p := ⟨b', o' + k * 2, none⟩) HB1.out).trans D0.out; have d1 := (hS.cell (p := ⟨b', o' + k * 2 + 1, none⟩) HB1.out).trans D1.out; go_simp; try exact rfl
          simp only [Act.put, List.setIfInBounds_toArray, List.set_cons_zero, List.set_cons_succ, List.getElem_toArray, List.getElem_cons_zero, List.getElem_cons_succ]
          refine wpAnyH_take (i := 4) (v := ?_) rfl (by kernel_rfl) (by kernel_rfl) (by kernel_rfl) (fun _ _ _ h => h) (Or.inl ⟨by rfl, fun w hS => ?_⟩) hH ?_
          rotate_left
          · have c0 := (hS.cell (p := ⟨b, o + k * 2, none⟩) HB0.out).trans C0.out; have c1 := (hS.cell (p := ⟨b, o + k * 2 + 1, none⟩) HB0.out).trans C1.out; have d0 := (hS.cell (p := ⟨b', o' + k * 2, none⟩) HB1.out).trans D0.out; have d1 := (hS.cell (p := ⟨b', o' + k * 2 + 1, none⟩) HB1.out).trans D1.out; go_simp; try exact rfl
          simp only [Act.put, List.setIfInBounds_toArray, List.set_cons_zero, List.set_cons_succ, List.getElem_toArray, List.getElem_cons_zero, List.getElem_cons_succ]
          refine wpAnyH_take (i := 5) (v := ?_) rfl (by kernel_rfl) (by kernel_rfl) (by kernel_rfl) (fun _ _ _ h => h) (Or.inl ⟨by rfl, fun w hS => ?_⟩) hH ?_
          rotate_left
          · have c0 := (hS.cell (p := ⟨b, o + k * 2, none⟩) HB0.out).trans C0.out; have c1 := (hS.cell (p := ⟨b, o + k * 2 + 1, none⟩) HB0.out).trans C1.out; have d0 := (hS.cell (p := ⟨b', o' + k * 2, none⟩) HB1.out).trans D0.out; have d1 := (hS.cell (p := ⟨b', o' + k * 2 + 1, none⟩) HB1.out).trans D1.out; go_simp; try exact rfl
          simp only [Act.put, List.setIfInBounds_toArray, List.set_cons_zero, List.set_cons_succ, List.getElem_toArray, List.getElem_cons_zero, List.getElem_cons_succ]
          refine wpAnyH_take (i := 6) (v := ?_) rfl (by kernel_rfl) (by kernel_rfl) (by kernel_rfl) (fun _ _ _ h => h) (Or.inl ⟨by rfl, fun w hS => ?_⟩) hH ?_
          rotate_left
          · have c0 := (hS.cell (p := ⟨b, o + k * 2, none⟩) HB0.out).trans C0.out; have c1 := (hS.cell (p := ⟨b, o + k * 2 + 1, none⟩) HB0.out).trans C1.out; have d0 := (hS.cell (p := ⟨b', o' + k * 2, none⟩) HB1.out).trans D0.out; have d1 := (hS.cell (p := ⟨b', o' + k * 2 + 1, none⟩) HB1.out).trans D1.out; go_simp; try exact rfl
          simp only [Act.put, List.setIfInBounds_toArray, List.set_cons_zero, List.set_cons_succ, List.getElem_toArray, List.getElem_cons_zero, List.getElem_cons_succ]
          refine wpAnyH_take (i := 7) (v := ?_) rfl (by kernel_rfl) (by kernel_rfl) (by kernel_rfl) (fun _ _ _ h => h) (Or.inl ⟨by rfl, fun w hS => ?_⟩) hH ?_
          rotate_left
          · have c0 := (hS.cell (p := ⟨b, o + k * 2, none⟩) HB0.out).trans C0.out; have c1 := (hS.cell (p := ⟨b, o + k * 2 + 1, none⟩) HB0.out).trans C1.out; have d0 := (hS.cell (p := ⟨b', o' + k * 2, none⟩) HB1.out).trans D0.out; have d1 := (hS.cell (p := ⟨b', o' + k * 2 + 1, none⟩) HB1.out).trans D1.out; go_simp; try exact rfl
          simp only [Act.put, List.setIfInBounds_toArray, List.set_cons_zero, List.set_cons_succ, List.getElem_toArray, List.getElem_cons_zero, List.getElem_cons_succ]
          refine wpAnyH_ready (rs := [8]) (by kernel_rfl) (by simp) (AllReadyH.cons rfl (fun K hK => ?_) AllReadyH.nil)
          go_simp
          go_at_call 98
          refine (eqWait_v HE.out _).mono ?_; rintro r w1 ⟨rfl, hb1⟩
          refine hK.out _ _ (hH.trans (hb1.mono hH.size)) (fun hH5 => ?_)
          clear hK K
          try simp only [Act.put, List.setIfInBounds_toArray, List.set_cons_zero, List.set_cons_succ]
          refine wpAnyH_take (i := 9) (v := ?_) rfl (by kernel_rfl) (by kernel_rfl) (by kernel_rfl) (fun _ _ _ h => h) (Or.inl ⟨by rfl, fun w hS => ?_⟩) hH5 ?_
          rotate_left
          · have c0 := (hS.cell (p := ⟨b, o + k * 2, none⟩) HB0.out).trans C0.out; have c1 := (hS.cell (p := ⟨b, o + k * 2 + 1, none⟩) HB0.out).trans C1.out; have d0 := (hS.cell (p := ⟨b', o' + k * 2, none⟩) HB1.out).trans D0.out; have d1 := (hS.cell (p := ⟨b', o' + k * 2 + 1, none⟩) HB1.out).trans D1.out; go_simp; try exact rfl
          simp only [Act.put, List.setIfInBounds_toArray, List.set_cons_zero, List.set_cons_succ, List.getElem_toArray, List.getElem_cons_zero, List.getElem_cons_succ]
          refine wpAnyH_done (by kernel_rfl) ?_ _
          go_wp2_with fail
          go_ret
          exact ⟨ret_bool HF.out.symm, HW.out.trans (hH5.mono HW.out.size)⟩
      · have HF := hide (eqW_all HL.out (by have e : k = zs.length := by have := HZ.out; omega
                                            rw [e] at HT; exact HT.out))
        go_wp2
        go_ret
        exact ⟨ret_bool HF.out.symm, HW.out⟩
  · have HF := hide (eqW_len (zs := zs) (ys := ys) (by omega))
    have hn : ((n : Int) == (n' : Int)) = false := by simp; omega
    clear hzl hyl h h'
    go_enter Try.func83, Try.ntmps83
    go_wp2
    all_goals (first | (go_ret; exact ⟨ret_bool HF.out.symm, Below.refl _ _⟩) | (exfalso; simp_all))
theorem eqWaitS_v {A A' : Option Addr} {n c n' c' : Nat} {zs ys : List (Int × ByteArray)} {v : Bool} (hv : eqW zs ys = v) (w : World) (h : Rd w 2 A n (waitCells zs)) (h' : Rd w 2 A' n' (waitCells ys)) (hm : n ≤ maxLen) :
    Calls Try.prog 83 #[.slice A n c, .slice A' n' c'] w fun r w' => r = .returned (.bool v) ∧ Below w.heap.size w w' := hv ▸ eqWaitS_any A A' n c n' c' zs ys w h h' hm

/-- two disks are one -/
def eqD (z1 y1 : List ByteArray) (z2 y2 : List (Int × ByteArray)) (g h : Bool) : Bool := eqT z1 y1 && eqW z2 y2 && (g == h)
set_option maxHeartbeats 1000000 in
theorem eqDisk_any (A1 A2 A1' A2' : Option Addr) (n1 n2 c1 c2 n1' n2' c1' c2' : Nat) (z1 y1 : List ByteArray) (z2 y2 : List (Int × ByteArray)) (g h : Bool) (w : World)
    (h1 : Rd w 1 A1 n1 (z1.map Value.string)) (h2 : Rd w 2 A2 n2 (waitCells z2)) (k1 : Rd w 1 A1' n1' (y1.map Value.string)) (k2 : Rd w 2 A2' n2' (waitCells y2)) (m1 : n1 ≤ maxLen) (m2 : n2 ≤ maxLen) :
    Calls Try.prog 57 #[.agg #[.slice A1 n1 c1, .slice A2 n2 c2, .bool g], .agg #[.slice A1' n1' c1', .slice A2' n2' c2', .bool h]] w
      fun r w' => r = .returned (.bool (eqD z1 y1 z2 y2 g h)) ∧ Below w.heap.size w w' := by
  have hb0 : Below w.heap.size w ((w.alloc (.cells #[.slice A1 n1 c1, .slice A2 n2 c2, .bool g] 49)).alloc (.cells #[.slice A1' n1' c1', .slice A2' n2' c2', .bool h] 49)) := ((Below.refl _ _).alloc (Nat.le_refl _) _).alloc (by simp) _
  have K1 := hide ((Bk.fresh w 49 #[.slice A1 n1 c1, .slice A2 n2 c2, .bool g]).alloc (.cells #[.slice A1' n1' c1', .slice A2' n2' c2', .bool h] 49))
  have K2 := Bk.fresh (w.alloc (.cells #[.slice A1 n1 c1, .slice A2 n2 c2, .bool g] 49)) 49 #[.slice A1' n1' c1', .slice A2' n2' c2', .bool h]
  rw [show (w.alloc (.cells #[.slice A1 n1 c1, .slice A2 n2 c2, .bool g] 49)).heap.size = w.heap.size + 1 from by simp] at K2
  have K2 := hide K2
  have H1 := hide (h1.after hb0)
  have H2 := hide (h2.after hb0)
  have L1 := hide (k1.after hb0)
  have L2 := hide (k2.after hb0)
  clear h1 h2 k1 k2
  cases e1 : eqT z1 y1
  · have E1 := hide e1
    have HF := hide (show eqD z1 y1 z2 y2 g h = false by unfold eqD; rw [e1]; rfl)
    clear e1
    go_enter Try.func57, Try.ntmps57
    go_wp2_with fail
    refine (eqStringS_v E1.out _ H1.out L1.out m1).mono ?_; rintro r w1 ⟨rfl, hb1⟩
    go_wp2_with fail
    go_ret
    exact ⟨ret_bool HF.out.symm, bnext hb0 (Nat.le_refl _) hb1⟩
  · cases e2 : eqW z2 y2
    · have E1 := hide e1
      have E2 := hide e2
      have HF := hide (show eqD z1 y1 z2 y2 g h = false by unfold eqD; rw [e1, e2]; rfl)
      clear e1 e2
      go_enter Try.func57, Try.ntmps57
      go_wp2_with fail
      refine (eqStringS_v E1.out _ H1.out L1.out m1).mono ?_; rintro r w1 ⟨rfl, hb1⟩
      obtain ⟨q0, q1, q2⟩ := (K1.out.after hb1).c3
      obtain ⟨q3, q4, q5⟩ := (K2.out.after hb1).c3
      go_wp2_with fail
      refine (eqWaitS_v E2.out _ (H2.out.after hb1) (L2.out.after hb1) m2).mono ?_; rintro r w2 ⟨rfl, hb2⟩
      go_wp2_with fail
      go_ret
      exact ⟨ret_bool HF.out.symm, bnext (bnext hb0 (Nat.le_refl _) hb1) (Nat.le_refl _) hb2⟩
    · have E1 := hide e1
      have E2 := hide e2
      have HF := hide (show eqD z1 y1 z2 y2 g h = (g == h) by unfold eqD; rw [e1, e2]; rfl)
      clear e1 e2
      go_enter Try.func57, Try.ntmps57
      go_wp2_with fail
      refine (eqStringS_v E1.out _ H1.out L1.out m1).mono ?_; rintro r w1 ⟨rfl, hb1⟩
      obtain ⟨q0, q1, q2⟩ := (K1.out.after hb1).c3
      obtain ⟨q3, q4, q5⟩ := (K2.out.after hb1).c3
      go_wp2_with fail
      refine (eqWaitS_v E2.out _ (H2.out.after hb1) (L2.out.after hb1) m2).mono ?_; rintro r w2 ⟨rfl, hb2⟩
      obtain ⟨r0, r1, r2⟩ := ((K1.out.after hb1).after hb2).c3
      obtain ⟨r3, r4, r5⟩ := ((K2.out.after hb1).after hb2).c3
      clear q0 q1 q2 q3 q4 q5
      have hb3 := bnext (bnext hb0 (Nat.le_refl _) hb1) (Nat.le_refl _) hb2
      cases g <;> cases h
      all_goals
        go_wp2_with fail
        go_ret
        exact ⟨ret_bool HF.out.symm, hb3⟩
theorem eqDisk_v {A1 A2 A1' A2' : Option Addr} {n1 n2 c1 c2 n1' n2' c1' c2' : Nat} {z1 y1 : List ByteArray} {z2 y2 : List (Int × ByteArray)} {g h v : Bool} (hv : eqD z1 y1 z2 y2 g h = v) (w : World)
    (h1 : Rd w 1 A1 n1 (z1.map Value.string)) (h2 : Rd w 2 A2 n2 (waitCells z2)) (k1 : Rd w 1 A1' n1' (y1.map Value.string)) (k2 : Rd w 2 A2' n2' (waitCells y2)) (m1 : n1 ≤ maxLen) (m2 : n2 ≤ maxLen) :
    Calls Try.prog 57 #[.agg #[.slice A1 n1 c1, .slice A2 n2 c2, .bool g], .agg #[.slice A1' n1' c1', .slice A2' n2' c2', .bool h]] w
      fun r w' => r = .returned (.bool v) ∧ Below w.heap.size w w' := hv ▸ eqDisk_any A1 A2 A1' A2' n1 n2 c1 c2 n1' n2' c1' c2' z1 y1 z2 y2 g h w h1 h2 k1 k2 m1 m2
theorem eqD_same (z1 : List ByteArray) (z2 : List (Int × ByteArray)) (g : Bool) : eqD z1 z1 z2 z2 g g = true := by
  unfold eqD
  rw [eqT_same, eqW_same]
  simp
end Go.Proofs.Ytcaoekaephnimaa

/- pfTexts, pfDisk of disks on which nothing waits. -/
namespace Go.Proofs.Ytcaoekaephnimaa
open Go.RowKit
set_option linter.unusedVariables false

set_option maxHeartbeats 1000000 in
theorem pfTexts_any (A A' : Option Addr) (n c n' c' : Nat) (zs ys : List ByteArray) (w : World) (h : Rd w 1 A n (zs.map Value.string)) (h' : Rd w 1 A' n' (ys.map Value.string)) (hm : n ≤ maxLen) :
    Calls Try.prog 54 #[.slice A n c, .slice A' n' c'] w fun r w' => r = .returned (.bool (eqT zs ys)) ∧ Below w.heap.size w w' := by
  unfold maxLen at hm
  have hzl : zs.length = n := by have := h.len; simpa using this
  have hyl : ys.length = n' := by have := h'.len; simpa using this
  by_cases hl : n = n'
  · subst hl
    have HL := hide (hzl.trans hyl.symm)
    have HZ := hide hzl
    have H := hide h
    have H' := hide h'
    clear hzl hyl h h'
    go_enter Try.func54, Try.ntmps54
    go_wp2
    go_loopw [5] (fun i wr => ∃ k m : Nat, k ≤ n ∧ wr = w.drewN m ∧ Hid (zs.take k = ys.take k) ∧ i = .int .i64 k) (fun i _ => n - (intOf i).toNat)
    case atStart => exact ⟨0, 0, by omega, rfl, hide rfl, rfl⟩
    case round =>
      obtain ⟨k, m, hk, rfl, HE, rfl⟩ := hrel
      by_cases hlt : k < n
      · obtain ⟨b, o, z, rfl, hb, hz, hc⟩ := H.out.str_at hlt
        obtain ⟨b', o', y, rfl, hb', hy, hc'⟩ := H'.out.str_at hlt
        have HZ := hide hz
        have HY := hide hy
        have i0 : (0 : Int) ≤ (k : Int) := by omega
        have i1 : (k : Int) < (n : Int) := by omega
        clear hz hy
        by_cases he : z = y
        · have hne := beqT_eq he
          have HE1 := hide (take_eq_snoc HZ.out HY.out HE.out he)
          clear he
          go_wp2_with fail
          go_quiet (fail)
          go_wp2
          go_roundw
          case rel => exact ⟨k + 1, m + nq, by omega, rfl, HE1, int_eq (by omega)⟩
          case measure => simp [intOf]; omega
        · have hne := beqT_ne he
          have HF := hide (eqT_at HZ.out HY.out he)
          clear he
          go_wp2_with fail
          go_quiet (fail)
          go_wp2
          go_ret
          exact ⟨ret_bool HF.out.symm, below_drewN (below_drewN (Below.refl _ _) _) _⟩
      · have HF := hide (eqT_all HL.out (by have e : k = zs.length := by have := HZ.out; omega
                                            rw [e] at HE; exact HE.out))
        go_wp2
        go_ret
        exact ⟨ret_bool HF.out.symm, below_drewN (Below.refl _ _) _⟩
  · have HF := hide (eqT_len (zs := zs) (ys := ys) (by omega))
    have hn : ((n : Int) == (n' : Int)) = false := by simp; omega
    clear hzl hyl h h'
    go_enter Try.func54, Try.ntmps54
    go_wp2
    all_goals (first | (go_ret; exact ⟨ret_bool HF.out.symm, Below.refl _ _⟩) | (exfalso; simp_all))
theorem pfTexts_v {A A' : Option Addr} {n c n' c' : Nat} {zs ys : List ByteArray} {v : Bool} (hv : eqT zs ys = v) (w : World) (h : Rd w 1 A n (zs.map Value.string)) (h' : Rd w 1 A' n' (ys.map Value.string)) (hm : n ≤ maxLen) :
    Calls Try.prog 54 #[.slice A n c, .slice A' n' c'] w fun r w' => r = .returned (.bool v) ∧ Below w.heap.size w w' := hv ▸ pfTexts_any A A' n c n' c' zs ys w h h' hm

set_option maxHeartbeats 2000000 in
theorem pfDisk_0 (A1 B1 A2 B2 : Option Addr) (n c1 c2 d1 d2 : Nat) (z : List ByteArray) (g : Bool) (w : World) (h1 : Rd w 1 A1 n (z.map Value.string)) (h2 : Rd w 1 A2 n (z.map Value.string)) (hm : n ≤ maxLen) :
    Calls Try.prog 30 #[.agg #[.slice A1 n c1, .slice B1 0 d1, .bool g], .agg #[.slice A2 n c2, .slice B2 0 d2, .bool g]] w fun r w' => r = .returned (.bool true) ∧ Below w.heap.size w w' := by
  have hb0 : Below w.heap.size w ((w.alloc (.cells #[.slice A1 n c1, .slice B1 0 d1, .bool g] 49)).alloc (.cells #[.slice A2 n c2, .slice B2 0 d2, .bool g] 49)) := ((Below.refl _ _).alloc (Nat.le_refl _) _).alloc (by simp) _
  have K1 := hide ((Bk.fresh w 49 #[.slice A1 n c1, .slice B1 0 d1, .bool g]).alloc (.cells #[.slice A2 n c2, .slice B2 0 d2, .bool g] 49))
  have K2 := hide ((Bk.fresh (w.alloc (.cells #[.slice A1 n c1, .slice B1 0 d1, .bool g] 49)) 49 #[.slice A2 n c2, .slice B2 0 d2, .bool g]))
  have e2 : (w.alloc (.cells #[.slice A1 n c1, .slice B1 0 d1, .bool g] 49)).heap.size = w.heap.size + 1 := by simp
  rw [e2] at K2
  have H1 := hide (h1.after hb0)
  have H2 := hide (h2.after hb0)
  have HB := hide hb0
  clear h1 h2 hb0 e2
  cases g
  all_goals
    go_enter Try.func30, Try.ntmps30
    go_wp2_with fail
    refine (pfTexts_v (eqT_same z) _ H1.out H2.out hm).mono ?_; rintro r w1 ⟨rfl, hb1⟩
    obtain ⟨q0, q1, q2⟩ := (K1.out.after hb1).c3
    obtain ⟨p0, p1, p2⟩ := (K2.out.after hb1).c3
    have HB := hide (bnext HB.out (Nat.le_refl _) hb1)
    clear hb1
    go_wp2_with fail
    go_loop [5] (fun i => i = .int .i64 0) (fun _ => 0)
    case atStart => exact rfl
    case round =>
      obtain rfl := hrel
      go_wp2_with fail
      go_ret
      exact ⟨rfl, HB.out⟩
end Go.Proofs.Ytcaoekaephnimaa

/- Disks on which nothing waits are marked; the walks of the laws FnExactDiskNew and FnExactDiskLose. -/
namespace Go.Proofs.Ytcaoekaephnimaa
open Go.RowKit
set_option linter.unusedVariables false

set_option maxHeartbeats 400000 in
theorem markWaitS_nil (A : Option Addr) (c : Nat) (i : Int) (w : World) :
    Calls Try.prog 59 #[.slice A 0 c, .int .i64 i] w fun r w' => r = .returned (.int .i64 i) ∧ w = w' := by
  go_enter Try.func59, Try.ntmps59
  go_wp2
  go_loop [1, 5] (fun q j => q = .int .i64 i ∧ j = .int .i64 0) (fun _ _ => 0)
  case atStart => exact ⟨rfl, rfl⟩
  case round =>
    obtain ⟨rfl, rfl⟩ := hrel
    go_wp2
    go_ret
    exact ⟨rfl, rfl⟩
set_option maxHeartbeats 400000 in
theorem heldWaitS_nil (A : Option Addr) (c : Nat) (i : Int) (w : World) :
    Calls Try.prog 61 #[.slice A 0 c, .int .i64 i] w fun r w' => r = .returned (.int .i64 i) ∧ w = w' := by
  go_enter Try.func61, Try.ntmps61
  go_wp2
  go_loop [1, 5] (fun q j => q = .int .i64 i ∧ j = .int .i64 0) (fun _ _ => 0)
  case atStart => exact ⟨rfl, rfl⟩
  case round =>
    obtain ⟨rfl, rfl⟩ := hrel
    go_wp2
    go_ret
    exact ⟨rfl, rfl⟩

end Go.Proofs.Ytcaoekaephnimaa

/- Disks are taken over: toWait, toWaitS, toDisk; their sizes: szWait, szWaitS, szDisk. -/
namespace Go.Proofs.Ytcaoekaephnimaa
open Go.RowKit
set_option linter.unusedVariables false

set_option maxHeartbeats 400000 in
theorem toWait_any (a : Int) (s : ByteArray) (w : World) :
    Calls Try.prog 100 #[.agg #[.int .i64 a, .string s]] w fun r w' => r = .returned (.agg #[.int .i64 a, .string s]) ∧ Below w.heap.size w w' := by
  go_enter Try.func100, Try.ntmps100
  go_wp2
  refine bodyPost_ret (v := .agg #[.int .i64 a, .string s]) (by simp [results, Try.results100, go_sem]) rfl ⟨rfl, ?_⟩
  exact (((Below.refl _ _).alloc (Nat.le_refl _) _).alloc (by simp) _).alloc (by simp; omega) _

theorem info_wait : (Try.prog.info? 74).map (fun i => (i.zero, i.size, i.bytes)) = some (some (.agg #[.int .i64 0, .string ⟨#[]⟩]), 2, 24) := by kernel_rfl
/-- make([]Wait, n) -/
theorem make_waits (n : Nat) (hn : n ≤ 1000000000) (w : World) :
    (Instr.makeSlice 47 (.int .i64 (n : Int)) (.int .i64 (n : Int))).run Try.prog w = .ok (.slice (some ⟨w.heap.size, 0, none⟩) n n) (w.alloc (.cells (madeCells #[.int .i64 0, .string ⟨#[]⟩] (n * 2)) 74)) := by
  obtain ⟨i, hi, hz, hs, hb⟩ := info_parts info_wait
  have hr := run_make (P := Try.prog) w 47 74 i _ Try.underlying47 hi hz .i64 .i64 n n (by omega) (by omega) (by rw [hb]; omega) (by omega)
  simp only [Int.toNat_natCast, hs] at hr
  exact hr
set_option maxHeartbeats 1000000 in
theorem szWait_any (a : Int) (s : ByteArray) (l : Int) (hs : s.size ≤ maxLen) (h0 : 0 ≤ l) (h1 : l ≤ 1048576) (w : World) :
    Calls Try.prog 99 #[.agg #[.int .i64 a, .string s], .int .i64 l] w fun r w' => r = .returned (.int .i64 (if l < s.size then -1 else l - s.size)) ∧ Below w.heap.size w w' := by
  unfold maxLen at hs
  have hb := bel1 w (.cells #[.int .i64 a, .string s] 117)
  have HB := hide hb
  clear hb
  obtain ⟨m, hm⟩ : ∃ m, m = l - (s.size : Int) := ⟨_, rfl⟩
  have jm : l - (s.size : Int) = m := hm.symm
  have jw : IntKind.i64.wrap m = m := by rw [IntKind.wrap_i64]; omega
  by_cases h : l < (s.size : Int)
  · have hneg : m < 0 := by omega
    have HE := hide (if_pos h : (if l < (s.size : Int) then (-1 : Int) else l - s.size) = -1)
    clear h hm
    go_enter Try.func99, Try.ntmps99
    go_wp2_with fail
    go_ret
    exact ⟨by first | rfl | exact ret_int HE.out.symm, HB.out⟩
  · have hneg : ¬ m < 0 := by omega
    have HE := hide (show (if l < (s.size : Int) then (-1 : Int) else l - s.size) = m by rw [if_neg h, hm])
    clear h hm
    go_enter Try.func99, Try.ntmps99
    go_wp2_with fail
    go_ret
    exact ⟨by first | rfl | exact ret_int HE.out.symm, HB.out⟩
theorem szWait_v {a : Int} {s : ByteArray} {l v : Int} (hv : (if l < s.size then (-1 : Int) else l - s.size) = v) (hs : s.size ≤ maxLen) (h0 : 0 ≤ l) (h1 : l ≤ 1048576) (w : World) :
    Calls Try.prog 99 #[.agg #[.int .i64 a, .string s], .int .i64 l] w fun r w' => r = .returned (.int .i64 v) ∧ Below w.heap.size w w' := hv ▸ szWait_any a s l hs h0 h1 w
/-- a size that is left over: nothing, or all that was asked is small -/
def LeftW (left : Int) (n : Nat) (zs : List (Int × ByteArray)) (w : World) (r : Ending) (w' : World) : Prop := (∃ v : Int, r = .returned (.int .i64 v) ∧ (v < 0 ∨ (0 ≤ v ∧ v ≤ left ∧ (n : Int) ≤ left ∧ ∀ z ∈ zs, (z.2.size : Int) ≤ left))) ∧ Below w.heap.size w w'
theorem all_mem_snoc {α : Type} {l : List α} {p : α → Prop} {k : Nat} {z : α} (hz : l[k]? = some z) (h : ∀ u ∈ l.take k, p u) (hp : p z) : ∀ u ∈ l.take (k + 1), p u := by
  obtain ⟨hk, e⟩ := List.getElem?_eq_some_iff.1 hz
  rw [List.take_succ_eq_append_getElem hk, e]
  intro u hu
  rcases List.mem_append.1 hu with h1 | h1
  · exact h u h1
  · rw [List.mem_singleton.1 h1]; exact hp

set_option maxHeartbeats 2000000 in
theorem szWaitS_any (A : Option Addr) (n c : Nat) (zs : List (Int × ByteArray)) (left : Int) (w : World) (h : Rd w 2 A n (waitCells zs)) (hz : ∀ z ∈ zs, z.2.size ≤ maxLen) (hm : n ≤ maxLen) (h0 : 0 ≤ left) (h1 : left ≤ 1048576) :
    Calls Try.prog 86 #[.slice A n c, .int .i64 left] w (LeftW left n zs w) := by
  unfold maxLen at hm
  have hzl : zs.length = n := by have := h.len; rw [waitCells_len] at this; omega
  have HZL := hide hzl
  have HZM := hide hz
  have H := hide h
  clear h hzl hz
  obtain ⟨m, hmm⟩ : ∃ m, m = left - (n : Int) := ⟨_, rfl⟩
  have jm : left - (n : Int) = m := hmm.symm
  have jw : IntKind.i64.wrap m = m := by rw [IntKind.wrap_i64]; omega
  by_cases hneg : m < 0
  · clear hmm
    go_enter Try.func86, Try.ntmps86
    go_wp2_with fail
    go_ret
    exact ⟨⟨-1, rfl, .inl (by omega)⟩, Below.refl _ _⟩
  · have HN := hide (show (n : Int) ≤ left by omega)
    have m2 : m ≤ left := by omega
    clear hmm
    go_enter Try.func86, Try.ntmps86
    go_wp2_with fail
    go_loopw [1, 5] (fun q i wr => ∃ (k : Nat) (l : Int), k ≤ n ∧ 0 ≤ l ∧ l ≤ left ∧ Hid (Below w.heap.size w wr) ∧ Hid (∀ z ∈ zs.take k, (z.2.size : Int) ≤ left) ∧ q = .int .i64 l ∧ i = .int .i64 k) (fun _ i _ => n - (intOf i).toNat)
    case atStart => exact ⟨0, m, by omega, by omega, by omega, hide (Below.refl _ _), hide (by simp), rfl, rfl⟩
    case round =>
      obtain ⟨k, l, hk, l0, l1, HW, HT, rfl, rfl⟩ := hrel
      by_cases hlt : k < n
      · obtain ⟨b, o, z, rfl, hb, hz, hc0, hc1⟩ := (H.out.after HW.out).wait_at hlt
        have HZ := hide hz
        have hzm := hide (HZM.out z (List.mem_of_getElem? hz))
        have i0 : (0 : Int) ≤ (k : Int) := by omega
        have i1 : (k : Int) < (n : Int) := by omega
        clear hz
        by_cases hc : l < (z.2.size : Int)
        · have HV := hide (if_pos hc : (if l < (z.2.size : Int) then (-1 : Int) else l - z.2.size) = -1)
          clear hc
          go_wp2_with fail
          refine (szWait_v HV.out hzm.out l0 (by omega) _).mono ?_; rintro r w1 ⟨rfl, hb1⟩
          go_wp2_with fail
          go_ret
          exact ⟨⟨-1, rfl, .inl (by omega)⟩, HW.out.trans (hb1.mono HW.out.size)⟩
        · obtain ⟨d, hd⟩ : ∃ d, d = l - (z.2.size : Int) := ⟨_, rfl⟩
          have HV := hide (show (if l < (z.2.size : Int) then (-1 : Int) else l - z.2.size) = d by rw [if_neg hc, hd])
          have d0 : 0 ≤ d := by omega
          have d1 : ¬ d < 0 := by omega
          have d2 : d ≤ left := by omega
          have HT1 := hide (all_mem_snoc (p := fun z => (z.2.size : Int) ≤ left) HZ.out HT.out (by omega))
          clear hc hd
          go_wp2_with fail
          refine (szWait_v HV.out hzm.out l0 (by omega) _).mono ?_; rintro r w1 ⟨rfl, hb1⟩
          go_wp2_with fail
          go_roundw
          case rel => exact ⟨k + 1, d, by omega, d0, d2, hide (HW.out.trans (hb1.mono HW.out.size)), HT1, rfl, int_eq (by omega)⟩
          case measure => simp [intOf]; omega
      · go_wp2_with fail
        go_ret
        refine ⟨⟨l, rfl, .inr ⟨l0, l1, HN.out, ?_⟩⟩, HW.out⟩
        have e : k = zs.length := by have := HZL.out; omega
        have := HT.out
        rwa [e, List.take_length] at this

/-- what is put into a row of waiting writes -/
theorem wait_put {cs : Array Value} {zs : List (Int × ByteArray)} {k : Nat} {z : Int × ByteArray} (hz : zs[k]? = some z) (hs : cs.size = zs.length * 2) (h : ∀ j, j < k * 2 → cs[j]? = (waitCells zs)[j]?) :
    ∀ j, j < (k + 1) * 2 → ((cs.setIfInBounds (k * 2) (.int .i64 z.1)).setIfInBounds (k * 2 + 1) (.string z.2))[j]? = (waitCells zs)[j]? := by
  intro j hj
  obtain ⟨c0, c1⟩ := waitCells_at zs k z hz
  have hk := (List.getElem?_eq_some_iff.1 hz).1
  rw [Array.getElem?_setIfInBounds, Array.getElem?_setIfInBounds, Array.size_setIfInBounds]
  by_cases e1 : k * 2 + 1 = j
  · rw [if_pos e1, if_pos (by omega), ← e1, c1]
  · rw [if_neg e1]
    by_cases e0 : k * 2 = j
    · rw [if_pos e0, if_pos (by omega), ← e0, c0]
    · rw [if_neg e0]; exact h j (by omega)

set_option maxHeartbeats 2000000 in
theorem toWaitS_any (A : Option Addr) (n c : Nat) (zs : List (Int × ByteArray)) (w : World) (h : Rd w 2 A n (waitCells zs)) (hm : n ≤ 1000000000) :
    Calls Try.prog 89 #[.slice A n c] w fun r w' => r = .returned (.slice (some ⟨w.heap.size, 0, none⟩) n n) ∧ Bk w' w.heap.size 74 (waitCells zs).toArray ∧ Below w.heap.size w w' ∧ w.heap.size < w'.heap.size := by
  have hmk := make_waits n hm
  have hzl : zs.length = n := by have := h.len; rw [waitCells_len] at this; omega
  have HZ := hide hzl
  have H := hide h
  clear hzl h
  go_enter Try.func89, Try.ntmps89
  go_wp2
  go_loopw [4] (fun i wr => ∃ (k : Nat) (cs : Array Value), k ≤ n ∧ Hid (Bk wr w.heap.size 74 cs) ∧ Hid (cs.size = n * 2) ∧ Hid (∀ j, j < k * 2 → cs[j]? = (waitCells zs)[j]?) ∧ Hid (Below w.heap.size w wr) ∧ i = .int .i64 k) (fun i _ => n - (intOf i).toNat)
  case atStart => exact ⟨0, _, by omega, hide (Bk.fresh _ _ _), hide (size_madeCells _ _), hide (fun j hj => absurd hj (by omega)), hide (bel1 _ _), rfl⟩
  case round =>
    obtain ⟨k, cs, hk, HB, HS, HM, HF, rfl⟩ := hrel
    clear hmk
    by_cases hlt : k < n
    · obtain ⟨b, o, z, rfl, hb, hz, hc0, hc1⟩ := (H.out.after HF.out).wait_at hlt
      have HZk := hide hz
      have i0 : (0 : Int) ≤ (k : Int) := by omega
      have i1 : (k : Int) < (n : Int) := by omega
      clear hz
      go_wp2_with fail
      refine (toWait_any z.1 z.2 _).mono ?_; rintro r w1 ⟨rfl, hb1⟩
      have HB1 := HB.out.after hb1
      have ks : k * 2 + 1 < cs.size := by have := HS.out; omega
      have d0 : w1.cell? ⟨w.heap.size, k * 2, none⟩ = some cs[k * 2] := by rw [HB1.cell]; exact Array.getElem?_eq_getElem (by omega)
      have d1 : w1.cell? ⟨w.heap.size, k * 2 + 1, none⟩ = some cs[k * 2 + 1] := by rw [HB1.cell]; exact Array.getElem?_eq_getElem ks
      have f0 := HB1.frozen (k * 2)
      have f1 := HB1.frozen (k * 2 + 1)
      have HP := hide ((HB1.put (k * 2) (.int .i64 z.1)).put (k * 2 + 1) (.string z.2))
      have HF1 := hide (((HF.out.trans (hb1.mono HF.out.size)).setCell (p := ⟨w.heap.size, k * 2, none⟩) (Nat.le_refl _) (.int .i64 z.1)).setCell (p := ⟨w.heap.size, k * 2 + 1, none⟩) (Nat.le_refl _) (.string z.2))
      clear hb1 HB1
      go_wp2_with fail
      go_roundw
      case rel => exact ⟨k + 1, _, by omega, HP, hide (by rw [Array.size_setIfInBounds, Array.size_setIfInBounds]; exact HS.out), hide (wait_put HZk.out (by rw [HZ.out]; exact HS.out) HM.out), HF1, int_eq (by omega)⟩
      case measure => simp [intOf]; omega
    · go_wp2_with fail
      go_ret
      have e : k = n := by omega
      subst e
      refine ⟨rfl, ?_, HF.out, HB.out.lt⟩
      have e2 := arr_ext (cs := cs) (xs := waitCells zs) (by rw [HS.out, waitCells_len, HZ.out]) (fun j hj => HM.out j (by rw [waitCells_len, HZ.out] at hj; exact hj))
      rw [← e2]
      exact HB.out
end Go.Proofs.Ytcaoekaephnimaa
