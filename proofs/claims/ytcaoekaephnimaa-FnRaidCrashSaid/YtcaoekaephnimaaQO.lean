/- Which disks are valid: DiskOk of the program and of the reference. -/
import Derived.Test.YtcaoekaephnimaaQD
import Derived.Test.YtcaoekaephnimaaQA
namespace Go.Proofs.Ytcaoekaephnimaa
open Go.RowKit
set_option linter.unusedVariables false

/-- a cell of a valid disk -/
def cellB (g : Bool) (s : ByteArray) : Bool := decide (s.size ≤ 200) && (!g || decide (s.size = 0))
/-- a waiting write of a valid disk -/
def waitB (z : Int × ByteArray) : Bool := inR z.1 0 63 && decide (z.2.size ≤ 200)
/-- a disk is valid -/
def diskOk (z1 : List ByteArray) (z2 : List (Int × ByteArray)) (g : Bool) : Bool :=
  decide (z1.length = 64) && decide (z2.length ≤ 120) && !(g && decide (0 < z2.length)) && z1.all (cellB g) && z2.all waitB
theorem all_snoc {α : Type} {l : List α} {p : α → Bool} {k : Nat} {z : α} (hz : l[k]? = some z) (h : (l.take k).all p = true) (hp : p z = true) : (l.take (k + 1)).all p = true := by
  have hl := (List.getElem?_eq_some_iff.1 hz)
  obtain ⟨hk, e⟩ := hl
  rw [List.take_succ_eq_append_getElem hk, List.all_append, h, e]
  simp [hp]
theorem all_no {α : Type} {l : List α} {p : α → Bool} {k : Nat} {z : α} (hz : l[k]? = some z) (hp : p z = false) : l.all p = false := by
  cases h : l.all p
  · rfl
  · rw [List.all_eq_true] at h
    have := h z (List.mem_of_getElem? hz)
    rw [hp] at this
    cases this
theorem all_end {α : Type} {l : List α} {p : α → Bool} {k : Nat} (hk : k = l.length) (h : (l.take k).all p = true) : l.all p = true := by
  rwa [hk, List.take_length] at h
theorem isEmpty_size (s : ByteArray) : s.toList.isEmpty = decide (s.size = 0) := by
  rw [ByteArray.toList_eq]
  have hl : s.data.toList.length = s.size := Array.length_toList
  cases h : s.data.toList with
  | nil => rw [h] at hl; rw [decide_eq_true (by simpa using hl.symm)]; rfl
  | cons x xs => rw [h] at hl; rw [decide_eq_false (by simp at hl; omega)]; rfl

set_option maxHeartbeats 1000000 in
theorem isCell_any (n : Int) (w : World) : Calls Try.prog 68 #[.int .i64 n] w fun r w' => r = .returned (.bool (inR n 0 63)) ∧ w = w' := by
  go_enter Try.func68, Try.ntmps68
  go_wp2_with fail
  refine (within_any _ _ _ _).mono ?_; rintro r w1 ⟨rfl, rfl⟩
  go_wp2_with fail
  go_ret
  exact ⟨rfl, rfl⟩
theorem l3Cell_any (n : Int) (w : World) : Calls Try.prog 63 #[.int .i64 n] w fun r w' => r = .returned (.bool (inR n 0 63)) ∧ w = w' := by
  go_enter Try.func63, Try.ntmps63
  go_wp2_with fail
  refine (l6In_any _ _ _ _).mono ?_; rintro r w1 ⟨rfl, rfl⟩
  go_wp2_with fail
  go_ret
  exact ⟨rfl, rfl⟩
theorem isCell_v {n : Int} {v : Bool} (h : inR n 0 63 = v) (w : World) : Calls Try.prog 68 #[.int .i64 n] w fun r w' => r = .returned (.bool v) ∧ w = w' := h ▸ isCell_any n w
theorem l3Cell_v {n : Int} {v : Bool} (h : inR n 0 63 = v) (w : World) : Calls Try.prog 63 #[.int .i64 n] w fun r w' => r = .returned (.bool v) ∧ w = w' := h ▸ l3Cell_any n w

set_option maxHeartbeats 1000000 in
theorem badWait_any (a : Int) (s : ByteArray) (w : World) :
    Calls Try.prog 67 #[.agg #[.int .i64 a, .string s]] w fun r w' => r = .returned (.bool (!waitB (a, s))) ∧ Below w.heap.size w w' := by
  have hb := bel1 w (.cells #[.int .i64 a, .string s] 74)
  have HB := hide hb
  obtain ⟨q0, q1⟩ := (Bk.fresh w 74 #[.int .i64 a, .string s]).c2
  clear hb
  cases e : inR a 0 63
  · have E := hide e
    have HF := hide (show waitB (a, s) = false by unfold waitB; rw [e]; rfl)
    clear e
    go_enter Try.func67, Try.ntmps67
    go_wp2_with fail
    refine (isCell_v E.out _).mono ?_; rintro r w1 ⟨rfl, rfl⟩
    go_wp2_with fail
    go_ret
    exact ⟨ret_bool (by rw [HF.out]; rfl), HB.out⟩
  · have E := hide e
    by_cases h2 : s.size ≤ 200
    · have h3 : ¬ (200 : Int) < (s.size : Int) := by omega
      have HF := hide (show waitB (a, s) = true by unfold waitB; rw [e, decide_eq_true h2]; rfl)
      clear e h2
      go_enter Try.func67, Try.ntmps67
      go_wp2_with fail
      refine (isCell_v E.out _).mono ?_; rintro r w1 ⟨rfl, rfl⟩
      go_wp2_with fail
      go_ret
      exact ⟨ret_bool (by rw [HF.out]; first | rfl | (simp; omega)), HB.out⟩
    · have h3 : (200 : Int) < (s.size : Int) := by omega
      have HF := hide (show waitB (a, s) = false by unfold waitB; rw [e, decide_eq_false h2]; rfl)
      clear e h2
      go_enter Try.func67, Try.ntmps67
      go_wp2_with fail
      refine (isCell_v E.out _).mono ?_; rintro r w1 ⟨rfl, rfl⟩
      go_wp2_with fail
      go_ret
      exact ⟨ret_bool (by rw [HF.out]; first | rfl | (simp; omega)), HB.out⟩
theorem badWait_v {a : Int} {s : ByteArray} {v : Bool} (h : (!waitB (a, s)) = v) (w : World) :
    Calls Try.prog 67 #[.agg #[.int .i64 a, .string s]] w fun r w' => r = .returned (.bool v) ∧ Below w.heap.size w w' := h ▸ badWait_any a s w

set_option maxHeartbeats 2000000 in
theorem indexBad_any (A : Option Addr) (n c : Nat) (zs : List (Int × ByteArray)) (w : World) (h : Rd w 2 A n (waitCells zs)) (hm : n ≤ maxLen) :
    Calls Try.prog 90 #[.slice A n c, .func (.func 67) #[] #[]] w fun r w' => (∃ i : Int, r = .returned (.int .i64 i) ∧ (zs.all waitB = true → i = -1) ∧ (zs.all waitB = false → 0 ≤ i)) ∧ Below w.heap.size w w' := by
  unfold maxLen at hm
  have hzl : zs.length = n := by have := h.len; rw [waitCells_len] at this; omega
  have HZL := hide hzl
  have H := hide h
  clear h hzl
  go_enter Try.func90, Try.ntmps90
  go_wp2_with fail
  go_loopw [8] (fun i wr => ∃ k : Nat, k ≤ n ∧ Hid (Below w.heap.size w wr) ∧ Hid ((zs.take k).all waitB = true) ∧ i = .int .i64 k) (fun i _ => n - (intOf i).toNat)
  case atStart => exact ⟨0, by omega, hide (Below.refl _ _), hide rfl, rfl⟩
  case round =>
    obtain ⟨k, hk, HW, HT, rfl⟩ := hrel
    by_cases hlt : k < n
    · obtain ⟨b, o, z, rfl, hb, hz, hc0, hc1⟩ := (H.out.after HW.out).wait_at hlt
      have HZ := hide hz
      have i0 : (0 : Int) ≤ (k : Int) := by omega
      have i1 : (k : Int) < (n : Int) := by omega
      clear hz
      cases e : waitB z
      · have E := hide (show (!waitB (z.1, z.2)) = true by rw [show (z.1, z.2) = z from rfl, e]; rfl)
        have HF := hide (all_no HZ.out e)
        clear e
        go_wp2_with fail
        refine (badWait_v E.out _).mono ?_; rintro r w1 ⟨rfl, hb1⟩
        go_wp2_with fail
        go_ret
        exact ⟨⟨k, rfl, fun e => (by rw [HF.out] at e; cases e), fun _ => by omega⟩, HW.out.trans (hb1.mono HW.out.size)⟩
      · have E := hide (show (!waitB (z.1, z.2)) = false by rw [show (z.1, z.2) = z from rfl, e]; rfl)
        have HT1 := hide (all_snoc HZ.out HT.out e)
        clear e
        go_wp2_with fail
        refine (badWait_v E.out _).mono ?_; rintro r w1 ⟨rfl, hb1⟩
        go_wp2_with fail
        go_roundw
        case rel => exact ⟨k + 1, by omega, hide (HW.out.trans (hb1.mono HW.out.size)), HT1, int_eq (by omega)⟩
        case measure => simp [intOf]; omega
    · have HF := hide (all_end (by have := HZL.out; omega) HT.out)
      go_wp2_with fail
      go_ret
      exact ⟨⟨-1, rfl, fun _ => rfl, fun e => (by rw [HF.out] at e; cases e)⟩, HW.out⟩
theorem containsBad_any (A : Option Addr) (n c : Nat) (zs : List (Int × ByteArray)) (w : World) (h : Rd w 2 A n (waitCells zs)) (hm : n ≤ maxLen) :
    Calls Try.prog 66 #[.slice A n c, .func (.func 67) #[] #[]] w fun r w' => r = .returned (.bool (!zs.all waitB)) ∧ Below w.heap.size w w' := by
  have H := hide h
  clear h
  cases e : zs.all waitB
  · have E := hide e
    clear e
    go_enter Try.func66, Try.ntmps66
    go_wp2_with fail
    refine (indexBad_any _ _ _ zs _ H.out hm).mono ?_; rintro r w1 ⟨⟨i, rfl, _, hi⟩, hb1⟩
    have hi0 := hi E.out
    clear hi
    go_wp2_with fail
    go_ret
    exact ⟨ret_bool (by first | rfl | (simp; omega) | simp [hi0]), hb1⟩
  · have E := hide e
    clear e
    go_enter Try.func66, Try.ntmps66
    go_wp2_with fail
    refine (indexBad_any _ _ _ zs _ H.out hm).mono ?_; rintro r w1 ⟨⟨i, rfl, hi, _⟩, hb1⟩
    obtain rfl := hi E.out
    clear hi
    go_wp2_with fail
    go_ret
    exact ⟨rfl, hb1⟩
theorem containsBad_v {A : Option Addr} {n c : Nat} {zs : List (Int × ByteArray)} {v : Bool} (hv : (!zs.all waitB) = v) (w : World) (h : Rd w 2 A n (waitCells zs)) (hm : n ≤ maxLen) :
    Calls Try.prog 66 #[.slice A n c, .func (.func 67) #[] #[]] w fun r w' => r = .returned (.bool v) ∧ Below w.heap.size w w' := hv ▸ containsBad_any A n c zs w h hm

theorem ok_len {z1 : List ByteArray} {z2 : List (Int × ByteArray)} {g : Bool} (h : z1.length ≠ 64) : diskOk z1 z2 g = false := by unfold diskOk; rw [decide_eq_false h]; rfl
theorem ok_many {z1 : List ByteArray} {z2 : List (Int × ByteArray)} {g : Bool} (h : ¬ z2.length ≤ 120) : diskOk z1 z2 g = false := by unfold diskOk; rw [decide_eq_false h]; simp
theorem ok_cell {z1 : List ByteArray} {z2 : List (Int × ByteArray)} {g : Bool} (h : z1.all (cellB g) = false) : diskOk z1 z2 g = false := by unfold diskOk; rw [h]; simp
theorem ok_wait {z1 : List ByteArray} {z2 : List (Int × ByteArray)} {g : Bool} (h : z2.all waitB = false) : diskOk z1 z2 g = false := by unfold diskOk; rw [h]; simp
theorem ok_gone {z1 : List ByteArray} {z2 : List (Int × ByteArray)} (h : 0 < z2.length) : diskOk z1 z2 true = false := by unfold diskOk; rw [decide_eq_true h]; simp
theorem ok_yes {z1 : List ByteArray} {z2 : List (Int × ByteArray)} {g : Bool} (h1 : z1.length = 64) (h2 : z2.length ≤ 120) (h3 : z1.all (cellB g) = true) (h4 : z2.all waitB = true) (h5 : (g && decide (0 < z2.length)) = false) : diskOk z1 z2 g = true := by
  unfold diskOk; rw [decide_eq_true h1, decide_eq_true h2, h3, h4, h5]; rfl

set_option maxHeartbeats 4000000 in
theorem implDiskOk_any (A1 A2 : Option Addr) (n1 n2 c1 c2 : Nat) (z1 : List ByteArray) (z2 : List (Int × ByteArray)) (g : Bool) (w : World) (h1 : Rd w 1 A1 n1 (z1.map Value.string)) (h2 : Rd w 2 A2 n2 (waitCells z2)) (m1 : n1 ≤ maxLen) (m2 : n2 ≤ maxLen) :
    Calls Try.prog 42 #[.agg #[.slice A1 n1 c1, .slice A2 n2 c2, .bool g]] w fun r w' => r = .returned (.bool (diskOk z1 z2 g)) ∧ Below w.heap.size w w' := by
  have hl1 : z1.length = n1 := by have := h1.len; simpa using this
  have hl2 : z2.length = n2 := by have := h2.len; rw [waitCells_len] at this; omega
  have hb0 := bel1 w (.cells #[.slice A1 n1 c1, .slice A2 n2 c2, .bool g] 49)
  have K0 := hide (Bk.fresh w 49 #[.slice A1 n1 c1, .slice A2 n2 c2, .bool g])
  have H1 := hide (h1.after hb0)
  have H2 := hide (h2.after hb0)
  have HB := hide hb0
  have L1 := hide hl1
  have L2 := hide hl2
  have M2 := hide m2
  clear h1 h2 hb0 m1 m2 hl1 hl2
  by_cases e1 : n1 = 64
  · subst e1
    by_cases e2 : n2 ≤ 120
    · have e3 : ¬ (120 : Int) < (n2 : Int) := by omega
      have N2 := hide e2
      clear e2
      cases g
      · skip
        go_enter Try.func42, Try.ntmps42
        go_wp2_with fail
        go_loop [18] (fun i => ∃ k : Nat, k ≤ 64 ∧ Hid ((z1.take k).all (cellB false) = true) ∧ i = .int .i64 k) (fun i => 64 - (intOf i).toNat)
        case atStart => exact ⟨0, by omega, hide rfl, rfl⟩
        case round =>
          obtain ⟨k, hk, HT, rfl⟩ := hrel
          by_cases hlt : k < 64
          · obtain ⟨b, o, z, rfl, hb, hz, hc⟩ := H1.out.str_at hlt
            have HZ := hide hz
            clear hz
            by_cases hs : z.size ≤ 200
            · have hs2 : ¬ (200 : Int) < (z.size : Int) := by omega
              have E := hide (show cellB false z = true by unfold cellB; rw [decide_eq_true hs]; rfl)
              have HT1 := hide (all_snoc HZ.out HT.out E.out)
              go_wp2_with fail
              go_round
              case rel => exact ⟨k + 1, by omega, HT1, int_eq (by omega)⟩
              case measure => simp [intOf]; omega
            · have hs2 : (200 : Int) < (z.size : Int) := by omega
              have HF := hide (ok_cell (z2 := z2) (all_no HZ.out (show cellB false z = false by unfold cellB; rw [decide_eq_false hs]; rfl)))
              clear hs
              go_wp2_with fail
              go_ret
              exact ⟨ret_bool HF.out.symm, HB.out⟩
          · have HA := hide (all_end (by have := L1.out; omega) HT.out)
            have hk64 : ¬ (k : Int) < 64 := by omega
            cases e : z2.all waitB
            · have HF := hide (ok_wait (z1 := z1) (g := false) e)
              have E := hide (show (!z2.all waitB) = true by rw [e]; rfl)
              clear e
              go_wp2_with fail
              refine (containsBad_v E.out _ H2.out M2.out).mono ?_; rintro r w1 ⟨rfl, hb1⟩
              go_wp2_with fail
              go_ret
              exact ⟨ret_bool HF.out.symm, bnext HB.out (Nat.le_refl _) hb1⟩
            · have HF := hide (ok_yes (g := false) L1.out (by rw [L2.out]; exact N2.out) HA.out e rfl)
              have E := hide (show (!z2.all waitB) = false by rw [e]; rfl)
              clear e
              go_wp2_with fail
              refine (containsBad_v E.out _ H2.out M2.out).mono ?_; rintro r w1 ⟨rfl, hb1⟩
              go_wp2_with fail
              go_ret
              exact ⟨ret_bool HF.out.symm, bnext HB.out (Nat.le_refl _) hb1⟩
      · skip
        go_enter Try.func42, Try.ntmps42
        go_wp2_with fail
        go_loop [18] (fun i => ∃ k : Nat, k ≤ 64 ∧ Hid ((z1.take k).all (cellB true) = true) ∧ i = .int .i64 k) (fun i => 64 - (intOf i).toNat)
        case atStart => exact ⟨0, by omega, hide rfl, rfl⟩
        case round =>
          obtain ⟨k, hk, HT, rfl⟩ := hrel
          by_cases hlt : k < 64
          · obtain ⟨b, o, z, rfl, hb, hz, hc⟩ := H1.out.str_at hlt
            have HZ := hide hz
            clear hz
            by_cases hs : z.size ≤ 200
            · have hs2 : ¬ (200 : Int) < (z.size : Int) := by omega
              by_cases he : z.size = 0
              · have hq : z.toList.isEmpty = true := by rw [isEmpty_size, decide_eq_true he]
                have E := hide (show cellB true z = true by unfold cellB; rw [decide_eq_true hs, decide_eq_true he]; rfl)
                clear he
                have HT1 := hide (all_snoc HZ.out HT.out E.out)
                go_wp2_with fail
                go_round
                case rel => exact ⟨k + 1, by omega, HT1, int_eq (by omega)⟩
                case measure => simp [intOf]; omega
              · have hq : z.toList.isEmpty = false := by rw [isEmpty_size, decide_eq_false he]
                have HF := hide (ok_cell (z2 := z2) (all_no HZ.out (show cellB true z = false by unfold cellB; rw [decide_eq_false he, decide_eq_true hs]; rfl)))
                clear he
                go_wp2_with fail
                go_ret
                exact ⟨ret_bool HF.out.symm, HB.out⟩
            · have hs2 : (200 : Int) < (z.size : Int) := by omega
              have HF := hide (ok_cell (z2 := z2) (all_no HZ.out (show cellB true z = false by unfold cellB; rw [decide_eq_false hs]; rfl)))
              clear hs
              go_wp2_with fail
              go_ret
              exact ⟨ret_bool HF.out.symm, HB.out⟩
          · have HA := hide (all_end (by have := L1.out; omega) HT.out)
            have hk64 : ¬ (k : Int) < 64 := by omega
            by_cases hn : 0 < n2
            · have hn2 : (0 : Int) < (n2 : Int) := by omega
              have HF := hide (ok_gone (z1 := z1) (z2 := z2) (by rw [L2.out]; exact hn))
              clear hn
              go_wp2_with fail
              go_ret
              exact ⟨ret_bool HF.out.symm, HB.out⟩
            · obtain rfl : n2 = 0 := by omega
              have e : z2.all waitB = true := by rw [List.length_eq_zero_iff.1 L2.out]; rfl
              have HF := hide (ok_yes (g := true) L1.out (by rw [L2.out]; exact N2.out) HA.out e (by rw [L2.out]; rfl))
              have E := hide (show (!z2.all waitB) = false by rw [e]; rfl)
              clear e
              go_wp2_with fail
              refine (containsBad_v E.out _ H2.out M2.out).mono ?_; rintro r w1 ⟨rfl, hb1⟩
              go_wp2_with fail
              go_ret
              exact ⟨ret_bool HF.out.symm, bnext HB.out (Nat.le_refl _) hb1⟩
    · have e3 : (120 : Int) < (n2 : Int) := by omega
      have HF := hide (ok_many (z1 := z1) (g := g) (show ¬ z2.length ≤ 120 by rw [L2.out]; exact e2))
      clear e2
      go_enter Try.func42, Try.ntmps42
      go_wp2_with fail
      go_ret
      exact ⟨ret_bool HF.out.symm, HB.out⟩
  · have e3 : ¬ (n1 : Int) = 64 := by omega
    have HF := hide (ok_len (z2 := z2) (g := g) (show z1.length ≠ 64 by rw [L1.out]; exact e1))
    clear e1
    go_enter Try.func42, Try.ntmps42
    go_wp2_with fail
    go_ret
    exact ⟨ret_bool HF.out.symm, HB.out⟩
end Go.Proofs.Ytcaoekaephnimaa

/- Which disks are valid: DiskOk of the reference. -/
namespace Go.Proofs.Ytcaoekaephnimaa
open Go.RowKit
set_option linter.unusedVariables false

set_option maxHeartbeats 4000000 in
theorem specDiskOk_any (A1 A2 : Option Addr) (n1 n2 c1 c2 : Nat) (z1 : List ByteArray) (z2 : List (Int × ByteArray)) (g : Bool) (w : World) (h1 : Rd w 1 A1 n1 (z1.map Value.string)) (h2 : Rd w 2 A2 n2 (waitCells z2)) (m1 : n1 ≤ maxLen) (m2 : n2 ≤ maxLen) :
    Calls Try.prog 38 #[.agg #[.slice A1 n1 c1, .slice A2 n2 c2, .bool g]] w fun r w' => r = .returned (.bool (diskOk z1 z2 g)) ∧ Below w.heap.size w w' := by
  have hl1 : z1.length = n1 := by have := h1.len; simpa using this
  have hl2 : z2.length = n2 := by have := h2.len; rw [waitCells_len] at this; omega
  have hb0 := bel1 w (.cells #[.slice A1 n1 c1, .slice A2 n2 c2, .bool g] 49)
  have H1 := hide (h1.after hb0)
  have H2 := hide (h2.after hb0)
  have HB := hide hb0
  have L1 := hide hl1
  have L2 := hide hl2
  have M2 := hide m2
  clear h1 h2 hb0 m1 m2 hl1 hl2
  by_cases e1 : n1 = 64
  · subst e1
    by_cases e2 : n2 ≤ 120
    · have e3 : ¬ (120 : Int) < (n2 : Int) := by omega
      have N2 := hide e2
      clear e2
      cases g
      · skip
        go_enter Try.func38, Try.ntmps38
        go_wp2_with fail
        go_loop [3] (fun i => ∃ k : Nat, k ≤ 64 ∧ Hid ((z1.take k).all (cellB false) = true) ∧ i = .int .i64 k) (fun i => 64 - (intOf i).toNat)
        case atStart => exact ⟨0, by omega, hide rfl, rfl⟩
        case round =>
          obtain ⟨k, hk, HT, rfl⟩ := hrel
          by_cases hlt : k < 64
          · obtain ⟨b, o, z, rfl, hb, hz, hc⟩ := H1.out.str_at hlt
            have HZ := hide hz
            clear hz
            by_cases hs : z.size ≤ 200
            · have hs2 : ¬ (200 : Int) < (z.size : Int) := by omega
              have E := hide (show cellB false z = true by unfold cellB; rw [decide_eq_true hs]; rfl)
              have HT1 := hide (all_snoc HZ.out HT.out E.out)
              go_wp2_with fail
              go_round
              case rel => exact ⟨k + 1, by omega, HT1, int_eq (by omega)⟩
              case measure => simp [intOf]; omega
            · have hs2 : (200 : Int) < (z.size : Int) := by omega
              have HF := hide (ok_cell (z2 := z2) (all_no HZ.out (show cellB false z = false by unfold cellB; rw [decide_eq_false hs]; rfl)))
              clear hs
              go_wp2_with fail
              go_ret
              exact ⟨ret_bool HF.out.symm, HB.out⟩
          · have HA := hide (all_end (by have := L1.out; omega) HT.out)
            have hk64 : ¬ (k : Int) < 64 := by omega
            clear HT
            go_wp2_with fail
            go_loop [4] (fun i => ∃ j : Nat, j ≤ n2 ∧ Hid ((z2.take j).all waitB = true) ∧ i = .int .i64 j) (fun i => n2 - (intOf i).toNat)
            case atStart => exact ⟨0, by omega, hide rfl, rfl⟩
            case round =>
              obtain ⟨j, hj, HT, rfl⟩ := hrel
              by_cases hjl : j < n2
              · obtain ⟨b, o, z, rfl, hb, hz, hc0, hc1⟩ := H2.out.wait_at hjl
                have HZ := hide hz
                have i0 : (0 : Int) ≤ (j : Int) := by omega
                have i1 : (j : Int) < (n2 : Int) := by omega
                clear hz
                cases e : inR z.1 0 63
                · have E := hide e
                  have HF := hide (ok_wait (z1 := z1) (g := false) (all_no HZ.out (show waitB z = false by unfold waitB; rw [e]; rfl)))
                  clear e
                  go_wp2_with fail
                  refine (l3Cell_v E.out _).mono ?_; rintro r w1 ⟨rfl, rfl⟩
                  go_wp2_with fail
                  go_ret
                  exact ⟨ret_bool HF.out.symm, HB.out⟩
                · have E := hide e
                  by_cases hs : z.2.size ≤ 200
                  · have hs2 : ¬ (200 : Int) < (z.2.size : Int) := by omega
                    have HT1 := hide (all_snoc HZ.out HT.out (show waitB z = true by unfold waitB; rw [e, decide_eq_true hs]; rfl))
                    clear e hs
                    go_wp2_with fail
                    refine (l3Cell_v E.out _).mono ?_; rintro r w1 ⟨rfl, rfl⟩
                    go_wp2_with fail
                    go_round
                    case rel => exact ⟨j + 1, by omega, HT1, int_eq (by omega)⟩
                    case measure => simp [intOf]; omega
                  · have hs2 : (200 : Int) < (z.2.size : Int) := by omega
                    have HF := hide (ok_wait (z1 := z1) (g := false) (all_no HZ.out (show waitB z = false by unfold waitB; rw [decide_eq_false hs]; simp)))
                    clear e hs
                    go_wp2_with fail
                    refine (l3Cell_v E.out _).mono ?_; rintro r w1 ⟨rfl, rfl⟩
                    go_wp2_with fail
                    go_ret
                    exact ⟨ret_bool HF.out.symm, HB.out⟩
              · have HF := hide (ok_yes (g := false) L1.out (by rw [L2.out]; exact N2.out) HA.out (all_end (by have := L2.out; omega) HT.out) rfl)
                go_wp2_with fail
                go_ret
                exact ⟨ret_bool HF.out.symm, HB.out⟩
      · by_cases hn : 0 < n2
        · have hn2 : (0 : Int) < (n2 : Int) := by omega
          have HF := hide (ok_gone (z1 := z1) (z2 := z2) (by rw [L2.out]; exact hn))
          clear hn
          go_enter Try.func38, Try.ntmps38
          go_wp2_with fail
          go_ret
          exact ⟨ret_bool HF.out.symm, HB.out⟩
        · obtain rfl : n2 = 0 := by omega
          go_enter Try.func38, Try.ntmps38
          go_wp2_with fail
          go_loop [3] (fun i => ∃ k : Nat, k ≤ 64 ∧ Hid ((z1.take k).all (cellB true) = true) ∧ i = .int .i64 k) (fun i => 64 - (intOf i).toNat)
          case atStart => exact ⟨0, by omega, hide rfl, rfl⟩
          case round =>
            obtain ⟨k, hk, HT, rfl⟩ := hrel
            by_cases hlt : k < 64
            · obtain ⟨b, o, z, rfl, hb, hz, hc⟩ := H1.out.str_at hlt
              have HZ := hide hz
              clear hz
              by_cases hs : z.size ≤ 200
              · have hs2 : ¬ (200 : Int) < (z.size : Int) := by omega
                by_cases he : z.size = 0
                · have hq : z.toList.isEmpty = true := by rw [isEmpty_size, decide_eq_true he]
                  have E := hide (show cellB true z = true by unfold cellB; rw [decide_eq_true hs, decide_eq_true he]; rfl)
                  clear he
                  have HT1 := hide (all_snoc HZ.out HT.out E.out)
                  go_wp2_with fail
                  go_round
                  case rel => exact ⟨k + 1, by omega, HT1, int_eq (by omega)⟩
                  case measure => simp [intOf]; omega
                · have hq : z.toList.isEmpty = false := by rw [isEmpty_size, decide_eq_false he]
                  have HF := hide (ok_cell (z2 := z2) (all_no HZ.out (show cellB true z = false by unfold cellB; rw [decide_eq_false he, decide_eq_true hs]; rfl)))
                  clear he
                  go_wp2_with fail
                  go_ret
                  exact ⟨ret_bool HF.out.symm, HB.out⟩
              · have hs2 : (200 : Int) < (z.size : Int) := by omega
                have HF := hide (ok_cell (z2 := z2) (all_no HZ.out (show cellB true z = false by unfold cellB; rw [decide_eq_false hs]; rfl)))
                clear hs
                go_wp2_with fail
                go_ret
                exact ⟨ret_bool HF.out.symm, HB.out⟩
            · have HA := hide (all_end (by have := L1.out; omega) HT.out)
              have hk64 : ¬ (k : Int) < 64 := by omega
              have e : z2.all waitB = true := by rw [List.length_eq_zero_iff.1 L2.out]; rfl
              have HF := hide (ok_yes (g := true) L1.out (by rw [L2.out]; exact N2.out) HA.out e (by rw [L2.out]; rfl))
              clear HT e
              go_wp2_with fail
              go_loop [4] (fun i => i = .int .i64 0) (fun _ => 0)
              case atStart => exact rfl
              case round =>
                obtain rfl := hrel
                go_wp2_with fail
                go_ret
                exact ⟨ret_bool HF.out.symm, HB.out⟩
    · have e3 : (120 : Int) < (n2 : Int) := by omega
      have HF := hide (ok_many (z1 := z1) (g := g) (show ¬ z2.length ≤ 120 by rw [L2.out]; exact e2))
      clear e2
      go_enter Try.func38, Try.ntmps38
      go_wp2_with fail
      go_ret
      exact ⟨ret_bool HF.out.symm, HB.out⟩
  · have e3 : ¬ (n1 : Int) = 64 := by omega
    have HF := hide (ok_len (z2 := z2) (g := g) (show z1.length ≠ 64 by rw [L1.out]; exact e1))
    clear e1
    go_enter Try.func38, Try.ntmps38
    go_wp2_with fail
    go_ret
    exact ⟨ret_bool HF.out.symm, HB.out⟩
theorem implDiskOk_v {A1 A2 : Option Addr} {n1 n2 c1 c2 : Nat} {z1 : List ByteArray} {z2 : List (Int × ByteArray)} {g v : Bool} (hv : diskOk z1 z2 g = v) (w : World) (h1 : Rd w 1 A1 n1 (z1.map Value.string)) (h2 : Rd w 2 A2 n2 (waitCells z2)) (m1 : n1 ≤ maxLen) (m2 : n2 ≤ maxLen) :
    Calls Try.prog 42 #[.agg #[.slice A1 n1 c1, .slice A2 n2 c2, .bool g]] w fun r w' => r = .returned (.bool v) ∧ Below w.heap.size w w' := hv ▸ implDiskOk_any A1 A2 n1 n2 c1 c2 z1 z2 g w h1 h2 m1 m2
theorem specDiskOk_v {A1 A2 : Option Addr} {n1 n2 c1 c2 : Nat} {z1 : List ByteArray} {z2 : List (Int × ByteArray)} {g v : Bool} (hv : diskOk z1 z2 g = v) (w : World) (h1 : Rd w 1 A1 n1 (z1.map Value.string)) (h2 : Rd w 2 A2 n2 (waitCells z2)) (m1 : n1 ≤ maxLen) (m2 : n2 ≤ maxLen) :
    Calls Try.prog 38 #[.agg #[.slice A1 n1 c1, .slice A2 n2 c2, .bool g]] w fun r w' => r = .returned (.bool v) ∧ Below w.heap.size w w' := hv ▸ specDiskOk_any A1 A2 n1 n2 c1 c2 z1 z2 g w h1 h2 m1 m2
end Go.Proofs.Ytcaoekaephnimaa
