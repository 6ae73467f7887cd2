/- Which disks are valid: DiskOk of the reference. -/
import Derived.Test.YtcaoekaephnimaaDiskOk
namespace Go.Proofs.Ytcaoekaephnimaa
open Go.RowKit
set_option linter.unusedVariables false

set_option maxHeartbeats 4000000 in
theorem specDiskOk_any (A1 A2 : Option Addr) (n1 n2 c1 c2 : Nat) (z1 : List ByteArray) (z2 : List (Int × ByteArray)) (g : Bool) (w : World) (h1 : Rd w 1 A1 n1 (z1.map Value.string)) (h2 : Rd w 2 A2 n2 (waitCells z2)) (m1 : n1 ≤ maxLen) (m2 : n2 ≤ maxLen) :
    Calls Try.prog 38 #[.agg #[.slice A1 n1 c1, .slice A2 n2 c2, .bool g]] w fun r w' => r = .returned (.bool (diskOk z1 z2 g)) ∧ Below w.heap.size w w' := by
  have hl1 : z1.length = n1 := by have := h1.len; simpa using this
  have hl2 : z2.length = n2 := by have := h2.len; rw [waitCells_len] at this; omega
  have hb0 := bel1 w (.cells #[.slice A1 n1 c1, .slice A2 n2 c2, .bool g] 49)
  have H1 := hide (h1.after hb0)
  have H2 := hide (h2.after hb0)
  have HB := hide hb0
  have L1 := hide hl1
  have L2 := hide hl2
  have M2 := hide m2
  clear h1 h2 hb0 m1 m2 hl1 hl2
  by_cases e1 : n1 = 64
  · subst e1
    by_cases e2 : n2 ≤ 120
    · have e3 : ¬ (120 : Int) < (n2 : Int) := by omega
      have N2 := hide e2
      clear e2
      cases g
      · skip
        go_enter Try.func38, Try.ntmps38
        go_wp2_with fail
        go_loop [3] (fun i => ∃ k : Nat, k ≤ 64 ∧ Hid ((z1.take k).all (cellB false) = true) ∧ i = .int .i64 k) (fun i => 64 - (intOf i).toNat)
        case atStart => exact ⟨0, by omega, hide rfl, rfl⟩
        case round =>
          obtain ⟨k, hk, HT, rfl⟩ := hrel
          by_cases hlt : k < 64
          · obtain ⟨b, o, z, rfl, hb, hz, hc⟩ := H1.out.str_at hlt
            have HZ := hide hz
            clear hz
            by_cases hs : z.size ≤ 200
            · have hs2 : ¬ (200 : Int) < (z.size : Int) := by omega
              have E := hide (show cellB false z = true by unfold cellB; rw [decide_eq_true hs]; rfl)
              have HT1 := hide (all_snoc HZ.out HT.out E.out)
              go_wp2_with fail
              go_round
              case rel => exact ⟨k + 1, by omega, HT1, int_eq (by omega)⟩
              case measure => simp [intOf]; omega
            · have hs2 : (200 : Int) < (z.size : Int) := by omega
              have HF := hide (ok_cell (z2 := z2) (all_no HZ.out (show cellB false z = false by unfold cellB; rw [decide_eq_false hs]; rfl)))
              clear hs
              go_wp2_with fail
              go_ret
              exact ⟨ret_bool HF.out.symm, HB.out⟩
          · have HA := hide (all_end (by have := L1.out; omega) HT.out)
            have hk64 : ¬ (k : Int) < 64 := by omega
            clear HT
            go_wp2_with fail
            go_loop [4] (fun i => ∃ j : Nat, j ≤ n2 ∧ Hid ((z2.take j).all waitB = true) ∧ i = .int .i64 j) (fun i => n2 - (intOf i).toNat)
            case atStart => exact ⟨0, by omega, hide rfl, rfl⟩
            case round =>
              obtain ⟨j, hj, HT, rfl⟩ := hrel
              by_cases hjl : j < n2
              · obtain ⟨b, o, z, rfl, hb, hz, hc0, hc1⟩ := H2.out.wait_at hjl
                have HZ := hide hz
                have i0 : (0 : Int) ≤ (j : Int) := by omega
                have i1 : (j : Int) < (n2 : Int) := by omega
                clear hz
                cases e : inR z.1 0 63
                · have E := hide e
                  have HF := hide (ok_wait (z1 := z1) (g := false) (all_no HZ.out (show waitB z = false by unfold waitB; rw [e]; rfl)))
                  clear e
                  go_wp2_with fail
                  refine (l3Cell_v E.out _).mono ?_; rintro r w1 ⟨rfl, rfl⟩
                  go_wp2_with fail
                  go_ret
                  exact ⟨ret_bool HF.out.symm, HB.out⟩
                · have E := hide e
                  by_cases hs : z.2.size ≤ 200
                  · have hs2 : ¬ (200 : Int) < (z.2.size : Int) := by omega
                    have HT1 := hide (all_snoc HZ.out HT.out (show waitB z = true by unfold waitB; rw [e, decide_eq_true hs]; rfl))
                    clear e hs
                    go_wp2_with fail
                    refine (l3Cell_v E.out _).mono ?_; rintro r w1 ⟨rfl, rfl⟩
                    go_wp2_with fail
                    go_round
                    case rel => exact ⟨j + 1, by omega, HT1, int_eq (by omega)⟩
                    case measure => simp [intOf]; omega
                  · have hs2 : (200 : Int) < (z.2.size : Int) := by omega
                    have HF := hide (ok_wait (z1 := z1) (g := false) (all_no HZ.out (show waitB z = false by unfold waitB; rw [decide_eq_false hs]; simp)))
                    clear e hs
                    go_wp2_with fail
                    refine (l3Cell_v E.out _).mono ?_; rintro r w1 ⟨rfl, rfl⟩
                    go_wp2_with fail
                    go_ret
                    exact ⟨ret_bool HF.out.symm, HB.out⟩
              · have HF := hide (ok_yes (g := false) L1.out (by rw [L2.out]; exact N2.out) HA.out (all_end (by have := L2.out; omega) HT.out) rfl)
                go_wp2_with fail
                go_ret
                exact ⟨ret_bool HF.out.symm, HB.out⟩
      · by_cases hn : 0 < n2
        · have hn2 : (0 : Int) < (n2 : Int) := by omega
          have HF := hide (ok_gone (z1 := z1) (z2 := z2) (by rw [L2.out]; exact hn))
          clear hn
          go_enter Try.func38, Try.ntmps38
          go_wp2_with fail
          go_ret
          exact ⟨ret_bool HF.out.symm, HB.out⟩
        · obtain rfl : n2 = 0 := by omega
          go_enter Try.func38, Try.ntmps38
          go_wp2_with fail
          go_loop [3] (fun i => ∃ k : Nat, k ≤ 64 ∧ Hid ((z1.take k).all (cellB true) = true) ∧ i = .int .i64 k) (fun i => 64 - (intOf i).toNat)
          case atStart => exact ⟨0, by omega, hide rfl, rfl⟩
          case round =>
            obtain ⟨k, hk, HT, rfl⟩ := hrel
            by_cases hlt : k < 64
            · obtain ⟨b, o, z, rfl, hb, hz, hc⟩ := H1.out.str_at hlt
              have HZ := hide hz
              clear hz
              by_cases hs : z.size ≤ 200
              · have hs2 : ¬ (200 : Int) < (z.size : Int) := by omega
                by_cases he : z.size = 0
                · have hq : z.toList.isEmpty = true := by rw [isEmpty_size, decide_eq_true he]
                  have E := hide (show cellB true z = true by unfold cellB; rw [decide_eq_true hs, decide_eq_true he]; rfl)
                  clear he
                  have HT1 := hide (all_snoc HZ.out HT.out E.out)
                  go_wp2_with fail
                  go_round
                  case rel => exact ⟨k + 1, by omega, HT1, int_eq (by omega)⟩
                  case measure => simp [intOf]; omega
                · have hq : z.toList.isEmpty = false := by rw [isEmpty_size, decide_eq_false he]
                  have HF := hide (ok_cell (z2 := z2) (all_no HZ.out (show cellB true z = false by unfold cellB; rw [decide_eq_false he, decide_eq_true hs]; rfl)))
                  clear he
                  go_wp2_with fail
                  go_ret
                  exact ⟨ret_bool HF.out.symm, HB.out⟩
              · have hs2 : (200 : Int) < (z.size : Int) := by omega
                have HF := hide (ok_cell (z2 := z2) (all_no HZ.out (show cellB true z = false by unfold cellB; rw [decide_eq_false hs]; rfl)))
                clear hs
                go_wp2_with fail
                go_ret
                exact ⟨ret_bool HF.out.symm, HB.out⟩
            · have HA := hide (all_end (by have := L1.out; omega) HT.out)
              have hk64 : ¬ (k : Int) < 64 := by omega
              have e : z2.all waitB = true := by rw [List.length_eq_zero_iff.1 L2.out]; rfl
              have HF := hide (ok_yes (g := true) L1.out (by rw [L2.out]; exact N2.out) HA.out e (by rw [L2.out]; rfl))
              clear HT e
              go_wp2_with fail
              go_loop [4] (fun i => i = .int .i64 0) (fun _ => 0)
              case atStart => exact rfl
              case round =>
                obtain rfl := hrel
                go_wp2_with fail
                go_ret
                exact ⟨ret_bool HF.out.symm, HB.out⟩
    · have e3 : (120 : Int) < (n2 : Int) := by omega
      have HF := hide (ok_many (z1 := z1) (g := g) (show ¬ z2.length ≤ 120 by rw [L2.out]; exact e2))
      clear e2
      go_enter Try.func38, Try.ntmps38
      go_wp2_with fail
      go_ret
      exact ⟨ret_bool HF.out.symm, HB.out⟩
  · have e3 : ¬ (n1 : Int) = 64 := by omega
    have HF := hide (ok_len (z2 := z2) (g := g) (show z1.length ≠ 64 by rw [L1.out]; exact e1))
    clear e1
    go_enter Try.func38, Try.ntmps38
    go_wp2_with fail
    go_ret
    exact ⟨ret_bool HF.out.symm, HB.out⟩
theorem implDiskOk_v {A1 A2 : Option Addr} {n1 n2 c1 c2 : Nat} {z1 : List ByteArray} {z2 : List (Int × ByteArray)} {g v : Bool} (hv : diskOk z1 z2 g = v) (w : World) (h1 : Rd w 1 A1 n1 (z1.map Value.string)) (h2 : Rd w 2 A2 n2 (waitCells z2)) (m1 : n1 ≤ maxLen) (m2 : n2 ≤ maxLen) :
    Calls Try.prog 42 #[.agg #[.slice A1 n1 c1, .slice A2 n2 c2, .bool g]] w fun r w' => r = .returned (.bool v) ∧ Below w.heap.size w w' := hv ▸ implDiskOk_any A1 A2 n1 n2 c1 c2 z1 z2 g w h1 h2 m1 m2
theorem specDiskOk_v {A1 A2 : Option Addr} {n1 n2 c1 c2 : Nat} {z1 : List ByteArray} {z2 : List (Int × ByteArray)} {g v : Bool} (hv : diskOk z1 z2 g = v) (w : World) (h1 : Rd w 1 A1 n1 (z1.map Value.string)) (h2 : Rd w 2 A2 n2 (waitCells z2)) (m1 : n1 ≤ maxLen) (m2 : n2 ≤ maxLen) :
    Calls Try.prog 38 #[.agg #[.slice A1 n1 c1, .slice A2 n2 c2, .bool g]] w fun r w' => r = .returned (.bool v) ∧ Below w.heap.size w w' := hv ▸ specDiskOk_any A1 A2 n1 n2 c1 c2 z1 z2 g w h1 h2 m1 m2
end Go.Proofs.Ytcaoekaephnimaa
