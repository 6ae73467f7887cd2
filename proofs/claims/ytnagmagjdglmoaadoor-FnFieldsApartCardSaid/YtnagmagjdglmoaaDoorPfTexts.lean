/- pfTexts compares lists of texts. -/
import Derived.Test.YtnagmagjdglmoaaDoorStrs
import Derived.Test.YtnagmagjdglmoaaDoorMark
namespace Go.Proofs.YtnagmagjdglmoaaDoor
open Go.RowKit
set_option linter.unusedVariables false

set_option maxHeartbeats 1000000 in
theorem pfTexts_any (A A' : Option Addr) (n c n' c' : Nat) (zs ys : List ByteArray) (w : World) (h : Rd w 1 A n (zs.map Value.string)) (h' : Rd w 1 A' n' (ys.map Value.string)) (hm : n ≤ maxLen) :
    Calls Tryd.prog 29 #[.slice A n c, .slice A' n' c'] w fun r w' => r = .returned (.bool (eqT zs ys)) ∧ Below w.heap.size w w' := by
  unfold maxLen at hm
  have hzl : zs.length = n := by have := h.len; simpa using this
  have hyl : ys.length = n' := by have := h'.len; simpa using this
  by_cases hl : n = n'
  · subst hl
    have HL := hide (hzl.trans hyl.symm)
    have HZ := hide hzl
    have H := hide h
    have H' := hide h'
    clear hzl hyl h h'
    go_enter Tryd.func29, Tryd.ntmps29
    go_wp2
    go_loopw [5] (fun i wr => ∃ k m : Nat, k ≤ n ∧ wr = w.drewN m ∧ Hid (zs.take k = ys.take k) ∧ i = .int .i64 k) (fun i _ => n - (intOf i).toNat)
    case atStart => exact ⟨0, 0, by omega, rfl, hide rfl, rfl⟩
    case round =>
      obtain ⟨k, m, hk, rfl, HE, rfl⟩ := hrel
      by_cases hlt : k < n
      · obtain ⟨b, o, z, rfl, hb, hz, hc⟩ := H.out.str_at hlt
        obtain ⟨b', o', y, rfl, hb', hy, hc'⟩ := H'.out.str_at hlt
        have HZ := hide hz
        have HY := hide hy
        have i0 : (0 : Int) ≤ (k : Int) := by omega
        have i1 : (k : Int) < (n : Int) := by omega
        clear hz hy
        by_cases he : z = y
        · have hne := beqT_eq he
          have HE1 := hide (take_eq_snoc HZ.out HY.out HE.out he)
          clear he
          go_wp2_with fail
          go_quiet (fail)
          go_wp2
          go_roundw
          case rel => exact ⟨k + 1, m + nq, by omega, rfl, HE1, int_eq (by omega)⟩
          case measure => simp [intOf]; omega
        · have hne := beqT_ne he
          have HF := hide (eqT_at HZ.out HY.out he)
          clear he
          go_wp2_with fail
          go_quiet (fail)
          go_wp2
          go_ret
          exact ⟨ret_bool HF.out.symm, below_drewN (below_drewN (Below.refl _ _) _) _⟩
      · have HF := hide (eqT_all HL.out (by have e : k = zs.length := by have := HZ.out; omega
                                            rw [e] at HE; exact HE.out))
        go_wp2
        go_ret
        exact ⟨ret_bool HF.out.symm, below_drewN (Below.refl _ _) _⟩
  · have HF := hide (eqT_len (zs := zs) (ys := ys) (by omega))
    have hn : ((n : Int) == (n' : Int)) = false := by simp; omega
    clear hzl hyl h h'
    go_enter Tryd.func29, Tryd.ntmps29
    go_wp2
    all_goals (first | (go_ret; exact ⟨ret_bool HF.out.symm, Below.refl _ _⟩) | (exfalso; simp_all))
theorem pfTexts_v {A A' : Option Addr} {n c n' c' : Nat} {zs ys : List ByteArray} {v : Bool} (hv : eqT zs ys = v) (w : World) (h : Rd w 1 A n (zs.map Value.string)) (h' : Rd w 1 A' n' (ys.map Value.string)) (hm : n ≤ maxLen) :
    Calls Tryd.prog 29 #[.slice A n c, .slice A' n' c'] w fun r w' => r = .returned (.bool v) ∧ Below w.heap.size w w' := hv ▸ pfTexts_any A A' n c n' c' zs ys w h h' hm
end Go.Proofs.YtnagmagjdglmoaaDoor
