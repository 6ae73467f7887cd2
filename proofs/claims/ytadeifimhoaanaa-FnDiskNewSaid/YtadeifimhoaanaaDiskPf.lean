/- pfTexts, pfDisk of disks on which nothing waits. -/
import Derived.Test.YtadeifimhoaanaaDiskEq
namespace Go.Proofs.Ytadeifimhoaanaa
open Go.RowKit
set_option linter.unusedVariables false

set_option maxHeartbeats 1000000 in
theorem pfTexts_any (A A' : Option Addr) (n c n' c' : Nat) (zs ys : List ByteArray) (w : World) (h : Rd w 1 A n (zs.map Value.string)) (h' : Rd w 1 A' n' (ys.map Value.string)) (hm : n ≤ maxLen) :
    Calls Try.prog 36 #[.slice A n c, .slice A' n' c'] w fun r w' => r = .returned (.bool (eqT zs ys)) ∧ Below w.heap.size w w' := by
  unfold maxLen at hm
  have hzl : zs.length = n := by have := h.len; simpa using this
  have hyl : ys.length = n' := by have := h'.len; simpa using this
  by_cases hl : n = n'
  · subst hl
    have HL := hide (hzl.trans hyl.symm)
    have HZ := hide hzl
    have H := hide h
    have H' := hide h'
    clear hzl hyl h h'
    go_enter Try.func36, Try.ntmps36
    go_wp2
    go_loopw [5] (fun i wr => ∃ k m : Nat, k ≤ n ∧ wr = w.drewN m ∧ Hid (zs.take k = ys.take k) ∧ i = .int .i64 k) (fun i _ => n - (intOf i).toNat)
    case atStart => exact ⟨0, 0, by omega, rfl, hide rfl, rfl⟩
    case round =>
      obtain ⟨k, m, hk, rfl, HE, rfl⟩ := hrel
      by_cases hlt : k < n
      · obtain ⟨b, o, z, rfl, hb, hz, hc⟩ := H.out.str_at hlt
        obtain ⟨b', o', y, rfl, hb', hy, hc'⟩ := H'.out.str_at hlt
        have HZ := hide hz
        have HY := hide hy
        have i0 : (0 : Int) ≤ (k : Int) := by omega
        have i1 : (k : Int) < (n : Int) := by omega
        clear hz hy
        by_cases he : z = y
        · have hne := beqT_eq he
          have HE1 := hide (take_eq_snoc HZ.out HY.out HE.out he)
          clear he
          go_wp2_with fail
          go_quiet (fail)
          go_wp2
          go_roundw
          case rel => exact ⟨k + 1, m + nq, by omega, rfl, HE1, int_eq (by omega)⟩
          case measure => simp [intOf]; omega
        · have hne := beqT_ne he
          have HF := hide (eqT_at HZ.out HY.out he)
          clear he
          go_wp2_with fail
          go_quiet (fail)
          go_wp2
          go_ret
          exact ⟨ret_bool HF.out.symm, below_drewN (below_drewN (Below.refl _ _) _) _⟩
      · have HF := hide (eqT_all HL.out (by have e : k = zs.length := by have := HZ.out; omega
                                            rw [e] at HE; exact HE.out))
        go_wp2
        go_ret
        exact ⟨ret_bool HF.out.symm, below_drewN (Below.refl _ _) _⟩
  · have HF := hide (eqT_len (zs := zs) (ys := ys) (by omega))
    have hn : ((n : Int) == (n' : Int)) = false := by simp; omega
    clear hzl hyl h h'
    go_enter Try.func36, Try.ntmps36
    go_wp2
    all_goals (first | (go_ret; exact ⟨ret_bool HF.out.symm, Below.refl _ _⟩) | (exfalso; simp_all))
theorem pfTexts_v {A A' : Option Addr} {n c n' c' : Nat} {zs ys : List ByteArray} {v : Bool} (hv : eqT zs ys = v) (w : World) (h : Rd w 1 A n (zs.map Value.string)) (h' : Rd w 1 A' n' (ys.map Value.string)) (hm : n ≤ maxLen) :
    Calls Try.prog 36 #[.slice A n c, .slice A' n' c'] w fun r w' => r = .returned (.bool v) ∧ Below w.heap.size w w' := hv ▸ pfTexts_any A A' n c n' c' zs ys w h h' hm

set_option maxHeartbeats 2000000 in
theorem pfDisk_0 (A1 B1 A2 B2 : Option Addr) (n c1 c2 d1 d2 : Nat) (z : List ByteArray) (g : Bool) (w : World) (h1 : Rd w 1 A1 n (z.map Value.string)) (h2 : Rd w 1 A2 n (z.map Value.string)) (hm : n ≤ maxLen) :
    Calls Try.prog 31 #[.agg #[.slice A1 n c1, .slice B1 0 d1, .bool g], .agg #[.slice A2 n c2, .slice B2 0 d2, .bool g]] w fun r w' => r = .returned (.bool true) ∧ Below w.heap.size w w' := by
  have hb0 : Below w.heap.size w ((w.alloc (.cells #[.slice A1 n c1, .slice B1 0 d1, .bool g] 25)).alloc (.cells #[.slice A2 n c2, .slice B2 0 d2, .bool g] 25)) := ((Below.refl _ _).alloc (Nat.le_refl _) _).alloc (by simp) _
  have K1 := hide ((Bk.fresh w 25 #[.slice A1 n c1, .slice B1 0 d1, .bool g]).alloc (.cells #[.slice A2 n c2, .slice B2 0 d2, .bool g] 25))
  have K2 := hide ((Bk.fresh (w.alloc (.cells #[.slice A1 n c1, .slice B1 0 d1, .bool g] 25)) 25 #[.slice A2 n c2, .slice B2 0 d2, .bool g]))
  have e2 : (w.alloc (.cells #[.slice A1 n c1, .slice B1 0 d1, .bool g] 25)).heap.size = w.heap.size + 1 := by simp
  rw [e2] at K2
  have H1 := hide (h1.after hb0)
  have H2 := hide (h2.after hb0)
  have HB := hide hb0
  clear h1 h2 hb0 e2
  cases g
  all_goals
    go_enter Try.func31, Try.ntmps31
    go_wp2_with fail
    refine (pfTexts_v (eqT_same z) _ H1.out H2.out hm).mono ?_; rintro r w1 ⟨rfl, hb1⟩
    obtain ⟨q0, q1, q2⟩ := (K1.out.after hb1).c3
    obtain ⟨p0, p1, p2⟩ := (K2.out.after hb1).c3
    have HB := hide (bnext HB.out (Nat.le_refl _) hb1)
    clear hb1
    go_wp2_with fail
    go_loop [5] (fun i => i = .int .i64 0) (fun _ => 0)
    case atStart => exact rfl
    case round =>
      obtain rfl := hrel
      go_wp2_with fail
      go_ret
      exact ⟨rfl, HB.out⟩
end Go.Proofs.Ytadeifimhoaanaa
