/- l91Cell draws the number of a cell, l91Mask a mask. -/
import Derived.Test.YtadeifimhoaanaaText
namespace Go.Proofs.Ytadeifimhoaanaa
open Go.RowKit
set_option linter.unusedVariables false

theorem pickM {w : World} {g j : Nat} {t : TypeId} {l : List Int} (h : Bk w g t (l.map (Value.int .i64)).toArray) (hj : j < l.length) : ∃ y : Int, w.cell? ⟨g, j, none⟩ = some (.int .i64 y) ∧ y ∈ l := by
  refine ⟨l[j], ?_, List.getElem_mem hj⟩
  rw [h.cell]
  simp [List.getElem?_eq_getElem hj]
/-- a number from lo to hi is drawn -/
def NumPost (R p d : Nat) (lo hi : Int) (w : World) (r : Ending) (w' : World) : Prop := ∃ (v : Int) (q : Nat), r = .returned (.int .i64 v) ∧ lo ≤ v ∧ v ≤ hi ∧ q ≤ p + d ∧ Rdr w' R q ∧ Fr (· = R) w w'

set_option maxHeartbeats 1000000 in
theorem l91Cell_any (R p : Nat) (w : World) (hr : Rdr w R p) (hp : p ≤ 800000) :
    Calls Try.prog 61 #[.pointer (some ⟨R, 0, none⟩)] w (NumPost R p 3 (-1) 64 w) := by
  have HR := hide hr
  clear hr
  go_enter Try.func61, Try.ntmps61
  go_wp2_with fail
  refine (pick_any R p 10 _ HR.out (by omega) (by omega) (by omega)).mono ?_; rintro r w1 ⟨v, rfl, v0, v1, _, hr1, hf1⟩
  have HR := hide hr1
  have HF := hide hf1
  clear hr1 hf1 v1
  by_cases e0 : v = 0
  · subst e0
    have hlt : ¬ w1.heap.size = R := by have := HR.out.lt; omega
    have HK := hide (Bk.fresh w1 3 #[.int .i64 (-1), .int .i64 64, .int .i64 63])
    have HR := hide (HR.out.after (bel1 w1 (.cells #[.int .i64 (-1), .int .i64 64, .int .i64 63] 3)))
    have HF := hide (HF.out.alloc (.cells #[.int .i64 (-1), .int .i64 64, .int .i64 63] 3))
    go_wp2_with fail
    refine (pick_any R (p + 1) 3 _ HR.out (by omega) (by omega) (by omega)).mono ?_; rintro r w2 ⟨x, rfl, x0, x1, _, hr2, hf2⟩
    have x6 := x1 (by omega)
    obtain ⟨j, rfl⟩ : ∃ j : Nat, x = (j : Int) := ⟨x.toNat, by omega⟩
    obtain ⟨y, hy, hm⟩ := pickM (l := [-1, 64, 63]) (HK.out.fr hf2 hlt) (show j < 3 by omega)
    have hb : -1 ≤ y ∧ y ≤ 64 := by simp only [List.mem_cons, List.not_mem_nil, or_false] at hm; omega
    have HBD := hide hb
    have HR := hide hr2
    have HF := hide (HF.out.trans hf2)
    clear hr2 hf2 x1 hm hb
    go_wp2_with fail
    go_ret
    exact ⟨y, _, rfl, HBD.out.1, HBD.out.2, by omega, HR.out, HF.out⟩
  · have z0 : (v == 0) = false := by rw [beq_eq_false_iff_ne]; exact e0
    go_wp2_with fail
    refine (pick_any R (p + 1) 14 _ HR.out (by omega) (by omega) (by omega)).mono ?_; rintro r w2 ⟨x, rfl, x0, x1, _, hr2, hf2⟩
    have x6 := x1 (by omega)
    have HR := hide hr2
    have HF := hide (HF.out.trans hf2)
    clear hr2 hf2 x1
    go_wp2_with fail
    go_ret
    exact ⟨x, _, rfl, by omega, by omega, by omega, HR.out, HF.out⟩

set_option maxHeartbeats 1000000 in
theorem l91Mask_any (R p : Nat) (w : World) (hr : Rdr w R p) (hp : p ≤ 800000) :
    Calls Try.prog 62 #[.pointer (some ⟨R, 0, none⟩)] w (NumPost R p 3 (-1) 1152921504606846975 w) := by
  have HR := hide hr
  clear hr
  go_enter Try.func62, Try.ntmps62
  go_wp2_with fail
  refine (pick_any R p 5 _ HR.out (by omega) (by omega) (by omega)).mono ?_; rintro r w1 ⟨v, rfl, v0, v1, _, hr1, hf1⟩
  have HR := hide hr1
  have HF := hide hf1
  clear hr1 hf1 v1
  by_cases e0 : v = 0
  · subst e0
    have hlt : ¬ w1.heap.size = R := by have := HR.out.lt; omega
    have HK := hide (Bk.fresh w1 3 #[.int .i64 0, .int .i64 1152921504606846975, .int .i64 (-1)])
    have HR := hide (HR.out.after (bel1 w1 (.cells #[.int .i64 0, .int .i64 1152921504606846975, .int .i64 (-1)] 3)))
    have HF := hide (HF.out.alloc (.cells #[.int .i64 0, .int .i64 1152921504606846975, .int .i64 (-1)] 3))
    go_wp2_with fail
    refine (pick_any R (p + 1) 3 _ HR.out (by omega) (by omega) (by omega)).mono ?_; rintro r w2 ⟨x, rfl, x0, x1, _, hr2, hf2⟩
    have x6 := x1 (by omega)
    obtain ⟨j, rfl⟩ : ∃ j : Nat, x = (j : Int) := ⟨x.toNat, by omega⟩
    obtain ⟨y, hy, hm⟩ := pickM (l := [0, 1152921504606846975, -1]) (HK.out.fr hf2 hlt) (show j < 3 by omega)
    have hb : -1 ≤ y ∧ y ≤ 1152921504606846975 := by simp only [List.mem_cons, List.not_mem_nil, or_false] at hm; omega
    have HBD := hide hb
    have HR := hide hr2
    have HF := hide (HF.out.trans hf2)
    clear hr2 hf2 x1 hm hb
    go_wp2_with fail
    go_ret
    exact ⟨y, _, rfl, HBD.out.1, HBD.out.2, by omega, HR.out, HF.out⟩
  · have z0 : (v == 0) = false := by rw [beq_eq_false_iff_ne]; exact e0
    by_cases e1 : v = 1
    · subst e1
      clear z0 e0
      go_wp2_with fail
      refine (pick_any R (p + 1) 12 _ HR.out (by omega) (by omega) (by omega)).mono ?_; rintro r w2 ⟨x, rfl, x0, x1, _, hr2, hf2⟩
      have x6 := x1 (by omega)
      obtain ⟨j, rfl⟩ : ∃ j : Nat, x = (j : Int) := ⟨x.toNat, by omega⟩
      have hj : j < 12 := by omega
      have hpw : (2 : Int) ^ j ≤ 2048 ∧ 1 ≤ (2 : Int) ^ j := by
        have key : ∀ k, k < 12 → (2 : Int) ^ k ≤ 2048 ∧ 1 ≤ (2 : Int) ^ k := by decide
        exact key j hj
      obtain ⟨P, hP⟩ : ∃ P : Int, P = (2 : Int) ^ j := ⟨_, rfl⟩
      have hP2 : (2 : Int) ^ j = P := hP.symm
      have pw : IntKind.i64.wrap P = P := by rw [IntKind.wrap_i64, hP]; omega
      rw [hP2] at hpw
      have HPW := hide hpw
      have HR := hide hr2
      have HF := hide (HF.out.trans hf2)
      clear hr2 hf2 x1 hP hpw
      go_wp2_with fail
      go_ret
      exact ⟨P, _, rfl, by have := HPW.out; omega, by have := HPW.out; omega, by omega, HR.out, HF.out⟩
    · have z1 : (v == 1) = false := by rw [beq_eq_false_iff_ne]; exact e1
      go_wp2_with fail
      refine (pick_any R (p + 1) 256 _ HR.out (by omega) (by omega) (by omega)).mono ?_; rintro r w2 ⟨x, rfl, x0, x1, _, hr2, hf2⟩
      have x6 := x1 (by omega)
      have HR := hide hr2
      have HF := hide (HF.out.trans hf2)
      clear hr2 hf2 x1
      go_wp2_with fail
      refine (pick_any R (p + 1 + 1) 256 _ HR.out (by omega) (by omega) (by omega)).mono ?_; rintro r w3 ⟨y, rfl, y0, y1, _, hr2, hf2⟩
      have y6 := y1 (by omega)
      have m1 : IntKind.i64.wrap (256 * y) = 256 * y := by rw [IntKind.wrap_i64]; omega
      have m2 : IntKind.i64.wrap (x + 256 * y) = x + 256 * y := by rw [IntKind.wrap_i64]; omega
      have HR := hide hr2
      have HF := hide (HF.out.trans hf2)
      clear hr2 hf2 y1
      go_wp2_with fail
      go_ret
      exact ⟨x + 256 * y, _, rfl, by omega, by omega, by omega, HR.out, HF.out⟩
end Go.Proofs.Ytadeifimhoaanaa
