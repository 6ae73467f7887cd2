/- The plain law of the checksum: a changed byte, and two unlike neighbours exchanged, change it. No program in sight. -/
import Derived.Test.YtmhbpmacfekhgaaDoorSum
namespace Go.Proofs.YtmhbpmacfekhgaaDoor

def sumF (p : Nat × Nat) (c : UInt8) : Nat × Nat := ((p.1 + c.toNat + 1) % 9973, ((p.1 + c.toNat + 1) % 9973 + p.2) % 9973)
theorem sumAB_eq (l : List UInt8) : sumAB l = l.foldl sumF (1, 0) := rfl
theorem fold_lt (l : List UInt8) (p : Nat × Nat) (h : p.1 < 9973 ∧ p.2 < 9973) : (l.foldl sumF p).1 < 9973 ∧ (l.foldl sumF p).2 < 9973 := by
  induction l generalizing p with
  | nil => exact h
  | cons c r ih => exact ih _ ⟨Nat.mod_lt _ (by omega), Nat.mod_lt _ (by omega)⟩
theorem sumAB_lt (l : List UInt8) : (sumAB l).1 < 9973 ∧ (sumAB l).2 < 9973 := fold_lt l (1, 0) ⟨by omega, by omega⟩
theorem sumOf_bd (l : List UInt8) : 0 ≤ sumOf l ∧ sumOf l ≤ 99460728 := by
  have := sumAB_lt l
  unfold sumOf
  omega
theorem fold_ne1 (l : List UInt8) (p q : Nat × Nat) (hp : p.1 < 9973) (hq : q.1 < 9973) (h : p.1 ≠ q.1) : (l.foldl sumF p).1 ≠ (l.foldl sumF q).1 := by
  induction l generalizing p q with
  | nil => exact h
  | cons c r ih => exact ih _ _ (Nat.mod_lt _ (by omega)) (Nat.mod_lt _ (by omega)) (by simp only [sumF]; omega)
theorem fold_ne2 (l : List UInt8) (p q : Nat × Nat) (h1 : p.1 = q.1) (hp : p.2 < 9973) (hq : q.2 < 9973) (h : p.2 ≠ q.2) : (l.foldl sumF p).2 ≠ (l.foldl sumF q).2 := by
  induction l generalizing p q with
  | nil => exact h
  | cons c r ih => exact ih _ _ (by simp only [sumF]; omega) (Nat.mod_lt _ (by omega)) (Nat.mod_lt _ (by omega)) (by simp only [sumF]; omega)
theorem sumOf_ne1 {l m : List UInt8} (h : (sumAB l).1 ≠ (sumAB m).1) : sumOf l ≠ sumOf m := by
  have h1 := sumAB_lt l
  have h2 := sumAB_lt m
  unfold sumOf
  omega
theorem sumOf_ne2 {l m : List UInt8} (h : (sumAB l).2 ≠ (sumAB m).2) : sumOf l ≠ sumOf m := by
  have h1 := sumAB_lt l
  have h2 := sumAB_lt m
  unfold sumOf
  omega
/-- one byte changed -/
theorem sumOf_set (l r : List UInt8) (x y : UInt8) (h : x ≠ y) : sumOf (l ++ x :: r) ≠ sumOf (l ++ y :: r) := by
  apply sumOf_ne1
  rw [sumAB_eq, sumAB_eq, List.foldl_append, List.foldl_append, List.foldl_cons, List.foldl_cons]
  have hx := x.toNat_lt
  have hy := y.toNat_lt
  have hn : x.toNat ≠ y.toNat := fun e => h (UInt8.toNat_inj.1 e)
  have hl := (fold_lt l (1, 0) ⟨by omega, by omega⟩).1
  exact fold_ne1 r _ _ (Nat.mod_lt _ (by omega)) (Nat.mod_lt _ (by omega)) (by simp only [sumF]; omega)
/-- two unlike neighbours exchanged -/
theorem sumOf_swap (l r : List UInt8) (x y : UInt8) (h : x ≠ y) : sumOf (l ++ x :: y :: r) ≠ sumOf (l ++ y :: x :: r) := by
  apply sumOf_ne2
  rw [sumAB_eq, sumAB_eq, List.foldl_append, List.foldl_append, List.foldl_cons, List.foldl_cons, List.foldl_cons, List.foldl_cons]
  have hx := x.toNat_lt
  have hy := y.toNat_lt
  have hn : x.toNat ≠ y.toNat := fun e => h (UInt8.toNat_inj.1 e)
  have hl := (fold_lt l (1, 0) ⟨by omega, by omega⟩)
  exact fold_ne2 r _ _ (by simp only [sumF]; omega) (Nat.mod_lt _ (by omega)) (Nat.mod_lt _ (by omega)) (by simp only [sumF]; omega)
end Go.Proofs.YtmhbpmacfekhgaaDoor
