/- What is left of a disk when its waiting writes are done, in plain words. -/
import Derived.Test.YtadeifimhoaanaaDiskCr
namespace Go.Proofs.Ytadeifimhoaanaa
open Go.RowKit
set_option linter.unusedVariables false

theorem diskOk_parts {z1 : List ByteArray} {z2 : List (Int × ByteArray)} {g : Bool} (h : diskOk z1 z2 g = true) : z1.length = 64 ∧ z2.length ≤ 120 ∧ (g && decide (0 < z2.length)) = false ∧ z1.all (cellB g) = true ∧ z2.all waitB = true := by
  unfold diskOk at h
  simp only [Bool.and_eq_true, decide_eq_true_eq, Bool.not_eq_true'] at h
  exact ⟨h.1.1.1.1, h.1.1.1.2, h.1.1.2, h.1.2, h.2⟩
/-- all cells stay small -/
theorem settle_small {f : Nat → Int × ByteArray → ByteArray → ByteArray} (hf : ∀ i z old, z.2.size ≤ 200 → old.size ≤ 200 → (f i z old).size ≤ 200) (zs : List (Int × ByteArray)) (hz : ∀ z ∈ zs, z.2.size ≤ 200) : ∀ (i : Nat) (cs : List ByteArray), (∀ u ∈ cs, u.size ≤ 200) → ∀ u ∈ settleT f i zs cs, u.size ≤ 200 := by
  induction zs with
  | nil => intro i cs h; exact h
  | cons z zs ih =>
    intro i cs h
    rw [settleT]
    refine ih (fun y hy => hz y (List.mem_cons_of_mem _ hy)) (i + 1) _ (fun u hu => ?_)
    rcases List.mem_or_eq_of_mem_set hu with h1 | h1
    · exact h u h1
    · rw [h1]
      refine hf i z _ (hz z (List.mem_cons_self ..)) ?_
      rw [List.getD_eq_getElem?_getD]
      cases e : cs[z.1.toNat]? with
      | none => exact Nat.zero_le _
      | some v => exact h v (List.mem_of_getElem? e)
/-- what is flushed is valid -/
theorem settle_ok {f : Nat → Int × ByteArray → ByteArray → ByteArray} (hf : ∀ i z old, z.2.size ≤ 200 → old.size ≤ 200 → (f i z old).size ≤ 200) {z1 : List ByteArray} {z2 : List (Int × ByteArray)} {g : Bool} (h : diskOk z1 z2 g = true) : diskOk (settleT f 0 z2 z1) [] g = true := by
  obtain ⟨h1, h2, h3, h4, h5⟩ := diskOk_parts h
  rw [List.all_eq_true] at h4 h5
  refine ok_yes (by rw [settle_len]; exact h1) (Nat.zero_le _) ?_ rfl (by simp)
  rw [List.all_eq_true]
  intro u hu
  cases g with
  | true =>
    have e : z2 = [] := by
      cases z2 with
      | nil => rfl
      | cons z zs => simp at h3
    subst e
    exact h4 u hu
  | false =>
    have hs : u.size ≤ 200 := settle_small hf z2 (fun z hz => by have := h5 z hz; unfold waitB at this; simp only [Bool.and_eq_true, decide_eq_true_eq] at this; exact this.2) 0 z1 (fun v hv => by have := h4 v hv; unfold cellB at this; simp only [Bool.and_eq_true, decide_eq_true_eq] at this; exact this.1) u hu
    unfold cellB
    rw [decide_eq_true hs]
    rfl
/-- a failure behind the last write -/
theorem crash_all (z2 : List (Int × ByteArray)) : ∀ (i : Nat) (cs : List ByteArray), settleT (crashF 1152921504606846975 (-1)) i z2 cs = settleT (fun _ z _ => z.2) i z2 cs := by
  induction z2 with
  | nil => intro i cs; rfl
  | cons z zs ih =>
    intro i cs
    rw [settleT, settleT, ih]
    have hb : 1152921504606846975 / 2 ^ (i % 60) % 2 = 1 := by
      have hlt : i % 60 < 60 := Nat.mod_lt _ (by decide)
      have key : ∀ j, j < 60 → 1152921504606846975 / 2 ^ j % 2 = 1 := by decide
      exact key _ hlt
    congr 2
    unfold crashF
    rw [if_pos hb]
end Go.Proofs.Ytadeifimhoaanaa
