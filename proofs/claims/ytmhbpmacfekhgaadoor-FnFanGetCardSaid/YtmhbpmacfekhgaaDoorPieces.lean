/- Texts cut at each byte of a kind, plainly. -/
import Derived.Test.YtmhbpmacfekhgaaDoorDec
import Derived.Lib.Split
import Derived.Lib.SplitLaws
import Derived.Lib.Join
namespace Go.Proofs.YtmhbpmacfekhgaaDoor
open Go.RowKit
set_option linter.unusedVariables false

theorem idxc_yes (c : UInt8) : ∀ (a b : List UInt8), c ∉ a → Lib.index (a ++ c :: b) [c] = (a.length : Int)
  | [], b, _ => by simp [Lib.index]
  | x :: t, b, h => by
    have hc : ¬ c = x := fun e => h (by rw [← e]; exact List.mem_cons_self)
    have hi := idxc_yes c t b (fun e => h (List.mem_cons_of_mem _ e))
    have hp : ([c] : List UInt8).isPrefixOf (x :: (t ++ c :: b)) = false := by simp [List.isPrefixOf, hc]
    show Lib.index (x :: (t ++ c :: b)) [c] = _
    unfold Lib.index
    rw [hp, hi, if_neg (by simp), if_neg (by rw [beq_iff_eq]; omega), List.length_cons]
    omega
theorem idxc_no (c : UInt8) : ∀ (a : List UInt8), c ∉ a → Lib.index a [c] = -1
  | [], _ => by simp [Lib.index]
  | x :: t, h => by
    have hc : ¬ c = x := fun e => h (by rw [← e]; exact List.mem_cons_self)
    have hi := idxc_no c t (fun e => h (List.mem_cons_of_mem _ e))
    have hp : ([c] : List UInt8).isPrefixOf (x :: t) = false := by simp [List.isPrefixOf, hc]
    unfold Lib.index
    rw [hp, hi, if_neg (by simp), if_pos (by decide)]
/-- the pieces between the bytes c -/
def pieces (c : UInt8) : List UInt8 → List (List UInt8)
  | [] => [[]]
  | x :: t => if x = c then [] :: pieces c t else (match pieces c t with | [] => [[x]] | p :: r => (x :: p) :: r)
theorem pieces_hit (c : UInt8) : ∀ (a b : List UInt8), c ∉ a → pieces c (a ++ c :: b) = a :: pieces c b
  | [], b, _ => by simp [pieces]
  | x :: t, b, h => by
    have hc : ¬ x = c := fun e => h (by rw [← e]; exact List.mem_cons_self)
    have hi := pieces_hit c t b (fun e => h (List.mem_cons_of_mem _ e))
    show pieces c (x :: (t ++ c :: b)) = _
    rw [pieces, if_neg hc, hi]
theorem pieces_none (c : UInt8) : ∀ (a : List UInt8), c ∉ a → pieces c a = [a]
  | [], _ => rfl
  | x :: t, h => by
    have hc : ¬ x = c := fun e => h (by rw [← e]; exact List.mem_cons_self)
    rw [pieces, if_neg hc, pieces_none c t (fun e => h (List.mem_cons_of_mem _ e))]
theorem split_at (c : UInt8) (l : List UInt8) (h : c ∈ l) : ∃ a b, l = a ++ c :: b ∧ c ∉ a := by
  induction l with
  | nil => cases h
  | cons x t ih =>
    by_cases hc : x = c
    · exact ⟨[], t, by rw [hc]; rfl, by simp⟩
    · have ht : c ∈ t := by
        rcases List.mem_cons.1 h with e | e
        · exact absurd e.symm hc
        · exact e
      obtain ⟨a, b, e, ha⟩ := ih ht
      refine ⟨x :: a, b, by rw [e]; rfl, ?_⟩
      intro hm
      rcases List.mem_cons.1 hm with e2 | e2
      · exact hc e2.symm
      · exact ha e2
theorem pieces_ne (c : UInt8) (l : List UInt8) : pieces c l ≠ [] := by
  by_cases h : c ∈ l
  · obtain ⟨a, b, rfl, ha⟩ := split_at c l h
    rw [pieces_hit c a b ha]; simp
  · rw [pieces_none c l h]; simp
theorem pieces_no (c : UInt8) (n : Nat) : ∀ (l : List UInt8), l.length ≤ n → ∀ p ∈ pieces c l, c ∉ p := by
  induction n with
  | zero =>
    intro l hl p hp
    rw [List.eq_nil_of_length_eq_zero (by omega : l.length = 0)] at hp
    rw [pieces, List.mem_singleton] at hp
    rw [hp]; simp
  | succ n ih =>
    intro l hl p hp
    by_cases h : c ∈ l
    · obtain ⟨a, b, rfl, ha⟩ := split_at c l h
      rw [pieces_hit c a b ha] at hp
      rcases List.mem_cons.1 hp with rfl | hp
      · exact ha
      · exact ih b (by simp at hl; omega) p hp
    · rw [pieces_none c l h, List.mem_singleton] at hp
      rw [hp]; exact h
/-- the pieces, joined, are the text -/
theorem pieces_join (c : UInt8) (n : Nat) : ∀ (l : List UInt8), l.length ≤ n → Lib.join (pieces c l) [c] = l := by
  induction n with
  | zero =>
    intro l hl
    rw [List.eq_nil_of_length_eq_zero (by omega : l.length = 0), pieces, Lib.join_one]
  | succ n ih =>
    intro l hl
    by_cases h : c ∈ l
    · obtain ⟨a, b, rfl, ha⟩ := split_at c l h
      have hb := ih b (by simp at hl; omega)
      rw [pieces_hit c a b ha, Lib.join_cons]
      obtain ⟨p, r, e⟩ := List.exists_cons_of_ne_nil (pieces_ne c b)
      rw [e] at hb ⊢
      rw [Lib.join_cons] at hb
      simp only [Lib.joinTail, List.map_cons, List.flatten_cons] at hb ⊢
      rw [← hb]
      simp
    · rw [pieces_none c l h, Lib.join_one]
/-- texts without c, joined, have just these pieces -/
theorem join_pieces (c : UInt8) : ∀ (x : List UInt8) (r : List (List UInt8)), c ∉ x → (∀ p ∈ r, c ∉ p) → pieces c (Lib.join (x :: r) [c]) = x :: r
  | x, [], hx, _ => by rw [Lib.join_one, pieces_none c x hx]
  | x, y :: r, hx, hr => by
    have hi := join_pieces c y r (hr y List.mem_cons_self) (fun p hp => hr p (List.mem_cons_of_mem _ hp))
    have e : Lib.join (x :: y :: r) [c] = x ++ c :: Lib.join (y :: r) [c] := by
      rw [Lib.join_cons, Lib.join_cons]
      simp [Lib.joinTail]
    rw [e, pieces_hit c x _ hx, hi]
theorem splitK_pieces (c : UInt8) (k : Nat) : ∀ (s : List UInt8), s.count c ≤ k → Lib.splitK [c] 0 k s = pieces c s := by
  induction k with
  | zero =>
    intro s hs
    rw [pieces_none c s (List.count_eq_zero.1 (by omega))]; rfl
  | succ k ih =>
    intro s hs
    by_cases h : c ∈ s
    · obtain ⟨a, b, rfl, ha⟩ := split_at c s h
      have hcb : b.count c ≤ k := by
        rw [List.count_append, List.count_cons_self] at hs
        omega
      rw [Lib.splitK, idxc_yes c a b ha, if_neg (by rw [beq_iff_eq]; omega), Int.toNat_natCast, Nat.add_zero, List.take_left, pieces_hit c a b ha]
      rw [show a ++ c :: b = (a ++ [c]) ++ b by simp, List.drop_left' (by simp), ih b hcb]
    · rw [Lib.splitK, idxc_no c s h, if_pos (by decide), pieces_none c s h]
theorem split_pieces (c : UInt8) (s : List UInt8) : Lib.split s [c] = pieces c s := by
  unfold Lib.split
  exact splitK_pieces c _ s (by rw [Lib.count_one]; exact Nat.le_refl _)
end Go.Proofs.YtmhbpmacfekhgaaDoor
