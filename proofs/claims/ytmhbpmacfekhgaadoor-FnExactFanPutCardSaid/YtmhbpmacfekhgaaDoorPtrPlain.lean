/- Texts of pointers, plainly. -/
import Derived.Test.YtmhbpmacfekhgaaDoorPieces
import Derived.Test.YtmhbpmacfekhgaaDoorPtrB
namespace Go.Proofs.YtmhbpmacfekhgaaDoor
open Go.RowKit
set_option linter.unusedVariables false

def d2 (n : Int) : List UInt8 := Lib.decDigits n.toNat
def five (a b c d e : Int) : List (List UInt8) := [d2 a, d2 b, d2 c, d2 d, d2 e]
/-- the text of a pointer -/
def ptrL (a b c d e : Int) : List UInt8 := if okB a b c d e = true then (if holeB a b c d e = true then [45] else Lib.join (five a b c d e) [46]) else []
theorem join5 (v w x y z : List UInt8) : Lib.join [v, w, x, y, z] [46] = v ++ [46] ++ w ++ [46] ++ x ++ [46] ++ y ++ [46] ++ z := by
  rw [Lib.join_cons]
  simp [Lib.joinTail]
theorem dig_no {n : Int} {c : UInt8} (h : isDig c = false) : c ∉ d2 n := by
  intro hm
  have := List.all_eq_true.1 (dec_dig n.toNat) _ hm
  rw [h] at this; cases this
theorem five_no {a b c d e : Int} {u : UInt8} (h : isDig u = false) : ∀ p ∈ five a b c d e, u ∉ p := by
  intro p hp
  simp only [five, List.mem_cons, List.not_mem_nil, or_false] at hp
  rcases hp with rfl | rfl | rfl | rfl | rfl <;> exact dig_no h
theorem pieces_five (a b c d e : Int) : pieces 46 (Lib.join (five a b c d e) [46]) = five a b c d e :=
  join_pieces 46 _ _ (dig_no (by decide)) (fun p hp => five_no (a := a) (by decide) p (List.mem_cons_of_mem _ hp))
theorem inR_iff (n lo hi : Int) : inR n lo hi = true ↔ lo ≤ n ∧ n ≤ hi := by simp [inR]
/-- the ranges of a valid pointer that is no hole -/
theorem ok_rng {a b c d e : Int} (h : okB a b c d e = true) (hh : holeB a b c d e = false) : (8 ≤ a ∧ a ≤ 63) ∧ (1 ≤ b ∧ b ≤ 900) ∧ (1 ≤ c ∧ c ≤ 128) ∧ (0 ≤ d ∧ d ≤ 99460728) ∧ (0 ≤ e ∧ e ≤ 2) := by
  unfold okB at h
  rw [hh, Bool.false_or] at h
  simp only [Bool.and_eq_true, inR_iff] at h
  obtain ⟨⟨⟨⟨h1, h2⟩, h3⟩, h4⟩, h5⟩ := h
  exact ⟨h1, h2, h3, h4, h5⟩
theorem hole_eq {a b c d e : Int} (h : holeB a b c d e = true) : a = 0 ∧ b = 0 ∧ c = 0 ∧ d = 0 ∧ e = 0 := by
  unfold holeB at h
  simp only [Bool.and_eq_true, beq_iff_eq] at h
  obtain ⟨⟨⟨⟨h1, h2⟩, h3⟩, h4⟩, h5⟩ := h
  exact ⟨h1, h2, h3, h4, h5⟩
theorem hole_ok : okB 0 0 0 0 0 = true := by decide
theorem numT_d2 {n : Int} (h0 : 0 ≤ n) (h1 : n ≤ 999999999) : numT n = ⟨(d2 n).toArray⟩ := by
  unfold numT d2
  rw [if_pos (by rw [inR_iff]; exact ⟨h0, h1⟩)]
/-- what is read of a text -/
def getQ (l : List UInt8) : Option (Int × Int × Int × Int × Int) :=
  if l = [45] then some (0, 0, 0, 0, 0) else
  match pieces 46 l with
  | [p, q, r, s, t] => if (goodN p && goodN q && goodN r && goodN s && goodN t) && (okB (dval p) (dval q) (dval r) (dval s) (dval t) && !holeB (dval p) (dval q) (dval r) (dval s) (dval t)) then some ((dval p : Int), (dval q : Int), (dval r : Int), (dval s : Int), (dval t : Int)) else none
  | _ => none
theorem getQ_hole : getQ [45] = some (0, 0, 0, 0, 0) := if_pos rfl
theorem d2_good {p : List UInt8} (h : goodN p = true) : d2 (dval p) = p := by
  unfold d2
  rw [Int.toNat_natCast, good_back h]
theorem ne_hole {l : List UInt8} {p q r s t : List UInt8} (h : pieces 46 l = [p, q, r, s, t]) : l ≠ [45] := by
  intro e
  rw [e, show pieces 46 [45] = [[45]] from rfl] at h
  cases h
theorem ne_nil5 {l : List UInt8} {p q r s t : List UInt8} (h : pieces 46 l = [p, q, r, s, t]) : l ≠ [] := by
  intro e
  rw [e, show pieces 46 [] = [[]] from rfl] at h
  cases h
/-- five numbers that make a valid pointer: the text of just that pointer -/
theorem ptrL_back {l p q r s t : List UInt8} (h : pieces 46 l = [p, q, r, s, t]) (g : (goodN p && goodN q && goodN r && goodN s && goodN t) = true) (ho : okB (dval p) (dval q) (dval r) (dval s) (dval t) = true) (hh : holeB (dval p) (dval q) (dval r) (dval s) (dval t) = false) : ptrL (dval p) (dval q) (dval r) (dval s) (dval t) = l := by
  simp only [Bool.and_eq_true] at g
  obtain ⟨⟨⟨⟨g1, g2⟩, g3⟩, g4⟩, g5⟩ := g
  unfold ptrL five
  rw [if_pos ho, hh, if_neg (by simp), d2_good g1, d2_good g2, d2_good g3, d2_good g4, d2_good g5, ← h]
  exact pieces_join 46 _ l (Nat.le_refl _)
/-- what is read, as both functions tell -/
theorem getQ_five {l p q r s t : List UInt8} (h : pieces 46 l = [p, q, r, s, t]) : getQ l = if (goodN p && goodN q && goodN r && goodN s && goodN t) && (okB (dval p) (dval q) (dval r) (dval s) (dval t) && !holeB (dval p) (dval q) (dval r) (dval s) (dval t)) then some ((dval p : Int), (dval q : Int), (dval r : Int), (dval s : Int), (dval t : Int)) else none := by
  unfold getQ
  rw [if_neg (ne_hole h), h]
theorem getQ_many {l : List UInt8} (h1 : l ≠ [45]) (h : (pieces 46 l).length ≠ 5) : getQ l = none := by
  unfold getQ
  rw [if_neg h1]
  split
  · rename_i e; rw [e] at h; exact absurd rfl h
  · rfl
/-- impl's last test -/
theorem put_test {l p q r s t : List UInt8} (h : pieces 46 l = [p, q, r, s, t]) (g : (goodN p && goodN q && goodN r && goodN s && goodN t) = true) :
    (ptrL (dval p) (dval q) (dval r) (dval s) (dval t) = l) ↔ (okB (dval p) (dval q) (dval r) (dval s) (dval t) && !holeB (dval p) (dval q) (dval r) (dval s) (dval t)) = true := by
  constructor
  · intro e
    cases ho : okB (dval p) (dval q) (dval r) (dval s) (dval t)
    · exfalso
      unfold ptrL at e
      rw [ho, if_neg (by simp)] at e
      exact ne_nil5 h e.symm
    · cases hh : holeB (dval p) (dval q) (dval r) (dval s) (dval t)
      · rfl
      · exfalso
        unfold ptrL at e
        rw [ho, if_pos rfl, hh, if_pos rfl] at e
        exact ne_hole h e.symm
  · intro e
    simp only [Bool.and_eq_true, Bool.not_eq_true'] at e
    exact ptrL_back h g e.1 e.2
theorem dval_d2 {n : Int} (h : 0 ≤ n) : (dval (d2 n) : Int) = n := by
  unfold d2
  rw [dval_dec]; omega
theorem good_d2 {n : Int} (h : n ≤ 999999999) : goodN (d2 n) = true := good_dec (by omega)
/-- a valid pointer's text is read back -/
theorem getQ_put {a b c d e : Int} (h : okB a b c d e = true) : getQ (ptrL a b c d e) = some (a, b, c, d, e) := by
  unfold ptrL
  rw [if_pos h]
  cases hh : holeB a b c d e
  · rw [if_neg (by simp)]
    obtain ⟨r1, r2, r3, r4, r5⟩ := ok_rng h hh
    rw [getQ_five (pieces_five a b c d e), good_d2 (by omega), good_d2 (by omega), good_d2 (by omega), good_d2 (by omega), good_d2 (by omega), dval_d2 (by omega), dval_d2 (by omega), dval_d2 (by omega), dval_d2 (by omega), dval_d2 (by omega), h, hh]
    rfl
  · rw [if_pos rfl]
    obtain ⟨rfl, rfl, rfl, rfl, rfl⟩ := hole_eq hh
    exact getQ_hole
/-- what is read is valid, and has just this text -/
theorem getQ_some {l : List UInt8} {a b c d e : Int} (h : getQ l = some (a, b, c, d, e)) : okB a b c d e = true ∧ ptrL a b c d e = l := by
  by_cases h1 : l = [45]
  · rw [h1, getQ_hole] at h
    injection h with h
    simp only [Prod.mk.injEq] at h
    obtain ⟨rfl, rfl, rfl, rfl, rfl⟩ := h
    exact ⟨hole_ok, by rw [h1]; rfl⟩
  · by_cases h5 : (pieces 46 l).length = 5
    · match hp : pieces 46 l, h5 with
      | [p, q, r, s, t], _ =>
        rw [getQ_five hp] at h
        split at h
        · rename_i hc
          rw [Bool.and_eq_true] at hc
          injection h with h
          simp only [Prod.mk.injEq] at h
          obtain ⟨rfl, rfl, rfl, rfl, rfl⟩ := h
          have h2 := hc.2
          simp only [Bool.and_eq_true, Bool.not_eq_true'] at h2
          exact ⟨h2.1, ptrL_back hp hc.1 h2.1 h2.2⟩
        · cases h
    · rw [getQ_many h1 h5] at h; cases h
theorem ptrL_inj {a b c d e a' b' c' d' e' : Int} (h : okB a b c d e = true) (h' : okB a' b' c' d' e' = true) (he : ptrL a b c d e = ptrL a' b' c' d' e') : a = a' ∧ b = b' ∧ c = c' ∧ d = d' ∧ e = e' := by
  have h1 := getQ_put h
  rw [he, getQ_put h'] at h1
  injection h1 with h1
  simp only [Prod.mk.injEq] at h1
  obtain ⟨r1, r2, r3, r4, r5⟩ := h1
  exact ⟨r1.symm, r2.symm, r3.symm, r4.symm, r5.symm⟩
theorem ptrL_ne {a b c d e : Int} : ptrL a b c d e = [] ↔ okB a b c d e = false := by
  unfold ptrL
  cases h : okB a b c d e
  · simp
  · rw [if_pos rfl]
    constructor
    · intro e
      exfalso
      split at e
      · cases e
      · rw [five, join5] at e
        simp at e
    · intro e; cases e
theorem d2_len {n : Int} {k : Nat} (m : Nat) (hm : m = 10 ^ (k + 1)) (h : n < m) (h0 : 0 < m) : (d2 n).length ≤ k + 1 := dec_lenk k n.toNat (by rw [← hm]; omega)
theorem ptrL_len {a b c d e : Int} : (ptrL a b c d e).length ≤ 21 := by
  unfold ptrL
  cases h : okB a b c d e
  · simp
  · rw [if_pos rfl]
    cases hh : holeB a b c d e
    · rw [if_neg (by simp), five, join5]
      obtain ⟨r1, r2, r3, r4, r5⟩ := ok_rng h hh
      have l1 : (d2 a).length ≤ 2 := d2_len (k := 1) 100 (by decide) (by omega) (by decide)
      have l2 : (d2 b).length ≤ 3 := d2_len (k := 2) 1000 (by decide) (by omega) (by decide)
      have l3 : (d2 c).length ≤ 3 := d2_len (k := 2) 1000 (by decide) (by omega) (by decide)
      have l4 : (d2 d).length ≤ 8 := d2_len (k := 7) 100000000 (by decide) (by omega) (by decide)
      have l5 : (d2 e).length ≤ 1 := d2_len (k := 0) 10 (by decide) (by omega) (by decide)
      simp only [List.length_append, List.length_singleton]
      omega
    · rw [if_pos rfl]; simp
theorem ptrL_no44 {a b c d e : Int} : 44 ∉ ptrL a b c d e := by
  unfold ptrL
  cases h : okB a b c d e
  · simp
  · rw [if_pos rfl]
    cases hh : holeB a b c d e
    · rw [if_neg (by simp), five, join5]
      simp only [List.mem_append, List.mem_singleton]
      rintro ((((((((h | h) | h) | h) | h) | h) | h) | h) | h)
      all_goals first | (exact dig_no (by decide) h) | (exact absurd h (by decide))
    · rw [if_pos rfl]; simp
end Go.Proofs.YtmhbpmacfekhgaaDoor
