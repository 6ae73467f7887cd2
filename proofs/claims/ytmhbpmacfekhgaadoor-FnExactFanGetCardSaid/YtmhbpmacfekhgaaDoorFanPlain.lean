/- Texts of four pointers, plainly. -/
import Derived.Test.YtmhbpmacfekhgaaDoorPtrPlain
namespace Go.Proofs.YtmhbpmacfekhgaaDoor
open Go.RowKit
set_option linter.unusedVariables false

abbrev P5 := Int × Int × Int × Int × Int
def pL (p : P5) : List UInt8 := ptrL p.1 p.2.1 p.2.2.1 p.2.2.2.1 p.2.2.2.2
def pok (p : P5) : Bool := okB p.1 p.2.1 p.2.2.1 p.2.2.2.1 p.2.2.2.2
def phole (p : P5) : Bool := holeB p.1 p.2.1 p.2.2.1 p.2.2.2.1 p.2.2.2.2
/-- four valid pointers, not all holes -/
def fanB (ps : List P5) : Bool := decide (ps.length = 4) && (ps.all pok && ps.any (fun p => !phole p))
def fanL (ps : List P5) : List UInt8 := if fanB ps = true then Lib.join (ps.map pL) [44] else []
theorem fan_iff (ps : List P5) : fanB ps = true ↔ ps.length = 4 ∧ ps.all pok = true ∧ ps.any (fun p => !phole p) = true := by simp [fanB]
def getF (l : List UInt8) : Option (List P5) :=
  match (pieces 44 l).mapM getQ with
  | some ps => if fanB ps = true then some ps else none
  | none => none
theorem getQ_p {l : List UInt8} {p : P5} (h : getQ l = some p) : pok p = true ∧ pL p = l := by
  obtain ⟨a, b, c, d, e⟩ := p
  exact getQ_some h
theorem getQ_pL {p : P5} (h : pok p = true) : getQ (pL p) = some p := by
  obtain ⟨a, b, c, d, e⟩ := p
  exact getQ_put h
theorem mapM_getQ : ∀ (ls : List (List UInt8)) (ps : List P5), ls.mapM getQ = some ps → ps.all pok = true ∧ ps.map pL = ls
  | [], ps, h => by
    rw [List.mapM_nil] at h
    injection h with h
    subst h
    exact ⟨rfl, rfl⟩
  | l :: ls, ps, h => by
    rw [List.mapM_cons] at h
    cases h1 : getQ l with
    | none => rw [h1] at h; cases h
    | some p =>
      cases h2 : ls.mapM getQ with
      | none => rw [h1, h2] at h; cases h
      | some qs =>
        rw [h1, h2] at h
        have e : p :: qs = ps := Option.some.inj h
        subst e
        obtain ⟨i1, i2⟩ := mapM_getQ ls qs h2
        obtain ⟨j1, j2⟩ := getQ_p h1
        exact ⟨by rw [List.all_cons, j1, i1]; rfl, by rw [List.map_cons, i2, j2]⟩
theorem mapM_pL : ∀ (ps : List P5), ps.all pok = true → (ps.map pL).mapM getQ = some ps
  | [], _ => by rw [List.map_nil, List.mapM_nil]; rfl
  | p :: ps, h => by
    rw [List.all_cons, Bool.and_eq_true] at h
    rw [List.map_cons, List.mapM_cons, getQ_pL h.1, mapM_pL ps h.2]
    rfl
theorem mapM_len {ls : List (List UInt8)} {ps : List P5} (h : ls.mapM getQ = some ps) : ps.length = ls.length := by
  have := (mapM_getQ ls ps h).2
  rw [← this, List.length_map]
/-- what is read back, joined, is the text -/
theorem fan_back {l : List UInt8} {ps : List P5} (h : (pieces 44 l).mapM getQ = some ps) : Lib.join (ps.map pL) [44] = l := by
  rw [(mapM_getQ _ _ h).2]
  exact pieces_join 44 _ l (Nat.le_refl _)
theorem getF_some {l : List UInt8} {ps : List P5} (h : getF l = some ps) : fanB ps = true ∧ fanL ps = l := by
  unfold getF at h
  split at h
  · rename_i qs hq
    by_cases hb : fanB qs = true
    · rw [if_pos hb] at h
      injection h with h
      subst h
      refine ⟨hb, ?_⟩
      unfold fanL
      rw [if_pos hb]
      exact fan_back hq
    · rw [if_neg hb] at h; cases h
  · cases h
theorem pL_no (p : P5) : 44 ∉ pL p := ptrL_no44
theorem fan_pieces {ps : List P5} (h : fanB ps = true) : pieces 44 (fanL ps) = ps.map pL := by
  have h4 := ((fan_iff ps).1 h).1
  unfold fanL
  rw [if_pos h]
  cases ps with
  | nil => simp at h4
  | cons p ps =>
    rw [List.map_cons]
    refine join_pieces 44 _ _ (pL_no p) (fun q hq => ?_)
    obtain ⟨r, _, rfl⟩ := List.mem_map.1 hq
    exact pL_no r
theorem getF_put {ps : List P5} (h : fanB ps = true) : getF (fanL ps) = some ps := by
  unfold getF
  rw [fan_pieces h, mapM_pL ps ((fan_iff ps).1 h).2.1]
  show (if fanB ps = true then some ps else none) = some ps
  rw [if_pos h]
theorem fan_len {ps : List P5} : (fanL ps).length ≤ 128 := by
  unfold fanL
  by_cases h : fanB ps = true
  · rw [if_pos h]
    have h4 := ((fan_iff ps).1 h).1
    match ps, h4 with
    | [p, q, r, s], _ =>
      have e : Lib.join ([p, q, r, s].map pL) [44] = pL p ++ [44] ++ pL q ++ [44] ++ pL r ++ [44] ++ pL s := by
        rw [List.map_cons, Lib.join_cons]
        simp [Lib.joinTail]
      have l1 : (pL p).length ≤ 21 := ptrL_len
      have l2 : (pL q).length ≤ 21 := ptrL_len
      have l3 : (pL r).length ≤ 21 := ptrL_len
      have l4 : (pL s).length ≤ 21 := ptrL_len
      rw [e]
      simp only [List.length_append, List.length_singleton]
      omega
  · rw [if_neg h]; simp
/-- the first piece that is no pointer -/
theorem mapM_none {ls : List (List UInt8)} {i : Nat} {l : List UInt8} (h : ls[i]? = some l) (hn : getQ l = none) : ls.mapM getQ = none := by
  cases hm : ls.mapM getQ with
  | none => rfl
  | some ps =>
    exfalso
    obtain ⟨h1, h2⟩ := mapM_getQ ls ps hm
    rw [← h2, List.getElem?_map] at h
    obtain ⟨p, hp, rfl⟩ := Option.map_eq_some_iff.1 h
    have := getQ_pL (List.all_eq_true.1 h1 p (List.mem_of_getElem? hp))
    rw [hn] at this
    cases this
theorem getF_bad {l : List UInt8} {i : Nat} {q : List UInt8} (h : (pieces 44 l)[i]? = some q) (hn : getQ q = none) : getF l = none := by
  unfold getF
  rw [mapM_none h hn]
theorem getF_len {l : List UInt8} (h : (pieces 44 l).length ≠ 4) : getF l = none := by
  unfold getF
  cases hm : (pieces 44 l).mapM getQ with
  | none => rfl
  | some ps =>
    have := mapM_len hm
    show (if fanB ps = true then some ps else none) = none
    rw [if_neg]
    intro hb
    exact h (by rw [← this]; exact ((fan_iff ps).1 hb).1)
/-- reading goes on -/
theorem mapM_take {ls : List (List UInt8)} {k : Nat} {ps : List P5} {q : List UInt8} {p : P5} (h : (ls.take k).mapM getQ = some ps) (hq : ls[k]? = some q) (hp : getQ q = some p) : (ls.take (k + 1)).mapM getQ = some (ps ++ [p]) := by
  have e : ls.take (k + 1) = ls.take k ++ [q] := by rw [List.take_add_one, hq]; rfl
  obtain ⟨h1, h2⟩ := mapM_getQ _ _ h
  obtain ⟨j1, j2⟩ := getQ_p hp
  rw [e, ← h2, ← j2, show ps.map pL ++ [pL p] = (ps ++ [p]).map pL by simp]
  exact mapM_pL _ (by rw [List.all_append, h1, List.all_cons, j1]; rfl)
end Go.Proofs.YtmhbpmacfekhgaaDoor
