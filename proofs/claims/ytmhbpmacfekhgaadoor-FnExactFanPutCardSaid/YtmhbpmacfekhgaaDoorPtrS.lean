/- A row of pointers, five cells each; a slice of pointers that came in, opened. -/
import Derived.Test.YtmhbpmacfekhgaaDoorOpen
import Derived.Test.YtmhbpmacfekhgaaDoorFanPlain
import Derived.Deep.Slices
import Derived.Deep.SlicePairs
import Derived.Deep.Fields
import Derived.ChangeSame
namespace Go.Proofs.YtmhbpmacfekhgaaDoor
open Go.RowKit Go.ChangeShapes Go.WideShapes Go.Deep Go.Joins
set_option maxRecDepth 100000
set_option linter.unusedVariables false

/-- the cells of a pointer -/
def p5c (p : P5) : List Value := [.int .i64 p.1, .int .i64 p.2.1, .int .i64 p.2.2.1, .int .i64 p.2.2.2.1, .int .i64 p.2.2.2.2]
/-- the cells of pointers -/
def ptrCells (ps : List P5) : List Value := ps.flatMap p5c
theorem ptrCells_cons (p : P5) (ps : List P5) : ptrCells (p :: ps) = p5c p ++ ptrCells ps := by simp [ptrCells]
theorem ptrCells_snoc (ps : List P5) (p : P5) : ptrCells (ps ++ [p]) = ptrCells ps ++ p5c p := by simp [ptrCells]
theorem ptrCells_len (ps : List P5) : (ptrCells ps).length = ps.length * 5 := by
  induction ps with
  | nil => rfl
  | cons p ps ih =>
    rw [ptrCells_cons, List.length_append, ih, List.length_cons]
    show 5 + _ = _
    omega
theorem ptrCells_at (ps : List P5) (k j : Nat) (p : P5) (h : ps[k]? = some p) (hj : j < 5) : (ptrCells ps)[k * 5 + j]? = (p5c p)[j]? := by
  induction ps generalizing k with
  | nil => simp at h
  | cons y ys ih =>
    rw [ptrCells_cons]
    cases k with
    | zero =>
      simp only [List.getElem?_cons_zero, Option.some.injEq] at h
      subst h
      rw [Nat.zero_mul, Nat.zero_add, List.getElem?_append_left hj]
    | succ k =>
      have h2 : ys[k]? = some p := by simpa using h
      rw [List.getElem?_append_right (by show 5 ≤ _; omega), ← ih k h2]
      congr 1
      show (k + 1) * 5 + j - 5 = _
      omega
theorem ptrCells_of (ps : List P5) (j : Nat) (u : Value) (h : (ptrCells ps)[j]? = some u) : ∃ k p i, i < 5 ∧ ps[k]? = some p ∧ j = k * 5 + i ∧ (p5c p)[i]? = some u := by
  have hl : j < ps.length * 5 := by
    rw [← ptrCells_len]
    exact (List.getElem?_eq_some_iff.1 h).1
  have hk : j / 5 < ps.length := by omega
  have hi : j % 5 < 5 := by omega
  have e : j / 5 * 5 + j % 5 = j := by omega
  refine ⟨j / 5, ps[j / 5], j % 5, hi, List.getElem?_eq_getElem hk, e.symm, ?_⟩
  rw [← ptrCells_at ps (j / 5) (j % 5) _ (List.getElem?_eq_getElem hk) hi, e, h]
theorem Rd.ptr_at {w : World} {A : Option Addr} {n : Nat} {ps : List P5} (h : Rd w 5 A n (ptrCells ps)) {k : Nat} (hk : k < n) :
    ∃ b o p, A = some ⟨b, o, none⟩ ∧ b < w.heap.size ∧ ps[k]? = some p ∧ w.cell? ⟨b, o + k * 5, none⟩ = some (.int .i64 p.1) ∧ w.cell? ⟨b, o + k * 5 + 1, none⟩ = some (.int .i64 p.2.1) ∧ w.cell? ⟨b, o + k * 5 + 2, none⟩ = some (.int .i64 p.2.2.1) ∧ w.cell? ⟨b, o + k * 5 + 3, none⟩ = some (.int .i64 p.2.2.2.1) ∧ w.cell? ⟨b, o + k * 5 + 4, none⟩ = some (.int .i64 p.2.2.2.2) := by
  obtain ⟨b, o, e, hb, hc⟩ := h.at_ (by omega)
  have hl : k < ps.length := by have := h.len; rw [ptrCells_len] at this; omega
  have hx := List.getElem?_eq_getElem hl
  exact ⟨b, o, ps[k], e, hb, hx, hc _ _ (ptrCells_at ps k 0 _ hx (by decide)), hc _ _ (ptrCells_at ps k 1 _ hx (by decide)), hc _ _ (ptrCells_at ps k 2 _ hx (by decide)), hc _ _ (ptrCells_at ps k 3 _ hx (by decide)), hc _ _ (ptrCells_at ps k 4 _ hx (by decide))⟩
/-- pointers that came in -/
def PtrS (w : World) (A : Option Addr) (n c : Nat) (ps : List P5) : Prop :=
  n ≤ c ∧ c ≤ maxLen ∧ ps.length = n ∧ (∀ p ∈ ps, Fit5 p.1 p.2.1 p.2.2.1 p.2.2.2.1 p.2.2.2.2) ∧ Rd w 5 A n (ptrCells ps)

section
variable {H : Type} {enc : TypeId × Value → H} {w : World} {base : Nat}
theorem slice_fields {P : Program} {spare : Nat → Bool} {held : Bool} {t e : TypeId} {fs : Array Field} {fuel : Nat} {cs : List Value} {x : DataW H × List MemPlace} (ht : P.underlying t = some (.slice e)) (he : P.underlying e = some (.struct fs))
    (hone : oneCellFields P fs = true) (hC : P.cellsOf e = fs.size) (h : DataW.trod enc P w base spare held fuel t cs = some x) :
    cs = [.slice none 0 0] ∨ ∃ (a : Addr) (len cap m : Nat), cs = [.slice (some a) len cap] ∧ len ≤ cap ∧ cap ≤ maxLen ∧ m = (if spare a.block then cap else len) ∧
      ∀ i, i < m → ∀ (j : Nat) (f : Field), fs[j]? = some f → ∃ (n : Nat) (v : Value) (y : DataW H × List MemPlace), w.cell? (a.add (i * fs.size + j)) = some v ∧ DataW.trod enc P w base spare held n f.type [v] = some y := by
  rcases open_slice ht h with h0 | ⟨a, len, cap, m, n, D, Pl, hcs, hb, hl, hm, hmm, hx, hi⟩
  · exact .inl h0.1
  · refine .inr ⟨a, len, cap, m, hcs, hl, hm, hmm, fun i him j f hj => ?_⟩
    obtain ⟨cs', hc, ht'⟩ := hi i him
    rw [hC] at hc
    obtain ⟨ys, n', hn', hy, hlen, hyl, hf⟩ := DataW.trod_struct he ht'
    obtain ⟨_, hcl, hat⟩ := World.cells?_some hc
    obtain ⟨ho, hk⟩ := hone_of hone j f hj
    have hjl : j < fs.size := (Array.getElem?_eq_some_iff.1 hj).1
    have hcell := hat j hjl
    have hv : cs'[j]? = some (cs'[j]'(by omega)) := List.getElem?_eq_getElem (by omega)
    have h1 := hf j f hj
    rw [ho, hk] at h1
    have hone' : (cs'.drop j).take 1 = [cs'[j]'(by omega)] := by
      rw [List.drop_eq_getElem_cons (by omega)]
      rfl
    rw [hone'] at h1
    have hys : ys[j]? = some (ys[j]'(by omega)) := List.getElem?_eq_getElem (by omega)
    refine ⟨_, _, _, ?_, h1.trans hys⟩
    rw [← Go.Deep.add_add, hcell, hv]

theorem ptrs_of_trod {c : Value} {n0 : Nat} {y : DataW H × List MemPlace} (h : DataW.trod enc Tryd.prog w 0 (fun _ => true) true n0 38 [c] = some y) :
    ∃ (A : Option Addr) (n c' : Nat) (ps : List P5), c = .slice A n c' ∧ PtrS w A n c' ps := by
  rcases slice_fields Tryd.underlying38 Tryd.underlying23 (by kernel_rfl) (by kernel_rfl) h with hcs | ⟨a, len, cap, m, hcs, hl, hm, hmm, hcell⟩
  · simp only [List.cons.injEq, and_true] at hcs
    subst hcs
    exact ⟨none, 0, 0, [], rfl, Nat.le_refl _, by simp [maxLen], rfl, by simp, ⟨rfl, fun h => absurd h (by omega)⟩⟩
  · simp only [List.cons.injEq, and_true] at hcs
    subst hcs
    have hmc : m = cap := by simpa using hmm
    subst hmc
    have one : ∀ i, i < m → ∀ (j : Nat) (f : Field), (#[_, _, _, _, _] : Array Field)[j]? = some f → ∃ (n : Nat) (v : Value) (y : DataW H × List MemPlace), w.cell? (a.add (i * 5 + j)) = some v ∧ DataW.trod enc Tryd.prog w 0 (fun _ => true) true n f.type [v] = some y := hcell
    have each : ∀ i, i < m → ∃ q : P5, Fit5 q.1 q.2.1 q.2.2.1 q.2.2.2.1 q.2.2.2.2 ∧ ∀ j, j < 5 → w.cell? (a.add (i * 5 + j)) = (p5c q)[j]? := by
      intro i hi
      obtain ⟨_, _, _, c0, t0⟩ := one i hi 0 _ rfl
      obtain ⟨_, _, _, c1, t1⟩ := one i hi 1 _ rfl
      obtain ⟨_, _, _, c2, t2⟩ := one i hi 2 _ rfl
      obtain ⟨_, _, _, c3, t3⟩ := one i hi 3 _ rfl
      obtain ⟨_, _, _, c4, t4⟩ := one i hi 4 _ rfl
      obtain ⟨x0, e0, _, f0⟩ := DataW.trod_int Tryd.underlying3 t0
      obtain ⟨x1, e1, _, f1⟩ := DataW.trod_int Tryd.underlying3 t1
      obtain ⟨x2, e2, _, f2⟩ := DataW.trod_int Tryd.underlying3 t2
      obtain ⟨x3, e3, _, f3⟩ := DataW.trod_int Tryd.underlying3 t3
      obtain ⟨x4, e4, _, f4⟩ := DataW.trod_int Tryd.underlying3 t4
      simp only [List.cons.injEq, and_true] at e0 e1 e2 e3 e4
      subst e0 e1 e2 e3 e4
      refine ⟨(x0, x1, x2, x3, x4), ⟨bounds_i64 f0, bounds_i64 f1, bounds_i64 f2, bounds_i64 f3, bounds_i64 f4⟩, fun j hj => ?_⟩
      match j, hj with
      | 0, _ => exact c0
      | 1, _ => exact c1
      | 2, _ => exact c2
      | 3, _ => exact c3
      | 4, _ => exact c4
    obtain ⟨q, hq⟩ := choose_lt each
    have hsp : 0 < len → ∃ b o, a = ⟨b, o, none⟩ ∧ b < w.heap.size := by
      intro hn
      have h0 := (hq 0 (by omega)).2 0 (by omega)
      have h0 : w.cell? (a.add (0 * 5 + 0)) = some (.int .i64 (q 0).1) := h0
      have hsp : a.spot = none := by simpa [Addr.add] using World.cell?_spot h0
      obtain ⟨b, o, sp⟩ := a
      subst hsp
      refine ⟨b, o, rfl, ?_⟩
      have : w.heap[b]? ≠ none := by
        intro he
        simp [World.cell?, he, Addr.add] at h0
      rcases Nat.lt_or_ge b w.heap.size with hl | hl
      · exact hl
      · exact absurd (Array.getElem?_eq_none hl) this
    refine ⟨some a, len, m, (List.range len).map q, rfl, hl, hm, by simp, ?_, ?_⟩
    · intro z hz
      obtain ⟨i, hi, rfl⟩ := List.mem_map.1 hz
      have hi2 : i < len := by simpa using hi
      exact (hq i (by omega)).1
    · refine ⟨by rw [ptrCells_len]; simp, fun hn => ?_⟩
      obtain ⟨b, o, rfl, hb⟩ := hsp hn
      refine ⟨b, o, rfl, hb, fun j u hu => ?_⟩
      obtain ⟨k, z, i, hi, hz, rfl, hju⟩ := ptrCells_of _ j u hu
      rw [List.getElem?_map] at hz
      obtain ⟨k', hk', rfl⟩ := Option.map_eq_some_iff.1 hz
      have hk : k < len := by
        have := (List.getElem?_eq_some_iff.1 hk').1
        simpa using this
      rw [List.getElem?_range hk] at hk'
      injection hk' with hk'
      subst hk'
      have h0 := (hq k (by omega)).2 i hi
      rw [Addr.add_lit] at h0
      rw [← hju, ← h0]
theorem open_ptrs {v : Value} {d : DataW H} {p : List MemPlace} (_hv : Value.okWide Tryd.prog w .any base 38 v) (h : DataW.Trod enc Tryd.prog w 0 (fun _ => true) true 38 v d p) :
    ∃ (A : Option Addr) (n c : Nat) (ps : List P5), v = .slice A n c ∧ PtrS w A n c ps := by
  obtain ⟨A, n, c, rfl⟩ := okWide_slice Tryd.underlying38 _hv
  obtain ⟨fuel, hf⟩ := h
  exact ptrs_of_trod (by simpa [Value.cells] using hf)
end
end Go.Proofs.YtmhbpmacfekhgaaDoor
