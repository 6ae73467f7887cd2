/- A disk that came in, opened: a row of texts, a row of waiting writes, whether it is gone. -/
import Derived.Test.YtcaoekaephnimaaOpen
import Derived.Deep.SlicePairs
namespace Go.Proofs.Ytcaoekaephnimaa
open Go.RowKit Go.ChangeShapes Go.WideShapes Go.Deep Go.Joins
set_option maxRecDepth 100000
set_option linter.unusedVariables false

/-- the cells of waiting writes -/
def waitCells (zs : List (Int × ByteArray)) : List Value := zs.flatMap fun z => [.int .i64 z.1, .string z.2]
theorem waitCells_len (zs : List (Int × ByteArray)) : (waitCells zs).length = zs.length * 2 := by
  induction zs with
  | nil => rfl
  | cons z zs ih =>
    show (.int .i64 z.1 :: .string z.2 :: waitCells zs).length = _
    simp only [List.length_cons, ih]
    omega
theorem waitCells_at (zs : List (Int × ByteArray)) (k : Nat) (z : Int × ByteArray) (h : zs[k]? = some z) : (waitCells zs)[k * 2]? = some (.int .i64 z.1) ∧ (waitCells zs)[k * 2 + 1]? = some (.string z.2) := by
  induction zs generalizing k with
  | nil => simp at h
  | cons y ys ih =>
    cases k with
    | zero =>
      simp only [List.getElem?_cons_zero, Option.some.injEq] at h
      subst h
      exact ⟨rfl, rfl⟩
    | succ k =>
      have h2 : ys[k]? = some z := by simpa using h
      obtain ⟨a, b⟩ := ih k h2
      have e1 : (k + 1) * 2 = k * 2 + 1 + 1 := by omega
      have e2 : (k + 1) * 2 + 1 = k * 2 + 1 + 1 + 1 := by omega
      rw [e1]
      exact ⟨a, b⟩
theorem waitCells_of (zs : List (Int × ByteArray)) (j : Nat) (u : Value) (h : (waitCells zs)[j]? = some u) : ∃ k z, zs[k]? = some z ∧ ((j = k * 2 ∧ u = .int .i64 z.1) ∨ (j = k * 2 + 1 ∧ u = .string z.2)) := by
  have hl : j < zs.length * 2 := by
    rw [← waitCells_len]
    exact (List.getElem?_eq_some_iff.1 h).1
  have hk : j / 2 < zs.length := by omega
  refine ⟨j / 2, zs[j / 2], List.getElem?_eq_getElem hk, ?_⟩
  obtain ⟨a, b⟩ := waitCells_at zs (j / 2) zs[j / 2] (List.getElem?_eq_getElem hk)
  rcases Nat.mod_two_eq_zero_or_one j with e | e
  · have e2 : j / 2 * 2 = j := by omega
    rw [e2, h] at a
    injection a with a
    exact .inl ⟨e2.symm, a⟩
  · have e2 : j / 2 * 2 + 1 = j := by omega
    rw [e2, h] at b
    injection b with b
    exact .inr ⟨e2.symm, b⟩
/-- waiting writes that came in -/
def WaitS (w : World) (A : Option Addr) (n c : Nat) (zs : List (Int × ByteArray)) : Prop :=
  n ≤ c ∧ c ≤ maxLen ∧ zs.length = n ∧ (∀ z ∈ zs, (-9223372036854775808 ≤ z.1 ∧ z.1 ≤ 9223372036854775807) ∧ z.2.size ≤ maxLen) ∧ Rd w 2 A n (waitCells zs)

section
variable {H : Type} {enc : TypeId × Value → H} {w : World} {base : Nat}
theorem waits_of_trod {c : Value} {n0 : Nat} {y : DataW H × List MemPlace} (h : DataW.trod enc Try.prog w 0 (fun _ => true) true n0 80 [c] = some y) :
    ∃ (A : Option Addr) (n c' : Nat) (zs : List (Int × ByteArray)), c = .slice A n c' ∧ WaitS w A n c' zs := by
  rcases open_slice_pairs Try.underlying80 Try.underlying117 (by kernel_rfl) (by kernel_rfl) (by kernel_rfl) (by kernel_rfl) (by kernel_rfl) h with ⟨hcs, _⟩ | ⟨a, len, cap, m, n, V0, V1, D0, D1, P0, P1, hcs, _, hl, hm, hmm, _, hcell⟩
  · simp only [List.cons.injEq, and_true] at hcs
    subst hcs
    exact ⟨none, 0, 0, [], rfl, Nat.le_refl _, by simp [maxLen], rfl, by simp, ⟨rfl, fun h => absurd h (by omega)⟩⟩
  · simp only [List.cons.injEq, and_true] at hcs
    subst hcs
    have hmc : m = cap := by simpa using hmm
    subst hmc
    have each : ∀ i, i < m → ∃ q : Int × ByteArray, V0 i = .int .i64 q.1 ∧ V1 i = .string q.2 ∧ (-9223372036854775808 ≤ q.1 ∧ q.1 ≤ 9223372036854775807) ∧ q.2.size ≤ maxLen := by
      intro i hi
      obtain ⟨_, _, h0, h1⟩ := hcell i hi
      obtain ⟨x0, e0, _, f0⟩ := DataW.trod_int Try.underlying3 h0
      obtain ⟨x1, e1, _, f1⟩ := DataW.trod_string Try.underlying9 h1
      simp only [List.cons.injEq, and_true] at e0 e1
      exact ⟨(x0, x1), e0, e1, bounds_i64 f0, f1⟩
    obtain ⟨q, hq⟩ := choose_lt each
    have hsp : 0 < len → ∃ b o, a = ⟨b, o, none⟩ ∧ b < w.heap.size := by
      intro hn
      obtain ⟨h0, _⟩ := hcell 0 (by omega)
      have hsp : a.spot = none := by simpa [Addr.add] using World.cell?_spot h0
      obtain ⟨b, o, sp⟩ := a
      subst hsp
      refine ⟨b, o, rfl, ?_⟩
      have : w.heap[b]? ≠ none := by
        intro he
        simp [World.cell?, he, Addr.add] at h0
      rcases Nat.lt_or_ge b w.heap.size with hl | hl
      · exact hl
      · exact absurd (Array.getElem?_eq_none hl) this
    refine ⟨some a, len, m, (List.range len).map q, rfl, hl, hm, by simp, ?_, ?_⟩
    · intro z hz
      obtain ⟨i, hi, rfl⟩ := List.mem_map.1 hz
      have hi2 : i < len := by simpa using hi
      exact (hq i (by omega)).2.2
    · refine ⟨by rw [waitCells_len]; simp, fun hn => ?_⟩
      obtain ⟨b, o, rfl, hb⟩ := hsp hn
      refine ⟨b, o, rfl, hb, fun j u hu => ?_⟩
      obtain ⟨k, z, hz, hju⟩ := waitCells_of _ j u hu
      rw [List.getElem?_map] at hz
      obtain ⟨k', hk', rfl⟩ := Option.map_eq_some_iff.1 hz
      have hk : k < len := by
        have := (List.getElem?_eq_some_iff.1 hk').1
        simpa using this
      rw [List.getElem?_range hk] at hk'
      injection hk' with hk'
      subst hk'
      obtain ⟨h0, h1, _, _⟩ := hcell k (by omega)
      obtain ⟨e0, e1, _⟩ := hq k (by omega)
      rw [Addr.add_lit] at h0 h1
      rcases hju with ⟨rfl, rfl⟩ | ⟨rfl, rfl⟩
      · rw [← e0]; exact h0
      · rw [← e1]; exact h1

theorem open_Disk {v : Value} {dd : DataW H} {p : List MemPlace} (hv : Value.okWide Try.prog w .any base 82 v) (h : DataW.Trod enc Try.prog w 0 (fun _ => true) true 82 v dd p) :
    ∃ (A1 A2 : Option Addr) (n1 n2 c1 c2 : Nat) (z1 : List ByteArray) (z2 : List (Int × ByteArray)) (g : Bool), v = .agg #[.slice A1 n1 c1, .slice A2 n2 c2, .bool g] ∧ Strs w A1 n1 c1 z1 ∧ WaitS w A2 n2 c2 z2 := by
  obtain ⟨cs, rfl, hsz⟩ := okWide_struct Try.underlying82 hv
  obtain ⟨l⟩ := cs
  have hl : l.length = 3 := hsz.trans (by kernel_rfl)
  obtain ⟨fuel, hf⟩ := h
  obtain ⟨xs, n, _, hx, _, hlen, hg⟩ := DataW.trod_struct Try.underlying82 hf
  match l, hl with
  | [c0, c1, c2], _ =>
    match xs, hlen with
    | [y0, y1, y2], _ =>
      have k0 : Try.prog.cellsOf 46 = 1 := by kernel_rfl
      have k1 : Try.prog.cellsOf 80 = 1 := by kernel_rfl
      have k2 : Try.prog.cellsOf 4 = 1 := by kernel_rfl
      have g0 : DataW.trod enc Try.prog w 0 (fun _ => true) true n 46 [c0] = some y0 := by simpa [Value.cells, k0] using hg 0 _ rfl
      have g1 : DataW.trod enc Try.prog w 0 (fun _ => true) true n 80 [c1] = some y1 := by simpa [Value.cells, k1] using hg 1 _ rfl
      have g2 : DataW.trod enc Try.prog w 0 (fun _ => true) true n 4 [c2] = some y2 := by simpa [Value.cells, k2] using hg 2 _ rfl
      obtain ⟨A1, n1, d1, z1, rfl, i1⟩ := strs_of_trod g0
      obtain ⟨A2, n2, d2, z2, rfl, i2⟩ := waits_of_trod g1
      obtain ⟨b, e2, _⟩ := DataW.trod_bool Try.underlying4 g2
      simp only [List.cons.injEq, and_true] at e2
      subst e2
      exact ⟨A1, A2, n1, n2, d1, d2, z1, z2, b, rfl, i1, i2⟩
end
end Go.Proofs.Ytcaoekaephnimaa
