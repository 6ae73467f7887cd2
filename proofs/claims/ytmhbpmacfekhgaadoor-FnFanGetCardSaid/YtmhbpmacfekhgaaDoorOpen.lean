/- What comes in, opened: bytes, integers, texts and pointers that a law is given, in the words of the walks. -/
import Derived.Test.YtmhbpmacfekhgaaDoorBase
import Derived.ProofKit
import Derived.OpenShut
import Derived.SliceStrings
import Derived.Lib.SmallJoins
import Derived.Deep.Fields
namespace Go.Proofs.YtmhbpmacfekhgaaDoor
open Go.RowKit Go.ChangeShapes Go.WideShapes Go.Deep Go.Joins
set_option maxRecDepth 100000

section
variable {H : Type} {enc : TypeId × Value → H} {P : Program} {w : World} {base : Nat}

/-- a row of one-cell values, as read behind an address that came in -/
theorem Rd.of_cells {A : Addr} {n m : Nat} {f : Nat → Value} (hm : n ≤ m) (hc : ∀ i, i < m → w.cell? (A.add i) = some (f i)) : Rd w 1 (some A) n ((List.range n).map f) := by
  refine ⟨by simp, fun hn => ?_⟩
  have h0 := hc 0 (by omega)
  have hsp : A.spot = none := by simpa [Addr.add] using World.cell?_spot h0
  obtain ⟨b, o, sp⟩ := A
  subst hsp
  refine ⟨b, o, rfl, ?_, fun j u hu => ?_⟩
  · have : w.heap[b]? ≠ none := by
      intro he
      simp [World.cell?, he, Addr.add] at h0
    rcases Nat.lt_or_ge b w.heap.size with hl | hl
    · exact hl
    · exact absurd (Array.getElem?_eq_none hl) this
  · rw [List.getElem?_map] at hu
    obtain ⟨j', hj', rfl⟩ := Option.map_eq_some_iff.1 hu
    have hj : j < n := by
      have := (List.getElem?_eq_some_iff.1 hj').1
      simpa using this
    rw [List.getElem?_range hj] at hj'
    injection hj' with hj'
    subst hj'
    have := hc j (by omega)
    rwa [Addr.add_lit] at this

/-- bytes that came in -/
def U8s (w : World) (A : Option Addr) (n c : Nat) (zs : List Int) : Prop :=
  n ≤ c ∧ c ≤ maxLen ∧ zs.length = n ∧ (∀ z ∈ zs, 0 ≤ z ∧ z ≤ 255) ∧ Rd w 1 A n (zs.map (Value.int .u8))
/-- integers that came in -/
def I64s (w : World) (A : Option Addr) (n c : Nat) (zs : List Int) : Prop :=
  n ≤ c ∧ c ≤ maxLen ∧ zs.length = n ∧ (∀ z ∈ zs, -9223372036854775808 ≤ z ∧ z ≤ 9223372036854775807) ∧ Rd w 1 A n (zs.map (Value.int .i64))
/-- texts that came in -/
def Strs (w : World) (A : Option Addr) (n c : Nat) (ss : List ByteArray) : Prop :=
  n ≤ c ∧ c ≤ maxLen ∧ ss.length = n ∧ (∀ s ∈ ss, s.size ≤ maxLen) ∧ Rd w 1 A n (ss.map Value.string)

theorem map_range_take {α β : Type} (g : α → β) (d : α) (l : List α) (n : Nat) (h : n ≤ l.length) : (List.range n).map (fun i => g (l.getD i d)) = (l.take n).map g := by
  apply List.ext_getElem?
  intro i
  by_cases hi : i < n
  · have h1 : i < l.length := by omega
    simp [List.getElem?_range hi, List.getElem?_take_of_lt hi, List.getElem?_eq_getElem h1]
  · rw [List.getElem?_eq_none (by simp; omega), List.getElem?_eq_none (by simp; omega)]

theorem open_u8s {v : Value} {d : DataW H} {p : List MemPlace} (hv : Value.okWide Tryd.prog w .any base 32 v) (h : DataW.Trod enc Tryd.prog w 0 (fun _ => true) true 32 v d p) :
    ∃ (A : Option Addr) (n c : Nat) (zs : List Int), v = .slice A n c ∧ U8s w A n c zs := by
  obtain ⟨A, n, c, rfl⟩ := okWide_slice Tryd.underlying32 hv
  obtain ⟨fuel, hf⟩ := h
  rcases open_ints Tryd.underlying32 Tryd.underlying5 (by kernel_rfl) hf with ⟨hcs, _⟩ | ⟨x, l, c', zs, hcs, _, hl, hm, hz, _, hcell, hwz⟩
  · simp [Value.cells] at hcs
    obtain ⟨rfl, rfl, rfl⟩ := hcs
    exact ⟨none, 0, 0, [], rfl, Nat.le_refl _, by simp [maxLen], rfl, by simp, ⟨by simp, fun h => absurd h (by omega)⟩⟩
  · simp [Value.cells] at hcs
    obtain ⟨rfl, rfl, rfl⟩ := hcs
    have hz' : zs.length = c := by simpa using hz
    refine ⟨some x, n, c, zs.take n, rfl, hl, hm, by simp; omega, fun z hz => bounds_u8 (hwz z (List.mem_of_mem_take hz)), ?_⟩
    rw [← map_range_take (Value.int .u8) 0 zs n (by omega)]
    exact Rd.of_cells (by omega : n ≤ zs.length) hcell

theorem i64s_of_trod {c : Value} {n0 : Nat} {y : DataW H × List MemPlace} (h : DataW.trod enc Tryd.prog w 0 (fun _ => true) true n0 57 [c] = some y) :
    ∃ (A : Option Addr) (n c' : Nat) (zs : List Int), c = .slice A n c' ∧ I64s w A n c' zs := by
  rcases open_ints Tryd.underlying57 Tryd.underlying3 (by kernel_rfl) h with ⟨hcs, _⟩ | ⟨x, l, c', zs, hcs, _, hl, hm, hz, _, hcell, hwz⟩
  · simp only [List.cons.injEq, and_true] at hcs
    subst hcs
    exact ⟨none, 0, 0, [], rfl, Nat.le_refl _, by simp [maxLen], rfl, by simp, ⟨by simp, fun h => absurd h (by omega)⟩⟩
  · simp only [List.cons.injEq, and_true] at hcs
    subst hcs
    have hz' : zs.length = c' := by simpa using hz
    refine ⟨some x, l, c', zs.take l, rfl, hl, hm, by simp; omega, fun z hz => bounds_i64 (hwz z (List.mem_of_mem_take hz)), ?_⟩
    rw [← map_range_take (Value.int .i64) 0 zs l (by omega)]
    exact Rd.of_cells (by omega : l ≤ zs.length) hcell
theorem strs_of_trod {c : Value} {n0 : Nat} {y : DataW H × List MemPlace} (h : DataW.trod enc Tryd.prog w 0 (fun _ => true) true n0 51 [c] = some y) :
    ∃ (A : Option Addr) (n c' : Nat) (zs : List ByteArray), c = .slice A n c' ∧ Strs w A n c' zs := by
  rcases open_strings Tryd.underlying51 Tryd.underlying9 (by kernel_rfl) h with ⟨hcs, _⟩ | ⟨x, l, c', zs, hcs, _, hl, hm, hz, _, hcell, hwz⟩
  · simp only [List.cons.injEq, and_true] at hcs
    subst hcs
    exact ⟨none, 0, 0, [], rfl, Nat.le_refl _, by simp [maxLen], rfl, by simp, ⟨by simp, fun h => absurd h (by omega)⟩⟩
  · simp only [List.cons.injEq, and_true] at hcs
    subst hcs
    have hz' : zs.length = c' := by simpa using hz
    refine ⟨some x, l, c', zs.take l, rfl, hl, hm, by simp; omega, fun z hz => hwz z (List.mem_of_mem_take hz), ?_⟩
    rw [← map_range_take (Value.string) ByteArray.empty zs l (by omega)]
    exact Rd.of_cells (by omega : l ≤ zs.length) hcell
theorem open_i64s {v : Value} {d : DataW H} {p : List MemPlace} (_hv : Value.okWide Tryd.prog w .any base 57 v) (h : DataW.Trod enc Tryd.prog w 0 (fun _ => true) true 57 v d p) :
    ∃ (A : Option Addr) (n c : Nat) (zs : List Int), v = .slice A n c ∧ I64s w A n c zs := by
  obtain ⟨A, n, c, rfl⟩ := okWide_slice Tryd.underlying57 _hv
  obtain ⟨fuel, hf⟩ := h
  exact i64s_of_trod (by simpa [Value.cells] using hf)
theorem open_strs {v : Value} {d : DataW H} {p : List MemPlace} (_hv : Value.okWide Tryd.prog w .any base 51 v) (h : DataW.Trod enc Tryd.prog w 0 (fun _ => true) true 51 v d p) :
    ∃ (A : Option Addr) (n c : Nat) (ss : List ByteArray), v = .slice A n c ∧ Strs w A n c ss := by
  obtain ⟨A, n, c, rfl⟩ := okWide_slice Tryd.underlying51 _hv
  obtain ⟨fuel, hf⟩ := h
  exact strs_of_trod (by simpa [Value.cells] using hf)
end

/-- five integers that fit -/
def Fit5 (a b c d e : Int) : Prop := (-9223372036854775808 ≤ a ∧ a ≤ 9223372036854775807) ∧ (-9223372036854775808 ≤ b ∧ b ≤ 9223372036854775807) ∧ (-9223372036854775808 ≤ c ∧ c ≤ 9223372036854775807) ∧ (-9223372036854775808 ≤ d ∧ d ≤ 9223372036854775807) ∧ (-9223372036854775808 ≤ e ∧ e ≤ 9223372036854775807)
theorem open_Ptr {H : Type} {enc : TypeId × Value → H} {w : World} {base : Nat} {v : Value} {dd : DataW H} {p : List MemPlace} (hv : Value.okWide Tryd.prog w .any base 23 v) (h : DataW.Trod enc Tryd.prog w 0 (fun _ => true) true 23 v dd p) :
    ∃ a b c d e : Int, v = .agg #[.int .i64 a, .int .i64 b, .int .i64 c, .int .i64 d, .int .i64 e] ∧ Fit5 a b c d e := by
  obtain ⟨cs, rfl, hsz⟩ := okWide_struct Tryd.underlying23 hv
  obtain ⟨l⟩ := cs
  have hl : l.length = 5 := hsz.trans (by kernel_rfl)
  obtain ⟨fuel, hf⟩ := h
  obtain ⟨xs, n, _, hx, _, hlen, hg⟩ := DataW.trod_struct Tryd.underlying23 hf
  match l, hl with
  | [c0, c1, c2, c3, c4], _ =>
    match xs, hlen with
    | [y0, y1, y2, y3, y4], _ =>
      have k : Tryd.prog.cellsOf 3 = 1 := by kernel_rfl
      have g0 : DataW.trod enc Tryd.prog w 0 (fun _ => true) true n 3 [c0] = some y0 := by simpa [Value.cells, k] using hg 0 _ rfl
      have g1 : DataW.trod enc Tryd.prog w 0 (fun _ => true) true n 3 [c1] = some y1 := by simpa [Value.cells, k] using hg 1 _ rfl
      have g2 : DataW.trod enc Tryd.prog w 0 (fun _ => true) true n 3 [c2] = some y2 := by simpa [Value.cells, k] using hg 2 _ rfl
      have g3 : DataW.trod enc Tryd.prog w 0 (fun _ => true) true n 3 [c3] = some y3 := by simpa [Value.cells, k] using hg 3 _ rfl
      have g4 : DataW.trod enc Tryd.prog w 0 (fun _ => true) true n 3 [c4] = some y4 := by simpa [Value.cells, k] using hg 4 _ rfl
      obtain ⟨n0, e0, _, f0⟩ := DataW.trod_int Tryd.underlying3 g0
      obtain ⟨n1, e1, _, f1⟩ := DataW.trod_int Tryd.underlying3 g1
      obtain ⟨n2, e2, _, f2⟩ := DataW.trod_int Tryd.underlying3 g2
      obtain ⟨n3, e3, _, f3⟩ := DataW.trod_int Tryd.underlying3 g3
      obtain ⟨n4, e4, _, f4⟩ := DataW.trod_int Tryd.underlying3 g4
      simp only [List.cons.injEq, and_true] at e0 e1 e2 e3 e4
      subst e0 e1 e2 e3 e4
      exact ⟨n0, n1, n2, n3, n4, rfl, bounds_i64 f0, bounds_i64 f1, bounds_i64 f2, bounds_i64 f3, bounds_i64 f4⟩
end Go.Proofs.YtmhbpmacfekhgaaDoor
