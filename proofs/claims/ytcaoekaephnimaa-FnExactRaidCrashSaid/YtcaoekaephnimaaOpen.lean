/- What comes in, opened: bytes, integers, texts and pointers that a law is given, in the words of the walks. -/
import Derived.Test.YtcaoekaephnimaaBase
import Derived.ProofKit
import Derived.OpenShut
import Derived.SliceStrings
import Derived.Lib.SmallJoins
import Derived.Deep.Fields
namespace Go.Proofs.Ytcaoekaephnimaa
open Go.RowKit Go.ChangeShapes Go.WideShapes Go.Deep Go.Joins
set_option maxRecDepth 100000

section
variable {H : Type} {enc : TypeId × Value → H} {P : Program} {w : World} {base : Nat}

/-- a row of one-cell values, as read behind an address that came in -/
theorem Rd.of_cells {A : Addr} {n m : Nat} {f : Nat → Value} (hm : n ≤ m) (hc : ∀ i, i < m → w.cell? (A.add i) = some (f i)) : Rd w 1 (some A) n ((List.range n).map f) := by
  refine ⟨by simp, fun hn => ?_⟩
  have h0 := hc 0 (by omega)
  have hsp : A.spot = none := by simpa [Addr.add] using World.cell?_spot h0
  obtain ⟨b, o, sp⟩ := A
  subst hsp
  refine ⟨b, o, rfl, ?_, fun j u hu => ?_⟩
  · have : w.heap[b]? ≠ none := by
      intro he
      simp [World.cell?, he, Addr.add] at h0
    rcases Nat.lt_or_ge b w.heap.size with hl | hl
    · exact hl
    · exact absurd (Array.getElem?_eq_none hl) this
  · rw [List.getElem?_map] at hu
    obtain ⟨j', hj', rfl⟩ := Option.map_eq_some_iff.1 hu
    have hj : j < n := by
      have := (List.getElem?_eq_some_iff.1 hj').1
      simpa using this
    rw [List.getElem?_range hj] at hj'
    injection hj' with hj'
    subst hj'
    have := hc j (by omega)
    rwa [Addr.add_lit] at this

/-- bytes that came in -/
def U8s (w : World) (A : Option Addr) (n c : Nat) (zs : List Int) : Prop :=
  n ≤ c ∧ c ≤ maxLen ∧ zs.length = n ∧ (∀ z ∈ zs, 0 ≤ z ∧ z ≤ 255) ∧ Rd w 1 A n (zs.map (Value.int .u8))
/-- integers that came in -/
def I64s (w : World) (A : Option Addr) (n c : Nat) (zs : List Int) : Prop :=
  n ≤ c ∧ c ≤ maxLen ∧ zs.length = n ∧ (∀ z ∈ zs, -9223372036854775808 ≤ z ∧ z ≤ 9223372036854775807) ∧ Rd w 1 A n (zs.map (Value.int .i64))
/-- texts that came in -/
def Strs (w : World) (A : Option Addr) (n c : Nat) (ss : List ByteArray) : Prop :=
  n ≤ c ∧ c ≤ maxLen ∧ ss.length = n ∧ (∀ s ∈ ss, s.size ≤ maxLen) ∧ Rd w 1 A n (ss.map Value.string)

theorem map_range_take {α β : Type} (g : α → β) (d : α) (l : List α) (n : Nat) (h : n ≤ l.length) : (List.range n).map (fun i => g (l.getD i d)) = (l.take n).map g := by
  apply List.ext_getElem?
  intro i
  by_cases hi : i < n
  · have h1 : i < l.length := by omega
    simp [List.getElem?_range hi, List.getElem?_take_of_lt hi, List.getElem?_eq_getElem h1]
  · rw [List.getElem?_eq_none (by simp; omega), List.getElem?_eq_none (by simp; omega)]

theorem open_u8s {v : Value} {d : DataW H} {p : List MemPlace} (hv : Value.okWide Try.prog w .any base 43 v) (h : DataW.Trod enc Try.prog w 0 (fun _ => true) true 43 v d p) :
    ∃ (A : Option Addr) (n c : Nat) (zs : List Int), v = .slice A n c ∧ U8s w A n c zs := by
  obtain ⟨A, n, c, rfl⟩ := okWide_slice Try.underlying43 hv
  obtain ⟨fuel, hf⟩ := h
  rcases open_ints Try.underlying43 Try.underlying5 (by kernel_rfl) hf with ⟨hcs, _⟩ | ⟨x, l, c', zs, hcs, _, hl, hm, hz, _, hcell, hwz⟩
  · simp [Value.cells] at hcs
    obtain ⟨rfl, rfl, rfl⟩ := hcs
    exact ⟨none, 0, 0, [], rfl, Nat.le_refl _, by simp [maxLen], rfl, by simp, ⟨by simp, fun h => absurd h (by omega)⟩⟩
  · simp [Value.cells] at hcs
    obtain ⟨rfl, rfl, rfl⟩ := hcs
    have hz' : zs.length = c := by simpa using hz
    refine ⟨some x, n, c, zs.take n, rfl, hl, hm, by simp; omega, fun z hz => bounds_u8 (hwz z (List.mem_of_mem_take hz)), ?_⟩
    rw [← map_range_take (Value.int .u8) 0 zs n (by omega)]
    exact Rd.of_cells (by omega : n ≤ zs.length) hcell

theorem i64s_of_trod {c : Value} {n0 : Nat} {y : DataW H × List MemPlace} (h : DataW.trod enc Try.prog w 0 (fun _ => true) true n0 37 [c] = some y) :
    ∃ (A : Option Addr) (n c' : Nat) (zs : List Int), c = .slice A n c' ∧ I64s w A n c' zs := by
  rcases open_ints Try.underlying37 Try.underlying3 (by kernel_rfl) h with ⟨hcs, _⟩ | ⟨x, l, c', zs, hcs, _, hl, hm, hz, _, hcell, hwz⟩
  · simp only [List.cons.injEq, and_true] at hcs
    subst hcs
    exact ⟨none, 0, 0, [], rfl, Nat.le_refl _, by simp [maxLen], rfl, by simp, ⟨by simp, fun h => absurd h (by omega)⟩⟩
  · simp only [List.cons.injEq, and_true] at hcs
    subst hcs
    have hz' : zs.length = c' := by simpa using hz
    refine ⟨some x, l, c', zs.take l, rfl, hl, hm, by simp; omega, fun z hz => bounds_i64 (hwz z (List.mem_of_mem_take hz)), ?_⟩
    rw [← map_range_take (Value.int .i64) 0 zs l (by omega)]
    exact Rd.of_cells (by omega : l ≤ zs.length) hcell
theorem strs_of_trod {c : Value} {n0 : Nat} {y : DataW H × List MemPlace} (h : DataW.trod enc Try.prog w 0 (fun _ => true) true n0 46 [c] = some y) :
    ∃ (A : Option Addr) (n c' : Nat) (zs : List ByteArray), c = .slice A n c' ∧ Strs w A n c' zs := by
  rcases open_strings Try.underlying46 Try.underlying9 (by kernel_rfl) h with ⟨hcs, _⟩ | ⟨x, l, c', zs, hcs, _, hl, hm, hz, _, hcell, hwz⟩
  · simp only [List.cons.injEq, and_true] at hcs
    subst hcs
    exact ⟨none, 0, 0, [], rfl, Nat.le_refl _, by simp [maxLen], rfl, by simp, ⟨by simp, fun h => absurd h (by omega)⟩⟩
  · simp only [List.cons.injEq, and_true] at hcs
    subst hcs
    have hz' : zs.length = c' := by simpa using hz
    refine ⟨some x, l, c', zs.take l, rfl, hl, hm, by simp; omega, fun z hz => hwz z (List.mem_of_mem_take hz), ?_⟩
    rw [← map_range_take (Value.string) ByteArray.empty zs l (by omega)]
    exact Rd.of_cells (by omega : l ≤ zs.length) hcell
theorem open_i64s {v : Value} {d : DataW H} {p : List MemPlace} (_hv : Value.okWide Try.prog w .any base 37 v) (h : DataW.Trod enc Try.prog w 0 (fun _ => true) true 37 v d p) :
    ∃ (A : Option Addr) (n c : Nat) (zs : List Int), v = .slice A n c ∧ I64s w A n c zs := by
  obtain ⟨A, n, c, rfl⟩ := okWide_slice Try.underlying37 _hv
  obtain ⟨fuel, hf⟩ := h
  exact i64s_of_trod (by simpa [Value.cells] using hf)
theorem open_strs {v : Value} {d : DataW H} {p : List MemPlace} (_hv : Value.okWide Try.prog w .any base 46 v) (h : DataW.Trod enc Try.prog w 0 (fun _ => true) true 46 v d p) :
    ∃ (A : Option Addr) (n c : Nat) (ss : List ByteArray), v = .slice A n c ∧ Strs w A n c ss := by
  obtain ⟨A, n, c, rfl⟩ := okWide_slice Try.underlying46 _hv
  obtain ⟨fuel, hf⟩ := h
  exact strs_of_trod (by simpa [Value.cells] using hf)
end
end Go.Proofs.Ytcaoekaephnimaa
