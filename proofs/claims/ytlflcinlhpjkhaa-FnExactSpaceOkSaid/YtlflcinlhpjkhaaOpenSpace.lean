/- A space that came in, opened: two rows of integers. -/
import Derived.Test.YtlflcinlhpjkhaaOpen
namespace Go.Proofs.Ytlflcinlhpjkhaa
open Go.RowKit Go.ChangeShapes Go.WideShapes Go.Deep Go.Joins

theorem open_Space {H : Type} {enc : TypeId × Value → H} {w : World} {base : Nat} {v : Value} {dd : DataW H} {p : List MemPlace} (hv : Value.okWide Try.prog w .any base 44 v) (h : DataW.Trod enc Try.prog w 0 (fun _ => true) true 44 v dd p) :
    ∃ (A1 A2 : Option Addr) (n1 n2 c1 c2 : Nat) (z1 z2 : List Int), v = .agg #[.slice A1 n1 c1, .slice A2 n2 c2] ∧ I64s w A1 n1 c1 z1 ∧ I64s w A2 n2 c2 z2 := by
  obtain ⟨cs, rfl, hsz⟩ := okWide_struct Try.underlying44 hv
  obtain ⟨l⟩ := cs
  have hl : l.length = 2 := hsz.trans (by kernel_rfl)
  obtain ⟨fuel, hf⟩ := h
  obtain ⟨xs, n, _, hx, _, hlen, hg⟩ := DataW.trod_struct Try.underlying44 hf
  match l, hl with
  | [c0, c1], _ =>
    match xs, hlen with
    | [y0, y1], _ =>
      have k : Try.prog.cellsOf 33 = 1 := by kernel_rfl
      have g0 : DataW.trod enc Try.prog w 0 (fun _ => true) true n 33 [c0] = some y0 := by simpa [Value.cells, k] using hg 0 _ rfl
      have g1 : DataW.trod enc Try.prog w 0 (fun _ => true) true n 33 [c1] = some y1 := by simpa [Value.cells, k] using hg 1 _ rfl
      obtain ⟨A1, n1, d1, z1, rfl, i1⟩ := i64s_of_trod g0
      obtain ⟨A2, n2, d2, z2, rfl, i2⟩ := i64s_of_trod g1
      exact ⟨A1, A2, n1, n2, d1, d2, z1, z2, rfl, i1, i2⟩
end Go.Proofs.Ytlflcinlhpjkhaa
