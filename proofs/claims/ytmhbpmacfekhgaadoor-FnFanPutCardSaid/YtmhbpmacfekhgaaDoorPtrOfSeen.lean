/- The walk of the law FnPtrOf. -/
import Derived.Test.YtmhbpmacfekhgaaDoorDrawPtr
namespace Go.Proofs.YtmhbpmacfekhgaaDoor
open Go.RowKit
set_option linter.unusedVariables false

theorem OfPost.iff_no {a b e : Int} {s : ByteArray} {w : World} {r : Ending} {w' : World} (h : ofB a b e s = false) (hp : OfPost a b e s w r w') : r = .returned (.tuple #[.agg #[.int .i64 0, .int .i64 0, .int .i64 0, .int .i64 0, .int .i64 0], .bool false]) ∧ Below w.heap.size w w' := by
  obtain ⟨h1, h2⟩ := hp
  rw [h] at h1
  exact ⟨h1, h2⟩
theorem OfPost.iff_yes {a b e : Int} {s : ByteArray} {w : World} {r : Ending} {w' : World} (h : ofB a b e s = true) (hp : OfPost a b e s w r w') : r = .returned (.tuple #[.agg #[.int .i64 a, .int .i64 b, .int .i64 s.size, .int .i64 (sumOf s.data.toList), .int .i64 e], .bool true]) ∧ Below w.heap.size w w' := by
  obtain ⟨h1, h2⟩ := hp
  rw [h, if_pos rfl] at h1
  exact ⟨h1, h2⟩
theorem of_yes {a b e : Int} {s : ByteArray} (h : ofB a b e s = true) : okB a b s.size (sumOf s.data.toList) e = true ∧ holeB a b s.size (sumOf s.data.toList) e = false ∧ fitsB a b s.size (sumOf s.data.toList) e s = true := by
  have h0 := h
  unfold ofB at h
  rw [Bool.and_eq_true] at h
  obtain ⟨h1, h2⟩ := h
  have hh : holeB a b s.size (sumOf s.data.toList) e = false := by
    have : ¬ ((s.size : Int) = 0) := by
      simp only [inR, Bool.and_eq_true, decide_eq_true_eq] at h1
      omega
    unfold holeB
    rw [show ((s.size : Int) == 0) = false by rw [beq_eq_false_iff_ne]; exact this]
    simp
  refine ⟨h2, hh, ?_⟩
  unfold fitsB
  rw [h2, hh]
  simp

end Go.Proofs.YtmhbpmacfekhgaaDoor
