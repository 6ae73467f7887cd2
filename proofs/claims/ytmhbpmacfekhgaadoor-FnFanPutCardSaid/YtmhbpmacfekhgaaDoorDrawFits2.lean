/- DrawPtrFits draws what PtrFits is asked; the walk of the law FnPtrFits. -/
import Derived.Test.YtmhbpmacfekhgaaDoorDrawFits
import Derived.Test.YtmhbpmacfekhgaaDoorDrawSum
import Derived.Test.YtmhbpmacfekhgaaDoorPtrOfSeen
namespace Go.Proofs.YtmhbpmacfekhgaaDoor
open Go.RowKit
set_option linter.unusedVariables false

theorem bel5 {B : Nat} {w0 w : World} {g : Nat} (h : Below B w0 w) (hg : B ≤ g) (a b c d e : Value) : Below B w0 (((((w.setCell ⟨g, 0, none⟩ a).setCell ⟨g, 1, none⟩ b).setCell ⟨g, 2, none⟩ c).setCell ⟨g, 3, none⟩ d).setCell ⟨g, 4, none⟩ e) :=
  ((((h.setCell (p := ⟨g, 0, none⟩) hg a).setCell (p := ⟨g, 1, none⟩) hg b).setCell (p := ⟨g, 2, none⟩) hg c).setCell (p := ⟨g, 3, none⟩) hg d).setCell (p := ⟨g, 4, none⟩) hg e
/-- what DrawPtrFits draws -/
def DrawnF (w : World) (r : Ending) (w' : World) : Prop := ∃ (a b c d e : Int) (s : ByteArray), r = .returned (.tuple #[.agg #[.int .i64 a, .int .i64 b, .int .i64 c, .int .i64 d, .int .i64 e], .string s]) ∧ s.size ≤ 129 ∧ Below w.heap.size w w'
theorem fr_new2 {B : Nat} {a b c : World} (h : Below B a b) {R : Nat} (hB : B ≤ a.heap.size) (hR : B ≤ R) (k : Fr (· = R) b c) : Below B a c := h.trans (k.below (Nat.le_trans hB h.size) (fun i e => by rw [e]; exact hR))

theorem ByteRow.below {B : Nat} {w w' : World} {g : Nat} {l : List UInt8} (h : ByteRow w g l) (hb : Below B w w') (hg : g < B) : ByteRow w' g l := fun j b hj => by
  obtain ⟨h1, h2⟩ := h j b hj
  have e := hb.block g hg
  refine ⟨?_, ?_⟩
  · rw [← h1]; simp only [World.cell?, e]
  · rw [← h2]; simp only [World.frozen?, e]
theorem fits_yes {a b c d e : Int} {s : ByteArray} (h : fitsB a b c d e s = true) : c = (s.size : Int) ∧ d = sumOf s.data.toList ∧ 0 < s.size ∧ s.size ≤ 128 := by
  unfold fitsB at h
  simp only [Bool.and_eq_true, beq_iff_eq, Bool.not_eq_true'] at h
  obtain ⟨⟨⟨h1, h2⟩, h3⟩, h4⟩ := h
  refine ⟨h3, h4, ?_⟩
  unfold okB at h1
  rw [h2] at h1
  simp only [Bool.false_or, Bool.and_eq_true, inR, decide_eq_true_eq] at h1
  omega
theorem fits_no {a b e : Int} {c : Int} {s t : ByteArray} (h : sumOf t.data.toList ≠ sumOf s.data.toList) : fitsB a b c (sumOf s.data.toList) e t = false := by
  unfold fitsB
  rw [show (sumOf s.data.toList == sumOf t.data.toList) = false by rw [beq_eq_false_iff_ne]; exact fun e => h e.symm]
  simp
end Go.Proofs.YtmhbpmacfekhgaaDoor
