/- l91Row draws a row; DrawPtrOf draws what PtrOf is asked. -/
import Derived.Test.YtmhbpmacfekhgaaDoorBlock
import Derived.Test.YtmhbpmacfekhgaaDoorPtrD
import Derived.Deep.DeepCutAuto
namespace Go.Proofs.YtmhbpmacfekhgaaDoor
open Go.RowKit
set_option linter.unusedVariables false

theorem pickI {w : World} {g j : Nat} {t : TypeId} {l : List Int} (h : Bk w g t (l.map (Value.int .i64)).toArray) (hj : j < l.length) : ∃ y : Int, w.cell? ⟨g, j, none⟩ = some (.int .i64 y) := by
  refine ⟨l[j], ?_⟩
  rw [h.cell]
  simp [List.getElem?_eq_getElem hj]
theorem pickL {j : Nat} {l : List Int} (hj : j < l.length) : ∃ y : Int, (l.map (Value.int .i64))[j]? = some (.int .i64 y) := ⟨l[j], by simp [List.getElem?_eq_getElem hj]⟩
/-- a number is drawn -/
def RowPost (R p d : Nat) (w : World) (r : Ending) (w' : World) : Prop := ∃ (v : Int) (q : Nat), r = .returned (.int .i64 v) ∧ q ≤ p + d ∧ Rdr w' R q ∧ Fr (· = R) w w'

set_option maxHeartbeats 1000000 in
theorem l91Row_any (R p : Nat) (w : World) (hr : Rdr w R p) (hp : p ≤ 800000) :
    Calls Tryd.prog 68 #[.pointer (some ⟨R, 0, none⟩)] w (RowPost R p 3 w) := by
  have HR := hide hr
  clear hr
  go_enter Tryd.func68, Tryd.ntmps68
  go_wp2_with fail
  refine (pick_any R p 8 _ HR.out (by omega) (by omega) (by omega)).mono ?_; rintro r w1 ⟨v, rfl, v0, v1, _, hr1, hf1⟩
  have HR := hide hr1
  have HF := hide hf1
  clear hr1 hf1 v1
  by_cases e0 : v = 0
  · subst e0
    have hlt : ¬ w1.heap.size = R := by have := HR.out.lt; omega
    have HK := hide (Bk.fresh w1 3 #[.int .i64 (-1), .int .i64 0, .int .i64 3, .int .i64 7, .int .i64 64, .int .i64 63])
    have HR := hide (HR.out.after (bel1 w1 (.cells #[.int .i64 (-1), .int .i64 0, .int .i64 3, .int .i64 7, .int .i64 64, .int .i64 63] 3)))
    have HF := hide (HF.out.alloc (.cells #[.int .i64 (-1), .int .i64 0, .int .i64 3, .int .i64 7, .int .i64 64, .int .i64 63] 3))
    go_wp2_with fail
    refine (pick_any R (p + 1) 6 _ HR.out (by omega) (by omega) (by omega)).mono ?_; rintro r w2 ⟨x, rfl, x0, x1, _, hr2, hf2⟩
    have x6 := x1 (by omega)
    obtain ⟨j, rfl⟩ : ∃ j : Nat, x = (j : Int) := ⟨x.toNat, by omega⟩
    obtain ⟨y, hy⟩ := pickI (l := [-1, 0, 3, 7, 64, 63]) (HK.out.fr hf2 hlt) (show j < 6 by omega)
    have HR := hide hr2
    have HF := hide (HF.out.trans hf2)
    clear hr2 hf2 x1
    go_wp2_with fail
    go_ret
    exact ⟨y, p + 1 + 1, rfl, by omega, HR.out, HF.out⟩
  · have z0 : (v == 0) = false := by rw [beq_eq_false_iff_ne]; exact e0
    go_wp2_with fail
    refine (pick_any R (p + 1) 12 _ HR.out (by omega) (by omega) (by omega)).mono ?_; rintro r w2 ⟨x, rfl, x0, x1, _, hr2, hf2⟩
    have x6 := x1 (by omega)
    have jw : IntKind.i64.wrap (8 + x) = 8 + x := by rw [IntKind.wrap_i64]; omega
    have HR := hide hr2
    have HF := hide (HF.out.trans hf2)
    clear hr2 hf2 x1
    go_wp2_with fail
    go_ret
    exact ⟨8 + x, p + 1 + 1, rfl, by omega, HR.out, HF.out⟩
/-- what DrawPtrOf draws -/
def DrawnO (w : World) (r : Ending) (w' : World) : Prop := ∃ (a b e : Int) (s : ByteArray), r = .returned (.tuple #[.int .i64 a, .int .i64 b, .int .i64 e, .string s]) ∧ s.size ≤ 129 ∧ Below w.heap.size w w'
theorem fresh_of {w : World} {R p : Nat} (_ : Rdr w R p) (t : TypeId) (cs : Array Value) : Bk (w.alloc (.cells cs t)) w.heap.size t cs := Bk.fresh _ _ _

end Go.Proofs.YtmhbpmacfekhgaaDoor
