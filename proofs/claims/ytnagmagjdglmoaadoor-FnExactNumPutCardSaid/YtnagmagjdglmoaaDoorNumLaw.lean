/- The laws of NumPut and NumGet, walked. -/
import Derived.Test.YtnagmagjdglmoaaDoorNum
namespace Go.Proofs.YtnagmagjdglmoaaDoor
open Go.RowKit
set_option linter.unusedVariables false

theorem numPutLaw (n : Int) (h0 : (Lit.int .i64 n).wf = true) (W : World) (ht : Tab W) :
    Calls Tryd.prog 3 #[.int .i64 n] W fun r w' => r = .returned (.bool true) ∧ Below W.heap.size W w' := by
  have HT := hide ht
  clear ht
  go_enter Tryd.func3, Tryd.ntmps3
  go_wp2_with fail
  refine (specNumPut_any n _).mono ?_; rintro r w1 ⟨rfl, hb1⟩
  go_wp2_with fail
  refine (implNumPut_any n _ (HT.out.after hb1)).mono ?_; rintro r w2 ⟨rfl, hb2⟩
  go_wp2_with fail
  go_ret
  exact ⟨rfl, hb1.trans (hb2.mono hb1.size)⟩
end Go.Proofs.YtnagmagjdglmoaaDoor
