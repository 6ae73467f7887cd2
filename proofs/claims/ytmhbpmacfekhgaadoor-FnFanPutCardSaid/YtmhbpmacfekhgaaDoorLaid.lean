/- From a row's laid variables to the facts of the walks. -/
import Derived.Test.YtmhbpmacfekhgaaDoorNum
import Derived.Test.YtmhbpmacfekhgaaDoorRows
import Derived.Stop.LaidErr
import Derived.LaidMore
import Derived.Stop.Joined
namespace Go.Proofs.YtmhbpmacfekhgaaDoor
open Go.RowKit

theorem tabData_eq : (Rows.laid_internal_strconv_uint64pow10 : DataW Unit) = Lib.tabData .u64 Lib.pow10Tab := by kernel_rfl
theorem tab_met {a b : String × DataW Unit} {r : List (String × DataW Unit)} {W : World} (h : laidMet Tryd.prog (a :: b :: ("internal/strconv.uint64pow10", Rows.laid_internal_strconv_uint64pow10) :: r) W) : Tab W := by
  rw [tabData_eq] at h
  exact Lib.tabIs_of_head gTab (by kernel_rfl) Tryd.underlying121 Tryd.underlying108 (by kernel_rfl) (by kernel_rfl) h.tail.tail
/-- the error that strconv gives is as it was laid -/
def Err (w : World) : Prop := ∃ tp p, w.var? Tryd.prog "strconv.ErrSyntax" = some #[.iface tp p]
theorem gErr : Tryd.prog.globalNamed "strconv.ErrSyntax" = some 1 := by kernel_rfl
theorem Err.after {w w' : World} (h : Err w) (hb : Below w.heap.size w w') : Err w' := by
  obtain ⟨tp, p, h⟩ := h
  exact ⟨tp, p, var?_below hb gErr (by have := World.var?_cell gErr h 0; exact lt_cell this) h⟩
theorem starE : "*" ++ "errors.errorString" = "*errors.errorString" := by decide
theorem rowErr (u : TypeId) (h : Tryd.prog.typeName? 3 u = some "*errors.errorString") : u = 132 :=
  typeName_ptr_named (nm := "errors.errorString") (by rw [starE]; kernel_rfl) (by kernel_rfl) (by decide) u (by rw [starE]; exact h)
theorem err_met {a b c d : String × DataW Unit} {r : List (String × DataW Unit)} {W : World} (h : laidMet Tryd.prog (a :: b :: c :: d :: ("strconv.ErrSyntax", Rows.laid_strconv_ErrSyntax) :: r) W) : Err W := by
  obtain ⟨x, s, hv, _⟩ := laid_sentinel h.tail.tail.tail.tail gErr (by kernel_rfl) Tryd.underlying76 rowErr Tryd.underlying132 Tryd.underlying134 rfl rfl Tryd.underlying9 (by kernel_rfl) (by kernel_rfl)
  exact ⟨_, _, hv⟩
end Go.Proofs.YtmhbpmacfekhgaaDoor
