/- From a row's seven laid variables to the facts of the walks. -/
import Derived.Test.YtmhbpmacfekhgaaDoorLaid
namespace Go.Proofs.YtmhbpmacfekhgaaDoor
open Go.RowKit

theorem err_met4 {a b c d e : String × DataW Unit} {r : List (String × DataW Unit)} {W : World} (h : laidMet Tryd.prog (a :: b :: c :: d :: e :: ("strconv.ErrSyntax", Rows.laid_strconv_ErrSyntax) :: r) W) : Err W := by
  obtain ⟨x, s, hv, _⟩ := laid_sentinel h.tail.tail.tail.tail.tail gErr (by kernel_rfl) Tryd.underlying76 rowErr Tryd.underlying132 Tryd.underlying134 rfl rfl Tryd.underlying9 (by kernel_rfl) (by kernel_rfl)
  exact ⟨_, _, hv⟩
end Go.Proofs.YtmhbpmacfekhgaaDoor
