/- PtrFits of the program and of the reference: they answer whether size and checksum fit. -/
import Derived.Test.YtmhbpmacfekhgaaDoorPtrB
import Derived.Deep.RegionHeld
namespace Go.Proofs.YtmhbpmacfekhgaaDoor
open Go.RowKit

/-- a pointer fits a text -/
def fitsB (a b c d e : Int) (s : ByteArray) : Bool := okB a b c d e && !holeB a b c d e && c == (s.size : Int) && d == sumOf s.data.toList

theorem implPtrOk_v {a b c d e : Int} {v : Bool} (h : okB a b c d e = v) (w : World) :
    Calls Tryd.prog 22 #[.agg #[.int .i64 a, .int .i64 b, .int .i64 c, .int .i64 d, .int .i64 e]] w fun r w' => r = .returned (.bool v) ∧ Below w.heap.size w w' := h ▸ implPtrOk_any a b c d e w
theorem implPtrHole_v {a b c d e : Int} {v : Bool} (h : holeB a b c d e = v) (w : World) :
    Calls Tryd.prog 24 #[.agg #[.int .i64 a, .int .i64 b, .int .i64 c, .int .i64 d, .int .i64 e]] w fun r w' => r = .returned (.bool v) ∧ Below w.heap.size w w' := h ▸ implPtrHole_any a b c d e w
theorem specPtrOk_v {a b c d e : Int} {v : Bool} (h : okB a b c d e = v) (w : World) :
    Calls Tryd.prog 27 #[.agg #[.int .i64 a, .int .i64 b, .int .i64 c, .int .i64 d, .int .i64 e]] w fun r w' => r = .returned (.bool v) ∧ Below w.heap.size w w' := h ▸ specPtrOk_any a b c d e w
theorem specPtrHole_v {a b c d e : Int} {v : Bool} (h : holeB a b c d e = v) (w : World) :
    Calls Tryd.prog 25 #[.agg #[.int .i64 a, .int .i64 b, .int .i64 c, .int .i64 d, .int .i64 e]] w fun r w' => r = .returned (.bool v) ∧ Below w.heap.size w w' := h ▸ specPtrHole_any a b c d e w

end Go.Proofs.YtmhbpmacfekhgaaDoor
