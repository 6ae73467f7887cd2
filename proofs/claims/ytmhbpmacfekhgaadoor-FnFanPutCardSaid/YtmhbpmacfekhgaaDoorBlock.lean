/- l6Many repeats a text; l91Block draws a block. -/
import Derived.Test.YtmhbpmacfekhgaaDoorText
import Derived.Test.YtmhbpmacfekhgaaDoorStrs
namespace Go.Proofs.YtmhbpmacfekhgaaDoor
open Go.RowKit
set_option linter.unusedVariables false

/-- what is drawn: a text of at most n bytes; the reader has gone on by at most d -/
def DrawnB (R p d n : Nat) (w : World) (r : Ending) (w' : World) : Prop :=
  ∃ (s : ByteArray) (q : Nat), r = .returned (.string s) ∧ s.size ≤ n ∧ q ≤ p + d ∧ Rdr w' R q ∧ Fr (· = R) w w'

end Go.Proofs.YtmhbpmacfekhgaaDoor
