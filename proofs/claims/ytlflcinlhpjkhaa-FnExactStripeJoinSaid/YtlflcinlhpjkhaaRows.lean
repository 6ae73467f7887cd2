/-
  No cell of these rows narrows 'for every input' (looked for: loops, veiled, ifaces, maps, wideKeys, modest, calm, conditions, laid).
  DERIVED. THE GIVEN ROWS OF THIS SEAT. 12 by the template 'for every input the law returns true; each argument reads behind the call as it read before'; 0 by the template 'total and deterministic' (their statements: YtlflcinlhpjkhaaTotals.lean).
  GIVEN WITH THE SEED: the statements are not yours to turn. If you find one false, say at which input.
  Laid BY PROGRAM, IN A SANDBOX (cutbox-rows.mjs): the forced cells as the released guide's own fill.sh prints them over the translation dc329a5dfa9c3422… (all of the seat's roots in one cut). By AI agents, Wed Nov 11 2026. No macro, syntax, notation, axiom, sorry.
-/
import Derived.Test.YtlflcinlhpjkhaaChecked
import GoSem.Claim
import GoSem.ClaimJoined
import GoSem.ClaimMapViews
import Derived.JoinedTies
import Derived.KernelRfl
namespace Go.Proofs.Ytlflcinlhpjkhaa
/- THE CELL 'sum', in the pinned program and in every row, IS THE sha256 OF THE DUMP (.gsa) THAT YtlflcinlhpjkhaaProg.lean LOADS. Nothing in Lean hashes anything: it is a label: what it is worth is what the hold of that sum in a sandbox is worth. -/
noncomputable def Try.pinned : Pinned := { name := "ytlflcinlhpjkhaa", sum := "dc329a5dfa9c342284647d3373aa82fb128dc4e446b606461b96ecde62832f99", checked := Try.checked }
namespace Rows
def none {H : Type} : Left H := { results := [], args := [] }

/-- 'laws.FnExactConstants': WHATEVER THE INPUT: true; the input reads as it did. -/
def fnExactConstantsSpec : ChangeSpec := { name := "fnExactConstants", fn := fun _ => fun
  | [] => { results := [.lit (.bool true)], args := [] }
  | _ => none }
def fnExactConstantsRow : OpenClaim := { program := "ytlflcinlhpjkhaa", sum := "dc329a5dfa9c342284647d3373aa82fb128dc4e446b606461b96ecde62832f99", func := "loop.example/poolfiles/laws.FnExactConstants", spec := "fnExactConstants", apart := false }
def FnExactConstantsSaid : Prop := fnExactConstantsRow.holds Try.pinned (OpenSpec.ofChange fnExactConstantsSpec)

/-- ITS FALSE NEIGHBOUR: 'it returns false'. Refute it at one input. -/
def fnExactConstantsWrong : ChangeSpec := { name := "fnExactConstants", fn := fun _ => fun
  | [] => { results := [.lit (.bool false)], args := [] }
  | _ => none }
def FnExactConstantsWrongFalsely : Prop := fnExactConstantsRow.holds Try.pinned (OpenSpec.ofChange fnExactConstantsWrong)

/-- 'laws.FnExactPtrHole': WHATEVER THE INPUT: true; the input reads as it did. -/
def fnExactPtrHoleSpec : ChangeSpec := { name := "fnExactPtrHole", fn := fun _ => fun
  | [d] => { results := [.lit (.bool true)], args := [d] }
  | _ => none }
def fnExactPtrHoleRow : OpenClaim := { program := "ytlflcinlhpjkhaa", sum := "dc329a5dfa9c342284647d3373aa82fb128dc4e446b606461b96ecde62832f99", func := "loop.example/poolfiles/laws.FnExactPtrHole", spec := "fnExactPtrHole", apart := false }
def FnExactPtrHoleSaid : Prop := fnExactPtrHoleRow.holds Try.pinned (OpenSpec.ofChange fnExactPtrHoleSpec)

/-- ITS FALSE NEIGHBOUR: 'it returns false'. Refute it at one input. -/
def fnExactPtrHoleWrong : ChangeSpec := { name := "fnExactPtrHole", fn := fun _ => fun
  | [d] => { results := [.lit (.bool false)], args := [d] }
  | _ => none }
def FnExactPtrHoleWrongFalsely : Prop := fnExactPtrHoleRow.holds Try.pinned (OpenSpec.ofChange fnExactPtrHoleWrong)

/-- 'laws.FnExactSumOf': WHATEVER THE INPUT: true; the input reads as it did. -/
def fnExactSumOfSpec : ChangeSpec := { name := "fnExactSumOf", fn := fun _ => fun
  | [d] => { results := [.lit (.bool true)], args := [d] }
  | _ => none }
def fnExactSumOfRow : OpenClaim := { program := "ytlflcinlhpjkhaa", sum := "dc329a5dfa9c342284647d3373aa82fb128dc4e446b606461b96ecde62832f99", func := "loop.example/poolfiles/laws.FnExactSumOf", spec := "fnExactSumOf", apart := false }
def FnExactSumOfSaid : Prop := fnExactSumOfRow.holds Try.pinned (OpenSpec.ofChange fnExactSumOfSpec)

/-- ITS FALSE NEIGHBOUR: 'it returns false'. Refute it at one input. -/
def fnExactSumOfWrong : ChangeSpec := { name := "fnExactSumOf", fn := fun _ => fun
  | [d] => { results := [.lit (.bool false)], args := [d] }
  | _ => none }
def FnExactSumOfWrongFalsely : Prop := fnExactSumOfRow.holds Try.pinned (OpenSpec.ofChange fnExactSumOfWrong)

/-- 'laws.FnExactPtrOk': WHATEVER THE INPUT: true; the input reads as it did. -/
def fnExactPtrOkSpec : ChangeSpec := { name := "fnExactPtrOk", fn := fun _ => fun
  | [d] => { results := [.lit (.bool true)], args := [d] }
  | _ => none }
def fnExactPtrOkRow : OpenClaim := { program := "ytlflcinlhpjkhaa", sum := "dc329a5dfa9c342284647d3373aa82fb128dc4e446b606461b96ecde62832f99", func := "loop.example/poolfiles/laws.FnExactPtrOk", spec := "fnExactPtrOk", apart := false }
def FnExactPtrOkSaid : Prop := fnExactPtrOkRow.holds Try.pinned (OpenSpec.ofChange fnExactPtrOkSpec)

/-- ITS FALSE NEIGHBOUR: 'it returns false'. Refute it at one input. -/
def fnExactPtrOkWrong : ChangeSpec := { name := "fnExactPtrOk", fn := fun _ => fun
  | [d] => { results := [.lit (.bool false)], args := [d] }
  | _ => none }
def FnExactPtrOkWrongFalsely : Prop := fnExactPtrOkRow.holds Try.pinned (OpenSpec.ofChange fnExactPtrOkWrong)

/-- 'laws.FnExactPtrFits': WHATEVER THE INPUT: true; the input reads as it did. -/
def fnExactPtrFitsSpec : ChangeSpec := { name := "fnExactPtrFits", fn := fun _ => fun
  | [d1, d2] => { results := [.lit (.bool true)], args := [d1, d2] }
  | _ => none }
def fnExactPtrFitsRow : OpenClaim := { program := "ytlflcinlhpjkhaa", sum := "dc329a5dfa9c342284647d3373aa82fb128dc4e446b606461b96ecde62832f99", func := "loop.example/poolfiles/laws.FnExactPtrFits", spec := "fnExactPtrFits", apart := false }
def FnExactPtrFitsSaid : Prop := fnExactPtrFitsRow.holds Try.pinned (OpenSpec.ofChange fnExactPtrFitsSpec)

/-- ITS FALSE NEIGHBOUR: 'it returns false'. Refute it at one input. -/
def fnExactPtrFitsWrong : ChangeSpec := { name := "fnExactPtrFits", fn := fun _ => fun
  | [d1, d2] => { results := [.lit (.bool false)], args := [d1, d2] }
  | _ => none }
def FnExactPtrFitsWrongFalsely : Prop := fnExactPtrFitsRow.holds Try.pinned (OpenSpec.ofChange fnExactPtrFitsWrong)

/-- 'laws.FnExactSpaceNew': WHATEVER THE INPUT: true; the input reads as it did. -/
def fnExactSpaceNewSpec : ChangeSpec := { name := "fnExactSpaceNew", fn := fun _ => fun
  | [] => { results := [.lit (.bool true)], args := [] }
  | _ => none }
def fnExactSpaceNewRow : OpenClaim := { program := "ytlflcinlhpjkhaa", sum := "dc329a5dfa9c342284647d3373aa82fb128dc4e446b606461b96ecde62832f99", func := "loop.example/poolfiles/laws.FnExactSpaceNew", spec := "fnExactSpaceNew", apart := false }
def FnExactSpaceNewSaid : Prop := fnExactSpaceNewRow.holds Try.pinned (OpenSpec.ofChange fnExactSpaceNewSpec)

/-- ITS FALSE NEIGHBOUR: 'it returns false'. Refute it at one input. -/
def fnExactSpaceNewWrong : ChangeSpec := { name := "fnExactSpaceNew", fn := fun _ => fun
  | [] => { results := [.lit (.bool false)], args := [] }
  | _ => none }
def FnExactSpaceNewWrongFalsely : Prop := fnExactSpaceNewRow.holds Try.pinned (OpenSpec.ofChange fnExactSpaceNewWrong)

/-- 'laws.FnExactRunsPack': WHATEVER THE INPUT: true; the input reads as it did. -/
def fnExactRunsPackSpec : ChangeSpec := { name := "fnExactRunsPack", fn := fun _ => fun
  | [d] => { results := [.lit (.bool true)], args := [d] }
  | _ => none }
def fnExactRunsPackRow : OpenClaim := { program := "ytlflcinlhpjkhaa", sum := "dc329a5dfa9c342284647d3373aa82fb128dc4e446b606461b96ecde62832f99", func := "loop.example/poolfiles/laws.FnExactRunsPack", spec := "fnExactRunsPack", inPlace := ["internal/abi.NoEscape"], apart := false }
def FnExactRunsPackSaid : Prop := fnExactRunsPackRow.holds Try.pinned (OpenSpec.ofChange fnExactRunsPackSpec)

/-- ITS FALSE NEIGHBOUR: 'it returns false'. Refute it at one input. -/
def fnExactRunsPackWrong : ChangeSpec := { name := "fnExactRunsPack", fn := fun _ => fun
  | [d] => { results := [.lit (.bool false)], args := [d] }
  | _ => none }
def FnExactRunsPackWrongFalsely : Prop := fnExactRunsPackRow.holds Try.pinned (OpenSpec.ofChange fnExactRunsPackWrong)

/-- 'laws.FnExactPtrOf': WHATEVER THE INPUT: true; the input reads as it did. -/
def fnExactPtrOfSpec : ChangeSpec := { name := "fnExactPtrOf", fn := fun _ => fun
  | [d1, d2, d3, d4] => { results := [.lit (.bool true)], args := [d1, d2, d3, d4] }
  | _ => none }
def fnExactPtrOfRow : OpenClaim := { program := "ytlflcinlhpjkhaa", sum := "dc329a5dfa9c342284647d3373aa82fb128dc4e446b606461b96ecde62832f99", func := "loop.example/poolfiles/laws.FnExactPtrOf", spec := "fnExactPtrOf", apart := false }
def FnExactPtrOfSaid : Prop := fnExactPtrOfRow.holds Try.pinned (OpenSpec.ofChange fnExactPtrOfSpec)

/-- ITS FALSE NEIGHBOUR: 'it returns false'. Refute it at one input. -/
def fnExactPtrOfWrong : ChangeSpec := { name := "fnExactPtrOf", fn := fun _ => fun
  | [d1, d2, d3, d4] => { results := [.lit (.bool false)], args := [d1, d2, d3, d4] }
  | _ => none }
def FnExactPtrOfWrongFalsely : Prop := fnExactPtrOfRow.holds Try.pinned (OpenSpec.ofChange fnExactPtrOfWrong)

/-- 'laws.FnExactSpaceOk': WHATEVER THE INPUT: true; the input reads as it did. -/
def fnExactSpaceOkSpec : ChangeSpec := { name := "fnExactSpaceOk", fn := fun _ => fun
  | [d] => { results := [.lit (.bool true)], args := [d] }
  | _ => none }
def fnExactSpaceOkRow : OpenClaim := { program := "ytlflcinlhpjkhaa", sum := "dc329a5dfa9c342284647d3373aa82fb128dc4e446b606461b96ecde62832f99", func := "loop.example/poolfiles/laws.FnExactSpaceOk", spec := "fnExactSpaceOk", apart := false }
def FnExactSpaceOkSaid : Prop := fnExactSpaceOkRow.holds Try.pinned (OpenSpec.ofChange fnExactSpaceOkSpec)

/-- ITS FALSE NEIGHBOUR: 'it returns false'. Refute it at one input. -/
def fnExactSpaceOkWrong : ChangeSpec := { name := "fnExactSpaceOk", fn := fun _ => fun
  | [d] => { results := [.lit (.bool false)], args := [d] }
  | _ => none }
def FnExactSpaceOkWrongFalsely : Prop := fnExactSpaceOkRow.holds Try.pinned (OpenSpec.ofChange fnExactSpaceOkWrong)

/-- 'laws.FnSumOf': WHATEVER THE INPUT: true; the input reads as it did. -/
def fnSumOfSpec : ChangeSpec := { name := "fnSumOf", fn := fun _ => fun
  | [d1, d2] => { results := [.lit (.bool true)], args := [d1, d2] }
  | _ => none }
def fnSumOfRow : OpenClaim := { program := "ytlflcinlhpjkhaa", sum := "dc329a5dfa9c342284647d3373aa82fb128dc4e446b606461b96ecde62832f99", func := "loop.example/poolfiles/laws.FnSumOf", spec := "fnSumOf", apart := false }
def FnSumOfSaid : Prop := fnSumOfRow.holds Try.pinned (OpenSpec.ofChange fnSumOfSpec)

/-- ITS FALSE NEIGHBOUR: 'it returns false'. Refute it at one input. -/
def fnSumOfWrong : ChangeSpec := { name := "fnSumOf", fn := fun _ => fun
  | [d1, d2] => { results := [.lit (.bool false)], args := [d1, d2] }
  | _ => none }
def FnSumOfWrongFalsely : Prop := fnSumOfRow.holds Try.pinned (OpenSpec.ofChange fnSumOfWrong)

/-- 'laws.FnExactStripeCut': WHATEVER THE INPUT: true; the input reads as it did. -/
def fnExactStripeCutSpec : ChangeSpec := { name := "fnExactStripeCut", fn := fun _ => fun
  | [d] => { results := [.lit (.bool true)], args := [d] }
  | _ => none }
def fnExactStripeCutRow : OpenClaim := { program := "ytlflcinlhpjkhaa", sum := "dc329a5dfa9c342284647d3373aa82fb128dc4e446b606461b96ecde62832f99", func := "loop.example/poolfiles/laws.FnExactStripeCut", spec := "fnExactStripeCut", apart := false }
def FnExactStripeCutSaid : Prop := fnExactStripeCutRow.holds Try.pinned (OpenSpec.ofChange fnExactStripeCutSpec)

/-- ITS FALSE NEIGHBOUR: 'it returns false'. Refute it at one input. -/
def fnExactStripeCutWrong : ChangeSpec := { name := "fnExactStripeCut", fn := fun _ => fun
  | [d] => { results := [.lit (.bool false)], args := [d] }
  | _ => none }
def FnExactStripeCutWrongFalsely : Prop := fnExactStripeCutRow.holds Try.pinned (OpenSpec.ofChange fnExactStripeCutWrong)

/-- 'laws.FnExactStripeJoin': WHATEVER THE INPUT: true; the input reads as it did. -/
def fnExactStripeJoinSpec : ChangeSpec := { name := "fnExactStripeJoin", fn := fun _ => fun
  | [d1, d2, d3] => { results := [.lit (.bool true)], args := [d1, d2, d3] }
  | _ => none }
def fnExactStripeJoinRow : OpenClaim := { program := "ytlflcinlhpjkhaa", sum := "dc329a5dfa9c342284647d3373aa82fb128dc4e446b606461b96ecde62832f99", func := "loop.example/poolfiles/laws.FnExactStripeJoin", spec := "fnExactStripeJoin", apart := false }
def FnExactStripeJoinSaid : Prop := fnExactStripeJoinRow.holds Try.pinned (OpenSpec.ofChange fnExactStripeJoinSpec)

/-- ITS FALSE NEIGHBOUR: 'it returns false'. Refute it at one input. -/
def fnExactStripeJoinWrong : ChangeSpec := { name := "fnExactStripeJoin", fn := fun _ => fun
  | [d1, d2, d3] => { results := [.lit (.bool false)], args := [d1, d2, d3] }
  | _ => none }
def FnExactStripeJoinWrongFalsely : Prop := fnExactStripeJoinRow.holds Try.pinned (OpenSpec.ofChange fnExactStripeJoinWrong)

/- THE SECOND FORM. 'bulk': how many values and letters a reading holds, each counted each time it is reached (what is shared counts as often as it is met; a slice's spare places count too). A statement '..UptoSaid' is the law's where the arguments, and the package variables that the reading takes, are together of bulk at most 1048576: NARROWER than '..Said'. Prove '..Said' where nothing that the law and all that it calls make is longer than what came in: it says more and counts as full. Else prove '..UptoSaid'. A law counts once. -/
mutual
def uptoBulk {H : Type} : DataW H → Nat
  | .lit (.string bytes) => bytes.length + 1
  | .lit _ => 1
  | .nil => 1
  | .ptr d => uptoBulk d + 1
  | .slice elems spare => uptoBulkAll elems + uptoBulkAll spare + 1
  | .agg parts => uptoBulkAll parts + 1
  | .iface _ d => uptoBulk d + 1
  | .map entries => uptoBulkEntries entries + 1
  | .held _ => 1
def uptoBulkAll {H : Type} : List (DataW H) → Nat
  | [] => 0
  | d :: r => uptoBulk d + uptoBulkAll r
def uptoBulkEntries {H : Type} : List (Lit × DataW H) → Nat
  | [] => 0
  | x :: r => uptoBulkEntry x + uptoBulkEntries r
def uptoBulkEntry {H : Type} : Lit × DataW H → Nat
  | (.string bytes, d) => bytes.length + uptoBulk d + 1
  | (_, d) => uptoBulk d + 1
 end
def uptoSmall : (H : Type) → List (DataW H) → Bool := fun _ ds => decide (uptoBulkAll ds ≤ 1048576)
def OpenSpec.upto (s : _root_.Go.ChangeSpec) : _root_.Go.OpenSpec := { _root_.Go.OpenSpec.ofChange s with cond := some uptoSmall }

/-- 'laws.FnExactConstants', WHERE WHAT IT READS IS OF BULK AT MOST 1048576: true; the input reads as it did. -/
def fnExactConstantsUptoRow : OpenClaim := { program := "ytlflcinlhpjkhaa", sum := "dc329a5dfa9c342284647d3373aa82fb128dc4e446b606461b96ecde62832f99", func := "loop.example/poolfiles/laws.FnExactConstants", spec := "fnExactConstants", apart := false, narrowed := true }
def FnExactConstantsUptoSaid : Prop := fnExactConstantsUptoRow.holds Try.pinned (OpenSpec.upto fnExactConstantsSpec)

/-- 'laws.FnExactPtrHole', WHERE WHAT IT READS IS OF BULK AT MOST 1048576: true; the input reads as it did. -/
def fnExactPtrHoleUptoRow : OpenClaim := { program := "ytlflcinlhpjkhaa", sum := "dc329a5dfa9c342284647d3373aa82fb128dc4e446b606461b96ecde62832f99", func := "loop.example/poolfiles/laws.FnExactPtrHole", spec := "fnExactPtrHole", apart := false, narrowed := true }
def FnExactPtrHoleUptoSaid : Prop := fnExactPtrHoleUptoRow.holds Try.pinned (OpenSpec.upto fnExactPtrHoleSpec)

/-- 'laws.FnExactSumOf', WHERE WHAT IT READS IS OF BULK AT MOST 1048576: true; the input reads as it did. -/
def fnExactSumOfUptoRow : OpenClaim := { program := "ytlflcinlhpjkhaa", sum := "dc329a5dfa9c342284647d3373aa82fb128dc4e446b606461b96ecde62832f99", func := "loop.example/poolfiles/laws.FnExactSumOf", spec := "fnExactSumOf", apart := false, narrowed := true }
def FnExactSumOfUptoSaid : Prop := fnExactSumOfUptoRow.holds Try.pinned (OpenSpec.upto fnExactSumOfSpec)

/-- 'laws.FnExactPtrOk', WHERE WHAT IT READS IS OF BULK AT MOST 1048576: true; the input reads as it did. -/
def fnExactPtrOkUptoRow : OpenClaim := { program := "ytlflcinlhpjkhaa", sum := "dc329a5dfa9c342284647d3373aa82fb128dc4e446b606461b96ecde62832f99", func := "loop.example/poolfiles/laws.FnExactPtrOk", spec := "fnExactPtrOk", apart := false, narrowed := true }
def FnExactPtrOkUptoSaid : Prop := fnExactPtrOkUptoRow.holds Try.pinned (OpenSpec.upto fnExactPtrOkSpec)

/-- 'laws.FnExactPtrFits', WHERE WHAT IT READS IS OF BULK AT MOST 1048576: true; the input reads as it did. -/
def fnExactPtrFitsUptoRow : OpenClaim := { program := "ytlflcinlhpjkhaa", sum := "dc329a5dfa9c342284647d3373aa82fb128dc4e446b606461b96ecde62832f99", func := "loop.example/poolfiles/laws.FnExactPtrFits", spec := "fnExactPtrFits", apart := false, narrowed := true }
def FnExactPtrFitsUptoSaid : Prop := fnExactPtrFitsUptoRow.holds Try.pinned (OpenSpec.upto fnExactPtrFitsSpec)

/-- 'laws.FnExactSpaceNew', WHERE WHAT IT READS IS OF BULK AT MOST 1048576: true; the input reads as it did. -/
def fnExactSpaceNewUptoRow : OpenClaim := { program := "ytlflcinlhpjkhaa", sum := "dc329a5dfa9c342284647d3373aa82fb128dc4e446b606461b96ecde62832f99", func := "loop.example/poolfiles/laws.FnExactSpaceNew", spec := "fnExactSpaceNew", apart := false, narrowed := true }
def FnExactSpaceNewUptoSaid : Prop := fnExactSpaceNewUptoRow.holds Try.pinned (OpenSpec.upto fnExactSpaceNewSpec)

/-- 'laws.FnExactRunsPack', WHERE WHAT IT READS IS OF BULK AT MOST 1048576: true; the input reads as it did. -/
def fnExactRunsPackUptoRow : OpenClaim := { program := "ytlflcinlhpjkhaa", sum := "dc329a5dfa9c342284647d3373aa82fb128dc4e446b606461b96ecde62832f99", func := "loop.example/poolfiles/laws.FnExactRunsPack", spec := "fnExactRunsPack", inPlace := ["internal/abi.NoEscape"], apart := false, narrowed := true }
def FnExactRunsPackUptoSaid : Prop := fnExactRunsPackUptoRow.holds Try.pinned (OpenSpec.upto fnExactRunsPackSpec)

/-- 'laws.FnExactPtrOf', WHERE WHAT IT READS IS OF BULK AT MOST 1048576: true; the input reads as it did. -/
def fnExactPtrOfUptoRow : OpenClaim := { program := "ytlflcinlhpjkhaa", sum := "dc329a5dfa9c342284647d3373aa82fb128dc4e446b606461b96ecde62832f99", func := "loop.example/poolfiles/laws.FnExactPtrOf", spec := "fnExactPtrOf", apart := false, narrowed := true }
def FnExactPtrOfUptoSaid : Prop := fnExactPtrOfUptoRow.holds Try.pinned (OpenSpec.upto fnExactPtrOfSpec)

/-- 'laws.FnExactSpaceOk', WHERE WHAT IT READS IS OF BULK AT MOST 1048576: true; the input reads as it did. -/
def fnExactSpaceOkUptoRow : OpenClaim := { program := "ytlflcinlhpjkhaa", sum := "dc329a5dfa9c342284647d3373aa82fb128dc4e446b606461b96ecde62832f99", func := "loop.example/poolfiles/laws.FnExactSpaceOk", spec := "fnExactSpaceOk", apart := false, narrowed := true }
def FnExactSpaceOkUptoSaid : Prop := fnExactSpaceOkUptoRow.holds Try.pinned (OpenSpec.upto fnExactSpaceOkSpec)

/-- 'laws.FnSumOf', WHERE WHAT IT READS IS OF BULK AT MOST 1048576: true; the input reads as it did. -/
def fnSumOfUptoRow : OpenClaim := { program := "ytlflcinlhpjkhaa", sum := "dc329a5dfa9c342284647d3373aa82fb128dc4e446b606461b96ecde62832f99", func := "loop.example/poolfiles/laws.FnSumOf", spec := "fnSumOf", apart := false, narrowed := true }
def FnSumOfUptoSaid : Prop := fnSumOfUptoRow.holds Try.pinned (OpenSpec.upto fnSumOfSpec)

/-- 'laws.FnExactStripeCut', WHERE WHAT IT READS IS OF BULK AT MOST 1048576: true; the input reads as it did. -/
def fnExactStripeCutUptoRow : OpenClaim := { program := "ytlflcinlhpjkhaa", sum := "dc329a5dfa9c342284647d3373aa82fb128dc4e446b606461b96ecde62832f99", func := "loop.example/poolfiles/laws.FnExactStripeCut", spec := "fnExactStripeCut", apart := false, narrowed := true }
def FnExactStripeCutUptoSaid : Prop := fnExactStripeCutUptoRow.holds Try.pinned (OpenSpec.upto fnExactStripeCutSpec)

/-- 'laws.FnExactStripeJoin', WHERE WHAT IT READS IS OF BULK AT MOST 1048576: true; the input reads as it did. -/
def fnExactStripeJoinUptoRow : OpenClaim := { program := "ytlflcinlhpjkhaa", sum := "dc329a5dfa9c342284647d3373aa82fb128dc4e446b606461b96ecde62832f99", func := "loop.example/poolfiles/laws.FnExactStripeJoin", spec := "fnExactStripeJoin", apart := false, narrowed := true }
def FnExactStripeJoinUptoSaid : Prop := fnExactStripeJoinUptoRow.holds Try.pinned (OpenSpec.upto fnExactStripeJoinSpec)

end Rows
end Go.Proofs.Ytlflcinlhpjkhaa
