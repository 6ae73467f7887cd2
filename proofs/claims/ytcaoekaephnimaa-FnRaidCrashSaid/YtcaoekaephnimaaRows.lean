/-
  No cell of these rows narrows 'for every input' (looked for: loops, veiled, ifaces, maps, wideKeys, modest, calm, conditions, laid).
  DERIVED. THE GIVEN ROWS OF THIS SEAT. 7 by the template 'for every input the law returns true; each argument reads behind the call as it read before'; 0 by the template 'total and deterministic' (their statements: YtcaoekaephnimaaTotals.lean).
  GIVEN WITH THE SEED: the statements are not yours to turn. If you find one false, say at which input.
  Laid BY PROGRAM, IN A SANDBOX (cutbox-rows.mjs): the forced cells as the released guide's own fill.sh prints them over the translation 379fa97cb70f6005… (all of the seat's roots in one cut). By AI agents, Wed Nov 11 2026. No macro, syntax, notation, axiom, sorry.
-/
import Derived.Test.YtcaoekaephnimaaChecked
import GoSem.Claim
import GoSem.ClaimJoined
import GoSem.ClaimMapViews
import Derived.JoinedTies
import Derived.KernelRfl
namespace Go.Proofs.Ytcaoekaephnimaa
/- THE CELL 'sum', in the pinned program and in every row, IS THE sha256 OF THE DUMP (.gsa) THAT YtcaoekaephnimaaProg.lean LOADS. Nothing in Lean hashes anything: it is a label: what it is worth is what the hold of that sum in a sandbox is worth. -/
noncomputable def Try.pinned : Pinned := { name := "ytcaoekaephnimaa", sum := "379fa97cb70f600514168c68c55777b0fca09c2d3cd09bef262d378e85307686", checked := Try.checked }
namespace Rows
def none {H : Type} : Left H := { results := [], args := [] }

/-- 'laws.FnExactRaidNew': WHATEVER THE INPUT: true; the input reads as it did. -/
def fnExactRaidNewSpec : ChangeSpec := { name := "fnExactRaidNew", fn := fun _ => fun
  | [] => { results := [.lit (.bool true)], args := [] }
  | _ => none }
def fnExactRaidNewRow : OpenClaim := { program := "ytcaoekaephnimaa", sum := "379fa97cb70f600514168c68c55777b0fca09c2d3cd09bef262d378e85307686", func := "loop.example/poolfiles/laws.FnExactRaidNew", spec := "fnExactRaidNew", apart := false }
def FnExactRaidNewSaid : Prop := fnExactRaidNewRow.holds Try.pinned (OpenSpec.ofChange fnExactRaidNewSpec)

/-- ITS FALSE NEIGHBOUR: 'it returns false'. Refute it at one input. -/
def fnExactRaidNewWrong : ChangeSpec := { name := "fnExactRaidNew", fn := fun _ => fun
  | [] => { results := [.lit (.bool false)], args := [] }
  | _ => none }
def FnExactRaidNewWrongFalsely : Prop := fnExactRaidNewRow.holds Try.pinned (OpenSpec.ofChange fnExactRaidNewWrong)

/-- 'laws.FnExactRaidOk': WHATEVER THE INPUT: true; the input reads as it did. -/
def fnExactRaidOkSpec : ChangeSpec := { name := "fnExactRaidOk", fn := fun _ => fun
  | [d] => { results := [.lit (.bool true)], args := [d] }
  | _ => none }
def fnExactRaidOkRow : OpenClaim := { program := "ytcaoekaephnimaa", sum := "379fa97cb70f600514168c68c55777b0fca09c2d3cd09bef262d378e85307686", func := "loop.example/poolfiles/laws.FnExactRaidOk", spec := "fnExactRaidOk", unfollowed := true, recurses := true, apart := false }
def FnExactRaidOkSaid : Prop := fnExactRaidOkRow.holds Try.pinned (OpenSpec.ofChange fnExactRaidOkSpec)

/-- ITS FALSE NEIGHBOUR: 'it returns false'. Refute it at one input. -/
def fnExactRaidOkWrong : ChangeSpec := { name := "fnExactRaidOk", fn := fun _ => fun
  | [d] => { results := [.lit (.bool false)], args := [d] }
  | _ => none }
def FnExactRaidOkWrongFalsely : Prop := fnExactRaidOkRow.holds Try.pinned (OpenSpec.ofChange fnExactRaidOkWrong)

/-- 'laws.FnExactRaidFlush': WHATEVER THE INPUT: true; the input reads as it did. -/
def fnExactRaidFlushSpec : ChangeSpec := { name := "fnExactRaidFlush", fn := fun _ => fun
  | [d] => { results := [.lit (.bool true)], args := [d] }
  | _ => none }
def fnExactRaidFlushRow : OpenClaim := { program := "ytcaoekaephnimaa", sum := "379fa97cb70f600514168c68c55777b0fca09c2d3cd09bef262d378e85307686", func := "loop.example/poolfiles/laws.FnExactRaidFlush", spec := "fnExactRaidFlush", unfollowed := true, recurses := true, apart := false }
def FnExactRaidFlushSaid : Prop := fnExactRaidFlushRow.holds Try.pinned (OpenSpec.ofChange fnExactRaidFlushSpec)

/-- ITS FALSE NEIGHBOUR: 'it returns false'. Refute it at one input. -/
def fnExactRaidFlushWrong : ChangeSpec := { name := "fnExactRaidFlush", fn := fun _ => fun
  | [d] => { results := [.lit (.bool false)], args := [d] }
  | _ => none }
def FnExactRaidFlushWrongFalsely : Prop := fnExactRaidFlushRow.holds Try.pinned (OpenSpec.ofChange fnExactRaidFlushWrong)

/-- 'laws.FnExactRaidCrash': WHATEVER THE INPUT: true; the input reads as it did. -/
def fnExactRaidCrashSpec : ChangeSpec := { name := "fnExactRaidCrash", fn := fun _ => fun
  | [d1, d2, d3] => { results := [.lit (.bool true)], args := [d1, d2, d3] }
  | _ => none }
def fnExactRaidCrashRow : OpenClaim := { program := "ytcaoekaephnimaa", sum := "379fa97cb70f600514168c68c55777b0fca09c2d3cd09bef262d378e85307686", func := "loop.example/poolfiles/laws.FnExactRaidCrash", spec := "fnExactRaidCrash", unfollowed := true, recurses := true, apart := false }
def FnExactRaidCrashSaid : Prop := fnExactRaidCrashRow.holds Try.pinned (OpenSpec.ofChange fnExactRaidCrashSpec)

/-- ITS FALSE NEIGHBOUR: 'it returns false'. Refute it at one input. -/
def fnExactRaidCrashWrong : ChangeSpec := { name := "fnExactRaidCrash", fn := fun _ => fun
  | [d1, d2, d3] => { results := [.lit (.bool false)], args := [d1, d2, d3] }
  | _ => none }
def FnExactRaidCrashWrongFalsely : Prop := fnExactRaidCrashRow.holds Try.pinned (OpenSpec.ofChange fnExactRaidCrashWrong)

/-- 'laws.FnRaidOk': WHATEVER THE INPUT: true; the input reads as it did. -/
def fnRaidOkSpec : ChangeSpec := { name := "fnRaidOk", fn := fun _ => fun
  | [d] => { results := [.lit (.bool true)], args := [d] }
  | _ => none }
def fnRaidOkRow : OpenClaim := { program := "ytcaoekaephnimaa", sum := "379fa97cb70f600514168c68c55777b0fca09c2d3cd09bef262d378e85307686", func := "loop.example/poolfiles/laws.FnRaidOk", spec := "fnRaidOk", unfollowed := true, recurses := true, apart := false }
def FnRaidOkSaid : Prop := fnRaidOkRow.holds Try.pinned (OpenSpec.ofChange fnRaidOkSpec)

/-- ITS FALSE NEIGHBOUR: 'it returns false'. Refute it at one input. -/
def fnRaidOkWrong : ChangeSpec := { name := "fnRaidOk", fn := fun _ => fun
  | [d] => { results := [.lit (.bool false)], args := [d] }
  | _ => none }
def FnRaidOkWrongFalsely : Prop := fnRaidOkRow.holds Try.pinned (OpenSpec.ofChange fnRaidOkWrong)

/-- 'laws.FnRaidFlush': WHATEVER THE INPUT: true; the input reads as it did. -/
def fnRaidFlushSpec : ChangeSpec := { name := "fnRaidFlush", fn := fun _ => fun
  | [d] => { results := [.lit (.bool true)], args := [d] }
  | _ => none }
def fnRaidFlushRow : OpenClaim := { program := "ytcaoekaephnimaa", sum := "379fa97cb70f600514168c68c55777b0fca09c2d3cd09bef262d378e85307686", func := "loop.example/poolfiles/laws.FnRaidFlush", spec := "fnRaidFlush", unfollowed := true, recurses := true, apart := false }
def FnRaidFlushSaid : Prop := fnRaidFlushRow.holds Try.pinned (OpenSpec.ofChange fnRaidFlushSpec)

/-- ITS FALSE NEIGHBOUR: 'it returns false'. Refute it at one input. -/
def fnRaidFlushWrong : ChangeSpec := { name := "fnRaidFlush", fn := fun _ => fun
  | [d] => { results := [.lit (.bool false)], args := [d] }
  | _ => none }
def FnRaidFlushWrongFalsely : Prop := fnRaidFlushRow.holds Try.pinned (OpenSpec.ofChange fnRaidFlushWrong)

/-- 'laws.FnRaidCrash': WHATEVER THE INPUT: true; the input reads as it did. -/
def fnRaidCrashSpec : ChangeSpec := { name := "fnRaidCrash", fn := fun _ => fun
  | [d] => { results := [.lit (.bool true)], args := [d] }
  | _ => none }
def fnRaidCrashRow : OpenClaim := { program := "ytcaoekaephnimaa", sum := "379fa97cb70f600514168c68c55777b0fca09c2d3cd09bef262d378e85307686", func := "loop.example/poolfiles/laws.FnRaidCrash", spec := "fnRaidCrash", unfollowed := true, recurses := true, apart := false }
def FnRaidCrashSaid : Prop := fnRaidCrashRow.holds Try.pinned (OpenSpec.ofChange fnRaidCrashSpec)

/-- ITS FALSE NEIGHBOUR: 'it returns false'. Refute it at one input. -/
def fnRaidCrashWrong : ChangeSpec := { name := "fnRaidCrash", fn := fun _ => fun
  | [d] => { results := [.lit (.bool false)], args := [d] }
  | _ => none }
def FnRaidCrashWrongFalsely : Prop := fnRaidCrashRow.holds Try.pinned (OpenSpec.ofChange fnRaidCrashWrong)

/- THE SECOND FORM. 'bulk': how many values and letters a reading holds, each counted each time it is reached (what is shared counts as often as it is met; a slice's spare places count too). A statement '..UptoSaid' is the law's where the arguments, and the package variables that the reading takes, are together of bulk at most 1048576: NARROWER than '..Said'. Prove '..Said' where nothing that the law and all that it calls make is longer than what came in: it says more and counts as full. Else prove '..UptoSaid'. A law counts once. -/
mutual
def uptoBulk {H : Type} : DataW H → Nat
  | .lit (.string bytes) => bytes.length + 1
  | .lit _ => 1
  | .nil => 1
  | .ptr d => uptoBulk d + 1
  | .slice elems spare => uptoBulkAll elems + uptoBulkAll spare + 1
  | .agg parts => uptoBulkAll parts + 1
  | .iface _ d => uptoBulk d + 1
  | .map entries => uptoBulkEntries entries + 1
  | .held _ => 1
def uptoBulkAll {H : Type} : List (DataW H) → Nat
  | [] => 0
  | d :: r => uptoBulk d + uptoBulkAll r
def uptoBulkEntries {H : Type} : List (Lit × DataW H) → Nat
  | [] => 0
  | x :: r => uptoBulkEntry x + uptoBulkEntries r
def uptoBulkEntry {H : Type} : Lit × DataW H → Nat
  | (.string bytes, d) => bytes.length + uptoBulk d + 1
  | (_, d) => uptoBulk d + 1
 end
def uptoSmall : (H : Type) → List (DataW H) → Bool := fun _ ds => decide (uptoBulkAll ds ≤ 1048576)
def OpenSpec.upto (s : _root_.Go.ChangeSpec) : _root_.Go.OpenSpec := { _root_.Go.OpenSpec.ofChange s with cond := some uptoSmall }

/-- 'laws.FnExactRaidNew', WHERE WHAT IT READS IS OF BULK AT MOST 1048576: true; the input reads as it did. -/
def fnExactRaidNewUptoRow : OpenClaim := { program := "ytcaoekaephnimaa", sum := "379fa97cb70f600514168c68c55777b0fca09c2d3cd09bef262d378e85307686", func := "loop.example/poolfiles/laws.FnExactRaidNew", spec := "fnExactRaidNew", apart := false, narrowed := true }
def FnExactRaidNewUptoSaid : Prop := fnExactRaidNewUptoRow.holds Try.pinned (OpenSpec.upto fnExactRaidNewSpec)

/-- 'laws.FnExactRaidOk', WHERE WHAT IT READS IS OF BULK AT MOST 1048576: true; the input reads as it did. -/
def fnExactRaidOkUptoRow : OpenClaim := { program := "ytcaoekaephnimaa", sum := "379fa97cb70f600514168c68c55777b0fca09c2d3cd09bef262d378e85307686", func := "loop.example/poolfiles/laws.FnExactRaidOk", spec := "fnExactRaidOk", unfollowed := true, recurses := true, apart := false, narrowed := true }
def FnExactRaidOkUptoSaid : Prop := fnExactRaidOkUptoRow.holds Try.pinned (OpenSpec.upto fnExactRaidOkSpec)

/-- 'laws.FnExactRaidFlush', WHERE WHAT IT READS IS OF BULK AT MOST 1048576: true; the input reads as it did. -/
def fnExactRaidFlushUptoRow : OpenClaim := { program := "ytcaoekaephnimaa", sum := "379fa97cb70f600514168c68c55777b0fca09c2d3cd09bef262d378e85307686", func := "loop.example/poolfiles/laws.FnExactRaidFlush", spec := "fnExactRaidFlush", unfollowed := true, recurses := true, apart := false, narrowed := true }
def FnExactRaidFlushUptoSaid : Prop := fnExactRaidFlushUptoRow.holds Try.pinned (OpenSpec.upto fnExactRaidFlushSpec)

/-- 'laws.FnExactRaidCrash', WHERE WHAT IT READS IS OF BULK AT MOST 1048576: true; the input reads as it did. -/
def fnExactRaidCrashUptoRow : OpenClaim := { program := "ytcaoekaephnimaa", sum := "379fa97cb70f600514168c68c55777b0fca09c2d3cd09bef262d378e85307686", func := "loop.example/poolfiles/laws.FnExactRaidCrash", spec := "fnExactRaidCrash", unfollowed := true, recurses := true, apart := false, narrowed := true }
def FnExactRaidCrashUptoSaid : Prop := fnExactRaidCrashUptoRow.holds Try.pinned (OpenSpec.upto fnExactRaidCrashSpec)

/-- 'laws.FnRaidOk', WHERE WHAT IT READS IS OF BULK AT MOST 1048576: true; the input reads as it did. -/
def fnRaidOkUptoRow : OpenClaim := { program := "ytcaoekaephnimaa", sum := "379fa97cb70f600514168c68c55777b0fca09c2d3cd09bef262d378e85307686", func := "loop.example/poolfiles/laws.FnRaidOk", spec := "fnRaidOk", unfollowed := true, recurses := true, apart := false, narrowed := true }
def FnRaidOkUptoSaid : Prop := fnRaidOkUptoRow.holds Try.pinned (OpenSpec.upto fnRaidOkSpec)

/-- 'laws.FnRaidFlush', WHERE WHAT IT READS IS OF BULK AT MOST 1048576: true; the input reads as it did. -/
def fnRaidFlushUptoRow : OpenClaim := { program := "ytcaoekaephnimaa", sum := "379fa97cb70f600514168c68c55777b0fca09c2d3cd09bef262d378e85307686", func := "loop.example/poolfiles/laws.FnRaidFlush", spec := "fnRaidFlush", unfollowed := true, recurses := true, apart := false, narrowed := true }
def FnRaidFlushUptoSaid : Prop := fnRaidFlushUptoRow.holds Try.pinned (OpenSpec.upto fnRaidFlushSpec)

/-- 'laws.FnRaidCrash', WHERE WHAT IT READS IS OF BULK AT MOST 1048576: true; the input reads as it did. -/
def fnRaidCrashUptoRow : OpenClaim := { program := "ytcaoekaephnimaa", sum := "379fa97cb70f600514168c68c55777b0fca09c2d3cd09bef262d378e85307686", func := "loop.example/poolfiles/laws.FnRaidCrash", spec := "fnRaidCrash", unfollowed := true, recurses := true, apart := false, narrowed := true }
def FnRaidCrashUptoSaid : Prop := fnRaidCrashUptoRow.holds Try.pinned (OpenSpec.upto fnRaidCrashSpec)

end Rows
end Go.Proofs.Ytcaoekaephnimaa
