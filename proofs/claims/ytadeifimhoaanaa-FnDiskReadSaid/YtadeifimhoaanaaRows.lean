/-
  No cell of these rows narrows 'for every input' (looked for: loops, veiled, ifaces, maps, wideKeys, modest, calm, conditions, laid).
  DERIVED. THE GIVEN ROWS OF THIS SEAT. 11 by the template 'for every input the law returns true; each argument reads behind the call as it read before'; 0 by the template 'total and deterministic' (their statements: YtadeifimhoaanaaTotals.lean).
  GIVEN WITH THE SEED: the statements are not yours to turn. If you find one false, say at which input.
  Laid BY PROGRAM, IN A SANDBOX (cutbox-rows.mjs): the forced cells as the released guide's own fill.sh prints them over the translation 87fcd9f68c080782… (all of the seat's roots in one cut). By AI agents, Wed Nov 11 2026. No macro, syntax, notation, axiom, sorry.
-/
import Derived.Test.YtadeifimhoaanaaChecked
import GoSem.Claim
import GoSem.ClaimJoined
import GoSem.ClaimMapViews
import Derived.JoinedTies
import Derived.KernelRfl
namespace Go.Proofs.Ytadeifimhoaanaa
/- THE CELL 'sum', in the pinned program and in every row, IS THE sha256 OF THE DUMP (.gsa) THAT YtadeifimhoaanaaProg.lean LOADS. Nothing in Lean hashes anything: it is a label: what it is worth is what the hold of that sum in a sandbox is worth. -/
noncomputable def Try.pinned : Pinned := { name := "ytadeifimhoaanaa", sum := "87fcd9f68c080782a9685f0b8929c49ab29dbf7d2f836c9112d0ec8b8554b250", checked := Try.checked }
namespace Rows
def none {H : Type} : Left H := { results := [], args := [] }

/-- 'laws.FnExactDiskNew': WHATEVER THE INPUT: true; the input reads as it did. -/
def fnExactDiskNewSpec : ChangeSpec := { name := "fnExactDiskNew", fn := fun _ => fun
  | [] => { results := [.lit (.bool true)], args := [] }
  | _ => none }
def fnExactDiskNewRow : OpenClaim := { program := "ytadeifimhoaanaa", sum := "87fcd9f68c080782a9685f0b8929c49ab29dbf7d2f836c9112d0ec8b8554b250", func := "loop.example/poolfiles/laws.FnExactDiskNew", spec := "fnExactDiskNew", apart := false }
def FnExactDiskNewSaid : Prop := fnExactDiskNewRow.holds Try.pinned (OpenSpec.ofChange fnExactDiskNewSpec)

/-- ITS FALSE NEIGHBOUR: 'it returns false'. Refute it at one input. -/
def fnExactDiskNewWrong : ChangeSpec := { name := "fnExactDiskNew", fn := fun _ => fun
  | [] => { results := [.lit (.bool false)], args := [] }
  | _ => none }
def FnExactDiskNewWrongFalsely : Prop := fnExactDiskNewRow.holds Try.pinned (OpenSpec.ofChange fnExactDiskNewWrong)

/-- 'laws.FnExactDiskLose': WHATEVER THE INPUT: true; the input reads as it did. -/
def fnExactDiskLoseSpec : ChangeSpec := { name := "fnExactDiskLose", fn := fun _ => fun
  | [] => { results := [.lit (.bool true)], args := [] }
  | _ => none }
def fnExactDiskLoseRow : OpenClaim := { program := "ytadeifimhoaanaa", sum := "87fcd9f68c080782a9685f0b8929c49ab29dbf7d2f836c9112d0ec8b8554b250", func := "loop.example/poolfiles/laws.FnExactDiskLose", spec := "fnExactDiskLose", apart := false }
def FnExactDiskLoseSaid : Prop := fnExactDiskLoseRow.holds Try.pinned (OpenSpec.ofChange fnExactDiskLoseSpec)

/-- ITS FALSE NEIGHBOUR: 'it returns false'. Refute it at one input. -/
def fnExactDiskLoseWrong : ChangeSpec := { name := "fnExactDiskLose", fn := fun _ => fun
  | [] => { results := [.lit (.bool false)], args := [] }
  | _ => none }
def FnExactDiskLoseWrongFalsely : Prop := fnExactDiskLoseRow.holds Try.pinned (OpenSpec.ofChange fnExactDiskLoseWrong)

/-- 'laws.FnExactDiskOk': WHATEVER THE INPUT: true; the input reads as it did. -/
def fnExactDiskOkSpec : ChangeSpec := { name := "fnExactDiskOk", fn := fun _ => fun
  | [d] => { results := [.lit (.bool true)], args := [d] }
  | _ => none }
def fnExactDiskOkRow : OpenClaim := { program := "ytadeifimhoaanaa", sum := "87fcd9f68c080782a9685f0b8929c49ab29dbf7d2f836c9112d0ec8b8554b250", func := "loop.example/poolfiles/laws.FnExactDiskOk", spec := "fnExactDiskOk", unfollowed := true, recurses := true, apart := false }
def FnExactDiskOkSaid : Prop := fnExactDiskOkRow.holds Try.pinned (OpenSpec.ofChange fnExactDiskOkSpec)

/-- ITS FALSE NEIGHBOUR: 'it returns false'. Refute it at one input. -/
def fnExactDiskOkWrong : ChangeSpec := { name := "fnExactDiskOk", fn := fun _ => fun
  | [d] => { results := [.lit (.bool false)], args := [d] }
  | _ => none }
def FnExactDiskOkWrongFalsely : Prop := fnExactDiskOkRow.holds Try.pinned (OpenSpec.ofChange fnExactDiskOkWrong)

/-- 'laws.FnExactDiskRead': WHATEVER THE INPUT: true; the input reads as it did. -/
def fnExactDiskReadSpec : ChangeSpec := { name := "fnExactDiskRead", fn := fun _ => fun
  | [d1, d2] => { results := [.lit (.bool true)], args := [d1, d2] }
  | _ => none }
def fnExactDiskReadRow : OpenClaim := { program := "ytadeifimhoaanaa", sum := "87fcd9f68c080782a9685f0b8929c49ab29dbf7d2f836c9112d0ec8b8554b250", func := "loop.example/poolfiles/laws.FnExactDiskRead", spec := "fnExactDiskRead", unfollowed := true, recurses := true, apart := false }
def FnExactDiskReadSaid : Prop := fnExactDiskReadRow.holds Try.pinned (OpenSpec.ofChange fnExactDiskReadSpec)

/-- ITS FALSE NEIGHBOUR: 'it returns false'. Refute it at one input. -/
def fnExactDiskReadWrong : ChangeSpec := { name := "fnExactDiskRead", fn := fun _ => fun
  | [d1, d2] => { results := [.lit (.bool false)], args := [d1, d2] }
  | _ => none }
def FnExactDiskReadWrongFalsely : Prop := fnExactDiskReadRow.holds Try.pinned (OpenSpec.ofChange fnExactDiskReadWrong)

/-- 'laws.FnExactDiskFlush': WHATEVER THE INPUT: true; the input reads as it did. -/
def fnExactDiskFlushSpec : ChangeSpec := { name := "fnExactDiskFlush", fn := fun _ => fun
  | [d] => { results := [.lit (.bool true)], args := [d] }
  | _ => none }
def fnExactDiskFlushRow : OpenClaim := { program := "ytadeifimhoaanaa", sum := "87fcd9f68c080782a9685f0b8929c49ab29dbf7d2f836c9112d0ec8b8554b250", func := "loop.example/poolfiles/laws.FnExactDiskFlush", spec := "fnExactDiskFlush", unfollowed := true, recurses := true, apart := false }
def FnExactDiskFlushSaid : Prop := fnExactDiskFlushRow.holds Try.pinned (OpenSpec.ofChange fnExactDiskFlushSpec)

/-- ITS FALSE NEIGHBOUR: 'it returns false'. Refute it at one input. -/
def fnExactDiskFlushWrong : ChangeSpec := { name := "fnExactDiskFlush", fn := fun _ => fun
  | [d] => { results := [.lit (.bool false)], args := [d] }
  | _ => none }
def FnExactDiskFlushWrongFalsely : Prop := fnExactDiskFlushRow.holds Try.pinned (OpenSpec.ofChange fnExactDiskFlushWrong)

/-- 'laws.FnExactDiskCrash': WHATEVER THE INPUT: true; the input reads as it did. -/
def fnExactDiskCrashSpec : ChangeSpec := { name := "fnExactDiskCrash", fn := fun _ => fun
  | [d1, d2, d3] => { results := [.lit (.bool true)], args := [d1, d2, d3] }
  | _ => none }
def fnExactDiskCrashRow : OpenClaim := { program := "ytadeifimhoaanaa", sum := "87fcd9f68c080782a9685f0b8929c49ab29dbf7d2f836c9112d0ec8b8554b250", func := "loop.example/poolfiles/laws.FnExactDiskCrash", spec := "fnExactDiskCrash", unfollowed := true, recurses := true, apart := false }
def FnExactDiskCrashSaid : Prop := fnExactDiskCrashRow.holds Try.pinned (OpenSpec.ofChange fnExactDiskCrashSpec)

/-- ITS FALSE NEIGHBOUR: 'it returns false'. Refute it at one input. -/
def fnExactDiskCrashWrong : ChangeSpec := { name := "fnExactDiskCrash", fn := fun _ => fun
  | [d1, d2, d3] => { results := [.lit (.bool false)], args := [d1, d2, d3] }
  | _ => none }
def FnExactDiskCrashWrongFalsely : Prop := fnExactDiskCrashRow.holds Try.pinned (OpenSpec.ofChange fnExactDiskCrashWrong)

/-- 'laws.FnDiskNew': WHATEVER THE INPUT: true; the input reads as it did. -/
def fnDiskNewSpec : ChangeSpec := { name := "fnDiskNew", fn := fun _ => fun
  | [d] => { results := [.lit (.bool true)], args := [d] }
  | _ => none }
def fnDiskNewRow : OpenClaim := { program := "ytadeifimhoaanaa", sum := "87fcd9f68c080782a9685f0b8929c49ab29dbf7d2f836c9112d0ec8b8554b250", func := "loop.example/poolfiles/laws.FnDiskNew", spec := "fnDiskNew", unfollowed := true, recurses := true, apart := false }
def FnDiskNewSaid : Prop := fnDiskNewRow.holds Try.pinned (OpenSpec.ofChange fnDiskNewSpec)

/-- ITS FALSE NEIGHBOUR: 'it returns false'. Refute it at one input. -/
def fnDiskNewWrong : ChangeSpec := { name := "fnDiskNew", fn := fun _ => fun
  | [d] => { results := [.lit (.bool false)], args := [d] }
  | _ => none }
def FnDiskNewWrongFalsely : Prop := fnDiskNewRow.holds Try.pinned (OpenSpec.ofChange fnDiskNewWrong)

/-- 'laws.FnDiskOk': WHATEVER THE INPUT: true; the input reads as it did. -/
def fnDiskOkSpec : ChangeSpec := { name := "fnDiskOk", fn := fun _ => fun
  | [d] => { results := [.lit (.bool true)], args := [d] }
  | _ => none }
def fnDiskOkRow : OpenClaim := { program := "ytadeifimhoaanaa", sum := "87fcd9f68c080782a9685f0b8929c49ab29dbf7d2f836c9112d0ec8b8554b250", func := "loop.example/poolfiles/laws.FnDiskOk", spec := "fnDiskOk", unfollowed := true, recurses := true, apart := false }
def FnDiskOkSaid : Prop := fnDiskOkRow.holds Try.pinned (OpenSpec.ofChange fnDiskOkSpec)

/-- ITS FALSE NEIGHBOUR: 'it returns false'. Refute it at one input. -/
def fnDiskOkWrong : ChangeSpec := { name := "fnDiskOk", fn := fun _ => fun
  | [d] => { results := [.lit (.bool false)], args := [d] }
  | _ => none }
def FnDiskOkWrongFalsely : Prop := fnDiskOkRow.holds Try.pinned (OpenSpec.ofChange fnDiskOkWrong)

/-- 'laws.FnDiskRead': WHATEVER THE INPUT: true; the input reads as it did. -/
def fnDiskReadSpec : ChangeSpec := { name := "fnDiskRead", fn := fun _ => fun
  | [d] => { results := [.lit (.bool true)], args := [d] }
  | _ => none }
def fnDiskReadRow : OpenClaim := { program := "ytadeifimhoaanaa", sum := "87fcd9f68c080782a9685f0b8929c49ab29dbf7d2f836c9112d0ec8b8554b250", func := "loop.example/poolfiles/laws.FnDiskRead", spec := "fnDiskRead", unfollowed := true, recurses := true, apart := false }
def FnDiskReadSaid : Prop := fnDiskReadRow.holds Try.pinned (OpenSpec.ofChange fnDiskReadSpec)

/-- ITS FALSE NEIGHBOUR: 'it returns false'. Refute it at one input. -/
def fnDiskReadWrong : ChangeSpec := { name := "fnDiskRead", fn := fun _ => fun
  | [d] => { results := [.lit (.bool false)], args := [d] }
  | _ => none }
def FnDiskReadWrongFalsely : Prop := fnDiskReadRow.holds Try.pinned (OpenSpec.ofChange fnDiskReadWrong)

/-- 'laws.FnDiskFlush': WHATEVER THE INPUT: true; the input reads as it did. -/
def fnDiskFlushSpec : ChangeSpec := { name := "fnDiskFlush", fn := fun _ => fun
  | [d] => { results := [.lit (.bool true)], args := [d] }
  | _ => none }
def fnDiskFlushRow : OpenClaim := { program := "ytadeifimhoaanaa", sum := "87fcd9f68c080782a9685f0b8929c49ab29dbf7d2f836c9112d0ec8b8554b250", func := "loop.example/poolfiles/laws.FnDiskFlush", spec := "fnDiskFlush", unfollowed := true, recurses := true, apart := false }
def FnDiskFlushSaid : Prop := fnDiskFlushRow.holds Try.pinned (OpenSpec.ofChange fnDiskFlushSpec)

/-- ITS FALSE NEIGHBOUR: 'it returns false'. Refute it at one input. -/
def fnDiskFlushWrong : ChangeSpec := { name := "fnDiskFlush", fn := fun _ => fun
  | [d] => { results := [.lit (.bool false)], args := [d] }
  | _ => none }
def FnDiskFlushWrongFalsely : Prop := fnDiskFlushRow.holds Try.pinned (OpenSpec.ofChange fnDiskFlushWrong)

/-- 'laws.FnDiskCrash': WHATEVER THE INPUT: true; the input reads as it did. -/
def fnDiskCrashSpec : ChangeSpec := { name := "fnDiskCrash", fn := fun _ => fun
  | [d] => { results := [.lit (.bool true)], args := [d] }
  | _ => none }
def fnDiskCrashRow : OpenClaim := { program := "ytadeifimhoaanaa", sum := "87fcd9f68c080782a9685f0b8929c49ab29dbf7d2f836c9112d0ec8b8554b250", func := "loop.example/poolfiles/laws.FnDiskCrash", spec := "fnDiskCrash", unfollowed := true, recurses := true, apart := false }
def FnDiskCrashSaid : Prop := fnDiskCrashRow.holds Try.pinned (OpenSpec.ofChange fnDiskCrashSpec)

/-- ITS FALSE NEIGHBOUR: 'it returns false'. Refute it at one input. -/
def fnDiskCrashWrong : ChangeSpec := { name := "fnDiskCrash", fn := fun _ => fun
  | [d] => { results := [.lit (.bool false)], args := [d] }
  | _ => none }
def FnDiskCrashWrongFalsely : Prop := fnDiskCrashRow.holds Try.pinned (OpenSpec.ofChange fnDiskCrashWrong)

/- THE SECOND FORM. 'bulk': how many values and letters a reading holds, each counted each time it is reached (what is shared counts as often as it is met; a slice's spare places count too). A statement '..UptoSaid' is the law's where the arguments, and the package variables that the reading takes, are together of bulk at most 1048576: NARROWER than '..Said'. Prove '..Said' where nothing that the law and all that it calls make is longer than what came in: it says more and counts as full. Else prove '..UptoSaid'. A law counts once. -/
mutual
def uptoBulk {H : Type} : DataW H → Nat
  | .lit (.string bytes) => bytes.length + 1
  | .lit _ => 1
  | .nil => 1
  | .ptr d => uptoBulk d + 1
  | .slice elems spare => uptoBulkAll elems + uptoBulkAll spare + 1
  | .agg parts => uptoBulkAll parts + 1
  | .iface _ d => uptoBulk d + 1
  | .map entries => uptoBulkEntries entries + 1
  | .held _ => 1
def uptoBulkAll {H : Type} : List (DataW H) → Nat
  | [] => 0
  | d :: r => uptoBulk d + uptoBulkAll r
def uptoBulkEntries {H : Type} : List (Lit × DataW H) → Nat
  | [] => 0
  | x :: r => uptoBulkEntry x + uptoBulkEntries r
def uptoBulkEntry {H : Type} : Lit × DataW H → Nat
  | (.string bytes, d) => bytes.length + uptoBulk d + 1
  | (_, d) => uptoBulk d + 1
 end
def uptoSmall : (H : Type) → List (DataW H) → Bool := fun _ ds => decide (uptoBulkAll ds ≤ 1048576)
def OpenSpec.upto (s : _root_.Go.ChangeSpec) : _root_.Go.OpenSpec := { _root_.Go.OpenSpec.ofChange s with cond := some uptoSmall }

/-- 'laws.FnExactDiskNew', WHERE WHAT IT READS IS OF BULK AT MOST 1048576: true; the input reads as it did. -/
def fnExactDiskNewUptoRow : OpenClaim := { program := "ytadeifimhoaanaa", sum := "87fcd9f68c080782a9685f0b8929c49ab29dbf7d2f836c9112d0ec8b8554b250", func := "loop.example/poolfiles/laws.FnExactDiskNew", spec := "fnExactDiskNew", apart := false, narrowed := true }
def FnExactDiskNewUptoSaid : Prop := fnExactDiskNewUptoRow.holds Try.pinned (OpenSpec.upto fnExactDiskNewSpec)

/-- 'laws.FnExactDiskLose', WHERE WHAT IT READS IS OF BULK AT MOST 1048576: true; the input reads as it did. -/
def fnExactDiskLoseUptoRow : OpenClaim := { program := "ytadeifimhoaanaa", sum := "87fcd9f68c080782a9685f0b8929c49ab29dbf7d2f836c9112d0ec8b8554b250", func := "loop.example/poolfiles/laws.FnExactDiskLose", spec := "fnExactDiskLose", apart := false, narrowed := true }
def FnExactDiskLoseUptoSaid : Prop := fnExactDiskLoseUptoRow.holds Try.pinned (OpenSpec.upto fnExactDiskLoseSpec)

/-- 'laws.FnExactDiskOk', WHERE WHAT IT READS IS OF BULK AT MOST 1048576: true; the input reads as it did. -/
def fnExactDiskOkUptoRow : OpenClaim := { program := "ytadeifimhoaanaa", sum := "87fcd9f68c080782a9685f0b8929c49ab29dbf7d2f836c9112d0ec8b8554b250", func := "loop.example/poolfiles/laws.FnExactDiskOk", spec := "fnExactDiskOk", unfollowed := true, recurses := true, apart := false, narrowed := true }
def FnExactDiskOkUptoSaid : Prop := fnExactDiskOkUptoRow.holds Try.pinned (OpenSpec.upto fnExactDiskOkSpec)

/-- 'laws.FnExactDiskRead', WHERE WHAT IT READS IS OF BULK AT MOST 1048576: true; the input reads as it did. -/
def fnExactDiskReadUptoRow : OpenClaim := { program := "ytadeifimhoaanaa", sum := "87fcd9f68c080782a9685f0b8929c49ab29dbf7d2f836c9112d0ec8b8554b250", func := "loop.example/poolfiles/laws.FnExactDiskRead", spec := "fnExactDiskRead", unfollowed := true, recurses := true, apart := false, narrowed := true }
def FnExactDiskReadUptoSaid : Prop := fnExactDiskReadUptoRow.holds Try.pinned (OpenSpec.upto fnExactDiskReadSpec)

/-- 'laws.FnExactDiskFlush', WHERE WHAT IT READS IS OF BULK AT MOST 1048576: true; the input reads as it did. -/
def fnExactDiskFlushUptoRow : OpenClaim := { program := "ytadeifimhoaanaa", sum := "87fcd9f68c080782a9685f0b8929c49ab29dbf7d2f836c9112d0ec8b8554b250", func := "loop.example/poolfiles/laws.FnExactDiskFlush", spec := "fnExactDiskFlush", unfollowed := true, recurses := true, apart := false, narrowed := true }
def FnExactDiskFlushUptoSaid : Prop := fnExactDiskFlushUptoRow.holds Try.pinned (OpenSpec.upto fnExactDiskFlushSpec)

/-- 'laws.FnExactDiskCrash', WHERE WHAT IT READS IS OF BULK AT MOST 1048576: true; the input reads as it did. -/
def fnExactDiskCrashUptoRow : OpenClaim := { program := "ytadeifimhoaanaa", sum := "87fcd9f68c080782a9685f0b8929c49ab29dbf7d2f836c9112d0ec8b8554b250", func := "loop.example/poolfiles/laws.FnExactDiskCrash", spec := "fnExactDiskCrash", unfollowed := true, recurses := true, apart := false, narrowed := true }
def FnExactDiskCrashUptoSaid : Prop := fnExactDiskCrashUptoRow.holds Try.pinned (OpenSpec.upto fnExactDiskCrashSpec)

/-- 'laws.FnDiskNew', WHERE WHAT IT READS IS OF BULK AT MOST 1048576: true; the input reads as it did. -/
def fnDiskNewUptoRow : OpenClaim := { program := "ytadeifimhoaanaa", sum := "87fcd9f68c080782a9685f0b8929c49ab29dbf7d2f836c9112d0ec8b8554b250", func := "loop.example/poolfiles/laws.FnDiskNew", spec := "fnDiskNew", unfollowed := true, recurses := true, apart := false, narrowed := true }
def FnDiskNewUptoSaid : Prop := fnDiskNewUptoRow.holds Try.pinned (OpenSpec.upto fnDiskNewSpec)

/-- 'laws.FnDiskOk', WHERE WHAT IT READS IS OF BULK AT MOST 1048576: true; the input reads as it did. -/
def fnDiskOkUptoRow : OpenClaim := { program := "ytadeifimhoaanaa", sum := "87fcd9f68c080782a9685f0b8929c49ab29dbf7d2f836c9112d0ec8b8554b250", func := "loop.example/poolfiles/laws.FnDiskOk", spec := "fnDiskOk", unfollowed := true, recurses := true, apart := false, narrowed := true }
def FnDiskOkUptoSaid : Prop := fnDiskOkUptoRow.holds Try.pinned (OpenSpec.upto fnDiskOkSpec)

/-- 'laws.FnDiskRead', WHERE WHAT IT READS IS OF BULK AT MOST 1048576: true; the input reads as it did. -/
def fnDiskReadUptoRow : OpenClaim := { program := "ytadeifimhoaanaa", sum := "87fcd9f68c080782a9685f0b8929c49ab29dbf7d2f836c9112d0ec8b8554b250", func := "loop.example/poolfiles/laws.FnDiskRead", spec := "fnDiskRead", unfollowed := true, recurses := true, apart := false, narrowed := true }
def FnDiskReadUptoSaid : Prop := fnDiskReadUptoRow.holds Try.pinned (OpenSpec.upto fnDiskReadSpec)

/-- 'laws.FnDiskFlush', WHERE WHAT IT READS IS OF BULK AT MOST 1048576: true; the input reads as it did. -/
def fnDiskFlushUptoRow : OpenClaim := { program := "ytadeifimhoaanaa", sum := "87fcd9f68c080782a9685f0b8929c49ab29dbf7d2f836c9112d0ec8b8554b250", func := "loop.example/poolfiles/laws.FnDiskFlush", spec := "fnDiskFlush", unfollowed := true, recurses := true, apart := false, narrowed := true }
def FnDiskFlushUptoSaid : Prop := fnDiskFlushUptoRow.holds Try.pinned (OpenSpec.upto fnDiskFlushSpec)

/-- 'laws.FnDiskCrash', WHERE WHAT IT READS IS OF BULK AT MOST 1048576: true; the input reads as it did. -/
def fnDiskCrashUptoRow : OpenClaim := { program := "ytadeifimhoaanaa", sum := "87fcd9f68c080782a9685f0b8929c49ab29dbf7d2f836c9112d0ec8b8554b250", func := "loop.example/poolfiles/laws.FnDiskCrash", spec := "fnDiskCrash", unfollowed := true, recurses := true, apart := false, narrowed := true }
def FnDiskCrashUptoSaid : Prop := fnDiskCrashUptoRow.holds Try.pinned (OpenSpec.upto fnDiskCrashSpec)

end Rows
end Go.Proofs.Ytadeifimhoaanaa
