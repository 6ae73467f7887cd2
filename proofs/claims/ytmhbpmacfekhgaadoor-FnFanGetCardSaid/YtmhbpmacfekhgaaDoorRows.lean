/-
  NARROWER THAN 'FOR EVERY INPUT', by the rows' own cells (each row's printed sentence says how): FnExactPtrPut: laid · FnExactPtrGet: laid · FnPtrPut: laid · FnPtrGet: laid · FnPtrHole: laid · FnPtrOk: laid · FnPtrApart: laid · FnExactFanPut: laid · FnExactFanGet: laid · FnFanPut: laid · FnFanGet: laid.
  DERIVED. THE GIVEN ROWS OF THIS SEAT. 11 by the template 'for every input the law returns true; each argument reads behind the call as it read before'; 0 by the template 'total and deterministic' (their statements: YtmhbpmacfekhgaaDoorTotals.lean).
  GIVEN WITH THE SEED: the statements are not yours to turn. If you find one false, say at which input.
  Laid BY PROGRAM, IN A SANDBOX (cutbox-rows.mjs): the forced cells as the released guide's own fill.sh prints them over the translation beb4a3b4ceb7e8f7… (all of the seat's roots in one cut). By AI agents, Wed Nov 11 2026. No macro, syntax, notation, axiom, sorry.
-/
import Derived.Test.YtmhbpmacfekhgaaDoorChecked
import GoSem.PinnedTables
import GoSem.Claim
import GoSem.ClaimJoined
import GoSem.ClaimMapViews
import Derived.JoinedTies
import Derived.KernelRfl
namespace Go.Proofs.YtmhbpmacfekhgaaDoor
/- THE CELL 'sum', in the pinned program and in every row, IS THE sha256 OF THE DUMP (.gsa) THAT YtmhbpmacfekhgaaDoorProg.lean LOADS. Nothing in Lean hashes anything: it is a label: what it is worth is what the hold of that sum in a sandbox is worth. -/
noncomputable def Tryd.pinned : Pinned := { name := "ytmhbpmacfekhgaadoor", sum := "beb4a3b4ceb7e8f72569846adbd30f4ddcedd55de06302ccc76f75a805e9d2fd", checked := Tryd.checked }
namespace Rows
def none {H : Type} : Left H := { results := [], args := [] }

/- WHAT THE LISTED PACKAGE-LEVEL VARIABLES READ AS WHEN THE CALL BEGINS. Each datum BY PROGRAM (the guide's laid-datum.mjs) off the statement by which the dump's own 'gosem.cut.vars' lays the variable. In a bare row this is a premise. The card (YtmhbpmacfekhgaaDoorCards.lean) ties it to the program's text. -/
def laid_math_bits_deBruijn32tab {H : Type} : DataW H := .agg [.lit (.int .u8 0), .lit (.int .u8 1), .lit (.int .u8 28), .lit (.int .u8 2), .lit (.int .u8 29), .lit (.int .u8 14), .lit (.int .u8 24), .lit (.int .u8 3), .lit (.int .u8 30), .lit (.int .u8 22), .lit (.int .u8 20), .lit (.int .u8 15), .lit (.int .u8 25), .lit (.int .u8 17), .lit (.int .u8 4), .lit (.int .u8 8), .lit (.int .u8 31), .lit (.int .u8 27), .lit (.int .u8 13), .lit (.int .u8 23), .lit (.int .u8 21), .lit (.int .u8 19), .lit (.int .u8 16), .lit (.int .u8 7), .lit (.int .u8 26), .lit (.int .u8 12), .lit (.int .u8 18), .lit (.int .u8 6), .lit (.int .u8 11), .lit (.int .u8 5), .lit (.int .u8 10), .lit (.int .u8 9)]
def laid_math_bits_deBruijn64tab {H : Type} : DataW H := .agg [.lit (.int .u8 0), .lit (.int .u8 1), .lit (.int .u8 56), .lit (.int .u8 2), .lit (.int .u8 57), .lit (.int .u8 49), .lit (.int .u8 28), .lit (.int .u8 3), .lit (.int .u8 61), .lit (.int .u8 58), .lit (.int .u8 42), .lit (.int .u8 50), .lit (.int .u8 38), .lit (.int .u8 29), .lit (.int .u8 17), .lit (.int .u8 4), .lit (.int .u8 62), .lit (.int .u8 47), .lit (.int .u8 59), .lit (.int .u8 36), .lit (.int .u8 45), .lit (.int .u8 43), .lit (.int .u8 51), .lit (.int .u8 22), .lit (.int .u8 53), .lit (.int .u8 39), .lit (.int .u8 33), .lit (.int .u8 30), .lit (.int .u8 24), .lit (.int .u8 18), .lit (.int .u8 12), .lit (.int .u8 5), .lit (.int .u8 63), .lit (.int .u8 55), .lit (.int .u8 48), .lit (.int .u8 27), .lit (.int .u8 60), .lit (.int .u8 41), .lit (.int .u8 37), .lit (.int .u8 16), .lit (.int .u8 46), .lit (.int .u8 35), .lit (.int .u8 44), .lit (.int .u8 21), .lit (.int .u8 52), .lit (.int .u8 32), .lit (.int .u8 23), .lit (.int .u8 11), .lit (.int .u8 54), .lit (.int .u8 26), .lit (.int .u8 40), .lit (.int .u8 15), .lit (.int .u8 34), .lit (.int .u8 20), .lit (.int .u8 31), .lit (.int .u8 10), .lit (.int .u8 25), .lit (.int .u8 14), .lit (.int .u8 19), .lit (.int .u8 9), .lit (.int .u8 13), .lit (.int .u8 8), .lit (.int .u8 7), .lit (.int .u8 6)]
def laid_internal_strconv_uint64pow10 {H : Type} : DataW H := .agg [.lit (.int .u64 1), .lit (.int .u64 10), .lit (.int .u64 100), .lit (.int .u64 1000), .lit (.int .u64 10000), .lit (.int .u64 100000), .lit (.int .u64 1000000), .lit (.int .u64 10000000), .lit (.int .u64 100000000), .lit (.int .u64 1000000000), .lit (.int .u64 10000000000), .lit (.int .u64 100000000000), .lit (.int .u64 1000000000000), .lit (.int .u64 10000000000000), .lit (.int .u64 100000000000000), .lit (.int .u64 1000000000000000), .lit (.int .u64 10000000000000000), .lit (.int .u64 100000000000000000), .lit (.int .u64 1000000000000000000), .lit (.int .u64 10000000000000000000)]
def laid_unicode_utf8_acceptRanges {H : Type} : DataW H := .agg [.agg [.lit (.int .u8 128), .lit (.int .u8 191)], .agg [.lit (.int .u8 160), .lit (.int .u8 191)], .agg [.lit (.int .u8 128), .lit (.int .u8 159)], .agg [.lit (.int .u8 144), .lit (.int .u8 191)], .agg [.lit (.int .u8 128), .lit (.int .u8 143)], .agg [.lit (.int .u8 0), .lit (.int .u8 0)], .agg [.lit (.int .u8 0), .lit (.int .u8 0)], .agg [.lit (.int .u8 0), .lit (.int .u8 0)], .agg [.lit (.int .u8 0), .lit (.int .u8 0)], .agg [.lit (.int .u8 0), .lit (.int .u8 0)], .agg [.lit (.int .u8 0), .lit (.int .u8 0)], .agg [.lit (.int .u8 0), .lit (.int .u8 0)], .agg [.lit (.int .u8 0), .lit (.int .u8 0)], .agg [.lit (.int .u8 0), .lit (.int .u8 0)], .agg [.lit (.int .u8 0), .lit (.int .u8 0)], .agg [.lit (.int .u8 0), .lit (.int .u8 0)]]
def laid_strconv_ErrRange {H : Type} : DataW H := .iface "*errors.errorString" (.ptr (.agg [.lit (.string [118, 97, 108, 117, 101, 32, 111, 117, 116, 32, 111, 102, 32, 114, 97, 110, 103, 101])]))
def laid_strconv_ErrSyntax {H : Type} : DataW H := .iface "*errors.errorString" (.ptr (.agg [.lit (.string [105, 110, 118, 97, 108, 105, 100, 32, 115, 121, 110, 116, 97, 120])]))
/-- One of Go's own tables, pinned by name: the form's constant. -/
def laid_unicode_utf8_first : DataW Unit := Go.Pinned.utf8First

/-- 'laws.FnExactPtrPut': WHATEVER THE INPUT: true; the input reads as it did. -/
def fnExactPtrPutSpec : ChangeSpec := { name := "fnExactPtrPut", fn := fun _ => fun
  | [d] => { results := [.lit (.bool true)], args := [d] }
  | _ => none }
def fnExactPtrPutRow : OpenClaim := { program := "ytmhbpmacfekhgaadoor", sum := "beb4a3b4ceb7e8f72569846adbd30f4ddcedd55de06302ccc76f75a805e9d2fd", func := "loop.example/poolfiles/laws.FnExactPtrPut", spec := "fnExactPtrPut", inPlace := ["internal/abi.NoEscape", "internal/bytealg.MakeNoZero"], recurses := true, named := ["internal/strconv.uint64pow10", "math/bits.deBruijn32tab", "math/bits.deBruijn64tab"], apart := false, laid := [("math/bits.deBruijn32tab", laid_math_bits_deBruijn32tab), ("math/bits.deBruijn64tab", laid_math_bits_deBruijn64tab), ("internal/strconv.uint64pow10", laid_internal_strconv_uint64pow10)] }
def FnExactPtrPutSaid : Prop := fnExactPtrPutRow.holds Tryd.pinned (OpenSpec.ofChange fnExactPtrPutSpec)

/-- ITS FALSE NEIGHBOUR: 'it returns false'. Refute it at one input. -/
def fnExactPtrPutWrong : ChangeSpec := { name := "fnExactPtrPut", fn := fun _ => fun
  | [d] => { results := [.lit (.bool false)], args := [d] }
  | _ => none }
def FnExactPtrPutWrongFalsely : Prop := fnExactPtrPutRow.holds Tryd.pinned (OpenSpec.ofChange fnExactPtrPutWrong)

/-- 'laws.FnExactPtrGet': WHATEVER THE INPUT: true; the input reads as it did. -/
def fnExactPtrGetSpec : ChangeSpec := { name := "fnExactPtrGet", fn := fun _ => fun
  | [d] => { results := [.lit (.bool true)], args := [d] }
  | _ => none }
def fnExactPtrGetRow : OpenClaim := { program := "ytmhbpmacfekhgaadoor", sum := "beb4a3b4ceb7e8f72569846adbd30f4ddcedd55de06302ccc76f75a805e9d2fd", func := "loop.example/poolfiles/laws.FnExactPtrGet", spec := "fnExactPtrGet", inPlace := ["internal/bytealg.CountString", "internal/bytealg.IndexByteString", "internal/bytealg.IndexString", "internal/abi.NoEscape", "internal/bytealg.MakeNoZero"], named := ["unicode/utf8.first", "unicode/utf8.acceptRanges", "internal/bytealg.MaxLen", "strconv.ErrSyntax", "strconv.ErrRange", "internal/strconv.uint64pow10", "math/bits.deBruijn32tab", "math/bits.deBruijn64tab"], apart := false, laid := [("math/bits.deBruijn32tab", laid_math_bits_deBruijn32tab), ("math/bits.deBruijn64tab", laid_math_bits_deBruijn64tab), ("internal/strconv.uint64pow10", laid_internal_strconv_uint64pow10), ("unicode/utf8.acceptRanges", laid_unicode_utf8_acceptRanges), ("strconv.ErrRange", laid_strconv_ErrRange), ("strconv.ErrSyntax", laid_strconv_ErrSyntax), ("unicode/utf8.first", laid_unicode_utf8_first)] }
def FnExactPtrGetSaid : Prop := fnExactPtrGetRow.holds Tryd.pinned (OpenSpec.ofChange fnExactPtrGetSpec)

/-- ITS FALSE NEIGHBOUR: 'it returns false'. Refute it at one input. -/
def fnExactPtrGetWrong : ChangeSpec := { name := "fnExactPtrGet", fn := fun _ => fun
  | [d] => { results := [.lit (.bool false)], args := [d] }
  | _ => none }
def FnExactPtrGetWrongFalsely : Prop := fnExactPtrGetRow.holds Tryd.pinned (OpenSpec.ofChange fnExactPtrGetWrong)

/-- 'laws.FnPtrPut': WHATEVER THE INPUT: true; the input reads as it did. -/
def fnPtrPutSpec : ChangeSpec := { name := "fnPtrPut", fn := fun _ => fun
  | [d] => { results := [.lit (.bool true)], args := [d] }
  | _ => none }
def fnPtrPutRow : OpenClaim := { program := "ytmhbpmacfekhgaadoor", sum := "beb4a3b4ceb7e8f72569846adbd30f4ddcedd55de06302ccc76f75a805e9d2fd", func := "loop.example/poolfiles/laws.FnPtrPut", spec := "fnPtrPut", inPlace := ["internal/abi.NoEscape", "internal/bytealg.MakeNoZero", "internal/bytealg.CountString", "internal/bytealg.IndexByteString", "internal/bytealg.IndexString"], recurses := true, named := ["internal/strconv.uint64pow10", "math/bits.deBruijn32tab", "math/bits.deBruijn64tab", "unicode/utf8.first", "unicode/utf8.acceptRanges", "internal/bytealg.MaxLen", "strconv.ErrSyntax", "strconv.ErrRange"], apart := false, laid := [("math/bits.deBruijn32tab", laid_math_bits_deBruijn32tab), ("math/bits.deBruijn64tab", laid_math_bits_deBruijn64tab), ("internal/strconv.uint64pow10", laid_internal_strconv_uint64pow10), ("unicode/utf8.acceptRanges", laid_unicode_utf8_acceptRanges), ("strconv.ErrRange", laid_strconv_ErrRange), ("strconv.ErrSyntax", laid_strconv_ErrSyntax), ("unicode/utf8.first", laid_unicode_utf8_first)] }
def FnPtrPutSaid : Prop := fnPtrPutRow.holds Tryd.pinned (OpenSpec.ofChange fnPtrPutSpec)

/-- ITS FALSE NEIGHBOUR: 'it returns false'. Refute it at one input. -/
def fnPtrPutWrong : ChangeSpec := { name := "fnPtrPut", fn := fun _ => fun
  | [d] => { results := [.lit (.bool false)], args := [d] }
  | _ => none }
def FnPtrPutWrongFalsely : Prop := fnPtrPutRow.holds Tryd.pinned (OpenSpec.ofChange fnPtrPutWrong)

/-- 'laws.FnPtrGet': WHATEVER THE INPUT: true; the input reads as it did. -/
def fnPtrGetSpec : ChangeSpec := { name := "fnPtrGet", fn := fun _ => fun
  | [d] => { results := [.lit (.bool true)], args := [d] }
  | _ => none }
def fnPtrGetRow : OpenClaim := { program := "ytmhbpmacfekhgaadoor", sum := "beb4a3b4ceb7e8f72569846adbd30f4ddcedd55de06302ccc76f75a805e9d2fd", func := "loop.example/poolfiles/laws.FnPtrGet", spec := "fnPtrGet", inPlace := ["internal/bytealg.CountString", "internal/bytealg.IndexByteString", "internal/bytealg.IndexString", "internal/abi.NoEscape", "internal/bytealg.MakeNoZero"], recurses := true, named := ["unicode/utf8.first", "unicode/utf8.acceptRanges", "internal/bytealg.MaxLen", "strconv.ErrSyntax", "strconv.ErrRange", "internal/strconv.uint64pow10", "math/bits.deBruijn32tab", "math/bits.deBruijn64tab"], apart := false, laid := [("math/bits.deBruijn32tab", laid_math_bits_deBruijn32tab), ("math/bits.deBruijn64tab", laid_math_bits_deBruijn64tab), ("internal/strconv.uint64pow10", laid_internal_strconv_uint64pow10), ("unicode/utf8.acceptRanges", laid_unicode_utf8_acceptRanges), ("strconv.ErrRange", laid_strconv_ErrRange), ("strconv.ErrSyntax", laid_strconv_ErrSyntax), ("unicode/utf8.first", laid_unicode_utf8_first)] }
def FnPtrGetSaid : Prop := fnPtrGetRow.holds Tryd.pinned (OpenSpec.ofChange fnPtrGetSpec)

/-- ITS FALSE NEIGHBOUR: 'it returns false'. Refute it at one input. -/
def fnPtrGetWrong : ChangeSpec := { name := "fnPtrGet", fn := fun _ => fun
  | [d] => { results := [.lit (.bool false)], args := [d] }
  | _ => none }
def FnPtrGetWrongFalsely : Prop := fnPtrGetRow.holds Tryd.pinned (OpenSpec.ofChange fnPtrGetWrong)

/-- 'laws.FnPtrHole': WHATEVER THE INPUT: true; the input reads as it did. -/
def fnPtrHoleSpec : ChangeSpec := { name := "fnPtrHole", fn := fun _ => fun
  | [d] => { results := [.lit (.bool true)], args := [d] }
  | _ => none }
def fnPtrHoleRow : OpenClaim := { program := "ytmhbpmacfekhgaadoor", sum := "beb4a3b4ceb7e8f72569846adbd30f4ddcedd55de06302ccc76f75a805e9d2fd", func := "loop.example/poolfiles/laws.FnPtrHole", spec := "fnPtrHole", inPlace := ["internal/abi.NoEscape", "internal/bytealg.MakeNoZero"], named := ["internal/strconv.uint64pow10", "math/bits.deBruijn32tab", "math/bits.deBruijn64tab"], apart := false, laid := [("math/bits.deBruijn32tab", laid_math_bits_deBruijn32tab), ("math/bits.deBruijn64tab", laid_math_bits_deBruijn64tab), ("internal/strconv.uint64pow10", laid_internal_strconv_uint64pow10)] }
def FnPtrHoleSaid : Prop := fnPtrHoleRow.holds Tryd.pinned (OpenSpec.ofChange fnPtrHoleSpec)

/-- ITS FALSE NEIGHBOUR: 'it returns false'. Refute it at one input. -/
def fnPtrHoleWrong : ChangeSpec := { name := "fnPtrHole", fn := fun _ => fun
  | [d] => { results := [.lit (.bool false)], args := [d] }
  | _ => none }
def FnPtrHoleWrongFalsely : Prop := fnPtrHoleRow.holds Tryd.pinned (OpenSpec.ofChange fnPtrHoleWrong)

/-- 'laws.FnPtrOk': WHATEVER THE INPUT: true; the input reads as it did. -/
def fnPtrOkSpec : ChangeSpec := { name := "fnPtrOk", fn := fun _ => fun
  | [d] => { results := [.lit (.bool true)], args := [d] }
  | _ => none }
def fnPtrOkRow : OpenClaim := { program := "ytmhbpmacfekhgaadoor", sum := "beb4a3b4ceb7e8f72569846adbd30f4ddcedd55de06302ccc76f75a805e9d2fd", func := "loop.example/poolfiles/laws.FnPtrOk", spec := "fnPtrOk", inPlace := ["internal/abi.NoEscape", "internal/bytealg.MakeNoZero"], named := ["internal/strconv.uint64pow10", "math/bits.deBruijn32tab", "math/bits.deBruijn64tab"], apart := false, laid := [("math/bits.deBruijn32tab", laid_math_bits_deBruijn32tab), ("math/bits.deBruijn64tab", laid_math_bits_deBruijn64tab), ("internal/strconv.uint64pow10", laid_internal_strconv_uint64pow10)] }
def FnPtrOkSaid : Prop := fnPtrOkRow.holds Tryd.pinned (OpenSpec.ofChange fnPtrOkSpec)

/-- ITS FALSE NEIGHBOUR: 'it returns false'. Refute it at one input. -/
def fnPtrOkWrong : ChangeSpec := { name := "fnPtrOk", fn := fun _ => fun
  | [d] => { results := [.lit (.bool false)], args := [d] }
  | _ => none }
def FnPtrOkWrongFalsely : Prop := fnPtrOkRow.holds Tryd.pinned (OpenSpec.ofChange fnPtrOkWrong)

/-- 'laws.FnPtrApart': WHATEVER THE INPUT: true; the input reads as it did. -/
def fnPtrApartSpec : ChangeSpec := { name := "fnPtrApart", fn := fun _ => fun
  | [d1, d2] => { results := [.lit (.bool true)], args := [d1, d2] }
  | _ => none }
def fnPtrApartRow : OpenClaim := { program := "ytmhbpmacfekhgaadoor", sum := "beb4a3b4ceb7e8f72569846adbd30f4ddcedd55de06302ccc76f75a805e9d2fd", func := "loop.example/poolfiles/laws.FnPtrApart", spec := "fnPtrApart", inPlace := ["internal/abi.NoEscape", "internal/bytealg.MakeNoZero"], recurses := true, named := ["internal/strconv.uint64pow10", "math/bits.deBruijn32tab", "math/bits.deBruijn64tab"], apart := false, laid := [("math/bits.deBruijn32tab", laid_math_bits_deBruijn32tab), ("math/bits.deBruijn64tab", laid_math_bits_deBruijn64tab), ("internal/strconv.uint64pow10", laid_internal_strconv_uint64pow10)] }
def FnPtrApartSaid : Prop := fnPtrApartRow.holds Tryd.pinned (OpenSpec.ofChange fnPtrApartSpec)

/-- ITS FALSE NEIGHBOUR: 'it returns false'. Refute it at one input. -/
def fnPtrApartWrong : ChangeSpec := { name := "fnPtrApart", fn := fun _ => fun
  | [d1, d2] => { results := [.lit (.bool false)], args := [d1, d2] }
  | _ => none }
def FnPtrApartWrongFalsely : Prop := fnPtrApartRow.holds Tryd.pinned (OpenSpec.ofChange fnPtrApartWrong)

/-- 'laws.FnExactFanPut': WHATEVER THE INPUT: true; the input reads as it did. -/
def fnExactFanPutSpec : ChangeSpec := { name := "fnExactFanPut", fn := fun _ => fun
  | [d] => { results := [.lit (.bool true)], args := [d] }
  | _ => none }
def fnExactFanPutRow : OpenClaim := { program := "ytmhbpmacfekhgaadoor", sum := "beb4a3b4ceb7e8f72569846adbd30f4ddcedd55de06302ccc76f75a805e9d2fd", func := "loop.example/poolfiles/laws.FnExactFanPut", spec := "fnExactFanPut", inPlace := ["internal/abi.NoEscape", "internal/bytealg.MakeNoZero"], unfollowed := true, recurses := true, named := ["internal/strconv.uint64pow10", "math/bits.deBruijn32tab", "math/bits.deBruijn64tab"], apart := false, laid := [("math/bits.deBruijn32tab", laid_math_bits_deBruijn32tab), ("math/bits.deBruijn64tab", laid_math_bits_deBruijn64tab), ("internal/strconv.uint64pow10", laid_internal_strconv_uint64pow10)] }
def FnExactFanPutSaid : Prop := fnExactFanPutRow.holds Tryd.pinned (OpenSpec.ofChange fnExactFanPutSpec)

/-- ITS FALSE NEIGHBOUR: 'it returns false'. Refute it at one input. -/
def fnExactFanPutWrong : ChangeSpec := { name := "fnExactFanPut", fn := fun _ => fun
  | [d] => { results := [.lit (.bool false)], args := [d] }
  | _ => none }
def FnExactFanPutWrongFalsely : Prop := fnExactFanPutRow.holds Tryd.pinned (OpenSpec.ofChange fnExactFanPutWrong)

/-- 'laws.FnExactFanGet': WHATEVER THE INPUT: true; the input reads as it did. -/
def fnExactFanGetSpec : ChangeSpec := { name := "fnExactFanGet", fn := fun _ => fun
  | [d] => { results := [.lit (.bool true)], args := [d] }
  | _ => none }
def fnExactFanGetRow : OpenClaim := { program := "ytmhbpmacfekhgaadoor", sum := "beb4a3b4ceb7e8f72569846adbd30f4ddcedd55de06302ccc76f75a805e9d2fd", func := "loop.example/poolfiles/laws.FnExactFanGet", spec := "fnExactFanGet", inPlace := ["internal/bytealg.CountString", "internal/bytealg.IndexByteString", "internal/bytealg.IndexString", "internal/abi.NoEscape", "internal/bytealg.MakeNoZero"], unfollowed := true, recurses := true, named := ["unicode/utf8.first", "unicode/utf8.acceptRanges", "internal/bytealg.MaxLen", "strconv.ErrSyntax", "strconv.ErrRange", "internal/strconv.uint64pow10", "math/bits.deBruijn32tab", "math/bits.deBruijn64tab"], apart := false, laid := [("math/bits.deBruijn32tab", laid_math_bits_deBruijn32tab), ("math/bits.deBruijn64tab", laid_math_bits_deBruijn64tab), ("internal/strconv.uint64pow10", laid_internal_strconv_uint64pow10), ("unicode/utf8.acceptRanges", laid_unicode_utf8_acceptRanges), ("strconv.ErrRange", laid_strconv_ErrRange), ("strconv.ErrSyntax", laid_strconv_ErrSyntax), ("unicode/utf8.first", laid_unicode_utf8_first)] }
def FnExactFanGetSaid : Prop := fnExactFanGetRow.holds Tryd.pinned (OpenSpec.ofChange fnExactFanGetSpec)

/-- ITS FALSE NEIGHBOUR: 'it returns false'. Refute it at one input. -/
def fnExactFanGetWrong : ChangeSpec := { name := "fnExactFanGet", fn := fun _ => fun
  | [d] => { results := [.lit (.bool false)], args := [d] }
  | _ => none }
def FnExactFanGetWrongFalsely : Prop := fnExactFanGetRow.holds Tryd.pinned (OpenSpec.ofChange fnExactFanGetWrong)

/-- 'laws.FnFanPut': WHATEVER THE INPUT: true; the input reads as it did. -/
def fnFanPutSpec : ChangeSpec := { name := "fnFanPut", fn := fun _ => fun
  | [d] => { results := [.lit (.bool true)], args := [d] }
  | _ => none }
def fnFanPutRow : OpenClaim := { program := "ytmhbpmacfekhgaadoor", sum := "beb4a3b4ceb7e8f72569846adbd30f4ddcedd55de06302ccc76f75a805e9d2fd", func := "loop.example/poolfiles/laws.FnFanPut", spec := "fnFanPut", inPlace := ["internal/abi.NoEscape", "internal/bytealg.MakeNoZero", "internal/bytealg.CountString", "internal/bytealg.IndexByteString", "internal/bytealg.IndexString"], unfollowed := true, recurses := true, named := ["internal/strconv.uint64pow10", "math/bits.deBruijn32tab", "math/bits.deBruijn64tab", "unicode/utf8.first", "unicode/utf8.acceptRanges", "internal/bytealg.MaxLen", "strconv.ErrSyntax", "strconv.ErrRange"], apart := false, laid := [("math/bits.deBruijn32tab", laid_math_bits_deBruijn32tab), ("math/bits.deBruijn64tab", laid_math_bits_deBruijn64tab), ("internal/strconv.uint64pow10", laid_internal_strconv_uint64pow10), ("unicode/utf8.acceptRanges", laid_unicode_utf8_acceptRanges), ("strconv.ErrRange", laid_strconv_ErrRange), ("strconv.ErrSyntax", laid_strconv_ErrSyntax), ("unicode/utf8.first", laid_unicode_utf8_first)] }
def FnFanPutSaid : Prop := fnFanPutRow.holds Tryd.pinned (OpenSpec.ofChange fnFanPutSpec)

/-- ITS FALSE NEIGHBOUR: 'it returns false'. Refute it at one input. -/
def fnFanPutWrong : ChangeSpec := { name := "fnFanPut", fn := fun _ => fun
  | [d] => { results := [.lit (.bool false)], args := [d] }
  | _ => none }
def FnFanPutWrongFalsely : Prop := fnFanPutRow.holds Tryd.pinned (OpenSpec.ofChange fnFanPutWrong)

/-- 'laws.FnFanGet': WHATEVER THE INPUT: true; the input reads as it did. -/
def fnFanGetSpec : ChangeSpec := { name := "fnFanGet", fn := fun _ => fun
  | [d] => { results := [.lit (.bool true)], args := [d] }
  | _ => none }
def fnFanGetRow : OpenClaim := { program := "ytmhbpmacfekhgaadoor", sum := "beb4a3b4ceb7e8f72569846adbd30f4ddcedd55de06302ccc76f75a805e9d2fd", func := "loop.example/poolfiles/laws.FnFanGet", spec := "fnFanGet", inPlace := ["internal/bytealg.CountString", "internal/bytealg.IndexByteString", "internal/bytealg.IndexString", "internal/abi.NoEscape", "internal/bytealg.MakeNoZero"], unfollowed := true, recurses := true, named := ["unicode/utf8.first", "unicode/utf8.acceptRanges", "internal/bytealg.MaxLen", "strconv.ErrSyntax", "strconv.ErrRange", "internal/strconv.uint64pow10", "math/bits.deBruijn32tab", "math/bits.deBruijn64tab"], apart := false, laid := [("math/bits.deBruijn32tab", laid_math_bits_deBruijn32tab), ("math/bits.deBruijn64tab", laid_math_bits_deBruijn64tab), ("internal/strconv.uint64pow10", laid_internal_strconv_uint64pow10), ("unicode/utf8.acceptRanges", laid_unicode_utf8_acceptRanges), ("strconv.ErrRange", laid_strconv_ErrRange), ("strconv.ErrSyntax", laid_strconv_ErrSyntax), ("unicode/utf8.first", laid_unicode_utf8_first)] }
def FnFanGetSaid : Prop := fnFanGetRow.holds Tryd.pinned (OpenSpec.ofChange fnFanGetSpec)

/-- ITS FALSE NEIGHBOUR: 'it returns false'. Refute it at one input. -/
def fnFanGetWrong : ChangeSpec := { name := "fnFanGet", fn := fun _ => fun
  | [d] => { results := [.lit (.bool false)], args := [d] }
  | _ => none }
def FnFanGetWrongFalsely : Prop := fnFanGetRow.holds Tryd.pinned (OpenSpec.ofChange fnFanGetWrong)

/- THE SECOND FORM. 'bulk': how many values and letters a reading holds, each counted each time it is reached (what is shared counts as often as it is met; a slice's spare places count too). A statement '..UptoSaid' is the law's where the arguments, and the package variables that the reading takes, are together of bulk at most 1048576: NARROWER than '..Said'. Prove '..Said' where nothing that the law and all that it calls make is longer than what came in: it says more and counts as full. Else prove '..UptoSaid'. A law counts once. -/
mutual
def uptoBulk {H : Type} : DataW H → Nat
  | .lit (.string bytes) => bytes.length + 1
  | .lit _ => 1
  | .nil => 1
  | .ptr d => uptoBulk d + 1
  | .slice elems spare => uptoBulkAll elems + uptoBulkAll spare + 1
  | .agg parts => uptoBulkAll parts + 1
  | .iface _ d => uptoBulk d + 1
  | .map entries => uptoBulkEntries entries + 1
  | .held _ => 1
def uptoBulkAll {H : Type} : List (DataW H) → Nat
  | [] => 0
  | d :: r => uptoBulk d + uptoBulkAll r
def uptoBulkEntries {H : Type} : List (Lit × DataW H) → Nat
  | [] => 0
  | x :: r => uptoBulkEntry x + uptoBulkEntries r
def uptoBulkEntry {H : Type} : Lit × DataW H → Nat
  | (.string bytes, d) => bytes.length + uptoBulk d + 1
  | (_, d) => uptoBulk d + 1
 end
def uptoSmall : (H : Type) → List (DataW H) → Bool := fun _ ds => decide (uptoBulkAll ds ≤ 1048576)
def OpenSpec.upto (s : _root_.Go.ChangeSpec) : _root_.Go.OpenSpec := { _root_.Go.OpenSpec.ofChange s with cond := some uptoSmall }

/-- 'laws.FnExactPtrPut', WHERE WHAT IT READS IS OF BULK AT MOST 1048576: true; the input reads as it did. -/
def fnExactPtrPutUptoRow : OpenClaim := { program := "ytmhbpmacfekhgaadoor", sum := "beb4a3b4ceb7e8f72569846adbd30f4ddcedd55de06302ccc76f75a805e9d2fd", func := "loop.example/poolfiles/laws.FnExactPtrPut", spec := "fnExactPtrPut", inPlace := ["internal/abi.NoEscape", "internal/bytealg.MakeNoZero"], recurses := true, named := ["internal/strconv.uint64pow10", "math/bits.deBruijn32tab", "math/bits.deBruijn64tab"], apart := false, laid := [("math/bits.deBruijn32tab", laid_math_bits_deBruijn32tab), ("math/bits.deBruijn64tab", laid_math_bits_deBruijn64tab), ("internal/strconv.uint64pow10", laid_internal_strconv_uint64pow10)], narrowed := true }
def FnExactPtrPutUptoSaid : Prop := fnExactPtrPutUptoRow.holds Tryd.pinned (OpenSpec.upto fnExactPtrPutSpec)

/-- 'laws.FnExactPtrGet', WHERE WHAT IT READS IS OF BULK AT MOST 1048576: true; the input reads as it did. -/
def fnExactPtrGetUptoRow : OpenClaim := { program := "ytmhbpmacfekhgaadoor", sum := "beb4a3b4ceb7e8f72569846adbd30f4ddcedd55de06302ccc76f75a805e9d2fd", func := "loop.example/poolfiles/laws.FnExactPtrGet", spec := "fnExactPtrGet", inPlace := ["internal/bytealg.CountString", "internal/bytealg.IndexByteString", "internal/bytealg.IndexString", "internal/abi.NoEscape", "internal/bytealg.MakeNoZero"], named := ["unicode/utf8.first", "unicode/utf8.acceptRanges", "internal/bytealg.MaxLen", "strconv.ErrSyntax", "strconv.ErrRange", "internal/strconv.uint64pow10", "math/bits.deBruijn32tab", "math/bits.deBruijn64tab"], apart := false, laid := [("math/bits.deBruijn32tab", laid_math_bits_deBruijn32tab), ("math/bits.deBruijn64tab", laid_math_bits_deBruijn64tab), ("internal/strconv.uint64pow10", laid_internal_strconv_uint64pow10), ("unicode/utf8.acceptRanges", laid_unicode_utf8_acceptRanges), ("strconv.ErrRange", laid_strconv_ErrRange), ("strconv.ErrSyntax", laid_strconv_ErrSyntax), ("unicode/utf8.first", laid_unicode_utf8_first)], narrowed := true }
def FnExactPtrGetUptoSaid : Prop := fnExactPtrGetUptoRow.holds Tryd.pinned (OpenSpec.upto fnExactPtrGetSpec)

/-- 'laws.FnPtrPut', WHERE WHAT IT READS IS OF BULK AT MOST 1048576: true; the input reads as it did. -/
def fnPtrPutUptoRow : OpenClaim := { program := "ytmhbpmacfekhgaadoor", sum := "beb4a3b4ceb7e8f72569846adbd30f4ddcedd55de06302ccc76f75a805e9d2fd", func := "loop.example/poolfiles/laws.FnPtrPut", spec := "fnPtrPut", inPlace := ["internal/abi.NoEscape", "internal/bytealg.MakeNoZero", "internal/bytealg.CountString", "internal/bytealg.IndexByteString", "internal/bytealg.IndexString"], recurses := true, named := ["internal/strconv.uint64pow10", "math/bits.deBruijn32tab", "math/bits.deBruijn64tab", "unicode/utf8.first", "unicode/utf8.acceptRanges", "internal/bytealg.MaxLen", "strconv.ErrSyntax", "strconv.ErrRange"], apart := false, laid := [("math/bits.deBruijn32tab", laid_math_bits_deBruijn32tab), ("math/bits.deBruijn64tab", laid_math_bits_deBruijn64tab), ("internal/strconv.uint64pow10", laid_internal_strconv_uint64pow10), ("unicode/utf8.acceptRanges", laid_unicode_utf8_acceptRanges), ("strconv.ErrRange", laid_strconv_ErrRange), ("strconv.ErrSyntax", laid_strconv_ErrSyntax), ("unicode/utf8.first", laid_unicode_utf8_first)], narrowed := true }
def FnPtrPutUptoSaid : Prop := fnPtrPutUptoRow.holds Tryd.pinned (OpenSpec.upto fnPtrPutSpec)

/-- 'laws.FnPtrGet', WHERE WHAT IT READS IS OF BULK AT MOST 1048576: true; the input reads as it did. -/
def fnPtrGetUptoRow : OpenClaim := { program := "ytmhbpmacfekhgaadoor", sum := "beb4a3b4ceb7e8f72569846adbd30f4ddcedd55de06302ccc76f75a805e9d2fd", func := "loop.example/poolfiles/laws.FnPtrGet", spec := "fnPtrGet", inPlace := ["internal/bytealg.CountString", "internal/bytealg.IndexByteString", "internal/bytealg.IndexString", "internal/abi.NoEscape", "internal/bytealg.MakeNoZero"], recurses := true, named := ["unicode/utf8.first", "unicode/utf8.acceptRanges", "internal/bytealg.MaxLen", "strconv.ErrSyntax", "strconv.ErrRange", "internal/strconv.uint64pow10", "math/bits.deBruijn32tab", "math/bits.deBruijn64tab"], apart := false, laid := [("math/bits.deBruijn32tab", laid_math_bits_deBruijn32tab), ("math/bits.deBruijn64tab", laid_math_bits_deBruijn64tab), ("internal/strconv.uint64pow10", laid_internal_strconv_uint64pow10), ("unicode/utf8.acceptRanges", laid_unicode_utf8_acceptRanges), ("strconv.ErrRange", laid_strconv_ErrRange), ("strconv.ErrSyntax", laid_strconv_ErrSyntax), ("unicode/utf8.first", laid_unicode_utf8_first)], narrowed := true }
def FnPtrGetUptoSaid : Prop := fnPtrGetUptoRow.holds Tryd.pinned (OpenSpec.upto fnPtrGetSpec)

/-- 'laws.FnPtrHole', WHERE WHAT IT READS IS OF BULK AT MOST 1048576: true; the input reads as it did. -/
def fnPtrHoleUptoRow : OpenClaim := { program := "ytmhbpmacfekhgaadoor", sum := "beb4a3b4ceb7e8f72569846adbd30f4ddcedd55de06302ccc76f75a805e9d2fd", func := "loop.example/poolfiles/laws.FnPtrHole", spec := "fnPtrHole", inPlace := ["internal/abi.NoEscape", "internal/bytealg.MakeNoZero"], named := ["internal/strconv.uint64pow10", "math/bits.deBruijn32tab", "math/bits.deBruijn64tab"], apart := false, laid := [("math/bits.deBruijn32tab", laid_math_bits_deBruijn32tab), ("math/bits.deBruijn64tab", laid_math_bits_deBruijn64tab), ("internal/strconv.uint64pow10", laid_internal_strconv_uint64pow10)], narrowed := true }
def FnPtrHoleUptoSaid : Prop := fnPtrHoleUptoRow.holds Tryd.pinned (OpenSpec.upto fnPtrHoleSpec)

/-- 'laws.FnPtrOk', WHERE WHAT IT READS IS OF BULK AT MOST 1048576: true; the input reads as it did. -/
def fnPtrOkUptoRow : OpenClaim := { program := "ytmhbpmacfekhgaadoor", sum := "beb4a3b4ceb7e8f72569846adbd30f4ddcedd55de06302ccc76f75a805e9d2fd", func := "loop.example/poolfiles/laws.FnPtrOk", spec := "fnPtrOk", inPlace := ["internal/abi.NoEscape", "internal/bytealg.MakeNoZero"], named := ["internal/strconv.uint64pow10", "math/bits.deBruijn32tab", "math/bits.deBruijn64tab"], apart := false, laid := [("math/bits.deBruijn32tab", laid_math_bits_deBruijn32tab), ("math/bits.deBruijn64tab", laid_math_bits_deBruijn64tab), ("internal/strconv.uint64pow10", laid_internal_strconv_uint64pow10)], narrowed := true }
def FnPtrOkUptoSaid : Prop := fnPtrOkUptoRow.holds Tryd.pinned (OpenSpec.upto fnPtrOkSpec)

/-- 'laws.FnPtrApart', WHERE WHAT IT READS IS OF BULK AT MOST 1048576: true; the input reads as it did. -/
def fnPtrApartUptoRow : OpenClaim := { program := "ytmhbpmacfekhgaadoor", sum := "beb4a3b4ceb7e8f72569846adbd30f4ddcedd55de06302ccc76f75a805e9d2fd", func := "loop.example/poolfiles/laws.FnPtrApart", spec := "fnPtrApart", inPlace := ["internal/abi.NoEscape", "internal/bytealg.MakeNoZero"], recurses := true, named := ["internal/strconv.uint64pow10", "math/bits.deBruijn32tab", "math/bits.deBruijn64tab"], apart := false, laid := [("math/bits.deBruijn32tab", laid_math_bits_deBruijn32tab), ("math/bits.deBruijn64tab", laid_math_bits_deBruijn64tab), ("internal/strconv.uint64pow10", laid_internal_strconv_uint64pow10)], narrowed := true }
def FnPtrApartUptoSaid : Prop := fnPtrApartUptoRow.holds Tryd.pinned (OpenSpec.upto fnPtrApartSpec)

/-- 'laws.FnExactFanPut', WHERE WHAT IT READS IS OF BULK AT MOST 1048576: true; the input reads as it did. -/
def fnExactFanPutUptoRow : OpenClaim := { program := "ytmhbpmacfekhgaadoor", sum := "beb4a3b4ceb7e8f72569846adbd30f4ddcedd55de06302ccc76f75a805e9d2fd", func := "loop.example/poolfiles/laws.FnExactFanPut", spec := "fnExactFanPut", inPlace := ["internal/abi.NoEscape", "internal/bytealg.MakeNoZero"], unfollowed := true, recurses := true, named := ["internal/strconv.uint64pow10", "math/bits.deBruijn32tab", "math/bits.deBruijn64tab"], apart := false, laid := [("math/bits.deBruijn32tab", laid_math_bits_deBruijn32tab), ("math/bits.deBruijn64tab", laid_math_bits_deBruijn64tab), ("internal/strconv.uint64pow10", laid_internal_strconv_uint64pow10)], narrowed := true }
def FnExactFanPutUptoSaid : Prop := fnExactFanPutUptoRow.holds Tryd.pinned (OpenSpec.upto fnExactFanPutSpec)

/-- 'laws.FnExactFanGet', WHERE WHAT IT READS IS OF BULK AT MOST 1048576: true; the input reads as it did. -/
def fnExactFanGetUptoRow : OpenClaim := { program := "ytmhbpmacfekhgaadoor", sum := "beb4a3b4ceb7e8f72569846adbd30f4ddcedd55de06302ccc76f75a805e9d2fd", func := "loop.example/poolfiles/laws.FnExactFanGet", spec := "fnExactFanGet", inPlace := ["internal/bytealg.CountString", "internal/bytealg.IndexByteString", "internal/bytealg.IndexString", "internal/abi.NoEscape", "internal/bytealg.MakeNoZero"], unfollowed := true, recurses := true, named := ["unicode/utf8.first", "unicode/utf8.acceptRanges", "internal/bytealg.MaxLen", "strconv.ErrSyntax", "strconv.ErrRange", "internal/strconv.uint64pow10", "math/bits.deBruijn32tab", "math/bits.deBruijn64tab"], apart := false, laid := [("math/bits.deBruijn32tab", laid_math_bits_deBruijn32tab), ("math/bits.deBruijn64tab", laid_math_bits_deBruijn64tab), ("internal/strconv.uint64pow10", laid_internal_strconv_uint64pow10), ("unicode/utf8.acceptRanges", laid_unicode_utf8_acceptRanges), ("strconv.ErrRange", laid_strconv_ErrRange), ("strconv.ErrSyntax", laid_strconv_ErrSyntax), ("unicode/utf8.first", laid_unicode_utf8_first)], narrowed := true }
def FnExactFanGetUptoSaid : Prop := fnExactFanGetUptoRow.holds Tryd.pinned (OpenSpec.upto fnExactFanGetSpec)

/-- 'laws.FnFanPut', WHERE WHAT IT READS IS OF BULK AT MOST 1048576: true; the input reads as it did. -/
def fnFanPutUptoRow : OpenClaim := { program := "ytmhbpmacfekhgaadoor", sum := "beb4a3b4ceb7e8f72569846adbd30f4ddcedd55de06302ccc76f75a805e9d2fd", func := "loop.example/poolfiles/laws.FnFanPut", spec := "fnFanPut", inPlace := ["internal/abi.NoEscape", "internal/bytealg.MakeNoZero", "internal/bytealg.CountString", "internal/bytealg.IndexByteString", "internal/bytealg.IndexString"], unfollowed := true, recurses := true, named := ["internal/strconv.uint64pow10", "math/bits.deBruijn32tab", "math/bits.deBruijn64tab", "unicode/utf8.first", "unicode/utf8.acceptRanges", "internal/bytealg.MaxLen", "strconv.ErrSyntax", "strconv.ErrRange"], apart := false, laid := [("math/bits.deBruijn32tab", laid_math_bits_deBruijn32tab), ("math/bits.deBruijn64tab", laid_math_bits_deBruijn64tab), ("internal/strconv.uint64pow10", laid_internal_strconv_uint64pow10), ("unicode/utf8.acceptRanges", laid_unicode_utf8_acceptRanges), ("strconv.ErrRange", laid_strconv_ErrRange), ("strconv.ErrSyntax", laid_strconv_ErrSyntax), ("unicode/utf8.first", laid_unicode_utf8_first)], narrowed := true }
def FnFanPutUptoSaid : Prop := fnFanPutUptoRow.holds Tryd.pinned (OpenSpec.upto fnFanPutSpec)

/-- 'laws.FnFanGet', WHERE WHAT IT READS IS OF BULK AT MOST 1048576: true; the input reads as it did. -/
def fnFanGetUptoRow : OpenClaim := { program := "ytmhbpmacfekhgaadoor", sum := "beb4a3b4ceb7e8f72569846adbd30f4ddcedd55de06302ccc76f75a805e9d2fd", func := "loop.example/poolfiles/laws.FnFanGet", spec := "fnFanGet", inPlace := ["internal/bytealg.CountString", "internal/bytealg.IndexByteString", "internal/bytealg.IndexString", "internal/abi.NoEscape", "internal/bytealg.MakeNoZero"], unfollowed := true, recurses := true, named := ["unicode/utf8.first", "unicode/utf8.acceptRanges", "internal/bytealg.MaxLen", "strconv.ErrSyntax", "strconv.ErrRange", "internal/strconv.uint64pow10", "math/bits.deBruijn32tab", "math/bits.deBruijn64tab"], apart := false, laid := [("math/bits.deBruijn32tab", laid_math_bits_deBruijn32tab), ("math/bits.deBruijn64tab", laid_math_bits_deBruijn64tab), ("internal/strconv.uint64pow10", laid_internal_strconv_uint64pow10), ("unicode/utf8.acceptRanges", laid_unicode_utf8_acceptRanges), ("strconv.ErrRange", laid_strconv_ErrRange), ("strconv.ErrSyntax", laid_strconv_ErrSyntax), ("unicode/utf8.first", laid_unicode_utf8_first)], narrowed := true }
def FnFanGetUptoSaid : Prop := fnFanGetUptoRow.holds Tryd.pinned (OpenSpec.upto fnFanGetSpec)

end Rows
end Go.Proofs.YtmhbpmacfekhgaaDoor
