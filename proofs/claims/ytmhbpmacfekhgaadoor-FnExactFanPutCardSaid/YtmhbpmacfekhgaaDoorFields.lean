/- Both FieldsPut. -/
import Derived.Test.YtmhbpmacfekhgaaDoorNumGet
import Derived.Test.YtmhbpmacfekhgaaDoorBuilderS
namespace Go.Proofs.YtmhbpmacfekhgaaDoor
open Go.Shelf Go.RowKit
set_option linter.unusedVariables false
/-- a field: its length, a colon, its bytes -/
def fld (z : ByteArray) : List UInt8 := Lib.decDigits z.size ++ [58] ++ z.data.toList
/-- a record -/
def recOf (zs : List ByteArray) : List UInt8 := zs.flatMap fld
theorem recOf_snoc (zs : List ByteArray) (z : ByteArray) : recOf (zs ++ [z]) = recOf zs ++ Lib.decDigits z.size ++ [58] ++ z.data.toList := by simp [recOf, fld]
theorem recOf_app (a b : List ByteArray) : recOf (a ++ b) = recOf a ++ recOf b := by simp [recOf]
theorem recOf_len_le (zs : List ByteArray) (k : Nat) : (recOf (zs.take k)).length ≤ (recOf zs).length := by
  have := congrArg List.length (recOf_app (zs.take k) (zs.drop k))
  rw [List.take_append_drop, List.length_append] at this
  omega
theorem fld_len (z : ByteArray) : z.size + 2 ≤ (fld z).length := by
  have h1 : (Lib.decDigits z.size).length ≠ 0 := fun h => dec_ne _ (List.eq_nil_of_length_eq_zero h)
  have h2 : z.data.toList.length = z.size := by simp
  unfold fld
  rw [List.length_append, List.length_append, List.length_singleton, h2]
  omega
def putB (zs : List ByteArray) : Bool := decide (zs.length ≤ 60) && decide ((recOf zs).length ≤ 2048)
def putT (zs : List ByteArray) : ByteArray := if putB zs = true then ⟨(recOf zs).toArray⟩ else ByteArray.empty
theorem put_yes {zs : List ByteArray} (h1 : zs.length ≤ 60) (h2 : (recOf zs).length ≤ 2048) : putT zs = ⟨(recOf zs).toArray⟩ ∧ putB zs = true := by
  have : putB zs = true := by simp only [putB, Bool.and_eq_true, decide_eq_true_eq]; exact ⟨h1, h2⟩
  unfold putT; rw [this]; exact ⟨rfl, rfl⟩
theorem put_no {zs : List ByteArray} (h : 60 < zs.length ∨ 2048 < (recOf zs).length) : putT zs = ⟨#[]⟩ ∧ putB zs = false := by
  have : putB zs = false := by simp only [putB, Bool.and_eq_false_iff, decide_eq_false_iff_not]; omega
  unfold putT; rw [this]; exact ⟨rfl, rfl⟩
theorem takeR {zs : List ByteArray} {k : Nat} {z : ByteArray} (h : zs[k]? = some z) : zs.take (k + 1) = zs.take k ++ [z] := by
  rw [List.take_add_one, h]; rfl
theorem rec_next {zs : List ByteArray} {k : Nat} {z : ByteArray} (h : zs[k]? = some z) : recOf (zs.take (k + 1)) = recOf (zs.take k) ++ Lib.decDigits z.size ++ [58] ++ z.data.toList := by
  rw [takeR h, recOf_snoc]
theorem rec_big {zs : List ByteArray} {k : Nat} {z : ByteArray} (h : zs[k]? = some z) (hz : 2048 < z.size) : 2048 < (recOf zs).length := by
  have h1 := recOf_len_le zs (k + 1)
  rw [takeR h] at h1
  have h2 := fld_len z
  have : (recOf (zs.take k ++ [z])).length = (recOf (zs.take k)).length + (fld z).length := by simp [recOf]
  omega
theorem fld_put (l d : List UInt8) (z : ByteArray) : (⟨l.toArray⟩ : ByteArray) ++ ⟨d.toArray⟩ ++ ⟨#[58]⟩ ++ z = ⟨(l ++ d ++ [58] ++ z.data.toList).toArray⟩ := by
  apply ByteArray.ext
  simp [ByteArray.data_append]
theorem ret_tb {a b : ByteArray} {u v : Bool} (h : a = b) (h2 : u = v) : Ending.returned (.tuple #[.string a, .bool u]) = Ending.returned (.tuple #[.string b, .bool v]) := by rw [h, h2]

theorem isB_str {B b : Nat} {l : List UInt8} {s : ByteArray} {w : World} (h : Lib.BuilderAt 73 5 B b (.pointer (some ⟨b, 0, none⟩)) (Lib.byteCells l ++ Lib.strCells s) w) : Lib.IsBuilder 73 5 B b (Lib.byteCells (l ++ s.data.toList)) w := by
  have e : Lib.byteCells l ++ Lib.strCells s = Lib.byteCells (l ++ s.data.toList) := by
    unfold Lib.strCells Lib.byteCells
    rw [List.map_append]
  rw [e] at h
  exact .inr h
theorem isB_chr {B b : Nat} {l : List UInt8} {w : World} (h : Lib.BuilderAt 73 5 B b (.pointer (some ⟨b, 0, none⟩)) (Lib.byteCells l ++ [.int .u8 58]) w) : Lib.IsBuilder 73 5 B b (Lib.byteCells (l ++ [58])) w := by
  have e : Lib.byteCells l ++ [.int .u8 58] = Lib.byteCells (l ++ [58]) := by
    unfold Lib.byteCells
    rw [List.map_append]
    rfl
  rw [e] at h
  exact .inr h
theorem itoaT (n : Int) (h0 : -9223372036854775808 ≤ n) (h1 : n ≤ 9223372036854775807) (w : World) (ht : Tab w) :
    Calls Tryd.prog 59 #[.int .i64 n] w fun e w' => e = .returned (.string ⟨(Lib.itoa n).toArray⟩) ∧ ∃ k os, w' = Go.Sort.grow (w.drewN k) os := itoaC n h0 h1 w ht
theorem bcl (l : List UInt8) : (Lib.byteCells l).length = l.length := by simp [Lib.byteCells]

end Go.Proofs.YtmhbpmacfekhgaaDoor
