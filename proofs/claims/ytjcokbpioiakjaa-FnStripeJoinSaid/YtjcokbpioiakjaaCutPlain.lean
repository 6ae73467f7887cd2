/- The columns of a block give it back, in plain words. -/
import Derived.Test.YtjcokbpioiakjaaJoinPlain
namespace Go.Proofs.Ytjcokbpioiakjaa
open Go.RowKit
set_option linter.unusedVariables false

theorem xor_self3 (x y : UInt8) : x ^^^ y ^^^ y = x := by rw [UInt8.xor_assoc, UInt8.xor_self, UInt8.xor_zero]
theorem xor_self4 (x y : UInt8) : x ^^^ y ^^^ x = y := by rw [UInt8.xor_comm x y, xor_self3]
theorem xr_xr (a b : List UInt8) : xr (xr a b) b = a := by
  apply List.ext_getElem?
  intro i
  cases h : a[i]? with
  | none => rw [List.getElem?_eq_none (by rw [xr_len, xr_len]; exact List.getElem?_eq_none_iff.1 h)]
  | some x => rw [xr_at (xr_at h), xor_self3]
theorem xr_back (a b : List UInt8) (hb : b.length ≤ a.length) : (xr (xr a b) a).take b.length = b := by
  apply List.ext_getElem?
  intro i
  rw [List.getElem?_take]
  by_cases hi : i < b.length
  · rw [if_pos hi]
    have ha : a[i]? = some a[i] := List.getElem?_eq_getElem (by omega)
    rw [xr_at (xr_at ha), List.getD_eq_getElem?_getD, List.getD_eq_getElem?_getD, ha, List.getElem?_eq_getElem hi]
    show some (a[i] ^^^ b[i] ^^^ a[i]) = some b[i]
    rw [xor_self4]
  · rw [if_neg hi, List.getElem?_eq_none (by omega)]
/-- the parts of a block -/
theorem cut_parts (s : ByteArray) : ∃ x y, cutT s = [x, y, parT s] ∧ x ++ y = s ∧ x.size = (s.size + 1) / 2 ∧ y.size = s.size - (s.size + 1) / 2 ∧ (parT s).size = (s.size + 1) / 2 ∧ othT (parT s) y = x ∧ (othT (parT s) x).extract 0 y.size = y := by
  have hq : (s.size + 1) / 2 ≤ s.size := by omega
  have hl : s.data.toList.length = s.size := Array.length_toList
  refine ⟨s.extract 0 ((s.size + 1) / 2), s.extract ((s.size + 1) / 2) s.size, rfl, ?_, ?_, ?_, ?_, ?_, ?_⟩
  · apply ByteArray.ext
    rw [ByteArray.data_append]
    apply Array.ext'
    rw [Array.toList_append, ext_list, ext_list, List.drop_zero, List.take_of_length_le (i := s.size) (by omega), List.take_append_drop]
  · rw [ext_size _ _ _ (by omega) (by omega)]; omega
  · rw [ext_size _ _ _ (by omega) (by omega)]
  · show (xr _ _).toArray.size = _
    rw [List.size_toArray, xr_len, List.length_take]
    omega
  · apply ByteArray.ext
    apply Array.ext'
    show xr (xr _ _) (s.extract ((s.size + 1) / 2) s.size).data.toList = _
    rw [ext_list, ext_list, List.drop_zero, List.take_of_length_le (i := s.size) (by omega)]
    exact xr_xr _ _
  · apply ByteArray.ext
    apply Array.ext'
    rw [ext_list, ext_list, List.drop_zero, List.take_of_length_le (i := s.size) (by omega), ext_size _ _ _ (by omega) (by omega)]
    show (xr (xr _ _) (s.extract 0 ((s.size + 1) / 2)).data.toList).take _ = _
    rw [ext_list, List.drop_zero]
    have h := xr_back (s.data.toList.take ((s.size + 1) / 2)) (s.data.toList.drop ((s.size + 1) / 2)) (by rw [List.length_drop, List.length_take]; omega)
    rw [List.length_drop, hl] at h
    exact h
/-- each column but one is enough -/
theorem cut_join (s : ByteArray) (lost : Int) (h : inR s.size 1 128 = true) (hl : lost = -1 ∨ lost = 0 ∨ lost = 1) : joinV (cutT s) s.size lost = .tuple #[.string s, .bool true] := by
  obtain ⟨x, y, e, hs, hx, hy, hz, h0, h1⟩ := cut_parts s
  have hq : ((s.size : Int) + 1) / 2 = (((s.size + 1) / 2 : Nat) : Int) := by omega
  have hm : (s.size : Int) - ((s.size : Int) + 1) / 2 = ((s.size - (s.size + 1) / 2 : Nat) : Int) := by omega
  have ex : ((x.size : Int) == (((s.size + 1) / 2 : Nat) : Int)) = true := by rw [hx]; exact beq_self_eq_true _
  have ey : ((y.size : Int) == ((s.size - (s.size + 1) / 2 : Nat) : Int)) = true := by rw [hy]; exact beq_self_eq_true _
  have ez : (((parT s).size : Int) == (((s.size + 1) / 2 : Nat) : Int)) = true := by rw [hz]; exact beq_self_eq_true _
  rw [e]
  rcases hl with rfl | rfl | rfl
  · rw [join_m hq hm h ex ey, hs]
  · rw [join_0 hq hm h ey ez, h0, hs]
  · rw [join_1 hq hm h ex ez, ← hy, h1, hs]
end Go.Proofs.Ytjcokbpioiakjaa
