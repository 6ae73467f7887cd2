/- DrawSumOf draws a text; the walk of the law FnSumOf. -/
import Derived.Test.YtmhbpmacfekhgaaDoorText
import Derived.Test.YtmhbpmacfekhgaaDoorSumPlain
import Derived.Lib.ConvBytes
import Derived.Deep.RegionHeld
namespace Go.Proofs.YtmhbpmacfekhgaaDoor
open Go.RowKit

/-- a row of bytes of the call's own, that may be written -/
def ByteRow (w : World) (g : Nat) (l : List UInt8) : Prop := ∀ (j : Nat) (b : UInt8), l[j]? = some b → w.cell? ⟨g, j, none⟩ = some (.int .u8 b.toNat) ∧ w.frozen? ⟨g, j, none⟩ = false
theorem ByteRow.set_ {w : World} {g : Nat} {l : List UInt8} (h : ByteRow w g l) {j : Nat} (hj : j < l.length) (c : UInt8) : ByteRow (w.setCell ⟨g, j, none⟩ (.int .u8 c.toNat)) g (l.set j c) := by
  intro i b hi
  rw [World.frozen?_setCell]
  by_cases e : j = i
  · subst e
    rw [List.getElem?_set_self hj] at hi
    injection hi with hi
    subst hi
    obtain ⟨h1, h2⟩ := h j _ (List.getElem?_eq_getElem hj)
    exact ⟨World.cell?_setCell_same' w _ _ (by rw [h1]; rfl), h2⟩
  · rw [List.getElem?_set_ne e] at hi
    rw [World.cell?_setCell_other w _ _ _ (fun ee => by injection ee with _ ee; exact e ee)]
    exact h i b hi
theorem ByteRow.str {w : World} {g c : Nat} {l : List UInt8} {n : Nat} (h : ByteRow w g l) (hn : n = l.length) :
    (convert 32 9 (.slice (some ⟨g, 0, none⟩) n c)).run Tryd.prog w = .ok (.string ⟨l.toArray⟩) w := by
  subst hn
  refine run_convert_bytes_back w 32 9 5 _ c l Tryd.underlying32 Tryd.underlying5 Tryd.underlying9 (fun j hj => ?_)
  rw [Addr.add_lit, Nat.zero_add]
  exact (h j _ (List.getElem?_eq_getElem hj)).1
theorem to_bytes (w : World) (s : ByteArray) : ∃ (W : World) (c : Nat), (convert 9 32 (.string s)).run Tryd.prog w = .ok (.slice (some ⟨w.heap.size, 0, none⟩) s.size c) W ∧ ByteRow W w.heap.size s.data.toList ∧ Below w.heap.size w W ∧ W.heap.size = w.heap.size + 1 ∧ s.size ≤ c := by
  refine ⟨_, _, Lib.run_convert_string_bytes w 9 32 5 s Tryd.underlying9 Tryd.underlying32 Tryd.underlying5, ?_, ?_, Lib.bytesWorld_size _ _ _, grownCap_ge _ _ _ _⟩
  · intro j b hj
    have hlt : j < s.size := by
      have := (List.getElem?_eq_some_iff.1 hj).1
      simpa using this
    refine ⟨?_, ?_⟩
    · rw [Lib.bytesWorld_cell w _ s j hlt, List.getD_eq_getElem?_getD, hj]
      rfl
    · simp only [World.frozen?, Lib.bytesWorld_at_new]
      simp [Lib.bytesCells]
      omega
  · exact ⟨rfl, rfl, rfl, by rw [Lib.bytesWorld_size]; omega, fun k hk => Lib.bytesWorld_at_old w _ s k hk⟩

theorem list_split {l : List UInt8} {k : Nat} {b : UInt8} (h : l[k]? = some b) : l = l.take k ++ b :: l.drop (k + 1) := by
  have hlt : k < l.length := (List.getElem?_eq_some_iff.1 h).1
  rw [List.getElem?_eq_getElem hlt] at h
  injection h with h
  conv => lhs; rw [← List.take_append_drop k l, List.drop_eq_getElem_cons hlt, h]
theorem set_split {l : List UInt8} {k : Nat} (hlt : k < l.length) (y : UInt8) : l.set k y = l.take k ++ y :: l.drop (k + 1) := by
  rw [List.set_eq_take_append_cons_drop, if_pos hlt]
theorem sum_changed {s : ByteArray} {k : Nat} {b y : UInt8} (h : s.data.toList[k]? = some b) (hne : b ≠ y) : sumOf (ByteArray.mk (s.data.toList.set k y).toArray).data.toList ≠ sumOf s.data.toList := by
  show sumOf (s.data.toList.set k y) ≠ _
  rw [set_split (List.getElem?_eq_some_iff.1 h).1]
  conv => rhs; rw [list_split h]
  exact fun e => sumOf_set _ _ _ _ hne e.symm
theorem sum_swapped {s : ByteArray} {k : Nat} (hk : k + 1 < s.size) (hne : s[k] ≠ s[k + 1]) : sumOf ((s.data.toList.set k s[k + 1]).set (k + 1) s[k]) ≠ sumOf s.data.toList := by
  have hl : s.data.toList.length = s.size := Array.length_toList
  have h0 : s.data.toList[k]? = some s[k] := by rw [Array.getElem?_toList]; exact Array.getElem?_eq_getElem (show k < s.data.size from Nat.lt_of_succ_lt hk)
  have h1 : s.data.toList[k + 1]? = some s[k + 1] := by rw [Array.getElem?_toList]; exact Array.getElem?_eq_getElem (show k + 1 < s.data.size from hk)
  have e0 := list_split h0
  have e1 : s.data.toList.drop (k + 1) = s[k + 1] :: s.data.toList.drop (k + 1 + 1) := by
    rw [List.drop_eq_getElem_cons (by omega : k + 1 < s.data.toList.length)]
    rw [List.getElem?_eq_getElem (by omega : k + 1 < s.data.toList.length)] at h1
    injection h1 with h1
    rw [h1]
  have e2 : (s.data.toList.set k s[k + 1]).set (k + 1) s[k] = s.data.toList.take k ++ s[k + 1] :: s[k] :: s.data.toList.drop (k + 1 + 1) := by
    rw [show s.data.toList.set k s[k + 1] = s.data.toList.take k ++ s[k + 1] :: s[k + 1] :: s.data.toList.drop (k + 1 + 1) from by rw [set_split (by omega), e1]]
    rw [List.set_append_right _ _ (by simp; omega)]
    simp
    rw [show k + 1 - min k s.size = 1 from by omega]
    rfl
  rw [e2]
  conv => rhs; rw [e0, e1]
  exact fun e => sumOf_swap _ _ _ _ hne e.symm

end Go.Proofs.YtmhbpmacfekhgaaDoor
