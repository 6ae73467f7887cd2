/- impl's FieldsGet. -/
import Derived.Test.YtmhbpmacfekhgaaDoorCutC
import Derived.Test.YtmhbpmacfekhgaaDoorStrs
import Derived.Deep.AppendLies
namespace Go.Proofs.YtmhbpmacfekhgaaDoor
open Go.RowKit
set_option linter.unusedVariables false

def sizeOfS : Value → Nat
  | .string s => s.size
  | _ => 0
theorem ext_take (B : ByteArray) (n : Nat) : B.extract 0 n = ⟨(B.data.toList.take n).toArray⟩ := by
  apply ByteArray.ext
  apply Array.toList_inj.1
  rw [ByteArray.data_extract, Array.toList_extract, List.extract_eq_take_drop]
  simp
theorem ext_drop (B : ByteArray) (n : Nat) : (B.extract n B.size).data.toList = B.data.toList.drop n := by
  rw [ByteArray.data_extract, Array.toList_extract, List.extract_eq_take_drop]
  apply List.take_of_length_le
  simp
theorem isEmpty_sz (s : ByteArray) : s.toList.isEmpty = decide (s.size = 0) := by
  rw [ByteArray.toList_eq]
  cases h : s.data.toList with
  | nil =>
    have : s.size = 0 := by have := congrArg List.length h; simpa using this
    rw [decide_eq_true this]; rfl
  | cons a t =>
    have : s.size ≠ 0 := by have := congrArg List.length h; simp at this; omega
    rw [decide_eq_false this]; rfl
/-- what FieldsGet gives -/
def GetR (l : List UInt8) (w : World) (r : Ending) (w' : World) : Prop :=
  ∃ v, r = .returned (.tuple #[v, .bool (getB l)]) ∧ w'.ownsRow w.heap.size 9 1 v (getL l).length ((getL l).map Value.string) ∧ Below w.heap.size w w'
theorem owns_nil (w : World) (base : Nat) (e : TypeId) : w.ownsRow base e 1 (.slice none 0 0) 0 [] := ⟨rfl, .inl ⟨rfl, rfl⟩⟩
theorem GetR.no {l : List UInt8} {w w' : World} {v : Value} (h : ¬ GetP l) (ho : w'.ownsRow w.heap.size 9 1 v 0 []) (hb : Below w.heap.size w w') : GetR l w (.returned (.tuple #[v, .bool false])) w' := by
  obtain ⟨h1, h2⟩ := get_no h
  exact ⟨v, by rw [h1], by rw [h2]; exact ho, hb⟩
theorem GetR.yes {l : List UInt8} {zs : List ByteArray} {w w' : World} {v : Value} (h : getB l = true ∧ getL l = zs) (ho : w'.ownsRow w.heap.size 9 1 v zs.length (zs.map Value.string)) (hb : Below w.heap.size w w') : GetR l w (.returned (.tuple #[v, .bool true])) w' :=
  ⟨v, by rw [h.1], by rw [h.2]; exact ho, hb⟩
theorem own_more_s {w : World} {base : Nat} {v : Value} {zs : List ByteArray} {z : ByteArray} (h : w.ownsRow base 9 1 v (zs.length + 1) (zs.map Value.string ++ [.string z])) : w.ownsRow base 9 1 v (zs ++ [z]).length ((zs ++ [z]).map Value.string) := by
  rw [List.length_append, List.length_singleton, List.map_append]
  exact h
theorem bsz (l : List UInt8) : (⟨l.toArray⟩ : ByteArray).size = l.length := by show l.toArray.size = _; rw [List.size_toArray]
theorem ba_self (B : ByteArray) : (⟨B.data.toList.toArray⟩ : ByteArray) = B := by cases B; rfl
theorem own_bel {w w' : World} {base : Nat} {e : TypeId} {k n : Nat} {v : Value} {xs : List Value} (h : w.ownsRow base e k v n xs) (hb : Below w.heap.size w w') : w'.ownsRow base e k v n xs := by
  refine ⟨h.1, ?_⟩
  rcases h.2 with h2 | ⟨g, cap, cur, hv, hg, hh, r⟩
  · exact .inl h2
  · refine .inr ⟨g, cap, cur, hv, hg, ?_, r⟩
    rw [hb.block g (Array.getElem?_eq_some_iff.1 hh).1]
    exact hh
theorem own_shape {w : World} {base : Nat} {e : TypeId} {k n : Nat} {v : Value} {xs : List Value} (h : w.ownsRow base e k v n xs) : ∃ A c, v = .slice A n c := by
  rcases h.2 with ⟨rfl, rfl⟩ | ⟨g, cap, cur, rfl, _⟩
  · exact ⟨_, _, rfl⟩
  · exact ⟨_, _, rfl⟩

end Go.Proofs.YtmhbpmacfekhgaaDoor
