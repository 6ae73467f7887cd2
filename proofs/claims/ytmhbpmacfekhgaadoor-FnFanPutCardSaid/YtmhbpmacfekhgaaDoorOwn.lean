/- Rows of bytes that a call makes for itself; bytes of texts. -/
import Derived.Test.YtmhbpmacfekhgaaDoorSum
import Derived.Deep.AppendLies
import Derived.Lib.UnsafeStr
import Derived.Laws.BytesArg
import Derived.Laws.IdiomStrings
namespace Go.Proofs.YtmhbpmacfekhgaaDoor
open Go.RowKit

theorem at_of (s : ByteArray) (k : Nat) (h : k < s.size) : s.data.toList[k]? = some s[k] := by
  rw [Array.getElem?_toList]; exact Array.getElem?_eq_getElem h
theorem none_of (s : ByteArray) (k : Nat) (h : s.size ≤ k) : s.data.toList[k]? = none := by
  rw [Array.getElem?_toList]; exact Array.getElem?_eq_none h
/-- string(b) of a row of bytes of the call's own -/
theorem str_of_own {w : World} {base : Nat} {v : Value} {out : List UInt8} (h : w.ownsRow base 5 1 v out.length (Lib.byteCells out)) :
    (convert 32 9 v).run Tryd.prog w = .ok (.string ⟨out.toArray⟩) w := by
  rcases h.2 with ⟨rfl, hn⟩ | ⟨g, cap, cur, rfl, hg, hh, hc, hp⟩
  · have ho : out = [] := List.eq_nil_of_length_eq_zero hn
    subst ho
    exact run_convert_bytes_nil w 32 5 Tryd.underlying32 Tryd.underlying5 0 0 9 Tryd.underlying9
  · refine run_convert_bytes_back w 32 9 5 _ cap out Tryd.underlying32 Tryd.underlying5 Tryd.underlying9 (fun j hj => ?_)
    exact h.cells (g := g) rfl j _ (by simp [Lib.byteCells, List.getElem?_eq_getElem hj])

theorem info_u8 : (Tryd.prog.info? 5).map (fun i => (i.zero, i.size, i.bytes)) = some (some (.int .u8 0), 1, 1) := by kernel_rfl
theorem own_drewN {w : World} {base : Nat} {e : TypeId} {k n : Nat} {v : Value} {xs : List Value} (h : w.ownsRow base e k v n xs) (m : Nat) : (w.drewN m).ownsRow base e k v n xs := h
theorem own_snoc {w : World} {base : Nat} {e : TypeId} {v : Value} {out more : List UInt8} {n : Nat} {xs : List Value} (h : w.ownsRow base e 1 v (out.length + n) (Lib.byteCells out ++ xs)) (hx : xs = Lib.byteCells more) (hn : more.length = n) : w.ownsRow base e 1 v (out ++ more).length (Lib.byteCells (out ++ more)) := by
  subst hx hn
  have e1 : (out ++ more).length = out.length + more.length := by simp
  have e2 : Lib.byteCells (out ++ more) = Lib.byteCells out ++ Lib.byteCells more := by simp [Lib.byteCells]
  rw [e1, e2]
  exact h
theorem bel_grown {w wr w1 : World} {v : Value} {e : TypeId} {k n : Nat} {xs : List Value} (hb : Below w.heap.size w wr) (ho : wr.ownsRow w.heap.size e k v n xs) (hg : wr.grownBy w1 v.ownBlock) : Below w.heap.size w w1 := hb.grown hg hb.size (fun i hi => (ho.lt i hi).1)
theorem oneCells (l : List UInt8) : ∀ u ∈ Lib.byteCells l, u.oneCell' = true := by
  intro u hu
  simp only [Lib.byteCells, List.mem_map] at hu
  obtain ⟨b, _, rfl⟩ := hu
  rfl

end Go.Proofs.YtmhbpmacfekhgaaDoor
