/- Marks on slices of texts: markText, markStringS, heldStringS of the laws. -/
import Derived.Test.YtmhbpmacfekhgaaDoorStrs
import Derived.Lib.ConvBytes
import Derived.Laws.BytesArg
namespace Go.Proofs.YtmhbpmacfekhgaaDoor
open Go.RowKit

/-- the digits ahead of a text -/
def mgo : Nat → Nat → ByteArray → ByteArray
  | 0, _, out => out
  | f + 1, k, out => if k = 0 then out else mgo f (k / 10) (⟨#[UInt8.ofNat (48 + k % 10)]⟩ ++ out)
def mtext (k : Nat) : ByteArray := if k = 0 then ⟨#[109, 48]⟩ else ⟨#[109]⟩ ++ mgo k k ⟨#[]⟩
theorem mgo_zero (f : Nat) (out : ByteArray) : mgo f 0 out = out := by cases f <;> rfl
theorem mgo_step (f k : Nat) (out : ByteArray) (hf : k ≤ f) (hk : 0 < k) : ∃ f', k / 10 ≤ f' ∧ mgo f k out = mgo f' (k / 10) (⟨#[UInt8.ofNat (48 + k % 10)]⟩ ++ out) := by
  obtain ⟨f, rfl⟩ : ∃ f', f = f' + 1 := ⟨f - 1, by omega⟩
  exact ⟨f, by omega, by rw [mgo, if_neg (by omega)]⟩

theorem one_str (w : World) (x : UInt8) (o : Int) (ho : o = (x.toNat : Int)) : (convert 32 9 (.slice (some ⟨w.heap.size, 0, none⟩) 1 1)).run Tryd.prog (w.alloc (.cells #[.int .u8 o] 5)) = .ok (.string ⟨#[x]⟩) (w.alloc (.cells #[.int .u8 o] 5)) := by
  subst ho
  refine run_convert_bytes_back _ 32 9 5 _ 1 [x] Tryd.underlying32 Tryd.underlying5 Tryd.underlying9 (fun j hj => ?_)
  have : j = 0 := by simpa using hj
  subst this
  rw [Addr.add_lit, (Bk.fresh w _ _).cell]
  rfl

/-- what is written into a row: the texts of the numbers from k0 on -/
def marksT (k0 n : Nat) : List Value := (List.range n).map fun (j : Nat) => Value.string (mtext (k0 + j))
theorem marksT_at (k0 n j : Nat) (h : j < n) : (marksT k0 n)[j]? = some (.string (mtext (k0 + j))) := by simp [marksT, h]
theorem marksT_len (k0 n : Nat) : (marksT k0 n).length = n := by simp [marksT]

/-- what markStringS leaves reads as the marks -/
theorem marksT_rd {w : World} {g n k0 : Nat} {cs : Array Value} (h : Bk w g 9 cs) (hc : ∀ l, l < n → cs[l]? = some (.string (mtext (k0 + l)))) : Rd w 1 (some ⟨g, 0, none⟩) n (marksT k0 n) := by
  refine h.rd (by rw [marksT_len]; omega) (fun j u hu => ?_)
  have hj : j < n := by
    have := (List.getElem?_eq_some_iff.1 hu).1
    rwa [marksT_len] at this
  rw [marksT_at k0 n j hj] at hu
  injection hu with hu
  rw [hc j hj, hu]
theorem Rd.nil (w : World) (k : Nat) (A : Option Addr) : Rd w k A 0 [] := ⟨by simp, fun h => absurd h (by omega)⟩
/-- three cells of a row of texts, read -/
theorem Bk.rdT {w : World} {g : Nat} {zs : List ByteArray} (h : Bk w g 9 (zs.map Value.string).toArray) : Rd w 1 (some ⟨g, 0, none⟩) zs.length (zs.map Value.string) :=
  h.rd (by simp) (fun j u hu => by rw [List.getElem?_toArray]; exact hu)
end Go.Proofs.YtmhbpmacfekhgaaDoor
