/- Slices of texts: what eqStringS, markStringS, heldStringS, toStringS and szStringS of the laws do. -/
import Derived.Test.YtmhbpmacfekhgaaDoorInts
import Derived.Laws.IdiomStrings
namespace Go.Proofs.YtmhbpmacfekhgaaDoor
open Go.RowKit

theorem ret_str {a b : ByteArray} (h : a = b) : Ending.returned (.string a) = Ending.returned (.string b) := by rw [h]
/-- a cell of a row of texts -/
theorem Rd.str_at {w : World} {A : Option Addr} {n : Nat} {zs : List ByteArray} (h : Rd w 1 A n (zs.map Value.string)) {k : Nat} (hk : k < n) :
    ∃ b o z, A = some ⟨b, o, none⟩ ∧ b < w.heap.size ∧ zs[k]? = some z ∧ w.cell? ⟨b, o + k, none⟩ = some (.string z) := by
  obtain ⟨b, o, e, hb, hc⟩ := h.at_ (by omega)
  have hl : k < zs.length := by have := h.len; simp at this; omega
  exact ⟨b, o, zs[k], e, hb, List.getElem?_eq_getElem hl, hc k _ (by simp [List.getElem?_eq_getElem hl])⟩

/-- two lists of texts are one -/
def eqT (zs ys : List ByteArray) : Bool := decide (zs = ys)
theorem eqT_len {zs ys : List ByteArray} (h : zs.length ≠ ys.length) : eqT zs ys = false := by
  unfold eqT
  exact decide_eq_false fun e => h (by rw [e])
theorem eqT_at {zs ys : List ByteArray} {k : Nat} {z y : ByteArray} (hz : zs[k]? = some z) (hy : ys[k]? = some y) (h : z ≠ y) : eqT zs ys = false := by
  unfold eqT
  exact decide_eq_false fun e => h (by rw [e, hy] at hz; injection hz with hz; exact hz.symm)
theorem eqT_all {zs ys : List ByteArray} (hl : zs.length = ys.length) (h : zs.take zs.length = ys.take zs.length) : eqT zs ys = true := by
  unfold eqT
  rw [List.take_length, hl, List.take_length] at h
  exact decide_eq_true h
theorem eqT_same (zs : List ByteArray) : eqT zs zs = true := by unfold eqT; exact decide_eq_true rfl

theorem beqT_eq {a b : ByteArray} (h : a = b) : (a.toList == b.toList) = true := by rw [h]; exact beq_self_eq_true _
theorem beqT_ne {a b : ByteArray} (h : a ≠ b) : (a.toList == b.toList) = false := by
  rw [beq_eq_false_iff_ne, ByteArray.toList_eq, ByteArray.toList_eq]
  intro e
  exact h (by cases a; cases b; simpa using e)

theorem info_str : (Tryd.prog.info? 9).map (fun i => (i.zero, i.size, i.bytes)) = some (some (.string ⟨#[]⟩), 1, 16) := by kernel_rfl
/-- make([]string, n) -/
theorem make_strs (n : Nat) (hn : n ≤ 1000000000) (w : World) :
    (Instr.makeSlice 51 (.int .i64 (n : Int)) (.int .i64 (n : Int))).run Tryd.prog w = .ok (.slice (some ⟨w.heap.size, 0, none⟩) n n) (w.alloc (.cells (madeCells #[.string ⟨#[]⟩] n) 9)) := by
  obtain ⟨i, hi, hz, hs, hb⟩ := info_parts info_str
  have hr := run_make (P := Tryd.prog) w 51 9 i _ Tryd.underlying51 hi hz .i64 .i64 n n (by omega) (by omega) (by rw [hb]; omega) (by omega)
  simp only [Int.toNat_natCast, hs, Nat.mul_one] at hr
  exact hr

/-- what is left of a size -/
def szT (left : Int) (zs : List ByteArray) : Int := zs.foldl (fun l z => if l < 0 then -1 else if l < (z.size : Int) then -1 else l - z.size) (if left < (zs.length : Int) then -1 else left - zs.length)
theorem szT_gone (zs : List ByteArray) (l : Int) (h : l = -1) : zs.foldl (fun l z => if l < 0 then -1 else if l < (z.size : Int) then -1 else l - z.size) l = -1 := by
  induction zs generalizing l with
  | nil => exact h
  | cons z zs ih => exact ih _ (by simp [h])
theorem szT_le (zs : List ByteArray) (l : Int) : -1 ≤ l → zs.foldl (fun l z => if l < 0 then -1 else if l < (z.size : Int) then -1 else l - z.size) l ≤ l ∧ -1 ≤ zs.foldl (fun l z => if l < 0 then -1 else if l < (z.size : Int) then -1 else l - z.size) l := by
  induction zs generalizing l with
  | nil => intro h; exact ⟨Int.le_refl _, h⟩
  | cons z zs ih =>
    intro h
    have := ih (if l < 0 then -1 else if l < (z.size : Int) then -1 else l - z.size) (by split <;> (try split) <;> omega)
    refine ⟨Int.le_trans this.1 ?_, this.2⟩
    split <;> (try split) <;> omega
theorem szT_bd (left : Int) (zs : List ByteArray) (h : 0 ≤ left) : szT left zs ≤ left ∧ -1 ≤ szT left zs := by
  unfold szT
  have := szT_le zs (if left < (zs.length : Int) then -1 else left - zs.length) (by split <;> omega)
  refine ⟨Int.le_trans this.1 ?_, this.2⟩
  split <;> omega

end Go.Proofs.YtmhbpmacfekhgaaDoor
