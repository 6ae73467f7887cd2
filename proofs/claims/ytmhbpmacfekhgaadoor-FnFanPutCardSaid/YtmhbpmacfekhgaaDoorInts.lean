/- Slices of integers: what eqIntS, markIntS, heldIntS, toIntS and szIntS of the laws do. -/
import Derived.Test.YtmhbpmacfekhgaaDoorSum
import Derived.Deep.RegionHeld
import Derived.BigQuiet
import Derived.Deep.QuietTactic
import Derived.Deep.Draws
namespace Go.Proofs.YtmhbpmacfekhgaaDoor
open Go.RowKit

theorem Rd.drewN {w : World} {k : Nat} {A : Option Addr} {n : Nat} {xs : List Value} (h : Rd w k A n xs) (m : Nat) : Rd (w.drewN m) k A n xs := ⟨h.len, h.at_⟩

/-- a call that changes nothing, in a region that draws behind earlier draws -/
theorem quiet2 {P : Program} {f : FuncId} {args : Array Value} {w : World} {a n : Nat} {v : Value} (h : Calls P f args (w.drewN (a + n)) fun e w' => e = .returned v ∧ w.drewN (a + n) = w') :
    Calls P f args (w.drewN (a + n)) fun e w'' => e = .returned v ∧ ∃ m, w'' = w.drewN (a + m) := h.mono fun _ _ hh => ⟨hh.1, n, hh.2.symm⟩
/-- the same behind no earlier draw -/
theorem quiet1 {P : Program} {f : FuncId} {args : Array Value} {w : World} {n : Nat} {v : Value} (h : Calls P f args (w.drewN n) fun e w' => e = .returned v ∧ w.drewN n = w') :
    Calls P f args (w.drewN n) fun e w'' => e = .returned v ∧ ∃ m, w'' = w.drewN m := h.mono fun _ _ hh => ⟨hh.1, n, hh.2.symm⟩

/-- a cell of a row of integers -/
theorem Rd.int_at {w : World} {A : Option Addr} {n : Nat} {zs : List Int} (h : Rd w 1 A n (zs.map (Value.int .i64))) {k : Nat} (hk : k < n) :
    ∃ b o z, A = some ⟨b, o, none⟩ ∧ b < w.heap.size ∧ zs[k]? = some z ∧ w.cell? ⟨b, o + k, none⟩ = some (.int .i64 z) := by
  obtain ⟨b, o, e, hb, hc⟩ := h.at_ (by omega)
  have hl : k < zs.length := by have := h.len; simp at this; omega
  exact ⟨b, o, zs[k], e, hb, List.getElem?_eq_getElem hl, hc k _ (by simp [List.getElem?_eq_getElem hl])⟩

/-- two lists of integers are one -/
def eqI (zs ys : List Int) : Bool := decide (zs = ys)
theorem eqI_len {zs ys : List Int} (h : zs.length ≠ ys.length) : eqI zs ys = false := by
  unfold eqI
  exact decide_eq_false fun e => h (by rw [e])
theorem eqI_at {zs ys : List Int} {k : Nat} {z y : Int} (hz : zs[k]? = some z) (hy : ys[k]? = some y) (h : z ≠ y) : eqI zs ys = false := by
  unfold eqI
  exact decide_eq_false fun e => h (by rw [e, hy] at hz; injection hz with hz; exact hz.symm)
theorem eqI_all {zs ys : List Int} (hl : zs.length = ys.length) (h : zs.take zs.length = ys.take zs.length) : eqI zs ys = true := by
  unfold eqI
  rw [List.take_length, hl, List.take_length] at h
  exact decide_eq_true h
theorem take_eq_snoc {α : Type} {zs ys : List α} {k : Nat} {z y : α} (hz : zs[k]? = some z) (hy : ys[k]? = some y) (h : zs.take k = ys.take k) (e : z = y) : zs.take (k + 1) = ys.take (k + 1) := by
  rw [List.take_add_one, List.take_add_one, hz, hy, h, e]

/-- what is written into a row: the numbers from k0 on -/
def marksI (k0 : Int) (n : Nat) : List Value := (List.range n).map fun (j : Nat) => Value.int .i64 (k0 + (j : Int))
theorem marksI_at (k0 : Int) (n j : Nat) (h : j < n) : (marksI k0 n)[j]? = some (.int .i64 (k0 + j)) := by simp [marksI, h]
theorem marksI_len (k0 : Int) (n : Nat) : (marksI k0 n).length = n := by simp [marksI]

theorem info_int : (Tryd.prog.info? 3).map (fun i => (i.zero, i.size, i.bytes)) = some (some (.int .i64 0), 1, 8) := by kernel_rfl
/-- make([]int, n) -/
theorem make_ints (n : Nat) (hn : n ≤ 1000000000) (w : World) :
    (Instr.makeSlice 57 (.int .i64 (n : Int)) (.int .i64 (n : Int))).run Tryd.prog w = .ok (.slice (some ⟨w.heap.size, 0, none⟩) n n) (w.alloc (.cells (madeCells #[.int .i64 0] n) 3)) := by
  obtain ⟨i, hi, hz, hs, hb⟩ := info_parts info_int
  have hr := run_make (P := Tryd.prog) w 57 3 i _ Tryd.underlying57 hi hz .i64 .i64 n n (by omega) (by omega) (by rw [hb]; omega) (by omega)
  simp only [Int.toNat_natCast, hs, Nat.mul_one] at hr
  exact hr

/-- what is left of a size -/
def szI (left : Int) (n : Nat) : Int := if left < (n : Int) then -1 else left - n
end Go.Proofs.YtmhbpmacfekhgaaDoor
