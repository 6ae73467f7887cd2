/- The walks of the pointer functions: toPtr, PtrHole, PtrOk of the program and of the reference. -/
import Derived.Test.YtcaoekaephnimaaQA
import Derived.Deep.RegionHeld3
import Derived.BigQuiet
import Derived.Deep.QuietTactic
import Derived.Deep.RegionHeld
namespace Go.Proofs.Ytcaoekaephnimaa
open Go.RowKit

/-- a pointer is a hole -/
def holeB (a b c d e : Int) : Bool := a == 0 && b == 0 && c == 0 && d == 0 && e == 0

set_option maxHeartbeats 400000 in
theorem specPtrHole_any (a b c d e : Int) (w : World) :
    Calls Try.prog 101 #[.agg #[.int .i64 a, .int .i64 b, .int .i64 c, .int .i64 d, .int .i64 e]] w fun r w' => r = .returned (.bool (holeB a b c d e)) ∧ Below w.heap.size w w' := by
  go_enter Try.func101, Try.ntmps101
  go_wp2
  all_goals
    go_ret
    exact ⟨by simp [holeB, *], bel1 _ _⟩

end Go.Proofs.Ytcaoekaephnimaa

/- PtrOk and PtrFits of the program and of the reference. -/
namespace Go.Proofs.Ytcaoekaephnimaa
open Go.RowKit

/-- a valid pointer -/
def okB (a b c d e : Int) : Bool := holeB a b c d e || (inR a 8 63 && inR b 1 900 && inR c 1 128 && inR d 0 99460728 && inR e 0 2)

set_option maxHeartbeats 800000 in
theorem specPtrOk_any (a b c d e : Int) (w : World) :
    Calls Try.prog 94 #[.agg #[.int .i64 a, .int .i64 b, .int .i64 c, .int .i64 d, .int .i64 e]] w fun r w' => r = .returned (.bool (okB a b c d e)) ∧ Below w.heap.size w w' := by
  have HK0 := hide (Bk.fresh w 95 #[.int .i64 a, .int .i64 b, .int .i64 c, .int .i64 d, .int .i64 e])
  have hb0 := bel1 w (.cells #[.int .i64 a, .int .i64 b, .int .i64 c, .int .i64 d, .int .i64 e] 95)
  go_enter Try.func94, Try.ntmps94
  go_wp2_with fail
  refine (specPtrHole_any _ _ _ _ _ _).mono ?_; rintro r w1 ⟨rfl, hb1⟩
  have hk1 := HK0.out.after hb1
  obtain ⟨q0, q1, q2, q3, q4⟩ := hk1.c5
  have HB := hide (bnext hb0 (Nat.le_refl _) hb1)
  clear hb0 hb1 hk1
  go_wp2_with (first
    | (go_at_call 102; refine (l2Row_any _ _).mono ?_; rintro r w2 ⟨rfl, rfl⟩)
    | (go_at_call 87; refine (l6In_any _ _ _ _).mono ?_; rintro r w2 ⟨rfl, rfl⟩))
  all_goals
    go_ret
    exact ⟨by simp [okB, *], HB.out⟩

end Go.Proofs.Ytcaoekaephnimaa

/- PtrFits of the program and of the reference: they answer whether size and checksum fit. -/
namespace Go.Proofs.Ytcaoekaephnimaa
open Go.RowKit

/-- a pointer fits a text -/
def fitsB (a b c d e : Int) (s : ByteArray) : Bool := okB a b c d e && !holeB a b c d e && c == (s.size : Int) && d == sumOf s.data.toList

theorem specPtrOk_v {a b c d e : Int} {v : Bool} (h : okB a b c d e = v) (w : World) :
    Calls Try.prog 94 #[.agg #[.int .i64 a, .int .i64 b, .int .i64 c, .int .i64 d, .int .i64 e]] w fun r w' => r = .returned (.bool v) ∧ Below w.heap.size w w' := h ▸ specPtrOk_any a b c d e w
theorem specPtrHole_v {a b c d e : Int} {v : Bool} (h : holeB a b c d e = v) (w : World) :
    Calls Try.prog 101 #[.agg #[.int .i64 a, .int .i64 b, .int .i64 c, .int .i64 d, .int .i64 e]] w fun r w' => r = .returned (.bool v) ∧ Below w.heap.size w w' := h ▸ specPtrHole_any a b c d e w

end Go.Proofs.Ytcaoekaephnimaa

/- PtrOf of the program and of the reference; eqPtr of the laws; the walk of the law FnExactPtrOf. -/
namespace Go.Proofs.Ytcaoekaephnimaa
open Go.RowKit

/-- there is a pointer of these -/
def ofB (a b e : Int) (s : ByteArray) : Bool := inR s.size 1 128 && okB a b s.size (sumOf s.data.toList) e
theorem ofB_1 {a b e : Int} {s : ByteArray} (h : inR s.size 1 128 = false) : ofB a b e s = false := by unfold ofB; rw [h]; rfl
theorem ofB_2 {a b e : Int} {s : ByteArray} (h : inR s.size 1 128 = true) : ofB a b e s = okB a b s.size (sumOf s.data.toList) e := by unfold ofB; rw [h]; rfl
/-- what PtrOf answers -/
def OfPost (a b e : Int) (s : ByteArray) (w : World) (r : Ending) (w' : World) : Prop :=
  r = .returned (.tuple #[.agg (if ofB a b e s = true then #[.int .i64 a, .int .i64 b, .int .i64 s.size, .int .i64 (sumOf s.data.toList), .int .i64 e] else #[.int .i64 0, .int .i64 0, .int .i64 0, .int .i64 0, .int .i64 0]), .bool (ofB a b e s)]) ∧ Below w.heap.size w w'
theorem OfPost.no {a b e : Int} {s : ByteArray} {w w' : World} (h : ofB a b e s = false) (hb : Below w.heap.size w w') : OfPost a b e s w (.returned (.tuple #[.agg #[.int .i64 0, .int .i64 0, .int .i64 0, .int .i64 0, .int .i64 0], .bool false])) w' := by
  refine ⟨?_, hb⟩
  rw [h]
  rfl
theorem OfPost.yes {a b e : Int} {s : ByteArray} {w w' : World} (h : ofB a b e s = true) (hb : Below w.heap.size w w') : OfPost a b e s w (.returned (.tuple #[.agg #[.int .i64 a, .int .i64 b, .int .i64 s.size, .int .i64 (sumOf s.data.toList), .int .i64 e], .bool true])) w' := by
  refine ⟨?_, hb⟩
  rw [h, if_pos rfl]

set_option maxHeartbeats 1000000 in
theorem specPtrOf_any (a b e : Int) (s : ByteArray) (hs : s.size ≤ maxLen) (w : World) :
    Calls Try.prog 75 #[.int .i64 a, .int .i64 b, .int .i64 e, .string s] w (OfPost a b e s w) := by
  have hb0 : Below w.heap.size w ((w.alloc (.cells #[.int .i64 0, .int .i64 0, .int .i64 0, .int .i64 0, .int .i64 0] 95)).alloc (.cells #[.int .i64 a, .int .i64 b, .int .i64 s.size, .int .i64 0, .int .i64 e] 95)) := ((Below.refl _ _).alloc (Nat.le_refl _) _).alloc (by simp) _
  have hb1 : Below w.heap.size w ((w.alloc (.cells #[.int .i64 0, .int .i64 0, .int .i64 0, .int .i64 0, .int .i64 0] 95)).alloc (.cells #[.int .i64 a, .int .i64 b, .int .i64 s.size, .int .i64 (sumOf s.data.toList), .int .i64 e] 95)) := ((Below.refl _ _).alloc (Nat.le_refl _) _).alloc (by simp) _
  cases h1 : inR s.size 1 128
  · have H1 := hide h1
    have HF := hide (ofB_1 (a := a) (b := b) (e := e) h1)
    clear h1
    go_enter Try.func75, Try.ntmps75
    go_wp2_with fail
    refine (l2Block_v H1.out _).mono ?_; rintro r w1 ⟨rfl, rfl⟩
    go_wp2_with fail
    refine bodyPost_ret (v := .tuple #[.agg #[.int .i64 0, .int .i64 0, .int .i64 0, .int .i64 0, .int .i64 0], .bool false]) (by simp [results, Try.results75, go_sem]) rfl ?_
    exact OfPost.no HF.out hb0
  · have K1 := Bk.fresh (w.alloc (.cells #[.int .i64 0, .int .i64 0, .int .i64 0, .int .i64 0, .int .i64 0] 95)) 95 #[.int .i64 a, .int .i64 b, .int .i64 s.size, .int .i64 (sumOf s.data.toList), .int .i64 e]
    rw [show (w.alloc (.cells #[.int .i64 0, .int .i64 0, .int .i64 0, .int .i64 0, .int .i64 0] 95)).heap.size = w.heap.size + 1 from by simp] at K1
    have K0 := (Bk.fresh w 95 #[.int .i64 0, .int .i64 0, .int .i64 0, .int .i64 0, .int .i64 0]).alloc (.cells #[.int .i64 a, .int .i64 b, .int .i64 s.size, .int .i64 (sumOf s.data.toList), .int .i64 e] 95)
    cases h2 : okB a b s.size (sumOf s.data.toList) e
    all_goals
      have H1 := hide h1
      have HF := hide ((ofB_2 (a := a) (b := b) (e := e) h1).trans h2)
      have H2 := hide h2
      clear h1 h2
      go_enter Try.func75, Try.ntmps75
      go_wp2_with fail
      refine (l2Block_v H1.out _).mono ?_; rintro r w1 ⟨rfl, rfl⟩
      go_wp2_with fail
      refine (specSum_any _ _ hs).mono ?_; rintro r w1 ⟨rfl, rfl⟩
      go_wp2_with fail
      refine (specPtrOk_v H2.out _).mono ?_; rintro r w1 ⟨rfl, hb2⟩
      have k0 := K0.after hb2
      obtain ⟨q0, q1, q2, q3, q4⟩ := (K1.after hb2).c5
      obtain ⟨p0, p1, p2, p3, p4⟩ := k0.c5
      have f0 := k0.frozen 0
      have f1 := k0.frozen 1
      have f2 := k0.frozen 2
      have f3 := k0.frozen 3
      have f4 := k0.frozen 4
      have hb3 := hide (hb1.trans (hb2.mono hb1.size))
      clear hb2 k0
      go_wp2_with fail
    · refine bodyPost_ret (v := .tuple #[.agg #[.int .i64 0, .int .i64 0, .int .i64 0, .int .i64 0, .int .i64 0], .bool false]) (by simp [results, Try.results75, go_sem, *]) rfl ?_
      exact OfPost.no HF.out (((((hb3.out.setCell (Nat.le_refl _) _).setCell (Nat.le_refl _) _).setCell (Nat.le_refl _) _).setCell (Nat.le_refl _) _).setCell (Nat.le_refl _) _)
    · refine bodyPost_ret (v := .tuple #[.agg #[.int .i64 a, .int .i64 b, .int .i64 s.size, .int .i64 (sumOf s.data.toList), .int .i64 e], .bool true]) (by simp [results, Try.results75, go_sem, *]) rfl ?_
      exact OfPost.yes HF.out (((((hb3.out.setCell (Nat.le_refl _) _).setCell (Nat.le_refl _) _).setCell (Nat.le_refl _) _).setCell (Nat.le_refl _) _).setCell (Nat.le_refl _) _)

end Go.Proofs.Ytcaoekaephnimaa
