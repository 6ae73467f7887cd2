/- DrawPtrPut, DrawPtrOk and DrawPtrHole draw a pointer. -/
import Derived.Test.YtmhbpmacfekhgaaDoorDrawFits2
namespace Go.Proofs.YtmhbpmacfekhgaaDoor
open Go.RowKit
set_option linter.unusedVariables false

/-- a drawn pointer -/
def DrawnP (w : World) (r : Ending) (w' : World) : Prop := ∃ (a b c d e : Int), r = .returned (.agg #[.int .i64 a, .int .i64 b, .int .i64 c, .int .i64 d, .int .i64 e]) ∧ Below w.heap.size w w'
set_option maxHeartbeats 1000000 in
theorem drawPtrPut_any (A : Option Addr) (n c : Nat) (zs : List Int) (w : World) (h : U8s w A n c zs) :
    Calls Tryd.prog 20 #[.slice A n c] w (DrawnP w) := by
  have h2 : U8s (w.alloc (.cells #[.int .i64 0, .int .i64 0, .int .i64 0, .int .i64 0, .int .i64 0] 25)) A n c zs := ⟨h.1, h.2.1, h.2.2.1, h.2.2.2.1, h.2.2.2.2.after (bel1 _ _)⟩
  have H := hide h2
  have K0 := hide (Bk.fresh w 25 #[.int .i64 0, .int .i64 0, .int .i64 0, .int .i64 0, .int .i64 0])
  have HB := hide (bel1 w (.cells #[.int .i64 0, .int .i64 0, .int .i64 0, .int .i64 0, .int .i64 0] 25))
  clear h h2
  go_enter Tryd.func20, Tryd.ntmps20
  go_wp2_with fail
  refine (l6Open_any _ _ _ _ _ H.out).mono ?_; rintro r w1 ⟨rfl, hr, hb⟩
  obtain ⟨R, hR⟩ : ∃ R, R = (w.alloc (.cells #[.int .i64 0, .int .i64 0, .int .i64 0, .int .i64 0, .int .i64 0] 25)).heap.size := ⟨_, rfl⟩
  have hR2 : R = w.heap.size + 1 := by rw [hR]; simp
  rw [← hR] at hr
  rw [← hR]
  obtain ⟨g0, hg0⟩ : ∃ g0, g0 = w.heap.size := ⟨_, rfl⟩
  have HG0 := hide hg0
  have K0 := hide (K0.out.after hb)
  rw [← hg0] at K0 hR2
  rw [← hg0]
  have HR := hide hr
  have HB := hide (HB.out.trans (hb.mono HB.out.size))
  have h0R : g0 < R := by omega
  have hwR : Hid (w.heap.size ≤ R) := hide (by rw [← HG0.out]; omega)
  clear hr hb hR hR2 hg0 H
  go_wp2_with fail
  refine (l91Ptr_any R 0 _ HR.out (by omega)).mono ?_; rintro r w2 ⟨a, b, c', d, e, q, rfl, hq, hr, hf⟩
  have K0 := hide (K0.out.fr hf (by omega))
  have HB := hide (fr_new2 HB.out (Nat.le_refl _) hwR.out hf)
  clear hr hf
  obtain ⟨q0, q1, q2, q3, q4⟩ := K0.out.c5
  have f0 := K0.out.frozen 0
  have f1 := K0.out.frozen 1
  have f2 := K0.out.frozen 2
  have f3 := K0.out.frozen 3
  have f4 := K0.out.frozen 4
  have P5 := hide (put5 K0.out a b c' d e)
  have PB := hide (bel5 HB.out (Nat.le_of_eq HG0.out.symm) (.int .i64 a) (.int .i64 b) (.int .i64 c') (.int .i64 d) (.int .i64 e))
  go_wp2_with fail
  clear q0 q1 q2 q3 q4 f0 f1 f2 f3 f4
  obtain ⟨X, hX⟩ : ∃ X : World, X = ((((w2.setCell ⟨g0, 0, none⟩ (.int .i64 a)).setCell ⟨g0, 1, none⟩ (.int .i64 b)).setCell ⟨g0, 2, none⟩ (.int .i64 c')).setCell ⟨g0, 3, none⟩ (.int .i64 d)).setCell ⟨g0, 4, none⟩ (.int .i64 e) := ⟨_, rfl⟩
  rw [← hX] at P5 PB
  rw [← hX]
  clear hX
  obtain ⟨r0, r1, r2, r3, r4⟩ := P5.out.c5
  refine bodyPost_ret (v := .agg #[.int .i64 a, .int .i64 b, .int .i64 c', .int .i64 d, .int .i64 e]) (by simp [results, Tryd.results20, go_sem, r0, r1, r2, r3, r4]) rfl ?_
  exact ⟨_, _, _, _, _, rfl, PB.out⟩
set_option maxHeartbeats 1000000 in
theorem drawPtrOk_any (A : Option Addr) (n c : Nat) (zs : List Int) (w : World) (h : U8s w A n c zs) :
    Calls Tryd.prog 26 #[.slice A n c] w (DrawnP w) := by
  have h2 : U8s (w.alloc (.cells #[.int .i64 0, .int .i64 0, .int .i64 0, .int .i64 0, .int .i64 0] 25)) A n c zs := ⟨h.1, h.2.1, h.2.2.1, h.2.2.2.1, h.2.2.2.2.after (bel1 _ _)⟩
  have H := hide h2
  have K0 := hide (Bk.fresh w 25 #[.int .i64 0, .int .i64 0, .int .i64 0, .int .i64 0, .int .i64 0])
  have HB := hide (bel1 w (.cells #[.int .i64 0, .int .i64 0, .int .i64 0, .int .i64 0, .int .i64 0] 25))
  clear h h2
  go_enter Tryd.func26, Tryd.ntmps26
  go_wp2_with fail
  refine (l6Open_any _ _ _ _ _ H.out).mono ?_; rintro r w1 ⟨rfl, hr, hb⟩
  obtain ⟨R, hR⟩ : ∃ R, R = (w.alloc (.cells #[.int .i64 0, .int .i64 0, .int .i64 0, .int .i64 0, .int .i64 0] 25)).heap.size := ⟨_, rfl⟩
  have hR2 : R = w.heap.size + 1 := by rw [hR]; simp
  rw [← hR] at hr
  rw [← hR]
  obtain ⟨g0, hg0⟩ : ∃ g0, g0 = w.heap.size := ⟨_, rfl⟩
  have HG0 := hide hg0
  have K0 := hide (K0.out.after hb)
  rw [← hg0] at K0 hR2
  rw [← hg0]
  have HR := hide hr
  have HB := hide (HB.out.trans (hb.mono HB.out.size))
  have h0R : g0 < R := by omega
  have hwR : Hid (w.heap.size ≤ R) := hide (by rw [← HG0.out]; omega)
  clear hr hb hR hR2 hg0 H
  go_wp2_with fail
  refine (l91Ptr_any R 0 _ HR.out (by omega)).mono ?_; rintro r w2 ⟨a, b, c', d, e, q, rfl, hq, hr, hf⟩
  have K0 := hide (K0.out.fr hf (by omega))
  have HB := hide (fr_new2 HB.out (Nat.le_refl _) hwR.out hf)
  clear hr hf
  obtain ⟨q0, q1, q2, q3, q4⟩ := K0.out.c5
  have f0 := K0.out.frozen 0
  have f1 := K0.out.frozen 1
  have f2 := K0.out.frozen 2
  have f3 := K0.out.frozen 3
  have f4 := K0.out.frozen 4
  have P5 := hide (put5 K0.out a b c' d e)
  have PB := hide (bel5 HB.out (Nat.le_of_eq HG0.out.symm) (.int .i64 a) (.int .i64 b) (.int .i64 c') (.int .i64 d) (.int .i64 e))
  go_wp2_with fail
  clear q0 q1 q2 q3 q4 f0 f1 f2 f3 f4
  obtain ⟨X, hX⟩ : ∃ X : World, X = ((((w2.setCell ⟨g0, 0, none⟩ (.int .i64 a)).setCell ⟨g0, 1, none⟩ (.int .i64 b)).setCell ⟨g0, 2, none⟩ (.int .i64 c')).setCell ⟨g0, 3, none⟩ (.int .i64 d)).setCell ⟨g0, 4, none⟩ (.int .i64 e) := ⟨_, rfl⟩
  rw [← hX] at P5 PB
  rw [← hX]
  clear hX
  obtain ⟨r0, r1, r2, r3, r4⟩ := P5.out.c5
  refine bodyPost_ret (v := .agg #[.int .i64 a, .int .i64 b, .int .i64 c', .int .i64 d, .int .i64 e]) (by simp [results, Tryd.results26, go_sem, r0, r1, r2, r3, r4]) rfl ?_
  exact ⟨_, _, _, _, _, rfl, PB.out⟩
set_option maxHeartbeats 1000000 in
theorem drawPtrHole_any (A : Option Addr) (n c : Nat) (zs : List Int) (w : World) (h : U8s w A n c zs) :
    Calls Tryd.prog 23 #[.slice A n c] w (DrawnP w) := by
  have h2 : U8s (w.alloc (.cells #[.int .i64 0, .int .i64 0, .int .i64 0, .int .i64 0, .int .i64 0] 25)) A n c zs := ⟨h.1, h.2.1, h.2.2.1, h.2.2.2.1, h.2.2.2.2.after (bel1 _ _)⟩
  have H := hide h2
  have K0 := hide (Bk.fresh w 25 #[.int .i64 0, .int .i64 0, .int .i64 0, .int .i64 0, .int .i64 0])
  have HB := hide (bel1 w (.cells #[.int .i64 0, .int .i64 0, .int .i64 0, .int .i64 0, .int .i64 0] 25))
  clear h h2
  go_enter Tryd.func23, Tryd.ntmps23
  go_wp2_with fail
  refine (l6Open_any _ _ _ _ _ H.out).mono ?_; rintro r w1 ⟨rfl, hr, hb⟩
  obtain ⟨R, hR⟩ : ∃ R, R = (w.alloc (.cells #[.int .i64 0, .int .i64 0, .int .i64 0, .int .i64 0, .int .i64 0] 25)).heap.size := ⟨_, rfl⟩
  have hR2 : R = w.heap.size + 1 := by rw [hR]; simp
  rw [← hR] at hr
  rw [← hR]
  obtain ⟨g0, hg0⟩ : ∃ g0, g0 = w.heap.size := ⟨_, rfl⟩
  have HG0 := hide hg0
  have K0 := hide (K0.out.after hb)
  rw [← hg0] at K0 hR2
  rw [← hg0]
  have HR := hide hr
  have HB := hide (HB.out.trans (hb.mono HB.out.size))
  have h0R : g0 < R := by omega
  have hwR : Hid (w.heap.size ≤ R) := hide (by rw [← HG0.out]; omega)
  clear hr hb hR hR2 hg0 H
  go_wp2_with fail
  refine (l91Ptr_any R 0 _ HR.out (by omega)).mono ?_; rintro r w2 ⟨a, b, c', d, e, q, rfl, hq, hr, hf⟩
  have K0 := hide (K0.out.fr hf (by omega))
  have HB := hide (fr_new2 HB.out (Nat.le_refl _) hwR.out hf)
  clear hr hf
  obtain ⟨q0, q1, q2, q3, q4⟩ := K0.out.c5
  have f0 := K0.out.frozen 0
  have f1 := K0.out.frozen 1
  have f2 := K0.out.frozen 2
  have f3 := K0.out.frozen 3
  have f4 := K0.out.frozen 4
  have P5 := hide (put5 K0.out a b c' d e)
  have PB := hide (bel5 HB.out (Nat.le_of_eq HG0.out.symm) (.int .i64 a) (.int .i64 b) (.int .i64 c') (.int .i64 d) (.int .i64 e))
  go_wp2_with fail
  clear q0 q1 q2 q3 q4 f0 f1 f2 f3 f4
  obtain ⟨X, hX⟩ : ∃ X : World, X = ((((w2.setCell ⟨g0, 0, none⟩ (.int .i64 a)).setCell ⟨g0, 1, none⟩ (.int .i64 b)).setCell ⟨g0, 2, none⟩ (.int .i64 c')).setCell ⟨g0, 3, none⟩ (.int .i64 d)).setCell ⟨g0, 4, none⟩ (.int .i64 e) := ⟨_, rfl⟩
  rw [← hX] at P5 PB
  rw [← hX]
  clear hX
  obtain ⟨r0, r1, r2, r3, r4⟩ := P5.out.c5
  refine bodyPost_ret (v := .agg #[.int .i64 a, .int .i64 b, .int .i64 c', .int .i64 d, .int .i64 e]) (by simp [results, Tryd.results23, go_sem, r0, r1, r2, r3, r4]) rfl ?_
  exact ⟨_, _, _, _, _, rfl, PB.out⟩
end Go.Proofs.YtmhbpmacfekhgaaDoor
