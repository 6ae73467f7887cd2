/- DrawPtrFits draws what PtrFits is asked; the walk of the law FnPtrFits. -/
import Derived.Test.YtjdnlngahncmfaaDrawFits
import Derived.Test.YtjdnlngahncmfaaDrawSum
import Derived.Test.YtjdnlngahncmfaaPtrOfSeen
namespace Go.Proofs.Ytjdnlngahncmfaa
open Go.RowKit
set_option linter.unusedVariables false

theorem bel5 {B : Nat} {w0 w : World} {g : Nat} (h : Below B w0 w) (hg : B ≤ g) (a b c d e : Value) : Below B w0 (((((w.setCell ⟨g, 0, none⟩ a).setCell ⟨g, 1, none⟩ b).setCell ⟨g, 2, none⟩ c).setCell ⟨g, 3, none⟩ d).setCell ⟨g, 4, none⟩ e) :=
  ((((h.setCell (p := ⟨g, 0, none⟩) hg a).setCell (p := ⟨g, 1, none⟩) hg b).setCell (p := ⟨g, 2, none⟩) hg c).setCell (p := ⟨g, 3, none⟩) hg d).setCell (p := ⟨g, 4, none⟩) hg e
/-- what DrawPtrFits draws -/
def DrawnF (w : World) (r : Ending) (w' : World) : Prop := ∃ (a b c d e : Int) (s : ByteArray), r = .returned (.tuple #[.agg #[.int .i64 a, .int .i64 b, .int .i64 c, .int .i64 d, .int .i64 e], .string s]) ∧ s.size ≤ 129 ∧ Below w.heap.size w w'
theorem fr_new2 {B : Nat} {a b c : World} (h : Below B a b) {R : Nat} (hB : B ≤ a.heap.size) (hR : B ≤ R) (k : Fr (· = R) b c) : Below B a c := h.trans (k.below (Nat.le_trans hB h.size) (fun i e => by rw [e]; exact hR))

set_option maxHeartbeats 4000000 in
theorem drawPtrFits_any (A : Option Addr) (n c : Nat) (zs : List Int) (w : World) (h : U8s w A n c zs) :
    Calls Try.prog 11 #[.slice A n c] w (DrawnF w) := by
  have h2 : U8s (w.alloc (.cells #[.int .i64 0, .int .i64 0, .int .i64 0, .int .i64 0, .int .i64 0] 26)) A n c zs := ⟨h.1, h.2.1, h.2.2.1, h.2.2.2.1, h.2.2.2.2.after (bel1 _ _)⟩
  have H := hide h2
  have K0 := hide (Bk.fresh w 26 #[.int .i64 0, .int .i64 0, .int .i64 0, .int .i64 0, .int .i64 0])
  have HB := hide (bel1 w (.cells #[.int .i64 0, .int .i64 0, .int .i64 0, .int .i64 0, .int .i64 0] 26))
  clear h h2
  go_enter Try.func11, Try.ntmps11
  go_wp2_with fail
  refine (l6Open_any _ _ _ _ _ H.out).mono ?_; rintro r w1 ⟨rfl, hr, hb⟩
  obtain ⟨R, hR⟩ : ∃ R, R = (w.alloc (.cells #[.int .i64 0, .int .i64 0, .int .i64 0, .int .i64 0, .int .i64 0] 26)).heap.size := ⟨_, rfl⟩
  have hR2 : R = w.heap.size + 1 := by rw [hR]; simp
  rw [← hR] at hr
  rw [← hR]
  obtain ⟨g0, hg0⟩ : ∃ g0, g0 = w.heap.size := ⟨_, rfl⟩
  have HG0 := hide hg0
  have K0 := hide (K0.out.after hb)
  rw [← hg0] at K0 hR2
  rw [← hg0]
  have HR := hide hr
  have HB := hide (HB.out.trans (hb.mono HB.out.size))
  have h0R : g0 < R := by omega
  have hwR : Hid (w.heap.size ≤ R) := hide (by rw [← HG0.out]; omega)
  clear hr hb hR hR2 hg0 H
  go_wp2_with fail
  refine (l91Ptr_any R 0 _ HR.out (by omega)).mono ?_; rintro r w2 ⟨a, b, c', d, e, q, rfl, hq, hr, hf⟩
  have K0 := hide ((K0.out.fr hf (by omega)).alloc (.cells #[.int .i64 a, .int .i64 b, .int .i64 c', .int .i64 d, .int .i64 e] 26))
  have hlt := hr.lt
  have HR := hide (hr.after (bel1 w2 (.cells #[.int .i64 a, .int .i64 b, .int .i64 c', .int .i64 d, .int .i64 e] 26)))
  have HB := hide (fr_new2 HB.out (Nat.le_refl _) hwR.out hf)
  have HB := hide (HB.out.alloc HB.out.size (.cells #[.int .i64 a, .int .i64 b, .int .i64 c', .int .i64 d, .int .i64 e] 26))
  have K3 := hide (Bk.fresh w2 26 #[.int .i64 a, .int .i64 b, .int .i64 c', .int .i64 d, .int .i64 e])
  clear hr hf
  obtain ⟨g3, hg3⟩ : ∃ g3, g3 = w2.heap.size := ⟨_, rfl⟩
  rw [← hg3] at K3 hlt
  go_wp2_with fail
  rw [← hg3]
  have HG3 := hide hg3
  clear hg3
  refine (l91Block_any R q _ HR.out (by omega)).mono ?_; rintro r w3 ⟨s, q2, rfl, hs, hq2, hr, hf⟩
  have K0 := hide (K0.out.fr hf (by omega))
  have K3 := hide (K3.out.fr hf (by omega))
  have HR := hide hr
  have HB := hide (fr_new2 HB.out (Nat.le_refl _) hwR.out hf)
  clear hr hf
  go_wp2_with fail
  refine (pick_any R q2 3 _ HR.out (by omega) (by omega) (by omega)).mono ?_; rintro r w4 ⟨v, rfl, v0, _, _, hr, hf⟩
  have K0 := hide (K0.out.fr hf (by omega))
  have K3 := hide (K3.out.fr hf (by omega))
  have HB := hide (fr_new2 HB.out (Nat.le_refl _) hwR.out hf)
  clear hr hf HR
  by_cases hv : 0 < v
  · have hsm : s.size ≤ maxLen := by unfold maxLen; omega
    have cz := K3.out.cell 2
    have fz := K3.out.frozen 2
    have K3' := hide (show Bk (w4.setCell ⟨g3, 2, none⟩ (.int .i64 s.size)) g3 26 #[.int .i64 a, .int .i64 b, .int .i64 s.size, .int .i64 d, .int .i64 e] from K3.out.put 2 (.int .i64 s.size))
    have K0' := hide (K0.out.far (p := ⟨g3, 2, none⟩) (by show g0 ≠ g3; omega) (.int .i64 s.size))
    have HB' := hide (HB.out.setCell (p := ⟨g3, 2, none⟩) (by show w.heap.size ≤ g3; have := HG0.out; omega) (.int .i64 s.size))
    go_wp2_with fail
    clear cz fz
    obtain ⟨W4, hW4⟩ : ∃ X : World, X = w4.setCell ⟨g3, 2, none⟩ (.int .i64 s.size) := ⟨_, rfl⟩
    rw [← hW4] at K3' K0' HB'
    rw [← hW4]
    clear hW4 K3 K0 HB
    refine (specSum_any _ _ hsm).mono ?_; rintro r w5 ⟨rfl, rfl⟩
    obtain ⟨S, hS⟩ : ∃ S : Int, S = sumOf s.data.toList := ⟨_, rfl⟩
    rw [← hS]
    clear hS
    have cz := K3'.out.cell 3
    have fz := K3'.out.frozen 3
    have K3 := hide (show Bk (W4.setCell ⟨g3, 3, none⟩ (.int .i64 S)) g3 26 #[.int .i64 a, .int .i64 b, .int .i64 s.size, .int .i64 S, .int .i64 e] from K3'.out.put 3 (.int .i64 S))
    have K0 := hide (K0'.out.far (p := ⟨g3, 3, none⟩) (by show g0 ≠ g3; omega) (.int .i64 S))
    have HB := hide (HB'.out.setCell (p := ⟨g3, 3, none⟩) (by show w.heap.size ≤ g3; have := HG0.out; omega) (.int .i64 S))
    go_upto_region 7 with fail
    clear cz fz
    obtain ⟨W5, hW5⟩ : ∃ X : World, X = W4.setCell ⟨g3, 3, none⟩ (.int .i64 S) := ⟨_, rfl⟩
    rw [← hW5] at K3 K0 HB
    rw [← hW5]
    clear hW5 K3' K0' HB'
    obtain ⟨s0, s1, s2, s3, s4⟩ := Bk.c5 (a := .int .i64 a) (b := .int .i64 b) (c := .int .i64 (s.size : Int)) (d := .int .i64 S) (e := .int .i64 e) K3.out
    obtain ⟨q0, q1, q2, q3, q4⟩ := K0.out.c5
    have f0 := K0.out.frozen 0
    have f1 := K0.out.frozen 1
    have f2 := K0.out.frozen 2
    have f3 := K0.out.frozen 3
    have f4 := K0.out.frozen 4
    have P5 := hide (put5 K0.out a b (s.size : Int) S e)
    have PB := hide (bel5 HB.out (Nat.le_of_eq HG0.out.symm) (.int .i64 a) (.int .i64 b) (.int .i64 (s.size : Int)) (.int .i64 S) (.int .i64 e))
    go_wp2_with fail
    clear q0 q1 q2 q3 q4 f0 f1 f2 f3 f4 s0 s1 s2 s3 s4
    obtain ⟨X, hX⟩ : ∃ X : World, X = ((((W5.setCell ⟨g0, 0, none⟩ (.int .i64 a)).setCell ⟨g0, 1, none⟩ (.int .i64 b)).setCell ⟨g0, 2, none⟩ (.int .i64 (s.size : Int))).setCell ⟨g0, 3, none⟩ (.int .i64 S)).setCell ⟨g0, 4, none⟩ (.int .i64 e) := ⟨_, rfl⟩
    rw [← hX] at P5 PB
    rw [← hX]
    clear hX
    obtain ⟨r0, r1, r2, r3, r4⟩ := P5.out.c5
    refine bodyPost_ret (v := .tuple #[.agg #[.int .i64 a, .int .i64 b, .int .i64 (s.size : Int), .int .i64 S, .int .i64 e], .string s]) (by simp [results, Try.results11, go_sem, r0, r1, r2, r3, r4]) rfl ?_
    exact ⟨_, _, _, _, _, _, rfl, hs, PB.out⟩
  · go_upto_region 7 with fail
    obtain ⟨s0, s1, s2, s3, s4⟩ := Bk.c5 (a := .int .i64 a) (b := .int .i64 b) (c := .int .i64 c') (d := .int .i64 d) (e := .int .i64 e) K3.out
    obtain ⟨q0, q1, q2, q3, q4⟩ := K0.out.c5
    have f0 := K0.out.frozen 0
    have f1 := K0.out.frozen 1
    have f2 := K0.out.frozen 2
    have f3 := K0.out.frozen 3
    have f4 := K0.out.frozen 4
    have P5 := hide (put5 K0.out a b c' d e)
    have PB := hide (bel5 HB.out (Nat.le_of_eq HG0.out.symm) (.int .i64 a) (.int .i64 b) (.int .i64 c') (.int .i64 d) (.int .i64 e))
    go_wp2_with fail
    clear q0 q1 q2 q3 q4 f0 f1 f2 f3 f4 s0 s1 s2 s3 s4
    obtain ⟨X, hX⟩ : ∃ X : World, X = ((((w4.setCell ⟨g0, 0, none⟩ (.int .i64 a)).setCell ⟨g0, 1, none⟩ (.int .i64 b)).setCell ⟨g0, 2, none⟩ (.int .i64 c')).setCell ⟨g0, 3, none⟩ (.int .i64 d)).setCell ⟨g0, 4, none⟩ (.int .i64 e) := ⟨_, rfl⟩
    rw [← hX] at P5 PB
    rw [← hX]
    clear hX
    obtain ⟨r0, r1, r2, r3, r4⟩ := P5.out.c5
    refine bodyPost_ret (v := .tuple #[.agg #[.int .i64 a, .int .i64 b, .int .i64 c', .int .i64 d, .int .i64 e], .string s]) (by simp [results, Try.results11, go_sem, r0, r1, r2, r3, r4]) rfl ?_
    exact ⟨_, _, _, _, _, _, rfl, hs, PB.out⟩

theorem ByteRow.below {B : Nat} {w w' : World} {g : Nat} {l : List UInt8} (h : ByteRow w g l) (hb : Below B w w') (hg : g < B) : ByteRow w' g l := fun j b hj => by
  obtain ⟨h1, h2⟩ := h j b hj
  have e := hb.block g hg
  refine ⟨?_, ?_⟩
  · rw [← h1]; simp only [World.cell?, e]
  · rw [← h2]; simp only [World.frozen?, e]
theorem fits_yes {a b c d e : Int} {s : ByteArray} (h : fitsB a b c d e s = true) : c = (s.size : Int) ∧ d = sumOf s.data.toList ∧ 0 < s.size ∧ s.size ≤ 128 := by
  unfold fitsB at h
  simp only [Bool.and_eq_true, beq_iff_eq, Bool.not_eq_true'] at h
  obtain ⟨⟨⟨h1, h2⟩, h3⟩, h4⟩ := h
  refine ⟨h3, h4, ?_⟩
  unfold okB at h1
  rw [h2] at h1
  simp only [Bool.false_or, Bool.and_eq_true, inR, decide_eq_true_eq] at h1
  omega
theorem fits_no {a b e : Int} {c : Int} {s t : ByteArray} (h : sumOf t.data.toList ≠ sumOf s.data.toList) : fitsB a b c (sumOf s.data.toList) e t = false := by
  unfold fitsB
  rw [show (sumOf s.data.toList == sumOf t.data.toList) = false by rw [beq_eq_false_iff_ne]; exact fun e => h e.symm]
  simp
theorem specPtrFits_v {a b c d e : Int} {s : ByteArray} {v : Bool} (h : fitsB a b c d e s = v) (hs : s.size ≤ maxLen) (w : World) :
    Calls Try.prog 12 #[.agg #[.int .i64 a, .int .i64 b, .int .i64 c, .int .i64 d, .int .i64 e], .string s] w fun r w' => r = .returned (.bool v) ∧ Below w.heap.size w w' := h ▸ specPtrFits_any a b c d e s hs w
end Go.Proofs.Ytjdnlngahncmfaa
