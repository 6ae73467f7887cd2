/- DiskCrash of the program and of the reference. -/
import Derived.Test.YtcaoekaephnimaaDiskSetC
import Derived.Test.YtcaoekaephnimaaDiskCl
import Derived.Test.YtcaoekaephnimaaQF
namespace Go.Proofs.Ytcaoekaephnimaa
open Go.RowKit
set_option linter.unusedVariables false
set_option maxRecDepth 100000

set_option maxHeartbeats 2000000 in
theorem implCrash_no0 (b1 o1 n1 c1 b2 o2 n2 c2 : Nat) (z1 : List ByteArray) (z2 : List (Int × ByteArray)) (g : Bool) (mask tear : Int) (w : World) (h1 : Rd w 1 (some ⟨b1, o1, none⟩) n1 (z1.map Value.string)) (h2 : Rd w 2 (some ⟨b2, o2, none⟩) n2 (waitCells z2)) (m1 : n1 ≤ 1048576) (m2 : n2 ≤ 1048576) (hv : diskOk z1 z2 g = false) :
    Calls Try.prog 31 #[.agg #[.slice (some ⟨b1, o1, none⟩) n1 c1, .slice (some ⟨b2, o2, none⟩) n2 c2, .bool g], .int .i64 mask, .int .i64 tear] w fun r w' => r = .returned (.agg #[.slice none 0 0, .slice none 0 0, .bool false]) ∧ Below w.heap.size w w' := by
  have HV := hide hv
  clear hv
  obtain ⟨W0, hW0⟩ : ∃ X : World, X = ((((w.alloc (.cells #[.slice (some ⟨b1, o1, none⟩) n1 c1, .slice (some ⟨b2, o2, none⟩) n2 c2, .bool g] 49)).alloc (.cells #[.int .i64 mask] 3)).alloc (.cells #[.int .i64 tear] 3)).alloc (.cells #[.slice none 0 0, .slice none 0 0, .bool false] 49)) := ⟨_, rfl⟩
  have hsz : W0.heap.size = w.heap.size + 1 + 1 + 1 + 1 := by rw [hW0]; simp
  have hb : Below w.heap.size w W0 := by
    rw [hW0]
    exact ((((Below.refl _ _).alloc (Nat.le_refl _) _).alloc (by simp) _).alloc (by simp; omega) _).alloc (by simp; omega) _
  have K1 := hide (show Bk W0 w.heap.size 49 #[.slice (some ⟨b1, o1, none⟩) n1 c1, .slice (some ⟨b2, o2, none⟩) n2 c2, .bool g] by rw [hW0]; exact (((Bk.fresh _ _ _).alloc _).alloc _).alloc _)
  have K2 := hide (show Bk W0 (w.heap.size + 1 + 1 + 1) 49 #[.slice none 0 0, .slice none 0 0, .bool false] by
    rw [hW0]
    exact (Bk.fresh _ 49 #[.slice none 0 0, .slice none 0 0, .bool false]).at_ (by simp))
  have K3 := hide (show Bk W0 (w.heap.size + 1) 3 #[.int .i64 mask] by
    rw [hW0]
    exact (((Bk.fresh (w.alloc (.cells #[.slice (some ⟨b1, o1, none⟩) n1 c1, .slice (some ⟨b2, o2, none⟩) n2 c2, .bool g] 49)) 3 #[.int .i64 mask]).alloc _).alloc _).at_ (by simp))
  have K4 := hide (show Bk W0 (w.heap.size + 1 + 1) 3 #[.int .i64 tear] by
    rw [hW0]
    exact ((Bk.fresh ((w.alloc (.cells #[.slice (some ⟨b1, o1, none⟩) n1 c1, .slice (some ⟨b2, o2, none⟩) n2 c2, .bool g] 49)).alloc (.cells #[.int .i64 mask] 3)) 3 #[.int .i64 tear]).alloc _).at_ (by simp))
  have HSZ := hide hsz
  have H1 := hide (h1.after hb)
  have H2 := hide (h2.after hb)
  have HB := hide hb
  clear h1 h2 hb hsz
  go_enter Try.func31, Try.ntmps31
  go_wp2_with fail
  rw [← hW0]
  clear hW0
  refine (implDiskOk_v HV.out _ H1.out H2.out (by unfold maxLen; omega) (by unfold maxLen; omega)).mono ?_; rintro r x1 ⟨rfl, hb1⟩
  have K2 := hide (K2.out.after hb1)
  have K3 := hide (K3.out.after hb1)
  have t3 := K3.out.c1
  have HB := hide (HB.out.trans (hb1.mono HB.out.size))
  clear hb1
  obtain ⟨q0, q1, q2⟩ := K2.out.c3
  have f0 := K2.out.frozen 0
  have f1 := K2.out.frozen 1
  have f2 := K2.out.frozen 2
  have P3 := hide (put3 K2.out (.slice none 0 0) (.slice none 0 0) (.bool false))
  have PB := hide (((HB.out.setCell (p := ⟨w.heap.size + 1 + 1 + 1, 0, none⟩) (show w.heap.size ≤ w.heap.size + 1 + 1 + 1 by omega) (.slice none 0 0)).setCell (p := ⟨w.heap.size + 1 + 1 + 1, 1, none⟩) (show w.heap.size ≤ w.heap.size + 1 + 1 + 1 by omega) (.slice none 0 0)).setCell (p := ⟨w.heap.size + 1 + 1 + 1, 2, none⟩) (show w.heap.size ≤ w.heap.size + 1 + 1 + 1 by omega) (.bool false))
  go_wp2_with fail
  clear q0 q1 q2 f0 f1 f2
  obtain ⟨Y, hY⟩ : ∃ Y : World, Y = ((x1.setCell ⟨w.heap.size + 1 + 1 + 1, 0, none⟩ (.slice none 0 0)).setCell ⟨w.heap.size + 1 + 1 + 1, 1, none⟩ (.slice none 0 0)).setCell ⟨w.heap.size + 1 + 1 + 1, 2, none⟩ (.bool false) := ⟨_, rfl⟩
  rw [← hY] at P3 PB
  rw [← hY]
  clear hY
  obtain ⟨r0, r1, r2⟩ := P3.out.c3
  refine bodyPost_ret (v := .agg #[.slice none 0 0, .slice none 0 0, .bool false]) (by simp [results, Try.results31, go_sem, r0, r1, r2]) rfl ?_
  exact ⟨rfl, PB.out⟩

set_option maxHeartbeats 2000000 in
theorem implCrash_no1 (b1 o1 n1 c1 b2 o2 n2 c2 : Nat) (z1 : List ByteArray) (z2 : List (Int × ByteArray)) (g : Bool) (mask tear : Int) (w : World) (h1 : Rd w 1 (some ⟨b1, o1, none⟩) n1 (z1.map Value.string)) (h2 : Rd w 2 (some ⟨b2, o2, none⟩) n2 (waitCells z2)) (m1 : n1 ≤ 1048576) (m2 : n2 ≤ 1048576) (hv : diskOk z1 z2 g = true) (hmask : mask < 0) :
    Calls Try.prog 31 #[.agg #[.slice (some ⟨b1, o1, none⟩) n1 c1, .slice (some ⟨b2, o2, none⟩) n2 c2, .bool g], .int .i64 mask, .int .i64 tear] w fun r w' => r = .returned (.agg #[.slice none 0 0, .slice none 0 0, .bool false]) ∧ Below w.heap.size w w' := by
  have HV := hide hv
  clear hv
  obtain ⟨W0, hW0⟩ : ∃ X : World, X = ((((w.alloc (.cells #[.slice (some ⟨b1, o1, none⟩) n1 c1, .slice (some ⟨b2, o2, none⟩) n2 c2, .bool g] 49)).alloc (.cells #[.int .i64 mask] 3)).alloc (.cells #[.int .i64 tear] 3)).alloc (.cells #[.slice none 0 0, .slice none 0 0, .bool false] 49)) := ⟨_, rfl⟩
  have hsz : W0.heap.size = w.heap.size + 1 + 1 + 1 + 1 := by rw [hW0]; simp
  have hb : Below w.heap.size w W0 := by
    rw [hW0]
    exact ((((Below.refl _ _).alloc (Nat.le_refl _) _).alloc (by simp) _).alloc (by simp; omega) _).alloc (by simp; omega) _
  have K1 := hide (show Bk W0 w.heap.size 49 #[.slice (some ⟨b1, o1, none⟩) n1 c1, .slice (some ⟨b2, o2, none⟩) n2 c2, .bool g] by rw [hW0]; exact (((Bk.fresh _ _ _).alloc _).alloc _).alloc _)
  have K2 := hide (show Bk W0 (w.heap.size + 1 + 1 + 1) 49 #[.slice none 0 0, .slice none 0 0, .bool false] by
    rw [hW0]
    exact (Bk.fresh _ 49 #[.slice none 0 0, .slice none 0 0, .bool false]).at_ (by simp))
  have K3 := hide (show Bk W0 (w.heap.size + 1) 3 #[.int .i64 mask] by
    rw [hW0]
    exact (((Bk.fresh (w.alloc (.cells #[.slice (some ⟨b1, o1, none⟩) n1 c1, .slice (some ⟨b2, o2, none⟩) n2 c2, .bool g] 49)) 3 #[.int .i64 mask]).alloc _).alloc _).at_ (by simp))
  have K4 := hide (show Bk W0 (w.heap.size + 1 + 1) 3 #[.int .i64 tear] by
    rw [hW0]
    exact ((Bk.fresh ((w.alloc (.cells #[.slice (some ⟨b1, o1, none⟩) n1 c1, .slice (some ⟨b2, o2, none⟩) n2 c2, .bool g] 49)).alloc (.cells #[.int .i64 mask] 3)) 3 #[.int .i64 tear]).alloc _).at_ (by simp))
  have HSZ := hide hsz
  have H1 := hide (h1.after hb)
  have H2 := hide (h2.after hb)
  have HB := hide hb
  clear h1 h2 hb hsz
  go_enter Try.func31, Try.ntmps31
  go_wp2_with fail
  rw [← hW0]
  clear hW0
  refine (implDiskOk_v HV.out _ H1.out H2.out (by unfold maxLen; omega) (by unfold maxLen; omega)).mono ?_; rintro r x1 ⟨rfl, hb1⟩
  have K2 := hide (K2.out.after hb1)
  have K3 := hide (K3.out.after hb1)
  have t3 := K3.out.c1
  have HB := hide (HB.out.trans (hb1.mono HB.out.size))
  clear hb1
  obtain ⟨q0, q1, q2⟩ := K2.out.c3
  have f0 := K2.out.frozen 0
  have f1 := K2.out.frozen 1
  have f2 := K2.out.frozen 2
  have P3 := hide (put3 K2.out (.slice none 0 0) (.slice none 0 0) (.bool false))
  have PB := hide (((HB.out.setCell (p := ⟨w.heap.size + 1 + 1 + 1, 0, none⟩) (show w.heap.size ≤ w.heap.size + 1 + 1 + 1 by omega) (.slice none 0 0)).setCell (p := ⟨w.heap.size + 1 + 1 + 1, 1, none⟩) (show w.heap.size ≤ w.heap.size + 1 + 1 + 1 by omega) (.slice none 0 0)).setCell (p := ⟨w.heap.size + 1 + 1 + 1, 2, none⟩) (show w.heap.size ≤ w.heap.size + 1 + 1 + 1 by omega) (.bool false))
  go_wp2_with fail
  clear q0 q1 q2 f0 f1 f2
  obtain ⟨Y, hY⟩ : ∃ Y : World, Y = ((x1.setCell ⟨w.heap.size + 1 + 1 + 1, 0, none⟩ (.slice none 0 0)).setCell ⟨w.heap.size + 1 + 1 + 1, 1, none⟩ (.slice none 0 0)).setCell ⟨w.heap.size + 1 + 1 + 1, 2, none⟩ (.bool false) := ⟨_, rfl⟩
  rw [← hY] at P3 PB
  rw [← hY]
  clear hY
  obtain ⟨r0, r1, r2⟩ := P3.out.c3
  refine bodyPost_ret (v := .agg #[.slice none 0 0, .slice none 0 0, .bool false]) (by simp [results, Try.results31, go_sem, r0, r1, r2]) rfl ?_
  exact ⟨rfl, PB.out⟩

set_option maxHeartbeats 2000000 in
theorem implCrash_yes (b1 o1 n1 c1 b2 o2 n2 c2 : Nat) (z1 R : List ByteArray) (z2 : List (Int × ByteArray)) (g : Bool) (m : Nat) (tear : Int) (w : World) (h1 : Rd w 1 (some ⟨b1, o1, none⟩) n1 (z1.map Value.string)) (h2 : Rd w 2 (some ⟨b2, o2, none⟩) n2 (waitCells z2)) (m2 : n2 ≤ 1048576) (lb1 : b1 < w.heap.size) (lb2 : b2 < w.heap.size) (hv : diskOk z1 z2 g = true) (hm : m < 9223372036854775808) (hR : settleT (crashF m tear) 0 z2 z1 = R) :
    Calls Try.prog 31 #[.agg #[.slice (some ⟨b1, o1, none⟩) n1 c1, .slice (some ⟨b2, o2, none⟩) n2 c2, .bool g], .int .i64 m, .int .i64 tear] w (SetPost R g w) := by
  have HL1 : Hid (z1.length = 64) := by unfold diskOk at hv; simp only [Bool.and_eq_true, decide_eq_true_eq] at hv; exact hide hv.1.1.1.1
  have HOK : Hid (z2.all waitB = true) := by unfold diskOk at hv; simp only [Bool.and_eq_true] at hv; exact hide hv.2
  have HSZ1 : Hid (∀ u ∈ z1, u.size ≤ 200) := by
    unfold diskOk at hv
    simp only [Bool.and_eq_true] at hv
    have h := hv.1.2
    rw [List.all_eq_true] at h
    refine hide (fun u hu => ?_)
    have h2 := h u hu
    unfold cellB at h2
    simp only [Bool.and_eq_true, decide_eq_true_eq] at h2
    exact h2.1
  have HL2 : Hid (z2.length = n2) := hide (by have := h2.len; rw [waitCells_len] at this; omega)
  obtain rfl : n1 = 64 := by have h := h1.len; have h2 := HL1.out; simp at h; omega
  have HV := hide hv
  have HR := hide hR
  clear hv hR
  obtain ⟨W0, hW0⟩ : ∃ X : World, X = ((((w.alloc (.cells #[.slice (some ⟨b1, o1, none⟩) 64 c1, .slice (some ⟨b2, o2, none⟩) n2 c2, .bool g] 49)).alloc (.cells #[.int .i64 m] 3)).alloc (.cells #[.int .i64 tear] 3)).alloc (.cells #[.slice none 0 0, .slice none 0 0, .bool false] 49)) := ⟨_, rfl⟩
  have hsz : W0.heap.size = w.heap.size + 1 + 1 + 1 + 1 := by rw [hW0]; simp
  have hb : Below w.heap.size w W0 := by
    rw [hW0]
    exact ((((Below.refl _ _).alloc (Nat.le_refl _) _).alloc (by simp) _).alloc (by simp; omega) _).alloc (by simp; omega) _
  have K1 := hide (show Bk W0 w.heap.size 49 #[.slice (some ⟨b1, o1, none⟩) 64 c1, .slice (some ⟨b2, o2, none⟩) n2 c2, .bool g] by rw [hW0]; exact (((Bk.fresh _ _ _).alloc _).alloc _).alloc _)
  have K2 := hide (show Bk W0 (w.heap.size + 1 + 1 + 1) 49 #[.slice none 0 0, .slice none 0 0, .bool false] by
    rw [hW0]
    exact (Bk.fresh _ 49 #[.slice none 0 0, .slice none 0 0, .bool false]).at_ (by simp))
  have K3 := hide (show Bk W0 (w.heap.size + 1) 3 #[.int .i64 m] by
    rw [hW0]
    exact (((Bk.fresh (w.alloc (.cells #[.slice (some ⟨b1, o1, none⟩) 64 c1, .slice (some ⟨b2, o2, none⟩) n2 c2, .bool g] 49)) 3 #[.int .i64 m]).alloc _).alloc _).at_ (by simp))
  have K4 := hide (show Bk W0 (w.heap.size + 1 + 1) 3 #[.int .i64 tear] by
    rw [hW0]
    exact ((Bk.fresh ((w.alloc (.cells #[.slice (some ⟨b1, o1, none⟩) 64 c1, .slice (some ⟨b2, o2, none⟩) n2 c2, .bool g] 49)).alloc (.cells #[.int .i64 m] 3)) 3 #[.int .i64 tear]).alloc _).at_ (by simp))
  have HSZ := hide hsz
  have H1 := hide (h1.after hb)
  have H2 := hide (h2.after hb)
  have HB := hide hb
  clear h1 h2 hb hsz
  go_enter Try.func31, Try.ntmps31
  go_wp2_with fail
  rw [← hW0]
  clear hW0
  refine (implDiskOk_v HV.out _ H1.out H2.out (by decide) (by unfold maxLen; omega)).mono ?_; rintro r x1 ⟨rfl, hb1⟩
  have HX1 := hide hb1.size
  have K1 := hide (K1.out.after hb1)
  have K2 := hide (K2.out.after hb1)
  have K3 := hide (K3.out.after hb1)
  have K4 := hide (K4.out.after hb1)
  have t3 := K3.out.c1
  have H1 := hide (H1.out.after hb1)
  have H2 := hide (H2.out.after hb1)
  have HB := hide (HB.out.trans (hb1.mono HB.out.size))
  clear hb1
  have hmn : ¬ (m : Int) < 0 := by omega
  obtain ⟨t0, t1, t2⟩ := K1.out.c3
  go_wp2_with fail
  refine (settleCrash_any m tear (w.heap.size + 1) (w.heap.size + 1 + 1) b1 o1 c1 b2 o2 n2 c2 z1 R z2 g _ H1.out H2.out m2 HOK.out HR.out HSZ1.out K3.out K4.out hm).mono ?_; rintro r x2 ⟨g1, ca, B, rfl, hg1, hrow, hb1⟩
  have K2 := hide (K2.out.after hb1)
  have HROW := hide hrow
  have HG1 : Hid (w.heap.size + 1 + 1 + 1 + 1 ≤ g1) := hide (Nat.le_trans (Nat.le_of_eq HSZ.out.symm) (Nat.le_trans HX1.out hg1))
  have HB := hide (HB.out.trans (hb1.mono HB.out.size))
  clear hb1 hrow hg1
  obtain ⟨q0, q1, q2⟩ := K2.out.c3
  have f0 := K2.out.frozen 0
  have f1 := K2.out.frozen 1
  have f2 := K2.out.frozen 2
  have P3 := hide (put3 K2.out (.slice (some ⟨g1, 0, none⟩) 64 ca) (.slice B 0 0) (.bool g))
  have PB := hide (((HB.out.setCell (p := ⟨w.heap.size + 1 + 1 + 1, 0, none⟩) (show w.heap.size ≤ w.heap.size + 1 + 1 + 1 by omega) (.slice (some ⟨g1, 0, none⟩) 64 ca)).setCell (p := ⟨w.heap.size + 1 + 1 + 1, 1, none⟩) (show w.heap.size ≤ w.heap.size + 1 + 1 + 1 by omega) (.slice B 0 0)).setCell (p := ⟨w.heap.size + 1 + 1 + 1, 2, none⟩) (show w.heap.size ≤ w.heap.size + 1 + 1 + 1 by omega) (.bool g))
  have PR := hide (HROW.out.fr (fr3 (Fr.refl (fun b => b = w.heap.size + 1 + 1 + 1) _) (.inl rfl) (.slice (some ⟨g1, 0, none⟩) 64 ca) (.slice B 0 0) (.bool g)) (by have := HG1.out; omega))
  clear t0 t1 t2
  go_wp2_with fail
  clear q0 q1 q2 f0 f1 f2
  obtain ⟨Y, hY⟩ : ∃ Y : World, Y = ((x2.setCell ⟨w.heap.size + 1 + 1 + 1, 0, none⟩ (.slice (some ⟨g1, 0, none⟩) 64 ca)).setCell ⟨w.heap.size + 1 + 1 + 1, 1, none⟩ (.slice B 0 0)).setCell ⟨w.heap.size + 1 + 1 + 1, 2, none⟩ (.bool g) := ⟨_, rfl⟩
  rw [← hY] at P3 PB PR
  rw [← hY]
  clear hY
  obtain ⟨r0, r1, r2⟩ := P3.out.c3
  refine bodyPost_ret (v := .agg #[.slice (some ⟨g1, 0, none⟩) 64 ca, .slice B 0 0, .bool g]) (by simp [results, Try.results31, go_sem, r0, r1, r2]) rfl ?_
  exact ⟨g1, ca, B, rfl, by have := HG1.out; omega, PR.out, PB.out⟩

end Go.Proofs.Ytcaoekaephnimaa
