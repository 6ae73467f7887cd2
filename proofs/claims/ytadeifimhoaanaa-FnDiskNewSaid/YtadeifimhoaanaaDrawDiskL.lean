/- What DrawDiskOk, DrawDiskRead, DrawDiskFlush, DrawDiskCrash draw. -/
import Derived.Test.YtadeifimhoaanaaDrawDisk
namespace Go.Proofs.Ytadeifimhoaanaa
open Go.RowKit
set_option linter.unusedVariables false

/-- a disk in memory, with what the laws ask of it -/
structure DiskIn (w w' : World) (b1 o1 n1 c1 b2 n2 c2 : Nat) (g : Bool) (z1 : List ByteArray) (z2 : List (Int × ByteArray)) : Prop where
  m1 : n1 ≤ 1048576
  m2 : n2 ≤ 1048576
  l1 : b1 < w'.heap.size
  l2 : b2 < w'.heap.size
  r1 : Rd w' 1 (some ⟨b1, o1, none⟩) n1 (z1.map Value.string)
  r2 : Rd w' 2 (some ⟨b2, 0, none⟩) n2 (waitCells z2)
  be : Below w.heap.size w w'
theorem DiskIn.after {w w' w2 : World} {b1 o1 n1 c1 b2 n2 c2 : Nat} {g : Bool} {z1 : List ByteArray} {z2 : List (Int × ByteArray)} (h : DiskIn w w' b1 o1 n1 c1 b2 n2 c2 g z1 z2) (hb : Below w'.heap.size w' w2) : DiskIn w w2 b1 o1 n1 c1 b2 n2 c2 g z1 z2 :=
  ⟨h.m1, h.m2, Nat.lt_of_lt_of_le h.l1 hb.size, Nat.lt_of_lt_of_le h.l2 hb.size, h.r1.after hb, h.r2.after hb, h.be.trans (hb.mono h.be.size)⟩
/-- the value of a disk -/
def dkV (b1 o1 n1 c1 b2 n2 c2 : Nat) (g : Bool) : Value := .agg #[.slice (some ⟨b1, o1, none⟩) n1 c1, .slice (some ⟨b2, 0, none⟩) n2 c2, .bool g]
def DrawnD (w : World) (r : Ending) (w' : World) : Prop := ∃ (b1 o1 n1 c1 b2 n2 c2 : Nat) (g : Bool) (z1 : List ByteArray) (z2 : List (Int × ByteArray)), r = .returned (.agg #[.slice (some ⟨b1, o1, none⟩) n1 c1, .slice (some ⟨b2, 0, none⟩) n2 c2, .bool g]) ∧ DiskIn w w' b1 o1 n1 c1 b2 n2 c2 g z1 z2
def DrawnDA (w : World) (r : Ending) (w' : World) : Prop := ∃ (b1 o1 n1 c1 b2 n2 c2 : Nat) (g : Bool) (z1 : List ByteArray) (z2 : List (Int × ByteArray)) (a : Int), r = .returned (.tuple #[.agg #[.slice (some ⟨b1, o1, none⟩) n1 c1, .slice (some ⟨b2, 0, none⟩) n2 c2, .bool g], .int .i64 a]) ∧ DiskIn w w' b1 o1 n1 c1 b2 n2 c2 g z1 z2 ∧ -1 ≤ a ∧ a ≤ 64
def DrawnDC (w : World) (r : Ending) (w' : World) : Prop := ∃ (b1 o1 n1 c1 b2 n2 c2 : Nat) (g : Bool) (z1 : List ByteArray) (z2 : List (Int × ByteArray)) (m t : Int), r = .returned (.tuple #[.agg #[.slice (some ⟨b1, o1, none⟩) n1 c1, .slice (some ⟨b2, 0, none⟩) n2 c2, .bool g], .int .i64 m, .int .i64 t]) ∧ DiskIn w w' b1 o1 n1 c1 b2 n2 c2 g z1 z2 ∧ -1 ≤ m ∧ m ≤ 1152921504606846975 ∧ -2 ≤ t ∧ t ≤ 6
theorem U8s.after {w w' : World} {A : Option Addr} {n c : Nat} {zs : List Int} (h : U8s w A n c zs) (hb : Below w.heap.size w w') : U8s w' A n c zs := by
  obtain ⟨h1, h2, h3, h4, h5⟩ := h
  exact ⟨h1, h2, h3, h4, h5.after hb⟩

set_option maxHeartbeats 1000000 in
theorem drawDiskOk_any (A : Option Addr) (n c : Nat) (zs : List Int) (w : World) (h : U8s w A n c zs) :
    Calls Try.prog 32 #[.slice A n c] w (DrawnD w) := by
  skip
  have K0 := hide (Bk.fresh w 25 #[.slice none 0 0, .slice none 0 0, .bool false])
  have H1 := hide (h.after (bel1 w (.cells #[.slice none 0 0, .slice none 0 0, .bool false] 25)))
  have HB := hide (bel1 w (.cells #[.slice none 0 0, .slice none 0 0, .bool false] 25))
  obtain ⟨R, hR⟩ : ∃ R, R = (w.alloc (.cells #[.slice none 0 0, .slice none 0 0, .bool false] 25)).heap.size := ⟨_, rfl⟩
  have hR1 : R = w.heap.size + 1 := by rw [hR]; simp
  have HR1 := hide hR1
  clear h hR1
  go_enter Try.func32, Try.ntmps32
  go_wp2_with fail
  refine (l6Open_any _ _ _ _ _ H1.out).mono ?_; rintro r w1 ⟨rfl, hr, hb⟩
  rw [← hR] at hr
  rw [← hR]
  have HR := hide hr
  have HL1 := hide (show w.heap.size < w1.heap.size from Nat.lt_of_lt_of_le (by have := HR1.out; omega) (Nat.le_of_lt hr.lt))
  have K0 := hide (K0.out.after hb)
  have HB := hide (bnext HB.out (by simp) hb)
  clear hr hb hR H1
  go_wp2_with fail
  refine (l91Disk_any R 0 _ HR.out (by omega)).mono ?_; rintro r w2 ⟨b1, o1, n1, c1, b2, n2, c2, g, z1, z2, q, rfl, m1, m2, hb1, hb2, lb1, lb2, hr1, hr2, hq, hr, hf⟩
  have hRg : ¬ w.heap.size = R := by have := HR1.out; omega
  have K0 := hide (K0.out.fr hf hRg)
  have hn1 : ¬ b1 = w.heap.size := by have := HL1.out; omega
  have hn2 : ¬ b2 = w.heap.size := by have := HL1.out; omega
  have HB := hide (HB.out.trans (hf.below (B := w.heap.size) (Nat.le_of_lt HL1.out) (fun k e => by have := HR1.out; omega)))
  have HR := hide hr
  have H1 := hide hr1
  have H2 := hide hr2
  have L1 := hide lb1
  have L2 := hide lb2
  clear hr hf hr1 hr2 hb1 hb2 lb1 lb2
  obtain ⟨q0, q1, q2⟩ := K0.out.c3
  have f0 := K0.out.frozen 0
  have f1 := K0.out.frozen 1
  have f2 := K0.out.frozen 2
  have P3 := hide (put3 K0.out (.slice (some ⟨b1, o1, none⟩) n1 c1) (.slice (some ⟨b2, 0, none⟩) n2 c2) (.bool g))
  have PB := hide (((HB.out.setCell (p := ⟨w.heap.size, 0, none⟩) (Nat.le_refl _) (.slice (some ⟨b1, o1, none⟩) n1 c1)).setCell (p := ⟨w.heap.size, 1, none⟩) (Nat.le_refl _) (.slice (some ⟨b2, 0, none⟩) n2 c2)).setCell (p := ⟨w.heap.size, 2, none⟩) (Nat.le_refl _) (.bool g))
  have PG := hide (fr3 (Fr.refl (fun b => b = w.heap.size) w2) (.inl rfl) (.slice (some ⟨b1, o1, none⟩) n1 c1) (.slice (some ⟨b2, 0, none⟩) n2 c2) (.bool g))
  go_wp2_with fail
  clear q0 q1 q2 f0 f1 f2
  obtain ⟨X, hX⟩ : ∃ X : World, X = ((w2.setCell ⟨w.heap.size, 0, none⟩ (.slice (some ⟨b1, o1, none⟩) n1 c1)).setCell ⟨w.heap.size, 1, none⟩ (.slice (some ⟨b2, 0, none⟩) n2 c2)).setCell ⟨w.heap.size, 2, none⟩ (.bool g) := ⟨_, rfl⟩
  rw [← hX] at P3 PB PG
  rw [← hX]
  clear hX
  obtain ⟨r0, r1, r2⟩ := P3.out.c3
  refine bodyPost_ret (v := .agg #[.slice (some ⟨b1, o1, none⟩) n1 c1, .slice (some ⟨b2, 0, none⟩) n2 c2, .bool g]) (by simp [results, Try.results32, go_sem, r0, r1, r2]) rfl ?_
  have hIn : DiskIn w X b1 o1 n1 c1 b2 n2 c2 g z1 z2 := ⟨by omega, by omega, Nat.lt_of_lt_of_le L1.out PG.out.size, Nat.lt_of_lt_of_le L2.out PG.out.size, H1.out.fr1 PG.out hn1, H2.out.fr1 PG.out hn2, PB.out⟩
  exact ⟨b1, o1, n1, c1, b2, n2, c2, g, z1, z2, rfl, hIn⟩
set_option maxHeartbeats 1000000 in
theorem drawDiskFlush_any (A : Option Addr) (n c : Nat) (zs : List Int) (w : World) (h : U8s w A n c zs) :
    Calls Try.prog 34 #[.slice A n c] w (DrawnD w) := by
  skip
  have K0 := hide (Bk.fresh w 25 #[.slice none 0 0, .slice none 0 0, .bool false])
  have H1 := hide (h.after (bel1 w (.cells #[.slice none 0 0, .slice none 0 0, .bool false] 25)))
  have HB := hide (bel1 w (.cells #[.slice none 0 0, .slice none 0 0, .bool false] 25))
  obtain ⟨R, hR⟩ : ∃ R, R = (w.alloc (.cells #[.slice none 0 0, .slice none 0 0, .bool false] 25)).heap.size := ⟨_, rfl⟩
  have hR1 : R = w.heap.size + 1 := by rw [hR]; simp
  have HR1 := hide hR1
  clear h hR1
  go_enter Try.func34, Try.ntmps34
  go_wp2_with fail
  refine (l6Open_any _ _ _ _ _ H1.out).mono ?_; rintro r w1 ⟨rfl, hr, hb⟩
  rw [← hR] at hr
  rw [← hR]
  have HR := hide hr
  have HL1 := hide (show w.heap.size < w1.heap.size from Nat.lt_of_lt_of_le (by have := HR1.out; omega) (Nat.le_of_lt hr.lt))
  have K0 := hide (K0.out.after hb)
  have HB := hide (bnext HB.out (by simp) hb)
  clear hr hb hR H1
  go_wp2_with fail
  refine (l91Disk_any R 0 _ HR.out (by omega)).mono ?_; rintro r w2 ⟨b1, o1, n1, c1, b2, n2, c2, g, z1, z2, q, rfl, m1, m2, hb1, hb2, lb1, lb2, hr1, hr2, hq, hr, hf⟩
  have hRg : ¬ w.heap.size = R := by have := HR1.out; omega
  have K0 := hide (K0.out.fr hf hRg)
  have hn1 : ¬ b1 = w.heap.size := by have := HL1.out; omega
  have hn2 : ¬ b2 = w.heap.size := by have := HL1.out; omega
  have HB := hide (HB.out.trans (hf.below (B := w.heap.size) (Nat.le_of_lt HL1.out) (fun k e => by have := HR1.out; omega)))
  have HR := hide hr
  have H1 := hide hr1
  have H2 := hide hr2
  have L1 := hide lb1
  have L2 := hide lb2
  clear hr hf hr1 hr2 hb1 hb2 lb1 lb2
  obtain ⟨q0, q1, q2⟩ := K0.out.c3
  have f0 := K0.out.frozen 0
  have f1 := K0.out.frozen 1
  have f2 := K0.out.frozen 2
  have P3 := hide (put3 K0.out (.slice (some ⟨b1, o1, none⟩) n1 c1) (.slice (some ⟨b2, 0, none⟩) n2 c2) (.bool g))
  have PB := hide (((HB.out.setCell (p := ⟨w.heap.size, 0, none⟩) (Nat.le_refl _) (.slice (some ⟨b1, o1, none⟩) n1 c1)).setCell (p := ⟨w.heap.size, 1, none⟩) (Nat.le_refl _) (.slice (some ⟨b2, 0, none⟩) n2 c2)).setCell (p := ⟨w.heap.size, 2, none⟩) (Nat.le_refl _) (.bool g))
  have PG := hide (fr3 (Fr.refl (fun b => b = w.heap.size) w2) (.inl rfl) (.slice (some ⟨b1, o1, none⟩) n1 c1) (.slice (some ⟨b2, 0, none⟩) n2 c2) (.bool g))
  go_wp2_with fail
  clear q0 q1 q2 f0 f1 f2
  obtain ⟨X, hX⟩ : ∃ X : World, X = ((w2.setCell ⟨w.heap.size, 0, none⟩ (.slice (some ⟨b1, o1, none⟩) n1 c1)).setCell ⟨w.heap.size, 1, none⟩ (.slice (some ⟨b2, 0, none⟩) n2 c2)).setCell ⟨w.heap.size, 2, none⟩ (.bool g) := ⟨_, rfl⟩
  rw [← hX] at P3 PB PG
  rw [← hX]
  clear hX
  obtain ⟨r0, r1, r2⟩ := P3.out.c3
  refine bodyPost_ret (v := .agg #[.slice (some ⟨b1, o1, none⟩) n1 c1, .slice (some ⟨b2, 0, none⟩) n2 c2, .bool g]) (by simp [results, Try.results34, go_sem, r0, r1, r2]) rfl ?_
  have hIn : DiskIn w X b1 o1 n1 c1 b2 n2 c2 g z1 z2 := ⟨by omega, by omega, Nat.lt_of_lt_of_le L1.out PG.out.size, Nat.lt_of_lt_of_le L2.out PG.out.size, H1.out.fr1 PG.out hn1, H2.out.fr1 PG.out hn2, PB.out⟩
  exact ⟨b1, o1, n1, c1, b2, n2, c2, g, z1, z2, rfl, hIn⟩
set_option maxHeartbeats 1000000 in
theorem drawDiskRead_any (A : Option Addr) (n c : Nat) (zs : List Int) (w : World) (h : U8s w A n c zs) :
    Calls Try.prog 33 #[.slice A n c] w (DrawnDA w) := by
  skip
  have K0 := hide (Bk.fresh w 25 #[.slice none 0 0, .slice none 0 0, .bool false])
  have H1 := hide (h.after (bel1 w (.cells #[.slice none 0 0, .slice none 0 0, .bool false] 25)))
  have HB := hide (bel1 w (.cells #[.slice none 0 0, .slice none 0 0, .bool false] 25))
  obtain ⟨R, hR⟩ : ∃ R, R = (w.alloc (.cells #[.slice none 0 0, .slice none 0 0, .bool false] 25)).heap.size := ⟨_, rfl⟩
  have hR1 : R = w.heap.size + 1 := by rw [hR]; simp
  have HR1 := hide hR1
  clear h hR1
  go_enter Try.func33, Try.ntmps33
  go_wp2_with fail
  refine (l6Open_any _ _ _ _ _ H1.out).mono ?_; rintro r w1 ⟨rfl, hr, hb⟩
  rw [← hR] at hr
  rw [← hR]
  have HR := hide hr
  have HL1 := hide (show w.heap.size < w1.heap.size from Nat.lt_of_lt_of_le (by have := HR1.out; omega) (Nat.le_of_lt hr.lt))
  have HRW := hide hr.lt
  have K0 := hide (K0.out.after hb)
  have HB := hide (bnext HB.out (by simp) hb)
  clear hr hb hR H1
  go_wp2_with fail
  refine (l91Disk_any R 0 _ HR.out (by omega)).mono ?_; rintro r w2 ⟨b1, o1, n1, c1, b2, n2, c2, g, z1, z2, q, rfl, m1, m2, hb1, hb2, lb1, lb2, hr1, hr2, hq, hr, hf⟩
  have hRg : ¬ w.heap.size = R := by have := HR1.out; omega
  have K0 := hide (K0.out.fr hf hRg)
  have hn1 : ¬ b1 = w.heap.size := by have := HL1.out; omega
  have hn2 : ¬ b2 = w.heap.size := by have := HL1.out; omega
  have HB := hide (HB.out.trans (hf.below (B := w.heap.size) (Nat.le_of_lt HL1.out) (fun k e => by have := HR1.out; omega)))
  have HR := hide hr
  have H1 := hide hr1
  have H2 := hide hr2
  have L1 := hide lb1
  have L2 := hide lb2
  have HNE : Hid (¬ b1 = R ∧ ¬ b2 = R) := hide (by have := HRW.out; omega)
  clear hr hf hr1 hr2 hb1 hb2 lb1 lb2
  go_wp2_with fail
  refine (l91Cell_any R q _ HR.out (by omega)).mono ?_; rintro r w3 ⟨a, qa, rfl, a0, a1, hqa, hr, hf⟩
  have K0 := hide (K0.out.fr hf hRg)
  have HB := hide (HB.out.trans (hf.below (B := w.heap.size) HB.out.size (fun k e => by have := HR1.out; omega)))
  have hne1 : ¬ b1 = R := HNE.out.1
  have hne2 : ¬ b2 = R := HNE.out.2
  have H1 := hide (H1.out.fr1 hf hne1)
  have H2 := hide (H2.out.fr1 hf hne2)
  have L1 := hide (Nat.lt_of_lt_of_le L1.out hf.size)
  have L2 := hide (Nat.lt_of_lt_of_le L2.out hf.size)
  have HR := hide hr
  clear hr hf hne1 hne2
  obtain ⟨q0, q1, q2⟩ := K0.out.c3
  have f0 := K0.out.frozen 0
  have f1 := K0.out.frozen 1
  have f2 := K0.out.frozen 2
  have P3 := hide (put3 K0.out (.slice (some ⟨b1, o1, none⟩) n1 c1) (.slice (some ⟨b2, 0, none⟩) n2 c2) (.bool g))
  have PB := hide (((HB.out.setCell (p := ⟨w.heap.size, 0, none⟩) (Nat.le_refl _) (.slice (some ⟨b1, o1, none⟩) n1 c1)).setCell (p := ⟨w.heap.size, 1, none⟩) (Nat.le_refl _) (.slice (some ⟨b2, 0, none⟩) n2 c2)).setCell (p := ⟨w.heap.size, 2, none⟩) (Nat.le_refl _) (.bool g))
  have PG := hide (fr3 (Fr.refl (fun b => b = w.heap.size) w3) (.inl rfl) (.slice (some ⟨b1, o1, none⟩) n1 c1) (.slice (some ⟨b2, 0, none⟩) n2 c2) (.bool g))
  go_wp2_with fail
  clear q0 q1 q2 f0 f1 f2
  obtain ⟨X, hX⟩ : ∃ X : World, X = ((w3.setCell ⟨w.heap.size, 0, none⟩ (.slice (some ⟨b1, o1, none⟩) n1 c1)).setCell ⟨w.heap.size, 1, none⟩ (.slice (some ⟨b2, 0, none⟩) n2 c2)).setCell ⟨w.heap.size, 2, none⟩ (.bool g) := ⟨_, rfl⟩
  rw [← hX] at P3 PB PG
  rw [← hX]
  clear hX
  obtain ⟨r0, r1, r2⟩ := P3.out.c3
  refine bodyPost_ret (v := .tuple #[.agg #[.slice (some ⟨b1, o1, none⟩) n1 c1, .slice (some ⟨b2, 0, none⟩) n2 c2, .bool g], .int .i64 a]) (by simp [results, Try.results33, go_sem, r0, r1, r2]) rfl ?_
  have hIn : DiskIn w X b1 o1 n1 c1 b2 n2 c2 g z1 z2 := ⟨by omega, by omega, Nat.lt_of_lt_of_le L1.out PG.out.size, Nat.lt_of_lt_of_le L2.out PG.out.size, H1.out.fr1 PG.out hn1, H2.out.fr1 PG.out hn2, PB.out⟩
  exact ⟨b1, o1, n1, c1, b2, n2, c2, g, z1, z2, a, rfl, hIn, a0, a1⟩
set_option maxHeartbeats 1000000 in
theorem drawDiskCrash_any (A : Option Addr) (n c : Nat) (zs : List Int) (w : World) (h : U8s w A n c zs) :
    Calls Try.prog 35 #[.slice A n c] w (DrawnDC w) := by
  skip
  have K0 := hide (Bk.fresh w 25 #[.slice none 0 0, .slice none 0 0, .bool false])
  have H1 := hide (h.after (bel1 w (.cells #[.slice none 0 0, .slice none 0 0, .bool false] 25)))
  have HB := hide (bel1 w (.cells #[.slice none 0 0, .slice none 0 0, .bool false] 25))
  obtain ⟨R, hR⟩ : ∃ R, R = (w.alloc (.cells #[.slice none 0 0, .slice none 0 0, .bool false] 25)).heap.size := ⟨_, rfl⟩
  have hR1 : R = w.heap.size + 1 := by rw [hR]; simp
  have HR1 := hide hR1
  clear h hR1
  go_enter Try.func35, Try.ntmps35
  go_wp2_with fail
  refine (l6Open_any _ _ _ _ _ H1.out).mono ?_; rintro r w1 ⟨rfl, hr, hb⟩
  rw [← hR] at hr
  rw [← hR]
  have HR := hide hr
  have HL1 := hide (show w.heap.size < w1.heap.size from Nat.lt_of_lt_of_le (by have := HR1.out; omega) (Nat.le_of_lt hr.lt))
  have HRW := hide hr.lt
  have K0 := hide (K0.out.after hb)
  have HB := hide (bnext HB.out (by simp) hb)
  clear hr hb hR H1
  go_wp2_with fail
  refine (l91Disk_any R 0 _ HR.out (by omega)).mono ?_; rintro r w2 ⟨b1, o1, n1, c1, b2, n2, c2, g, z1, z2, q, rfl, m1, m2, hb1, hb2, lb1, lb2, hr1, hr2, hq, hr, hf⟩
  have hRg : ¬ w.heap.size = R := by have := HR1.out; omega
  have K0 := hide (K0.out.fr hf hRg)
  have hn1 : ¬ b1 = w.heap.size := by have := HL1.out; omega
  have hn2 : ¬ b2 = w.heap.size := by have := HL1.out; omega
  have HB := hide (HB.out.trans (hf.below (B := w.heap.size) (Nat.le_of_lt HL1.out) (fun k e => by have := HR1.out; omega)))
  have HR := hide hr
  have H1 := hide hr1
  have H2 := hide hr2
  have L1 := hide lb1
  have L2 := hide lb2
  have HNE : Hid (¬ b1 = R ∧ ¬ b2 = R) := hide (by have := HRW.out; omega)
  clear hr hf hr1 hr2 hb1 hb2 lb1 lb2
  go_wp2_with fail
  refine (l91Mask_any R q _ HR.out (by omega)).mono ?_; rintro r w3 ⟨m, qa, rfl, a0, a1, hqa, hr, hf⟩
  have HM := hide (show -1 ≤ m ∧ m ≤ 1152921504606846975 from ⟨a0, a1⟩)
  clear a0 a1
  have K0 := hide (K0.out.fr hf hRg)
  have HB := hide (HB.out.trans (hf.below (B := w.heap.size) HB.out.size (fun k e => by have := HR1.out; omega)))
  have hne1 : ¬ b1 = R := HNE.out.1
  have hne2 : ¬ b2 = R := HNE.out.2
  have H1 := hide (H1.out.fr1 hf hne1)
  have H2 := hide (H2.out.fr1 hf hne2)
  have L1 := hide (Nat.lt_of_lt_of_le L1.out hf.size)
  have L2 := hide (Nat.lt_of_lt_of_le L2.out hf.size)
  have HR := hide hr
  clear hr hf hne1 hne2
  go_wp2_with fail
  refine (pick_any R qa 9 _ HR.out (by omega) (by omega) (by omega)).mono ?_; rintro r w4 ⟨t, rfl, t0, t1, _, hr, hf⟩
  have t2 := t1 (by omega)
  have tw : IntKind.i64.wrap (t - 2) = t - 2 := by rw [IntKind.wrap_i64]; omega
  clear t1
  have K0 := hide (K0.out.fr hf hRg)
  have HB := hide (HB.out.trans (hf.below (B := w.heap.size) HB.out.size (fun k e => by have := HR1.out; omega)))
  have hne1 : ¬ b1 = R := HNE.out.1
  have hne2 : ¬ b2 = R := HNE.out.2
  have H1 := hide (H1.out.fr1 hf hne1)
  have H2 := hide (H2.out.fr1 hf hne2)
  have L1 := hide (Nat.lt_of_lt_of_le L1.out hf.size)
  have L2 := hide (Nat.lt_of_lt_of_le L2.out hf.size)
  have HR := hide hr
  clear hr hf hne1 hne2
  obtain ⟨q0, q1, q2⟩ := K0.out.c3
  have f0 := K0.out.frozen 0
  have f1 := K0.out.frozen 1
  have f2 := K0.out.frozen 2
  have P3 := hide (put3 K0.out (.slice (some ⟨b1, o1, none⟩) n1 c1) (.slice (some ⟨b2, 0, none⟩) n2 c2) (.bool g))
  have PB := hide (((HB.out.setCell (p := ⟨w.heap.size, 0, none⟩) (Nat.le_refl _) (.slice (some ⟨b1, o1, none⟩) n1 c1)).setCell (p := ⟨w.heap.size, 1, none⟩) (Nat.le_refl _) (.slice (some ⟨b2, 0, none⟩) n2 c2)).setCell (p := ⟨w.heap.size, 2, none⟩) (Nat.le_refl _) (.bool g))
  have PG := hide (fr3 (Fr.refl (fun b => b = w.heap.size) w4) (.inl rfl) (.slice (some ⟨b1, o1, none⟩) n1 c1) (.slice (some ⟨b2, 0, none⟩) n2 c2) (.bool g))
  go_wp2_with fail
  clear q0 q1 q2 f0 f1 f2
  obtain ⟨X, hX⟩ : ∃ X : World, X = ((w4.setCell ⟨w.heap.size, 0, none⟩ (.slice (some ⟨b1, o1, none⟩) n1 c1)).setCell ⟨w.heap.size, 1, none⟩ (.slice (some ⟨b2, 0, none⟩) n2 c2)).setCell ⟨w.heap.size, 2, none⟩ (.bool g) := ⟨_, rfl⟩
  rw [← hX] at P3 PB PG
  rw [← hX]
  clear hX
  obtain ⟨r0, r1, r2⟩ := P3.out.c3
  refine bodyPost_ret (v := .tuple #[.agg #[.slice (some ⟨b1, o1, none⟩) n1 c1, .slice (some ⟨b2, 0, none⟩) n2 c2, .bool g], .int .i64 m, .int .i64 (t - 2)]) (by simp [results, Try.results35, go_sem, r0, r1, r2]) rfl ?_
  have hIn : DiskIn w X b1 o1 n1 c1 b2 n2 c2 g z1 z2 := ⟨by omega, by omega, Nat.lt_of_lt_of_le L1.out PG.out.size, Nat.lt_of_lt_of_le L2.out PG.out.size, H1.out.fr1 PG.out hn1, H2.out.fr1 PG.out hn2, PB.out⟩
  exact ⟨b1, o1, n1, c1, b2, n2, c2, g, z1, z2, m, t - 2, rfl, hIn, HM.out.1, HM.out.2, by omega, by omega⟩
end Go.Proofs.Ytadeifimhoaanaa
