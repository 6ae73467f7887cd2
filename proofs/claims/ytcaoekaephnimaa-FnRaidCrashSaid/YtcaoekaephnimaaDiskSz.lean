/- Disks are taken over, their sizes; the walk of the law FnExactDiskOk. -/
import Derived.Test.YtcaoekaephnimaaQD
import Derived.Test.YtcaoekaephnimaaQO
namespace Go.Proofs.Ytcaoekaephnimaa
open Go.RowKit
set_option linter.unusedVariables false

theorem szT_fit {left : Int} {zs : List ByteArray} (h0 : 0 ≤ left) (h : 0 ≤ szT left zs) : (zs.length : Int) ≤ left ∧ ∀ z ∈ zs, (z.size : Int) ≤ left := by
  unfold szT at h
  by_cases hl : left < (zs.length : Int)
  · rw [if_pos hl, szT_gone _ _ rfl] at h
    omega
  · rw [if_neg hl] at h
    refine ⟨by omega, ?_⟩
    have key : ∀ (l : Int) (ys : List ByteArray), 0 ≤ l → 0 ≤ ys.foldl (fun l z => if l < 0 then -1 else if l < (z.size : Int) then -1 else l - z.size) l → ∀ z ∈ ys, (z.size : Int) ≤ l := by
      intro l ys
      induction ys generalizing l with
      | nil => intro _ _ z hz; simp at hz
      | cons y ys ih =>
        intro hl hf z hz
        rw [List.foldl_cons, if_neg (by omega)] at hf
        by_cases hy : l < (y.size : Int)
        · rw [if_pos hy, szT_gone _ _ rfl] at hf
          omega
        · rw [if_neg hy] at hf
          rcases List.mem_cons.1 hz with rfl | hz
          · omega
          · have := ih (l - y.size) (by omega) hf z hz
            omega
    intro z hz
    have := key _ zs (by omega) h z hz
    omega

/-- a size that is left over: nothing, or the disk is small -/
def LeftD (n1 n2 : Nat) (z1 : List ByteArray) (z2 : List (Int × ByteArray)) (w : World) (r : Ending) (w' : World) : Prop := (∃ v : Int, r = .returned (.int .i64 v) ∧ (v < 0 ∨ (0 ≤ v ∧ n1 ≤ 1048576 ∧ n2 ≤ 1048576 ∧ (∀ z ∈ z1, z.size ≤ 1048576) ∧ ∀ z ∈ z2, z.2.size ≤ 1048576))) ∧ Below w.heap.size w w'
set_option maxHeartbeats 1000000 in
theorem szDisk_any (A1 A2 : Option Addr) (n1 n2 c1 c2 : Nat) (z1 : List ByteArray) (z2 : List (Int × ByteArray)) (g : Bool) (w : World) (h1 : Strs w A1 n1 c1 z1) (h2 : WaitS w A2 n2 c2 z2) :
    Calls Try.prog 62 #[.agg #[.slice A1 n1 c1, .slice A2 n2 c2, .bool g], .int .i64 1048576] w (LeftD n1 n2 z1 z2 w) := by
  obtain ⟨a1, b1, l1, m1, r1⟩ := h1
  obtain ⟨a2, b2, l2, m2, r2⟩ := h2
  have hb0 := bel1 w (.cells #[.slice A1 n1 c1, .slice A2 n2 c2, .bool g] 82)
  have K0 := hide (Bk.fresh w 82 #[.slice A1 n1 c1, .slice A2 n2 c2, .bool g])
  have H1 := hide (r1.after hb0)
  have H2 := hide (r2.after hb0)
  have HB := hide hb0
  have M1 := hide m1
  have M2 := hide (fun z hz => (m2 z hz).2)
  have N1 := hide (Nat.le_trans a1 b1)
  have N2 := hide (Nat.le_trans a2 b2)
  have L1 := hide l1
  clear r1 r2 hb0 m1 m2 a1 b1 a2 b2 l1 l2
  obtain ⟨l, hl⟩ : ∃ l, l = szT 1048576 z1 := ⟨_, rfl⟩
  have hb := szT_bd 1048576 z1 (by omega)
  rw [← hl] at hb
  obtain ⟨hb1, hb2⟩ := hb
  have HL := hide hl
  clear hl
  by_cases hneg : l < 0
  · go_enter Try.func62, Try.ntmps62
    go_wp2_with fail
    refine (szStringS_any _ _ _ z1 _ _ N1.out M1.out H1.out (by omega) (by omega)).mono ?_; rintro r w1 ⟨rfl, rfl⟩
    rw [← HL.out]
    go_wp2_with fail
    go_ret
    exact ⟨⟨-1, rfl, .inl (by omega)⟩, HB.out⟩
  · have hp : 0 ≤ l := by omega
    have HS := hide (szT_fit (left := 1048576) (zs := z1) (by omega) (by rw [← HL.out]; exact hp))
    obtain ⟨q0, q1, q2⟩ := K0.out.c3
    go_enter Try.func62, Try.ntmps62
    go_wp2_with fail
    refine (szStringS_any _ _ _ z1 _ _ N1.out M1.out H1.out (by omega) (by omega)).mono ?_; rintro r w1 ⟨rfl, rfl⟩
    rw [← HL.out]
    go_wp2_with fail
    refine (szWaitS_any _ _ _ z2 l _ H2.out M2.out N2.out hp (by omega)).mono ?_; rintro r w2 ⟨⟨v, rfl, hv⟩, hb3⟩
    have HV := hide hv
    have HB3 := hide (bnext HB.out (Nat.le_refl _) hb3)
    clear hv hb3
    by_cases hvn : v < 0
    · go_wp2_with fail
      go_ret
      exact ⟨⟨-1, rfl, .inl (by omega)⟩, HB3.out⟩
    · go_wp2_with fail
      go_ret
      refine ⟨⟨v, rfl, ?_⟩, HB3.out⟩
      rcases HV.out with h | ⟨h0, h1, h2, h3⟩
      · exact .inl h
      · refine .inr ⟨h0, ?_, ?_, ?_, ?_⟩
        · have := HS.out.1; have := L1.out; omega
        · omega
        · intro z hz; have := HS.out.2 z hz; omega
        · intro z hz; have := h3 z hz; omega

/-- what toDisk makes: two new rows that hold what the rows hold -/
def ToDisk (z1 : List ByteArray) (z2 : List (Int × ByteArray)) (g : Bool) (n1 n2 : Nat) (w : World) (r : Ending) (w' : World) : Prop :=
  ∃ g1 g2 : Nat, r = .returned (.agg #[.slice (some ⟨g1, 0, none⟩) n1 n1, .slice (some ⟨g2, 0, none⟩) n2 n2, .bool g]) ∧ g1 ≠ g2 ∧ w.heap.size ≤ g1 ∧ w.heap.size ≤ g2 ∧
    Bk w' g1 9 (z1.map Value.string).toArray ∧ Bk w' g2 74 (waitCells z2).toArray ∧ Below w.heap.size w w'

set_option maxHeartbeats 2000000 in
theorem toDisk_any (A1 A2 : Option Addr) (n1 n2 c1 c2 : Nat) (z1 : List ByteArray) (z2 : List (Int × ByteArray)) (g : Bool) (w : World) (h1 : Rd w 1 A1 n1 (z1.map Value.string)) (h2 : Rd w 2 A2 n2 (waitCells z2)) (m1 : n1 ≤ 1048576) (m2 : n2 ≤ 1048576) :
    Calls Try.prog 64 #[.agg #[.slice A1 n1 c1, .slice A2 n2 c2, .bool g]] w (ToDisk z1 z2 g n1 n2 w) := by
  obtain ⟨W0, HW0⟩ : ∃ W : World, W = ((w.alloc (.cells #[.slice A1 n1 c1, .slice A2 n2 c2, .bool g] 82)).alloc (.cells #[.slice none 0 0, .slice none 0 0, .bool false] 49)).alloc (.cells #[.slice none 0 0, .slice none 0 0, .bool false] 49) := ⟨_, rfl⟩
  have hb0 : Below w.heap.size w W0 := by rw [HW0]; exact (((Below.refl _ _).alloc (Nat.le_refl _) _).alloc (by simp) _).alloc (by simp; omega) _
  have z0 : W0.heap.size = w.heap.size + 1 + 1 + 1 := by rw [HW0]; simp
  have K0 := hide (show Bk W0 w.heap.size 82 #[.slice A1 n1 c1, .slice A2 n2 c2, .bool g] by rw [HW0]; exact ((Bk.fresh _ _ _).alloc _).alloc _)
  have K1 := hide (show Bk W0 (w.heap.size + 1) 49 #[.slice none 0 0, .slice none 0 0, .bool false] by
    rw [HW0]
    have h := (Bk.fresh (w.alloc (.cells #[.slice A1 n1 c1, .slice A2 n2 c2, .bool g] 82)) 49 #[.slice none 0 0, .slice none 0 0, .bool false]).alloc (.cells #[.slice none 0 0, .slice none 0 0, .bool false] 49)
    simpa using h)
  have K2 := hide (show Bk W0 (w.heap.size + 1 + 1) 49 #[.slice none 0 0, .slice none 0 0, .bool false] by
    rw [HW0]
    have h := Bk.fresh ((w.alloc (.cells #[.slice A1 n1 c1, .slice A2 n2 c2, .bool g] 82)).alloc (.cells #[.slice none 0 0, .slice none 0 0, .bool false] 49)) 49 #[.slice none 0 0, .slice none 0 0, .bool false]
    simpa using h)
  have H1 := hide h1
  have H2 := hide h2
  have HB0 := hide hb0
  have HZ0 := hide z0
  clear h1 h2 hb0 z0
  go_enter Try.func64, Try.ntmps64
  go_wp2_with fail
  rw [← HW0]
  clear HW0
  refine (toStringS_any _ _ _ z1 _ (H1.out.after HB0.out) (by omega)).mono ?_; rintro r w1 ⟨rfl, B1, hb1, lt1⟩
  obtain ⟨q0, q1, q5⟩ := (K0.out.after hb1).c3
  obtain ⟨q2, q3, q4⟩ := (K2.out.after hb1).c3
  have f2 := (K2.out.after hb1).frozen 0
  have hne : ¬ w.heap.size = w.heap.size + 1 + 1 := by omega
  obtain ⟨W1, HW1⟩ : ∃ W : World, W = w1.setCell ⟨w.heap.size + 1 + 1, 0, none⟩ (.slice (some ⟨W0.heap.size, 0, none⟩) n1 n1) := ⟨_, rfl⟩
  have P0 := hide (show Bk W1 w.heap.size 82 #[.slice A1 n1 c1, .slice A2 n2 c2, .bool g] by rw [HW1]; exact (K0.out.after hb1).far (by show w.heap.size ≠ w.heap.size + 1 + 1; omega) _)
  have P1 := hide (show Bk W1 (w.heap.size + 1) 49 #[.slice none 0 0, .slice none 0 0, .bool false] by rw [HW1]; exact (K1.out.after hb1).far (by show w.heap.size + 1 ≠ w.heap.size + 1 + 1; omega) _)
  have P2 := hide (show Bk W1 (w.heap.size + 1 + 1) 49 #[(.slice (some ⟨W0.heap.size, 0, none⟩) n1 n1), .slice none 0 0, .bool false] by rw [HW1]; exact (K2.out.after hb1).put 0 _)
  have Q1 := hide (show Bk W1 W0.heap.size 9 (z1.map Value.string).toArray by rw [HW1]; exact B1.far (by show W0.heap.size ≠ w.heap.size + 1 + 1; have := HZ0.out; omega) _)
  have HB1 := hide (show Below w.heap.size w W1 by rw [HW1]; exact (HB0.out.trans (hb1.mono HB0.out.size)).setCell (by show w.heap.size ≤ w.heap.size + 1 + 1; omega) _)
  have LT1 := hide (show W0.heap.size < W1.heap.size by rw [HW1]; simpa [World.setCell] using lt1)
  clear K0 K1 K2 hb1 B1 lt1
  go_wp2_with fail
  rw [← HW1]
  clear HW1 q0 q1 q2 q3 f2 q4 q5
  refine (toWaitS_any _ _ _ z2 _ (H2.out.after HB1.out) (by omega)).mono ?_; rintro r w2 ⟨rfl, B2, hb2, lt2⟩
  obtain ⟨q2, q3, q6⟩ := (P2.out.after hb2).c3
  obtain ⟨q4, q5, q7⟩ := (P1.out.after hb2).c3
  obtain ⟨p0, p1, p2⟩ := (P0.out.after hb2).c3
  have f2 := (P2.out.after hb2).frozen 1
  have f5 := (P2.out.after hb2).frozen 2
  have f3 := (P1.out.after hb2).frozen 0
  have f4 := (P1.out.after hb2).frozen 1
  have f6 := (P1.out.after hb2).frozen 2
  have hne2 : ¬ w.heap.size + 1 = w.heap.size + 1 + 1 := by omega
  have hne3 : ¬ w.heap.size + 1 + 1 = w.heap.size := by omega
  have hne4 : ¬ w.heap.size + 1 + 1 = w.heap.size + 1 := by omega
  have R1 := hide (Q1.out.after hb2)
  have R2 := hide B2
  have HB2 := hide (HB1.out.trans (hb2.mono HB1.out.size))
  have LE := hide (show w.heap.size ≤ W1.heap.size from HB1.out.size)
  clear P0 P1 P2 Q1 hb2 B2 lt2
  go_wp2_with fail
  refine bodyPost_ret (v := .agg #[.slice (some ⟨W0.heap.size, 0, none⟩) n1 n1, .slice (some ⟨W1.heap.size, 0, none⟩) n2 n2, .bool g]) (by simp [results, Try.results64, go_sem, *]) rfl ?_
  have l0 := HZ0.out
  have l1 := LT1.out
  refine ⟨_, _, rfl, by omega, by omega, LE.out, ?_, ?_, ?_⟩
  · refine ((((R1.out.far ?_ _).far ?_ _).far ?_ _).far ?_ _).far ?_ _
    all_goals first | (show W0.heap.size ≠ w.heap.size + 1 + 1; omega) | (show W0.heap.size ≠ w.heap.size + 1; omega)
  · refine ((((R2.out.far ?_ _).far ?_ _).far ?_ _).far ?_ _).far ?_ _
    all_goals first | (show W1.heap.size ≠ w.heap.size + 1 + 1; omega) | (show W1.heap.size ≠ w.heap.size + 1; omega)
  · refine ((((HB2.out.setCell ?_ _).setCell ?_ _).setCell ?_ _).setCell ?_ _).setCell ?_ _
    all_goals first | (show w.heap.size ≤ w.heap.size + 1 + 1; omega) | (show w.heap.size ≤ w.heap.size + 1; omega)
theorem strs_rd {w : World} {g n : Nat} {zs : List ByteArray} (h : Bk w g 9 (zs.map Value.string).toArray) (hn : zs.length = n) : Rd w 1 (some ⟨g, 0, none⟩) n (zs.map Value.string) :=
  h.rd (by simp [hn]) (fun j u hu => by rw [List.getElem?_toArray]; exact hu)
theorem waits_rd {w : World} {g n : Nat} {zs : List (Int × ByteArray)} (h : Bk w g 74 (waitCells zs).toArray) (hn : zs.length = n) : Rd w 2 (some ⟨g, 0, none⟩) n (waitCells zs) :=
  h.rd (by rw [waitCells_len, hn]) (fun j u hu => by rw [List.getElem?_toArray]; exact hu)

end Go.Proofs.Ytcaoekaephnimaa
