/- Space: what SpaceNew, eqSpace, markSpace and heldSpace do. -/
import Derived.Test.YtlflcinlhpjkhaaInts
namespace Go.Proofs.Ytlflcinlhpjkhaa
open Go.RowKit

/-- 64 zeros -/
def zs64 (_ : Unit) : Array Value := madeCells #[.int .i64 0] 64

/-- a new space: two new rows of 64 zeros, apart from one another -/
def NewSpace (w : World) (r : Ending) (w' : World) : Prop :=
  ∃ g1 g2 : Nat, r = .returned (.agg #[.slice (some ⟨g1, 0, none⟩) 64 64, .slice (some ⟨g2, 0, none⟩) 64 64]) ∧ g1 ≠ g2 ∧ w.heap.size ≤ g1 ∧ w.heap.size ≤ g2 ∧
    Bk w' g1 3 (zs64 ()) ∧ Bk w' g2 3 (zs64 ()) ∧ Below w.heap.size w w'

theorem new2 (w : World) (o : Obj) (z z' : Array Value) (t : TypeId) :
    Bk (((w.alloc o).alloc (.cells z t)).alloc (.cells z' t)).drew (w.heap.size + 1) t z ∧ Bk (((w.alloc o).alloc (.cells z t)).alloc (.cells z' t)).drew (w.heap.size + 1 + 1) t z' ∧
    Below w.heap.size w (((w.alloc o).alloc (.cells z t)).alloc (.cells z' t)).drew := by
  refine ⟨?_, ?_, ?_⟩
  · have h := (Bk.fresh (w.alloc o) t z).alloc (.cells z' t)
    have e : (w.alloc o).heap.size = w.heap.size + 1 := by simp
    rw [e] at h
    exact h.drewN 1
  · have h := Bk.fresh ((w.alloc o).alloc (.cells z t)) t z'
    have e : ((w.alloc o).alloc (.cells z t)).heap.size = w.heap.size + 1 + 1 := by simp
    rw [e] at h
    exact h.drewN 1
  · exact ((((Below.refl _ _).alloc (Nat.le_refl _) _).alloc (by simp) _).alloc (by simp; omega) _).drew

set_option maxHeartbeats 400000 in
theorem implSpaceNew_any (w : World) : Calls Try.prog 25 #[] w (NewSpace w) := by
  have hmk : ∀ w, (Instr.makeSlice 33 (.int .i64 64) (.int .i64 64)).run Try.prog w = .ok (.slice (some ⟨w.heap.size, 0, none⟩) 64 64) (w.alloc (.cells (zs64 ()) 3)) := fun w => make_ints 64 (by omega) w
  go_enter Try.func25, Try.ntmps25
  go_wp2
  go_region
  all_goals go_wp2
  · obtain ⟨b1, b2, hb⟩ := new2 w (.cells #[.slice (some ⟨w.heap.size + 1, 0, none⟩) 64 64, .slice (some ⟨w.heap.size + 1 + 1, 0, none⟩) 64 64] 35) (zs64 ()) (zs64 ()) 3
    refine bodyPost_ret (v := .agg #[.slice (some ⟨w.heap.size + 1, 0, none⟩) 64 64, .slice (some ⟨w.heap.size + 1 + 1, 0, none⟩) 64 64]) (by simp [results, Try.results25, go_sem]) rfl ?_
    exact ⟨_, _, rfl, by omega, by omega, by omega, b1, b2, hb⟩
  · obtain ⟨b1, b2, hb⟩ := new2 w (.cells #[.slice (some ⟨w.heap.size + 1 + 1, 0, none⟩) 64 64, .slice (some ⟨w.heap.size + 1, 0, none⟩) 64 64] 35) (zs64 ()) (zs64 ()) 3
    refine bodyPost_ret (v := .agg #[.slice (some ⟨w.heap.size + 1 + 1, 0, none⟩) 64 64, .slice (some ⟨w.heap.size + 1, 0, none⟩) 64 64]) (by simp [results, Try.results25, go_sem]) rfl ?_
    exact ⟨_, _, rfl, by omega, by omega, by omega, b2, b1, hb⟩

set_option maxHeartbeats 400000 in
theorem specSpaceNew_any (w : World) : Calls Try.prog 24 #[] w (NewSpace w) := by
  have hmk : ∀ w, (Instr.makeSlice 33 (.int .i64 64) (.int .i64 64)).run Try.prog w = .ok (.slice (some ⟨w.heap.size, 0, none⟩) 64 64) (w.alloc (.cells (zs64 ()) 3)) := fun w => make_ints 64 (by omega) w
  go_enter Try.func24, Try.ntmps24
  go_wp2
  go_region
  all_goals go_wp2
  · obtain ⟨b1, b2, hb⟩ := new2 w (.cells #[.slice (some ⟨w.heap.size + 1, 0, none⟩) 64 64, .slice (some ⟨w.heap.size + 1 + 1, 0, none⟩) 64 64] 35) (zs64 ()) (zs64 ()) 3
    refine bodyPost_ret (v := .agg #[.slice (some ⟨w.heap.size + 1, 0, none⟩) 64 64, .slice (some ⟨w.heap.size + 1 + 1, 0, none⟩) 64 64]) (by simp [results, Try.results24, go_sem]) rfl ?_
    exact ⟨_, _, rfl, by omega, by omega, by omega, b1, b2, hb⟩
  · obtain ⟨b1, b2, hb⟩ := new2 w (.cells #[.slice (some ⟨w.heap.size + 1 + 1, 0, none⟩) 64 64, .slice (some ⟨w.heap.size + 1, 0, none⟩) 64 64] 35) (zs64 ()) (zs64 ()) 3
    refine bodyPost_ret (v := .agg #[.slice (some ⟨w.heap.size + 1 + 1, 0, none⟩) 64 64, .slice (some ⟨w.heap.size + 1, 0, none⟩) 64 64]) (by simp [results, Try.results24, go_sem]) rfl ?_
    exact ⟨_, _, rfl, by omega, by omega, by omega, b2, b1, hb⟩


theorem eqIntS_v {A A' : Option Addr} {n c n' c' : Nat} {zs ys : List Int} {v : Bool} (e : eqI zs ys = v) (w : World) (h : Rd w 1 A n (zs.map (Value.int .i64))) (h' : Rd w 1 A' n' (ys.map (Value.int .i64))) (hm : n ≤ maxLen) :
    Calls Try.prog 52 #[.slice A n c, .slice A' n' c'] w fun r w' => r = .returned (.bool v) ∧ Below w.heap.size w w' := e ▸ eqIntS_any A A' n c n' c' zs ys w h h' hm

set_option maxHeartbeats 1000000 in
theorem eqSpace_any (A1 A2 A1' A2' : Option Addr) (n1 n2 c1 c2 n1' n2' c1' c2' : Nat) (z1 z2 y1 y2 : List Int) (w : World)
    (h1 : Rd w 1 A1 n1 (z1.map (Value.int .i64))) (h2 : Rd w 1 A2 n2 (z2.map (Value.int .i64))) (k1 : Rd w 1 A1' n1' (y1.map (Value.int .i64))) (k2 : Rd w 1 A2' n2' (y2.map (Value.int .i64))) (m1 : n1 ≤ maxLen) (m2 : n2 ≤ maxLen) :
    Calls Try.prog 26 #[.agg #[.slice A1 n1 c1, .slice A2 n2 c2], .agg #[.slice A1' n1' c1', .slice A2' n2' c2']] w
      fun r w' => r = .returned (.bool (eqI z1 y1 && eqI z2 y2)) ∧ Below w.heap.size w w' := by
  have S := 35
  have hb0 : Below w.heap.size w ((w.alloc (.cells #[.slice A1 n1 c1, .slice A2 n2 c2] 35)).alloc (.cells #[.slice A1' n1' c1', .slice A2' n2' c2'] 35)) := ((Below.refl _ _).alloc (Nat.le_refl _) _).alloc (by simp) _
  have K1 := hide ((Bk.fresh w 35 #[.slice A1 n1 c1, .slice A2 n2 c2]).alloc (.cells #[.slice A1' n1' c1', .slice A2' n2' c2'] 35))
  have K2 := Bk.fresh (w.alloc (.cells #[.slice A1 n1 c1, .slice A2 n2 c2] 35)) 35 #[.slice A1' n1' c1', .slice A2' n2' c2']
  rw [show (w.alloc (.cells #[.slice A1 n1 c1, .slice A2 n2 c2] 35)).heap.size = w.heap.size + 1 from by simp] at K2
  have K2 := hide K2
  have H1 := hide (h1.after hb0)
  have H2 := hide (h2.after hb0)
  have L1 := hide (k1.after hb0)
  have L2 := hide (k2.after hb0)
  clear h1 h2 k1 k2 S
  cases e1 : eqI z1 y1
  · have E1 := hide e1
    clear e1
    go_enter Try.func26, Try.ntmps26
    go_wp2_with fail
    refine (eqIntS_v E1.out _ H1.out L1.out m1).mono ?_; rintro r w1 ⟨rfl, hb1⟩
    go_wp2_with fail
    go_ret
    exact ⟨rfl, bnext hb0 (Nat.le_refl _) hb1⟩
  · have E1 := hide e1
    clear e1
    go_enter Try.func26, Try.ntmps26
    go_wp2_with fail
    refine (eqIntS_v E1.out _ H1.out L1.out m1).mono ?_; rintro r w1 ⟨rfl, hb1⟩
    obtain ⟨q0, q1⟩ := (K1.out.after hb1).c2
    obtain ⟨q2, q3⟩ := (K2.out.after hb1).c2
    go_wp2_with fail
    refine (eqIntS_any _ _ _ _ _ _ _ _ _ (H2.out.after hb1) (L2.out.after hb1) m2).mono ?_; rintro r w2 ⟨rfl, hb2⟩
    have hb3 := bnext (bnext hb0 (Nat.le_refl _) hb1) (Nat.le_refl _) hb2
    cases e2 : eqI z2 y2
    all_goals
      go_wp2_with fail
      go_ret
      exact ⟨ret_bool (by rw [e2]; rfl), hb3⟩

set_option maxHeartbeats 1000000 in
theorem markSpace_any (g1 g2 n1 n2 c1 c2 : Nat) (s1 s2 : Array Value) (k0 : Int) (w : World) (hg : g1 ≠ g2) (b1 : Bk w g1 3 s1) (b2 : Bk w g2 3 s2) (l1 : n1 ≤ s1.size) (l2 : n2 ≤ s2.size) (m1 : n1 ≤ 100000000) (m2 : n2 ≤ 100000000) (h0 : 0 ≤ k0) (h1 : k0 ≤ 100000000) :
    Calls Try.prog 27 #[.agg #[.slice (some ⟨g1, 0, none⟩) n1 c1, .slice (some ⟨g2, 0, none⟩) n2 c2], .int .i64 k0] w fun r w' => r = .returned (.int .i64 (k0 + n1 + n2)) ∧
      Rd w' 1 (some ⟨g1, 0, none⟩) n1 (marksI k0 n1) ∧ Rd w' 1 (some ⟨g2, 0, none⟩) n2 (marksI (k0 + n1) n2) ∧ Fr (fun k => k = g1 ∨ k = g2) w w' := by
  have hb0 := bel1 w (.cells #[.slice (some ⟨g1, 0, none⟩) n1 c1, .slice (some ⟨g2, 0, none⟩) n2 c2] 35)
  have K0 := hide (Bk.fresh w 35 #[.slice (some ⟨g1, 0, none⟩) n1 c1, .slice (some ⟨g2, 0, none⟩) n2 c2])
  have B1 := hide (b1.after hb0)
  have B2 := hide (b2.after hb0)
  have G := hide hg
  have lt1 := hide b1.lt
  have lt2 := hide b2.lt
  clear b1 b2 hg
  go_enter Try.func27, Try.ntmps27
  go_wp2_with fail
  refine (markIntS_any g1 n1 c1 s1 k0 _ B1.out l1 (by omega) h0 (by omega)).mono ?_; rintro r w1 ⟨rfl, ⟨t1, T1, ts1, tm1⟩, hf1⟩
  obtain ⟨q0, q1⟩ := (K0.out.fr hf1 (fun e => by have := lt1.out; omega)).c2
  have C1 := hide (B2.out.fr hf1 (fun e => G.out e.symm))
  have T1 := hide T1
  have tm1 := hide tm1
  have ts1 := hide ts1
  have hf1 := hide hf1
  go_wp2_with fail
  refine (markIntS_any g2 n2 c2 s2 _ _ C1.out l2 (by omega) (by omega) (by omega)).mono ?_; rintro r w2 ⟨rfl, ⟨t2, T2, ts2, tm2⟩, hf2⟩
  have R1 := hide ((T1.out.fr hf2 (fun e => G.out e)).rd (k := 1) (n := n1) (xs := marksI k0 n1) (by rw [marksI_len, Nat.mul_one]) (fun j u hu => by
    have hj : j < n1 := by have := (List.getElem?_eq_some_iff.1 hu).1; rwa [marksI_len] at this
    rw [marksI_at _ _ _ hj] at hu
    rw [tm1.out j hj, hu]))
  have R2 := hide (T2.rd (k := 1) (n := n2) (xs := marksI (k0 + n1) n2) (by rw [marksI_len, Nat.mul_one]) (fun j u hu => by
    have hj : j < n2 := by have := (List.getElem?_eq_some_iff.1 hu).1; rwa [marksI_len] at this
    rw [marksI_at _ _ _ hj] at hu
    rw [tm2 j hj, hu]))
  have HF := hide ((((Fr.of_below (fun k => k = g1 ∨ k = g2) hb0).next hf1.out (fun i _ e => .inl (.inl e))).next hf2 (fun i _ e => .inl (.inr e))))
  clear T2 tm2 ts2 hf2
  go_wp2_with fail
  go_ret
  exact ⟨rfl, R1.out, R2.out, HF.out⟩

set_option maxHeartbeats 1000000 in
theorem heldSpace_any (A1 A2 : Option Addr) (n1 n2 c1 c2 : Nat) (k0 : Int) (w : World) (h1 : Rd w 1 A1 n1 (marksI k0 n1)) (h2 : Rd w 1 A2 n2 (marksI (k0 + n1) n2)) (m1 : n1 ≤ 100000000) (m2 : n2 ≤ 100000000) (h0 : 0 ≤ k0) (hk : k0 ≤ 100000000) :
    Calls Try.prog 28 #[.agg #[.slice A1 n1 c1, .slice A2 n2 c2], .int .i64 k0] w fun r w' => r = .returned (.int .i64 (k0 + n1 + n2)) ∧ Below w.heap.size w w' := by
  have hb0 := bel1 w (.cells #[.slice A1 n1 c1, .slice A2 n2 c2] 35)
  have H1 := hide (h1.after hb0)
  have H2 := hide (h2.after hb0)
  clear h1 h2
  have p1 : ¬ k0 + (n1 : Int) < 0 := by omega
  have p2 : ¬ k0 + (n1 : Int) + (n2 : Int) < 0 := by omega
  go_enter Try.func28, Try.ntmps28
  go_wp2_with fail
  refine (heldIntS_any A1 n1 c1 k0 _ H1.out (by omega) h0 (by omega)).mono ?_; rintro r w1 ⟨rfl, rfl⟩
  go_wp2_with fail
  refine (heldIntS_any A2 n2 c2 _ _ H2.out (by omega) (by omega) (by omega)).mono ?_; rintro r w2 ⟨rfl, rfl⟩
  go_wp2_with fail
  go_ret
  exact ⟨rfl, hb0⟩

theorem zs64_rd {w : World} {g : Nat} (h : Bk w g 3 (zs64 ())) : Rd w 1 (some ⟨g, 0, none⟩) 64 ((List.replicate 64 0).map (Value.int .i64)) :=
  h.rd (by simp) (fun j u hu => by
    have hj : j < 64 := by have := (List.getElem?_eq_some_iff.1 hu).1; simpa using this
    have e : (zs64 ())[j]? = some (.int .i64 0) := by
      rw [zs64, madeCells, Array.getElem?_map, Array.getElem?_range, if_pos hj]
      show some (#[Value.int .i64 0][j % 1]!) = _
      rw [Nat.mod_one]
      rfl
    rw [e]
    rw [List.getElem?_map, List.getElem?_replicate, if_pos hj] at hu
    exact hu)
theorem zs64_size : (zs64 ()).size = 64 := size_madeCells _ _
theorem eqI_refl (z : List Int) : eqI z z = true := decide_eq_true rfl

set_option maxHeartbeats 1000000 in
theorem fnExactSpaceNew_walk (w : World) : Calls Try.prog 8 #[] w fun r w' => r = .returned (.bool true) ∧ Below w.heap.size w w' := by
  go_enter Try.func8, Try.ntmps8
  go_wp2_with fail
  refine (specSpaceNew_any _).mono ?_; rintro r w1 ⟨s1, s2, rfl, hs, ls1, ls2, S1, S2, hb1⟩
  have K1 := hide (Bk.fresh w1 35 #[.slice (some ⟨s1, 0, none⟩) 64 64, .slice (some ⟨s2, 0, none⟩) 64 64])
  have P1 := hide (S1.alloc (.cells #[.slice (some ⟨s1, 0, none⟩) 64 64, .slice (some ⟨s2, 0, none⟩) 64 64] 35))
  have P2 := hide (S2.alloc (.cells #[.slice (some ⟨s1, 0, none⟩) 64 64, .slice (some ⟨s2, 0, none⟩) 64 64] 35))
  have l1 : s1 < w1.heap.size := S1.lt
  have l2 : s2 < w1.heap.size := S2.lt
  have F1 := hide (hb1.alloc hb1.size (.cells #[.slice (some ⟨s1, 0, none⟩) 64 64, .slice (some ⟨s2, 0, none⟩) 64 64] 35))
  clear S1 S2 hb1
  go_wp2_with fail
  refine (implSpaceNew_any _).mono ?_; rintro r w2 ⟨g1, g2, rfl, hg, lg1, lg2, G1, G2, hb2⟩
  have lg1' : w1.heap.size < g1 := by simp at lg1; omega
  have lg2' : w1.heap.size < g2 := by simp at lg2; omega
  have lz := hb2.size
  have lz' : w1.heap.size < w2.heap.size := by simp at lz; omega
  have K2 := hide (Bk.fresh w2 35 #[.slice (some ⟨g1, 0, none⟩) 64 64, .slice (some ⟨g2, 0, none⟩) 64 64])
  have K1b := hide ((K1.out.after hb2).alloc (.cells #[.slice (some ⟨g1, 0, none⟩) 64 64, .slice (some ⟨g2, 0, none⟩) 64 64] 35))
  have P1b := hide ((P1.out.after hb2).alloc (.cells #[.slice (some ⟨g1, 0, none⟩) 64 64, .slice (some ⟨g2, 0, none⟩) 64 64] 35))
  have P2b := hide ((P2.out.after hb2).alloc (.cells #[.slice (some ⟨g1, 0, none⟩) 64 64, .slice (some ⟨g2, 0, none⟩) 64 64] 35))
  have G1b := hide (G1.alloc (.cells #[.slice (some ⟨g1, 0, none⟩) 64 64, .slice (some ⟨g2, 0, none⟩) 64 64] 35))
  have G2b := hide (G2.alloc (.cells #[.slice (some ⟨g1, 0, none⟩) 64 64, .slice (some ⟨g2, 0, none⟩) 64 64] 35))
  have lG1 : g1 < w2.heap.size := G1.lt
  have lG2 : g2 < w2.heap.size := G2.lt
  have F2 := hide ((F1.out.trans (hb2.mono F1.out.size)).alloc ((F1.out.trans (hb2.mono F1.out.size)).size) (.cells #[.slice (some ⟨g1, 0, none⟩) 64 64, .slice (some ⟨g2, 0, none⟩) 64 64] 35))
  have q := (K2.out).c2
  have q' := (K1b.out).c2
  obtain ⟨q0, q1⟩ := q
  obtain ⟨q2, q3⟩ := q'
  have hs := hide hs
  have hg := hide hg
  clear K1 P1 P2 F1 G1 G2 hb2 lz lg1 lg2
  go_wp2_with fail
  refine (eqSpace_any _ _ _ _ _ _ _ _ _ _ _ _ _ _ _ _ _ (zs64_rd G1b.out) (zs64_rd G2b.out) (zs64_rd P1b.out) (zs64_rd P2b.out) (by simp [maxLen]) (by simp [maxLen])).mono ?_; rintro r w3 ⟨rfl, hb3⟩
  rw [eqI_refl]
  clear q0 q1 q2 q3
  obtain ⟨q4, q5⟩ := (K2.out.after hb3).c2
  go_wp2_with fail
  refine (markSpace_any g1 g2 64 64 64 64 (zs64 ()) (zs64 ()) 1 _ hg.out (G1b.out.after hb3) (G2b.out.after hb3) (by rw [zs64_size]; omega) (by rw [zs64_size]; omega) (by omega) (by omega) (by omega) (by omega)).mono ?_; rintro r w4 ⟨rfl, M1, M2, hf4⟩
  have hf4 := hide ((Fr.of_below (fun k => k = g1 ∨ k = g2) hb3).trans hf4)
  have ge1 : w2.heap.size ≠ g1 := by omega
  have ge2 : w2.heap.size ≠ g2 := by omega
  have K4 := hide (K2.out.fr hf4.out (fun e => by omega))
  clear q4 q5 hb3
  obtain ⟨q4, q5⟩ := K4.out.c2
  have M1 := hide M1
  have M2 := hide M2
  go_wp2_with fail
  refine (heldSpace_any _ _ 64 64 _ _ 1 _ M1.out M2.out (by omega) (by omega) (by omega) (by omega)).mono ?_; rintro r w5 ⟨rfl, hb5⟩
  clear q4 q5
  go_wp2_with fail
  refine (implSpaceNew_any _).mono ?_; rintro r w6 ⟨h1, h2, rfl, hh, lh1, lh2, H1, H2, hb6⟩
  have K6 := hide (Bk.fresh w6 35 #[.slice (some ⟨h1, 0, none⟩) 64 64, .slice (some ⟨h2, 0, none⟩) 64 64])
  have hb56 := hide (((hb5.trans (hb6.mono hb5.size)).alloc (hb5.trans (hb6.mono hb5.size)).size) (.cells #[.slice (some ⟨h1, 0, none⟩) 64 64, .slice (some ⟨h2, 0, none⟩) 64 64] 35))
  have hf6 := hide (hf4.out.trans (Fr.of_below _ hb56.out))
  have H1b := hide (H1.alloc (.cells #[.slice (some ⟨h1, 0, none⟩) 64 64, .slice (some ⟨h2, 0, none⟩) 64 64] 35))
  have H2b := hide (H2.alloc (.cells #[.slice (some ⟨h1, 0, none⟩) 64 64, .slice (some ⟨h2, 0, none⟩) 64 64] 35))
  have ne1 := hs.out
  obtain ⟨q6, q7⟩ := K6.out.c2
  obtain ⟨q8, q9⟩ := (K1b.out.fr hf6.out (fun e => by omega)).c2
  have sP1 := hide (P1b.out.fr hf6.out (fun e => by omega))
  have sP2 := hide (P2b.out.fr hf6.out (fun e => by omega))
  clear hb5 hb6 H1 H2 lh1 lh2 ne1
  go_wp2_with fail
  refine (eqSpace_any _ _ _ _ _ _ _ _ _ _ _ _ _ _ _ _ _ (zs64_rd H1b.out) (zs64_rd H2b.out) (zs64_rd sP1.out) (zs64_rd sP2.out) (by simp [maxLen]) (by simp [maxLen])).mono ?_; rintro r w7 ⟨rfl, hb7⟩
  rw [eqI_refl]
  clear q6 q7 q8 q9
  have hf7 := hide (hf6.out.trans (Fr.of_below _ hb7))
  obtain ⟨q6, q7⟩ := (K2.out.fr hf7.out (fun e => by omega)).c2
  have N1 := hide ((M1.out.after hb56.out).after hb7)
  have N2 := hide ((M2.out.after hb56.out).after hb7)
  go_wp2_with fail
  refine (heldSpace_any _ _ 64 64 _ _ 1 _ N1.out N2.out (by omega) (by omega) (by omega) (by omega)).mono ?_; rintro r w8 ⟨rfl, hb8⟩
  have hf8 := hide (hf7.out.trans (Fr.of_below _ hb8))
  have l0 := F2.out.size
  have lw1 := hide (show w.heap.size ≤ w1.heap.size by omega)
  go_wp2_with fail
  go_ret
  exact ⟨rfl, F2.out.trans (hf8.out.below l0 (fun k hk => by have := lw1.out; omega))⟩
end Go.Proofs.Ytlflcinlhpjkhaa
