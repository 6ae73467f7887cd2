/- The laws FnNumPut and FnNumGet, walked. -/
import Derived.Test.YtnagmagjdglmoaaDoorNumGet
import Derived.Test.YtnagmagjdglmoaaDoorSpoil
namespace Go.Proofs.YtnagmagjdglmoaaDoor
open Go.RowKit
set_option linter.unusedVariables false

theorem isEmpty_size' (s : ByteArray) : s.toList.isEmpty = decide (s.size = 0) := by
  rw [ByteArray.toList_eq]
  cases h : s.data.toList with
  | nil =>
    have : s.size = 0 := by have := congrArg List.length h; simpa using this
    rw [decide_eq_true this]; rfl
  | cons a t =>
    have : s.size ≠ 0 := by have := congrArg List.length h; simp at this; omega
    rw [decide_eq_false this]; rfl
theorem six_at {w : World} {g k : Nat} {v0 v1 : Int} (h : Bk w g 3 #[.int .i64 v0, .int .i64 v1, .int .i64 (-1), .int .i64 999999999, .int .i64 1000000000, .int .i64 0]) (hk : k < 6) : ∃ y : Int, w.cell? ⟨g, k, none⟩ = some (.int .i64 y) := by
  rw [h.cell k]
  match k, hk with
  | 0, _ => exact ⟨v0, rfl⟩
  | 1, _ => exact ⟨v1, rfl⟩
  | 2, _ => exact ⟨-1, rfl⟩
  | 3, _ => exact ⟨999999999, rfl⟩
  | 4, _ => exact ⟨1000000000, rfl⟩
  | 5, _ => exact ⟨0, rfl⟩
theorem numT_size (n : Int) : (numT n).size ≤ 9 := by
  unfold numT
  cases h : inR n 0 999999999
  · rw [if_neg (by simp)]; exact Nat.zero_le _
  · obtain ⟨k, rfl, hk⟩ := inR_nat h
    rw [if_pos rfl, Int.toNat_natCast]
    show (Lib.decDigits k).toArray.size ≤ 9
    rw [List.size_toArray]; exact dec_len9 hk
/-- a text that NumPut gives is read back -/
theorem numT_back {n : Int} (h : (numT n).size ≠ 0) : goodN (numT n).data.toList = true ∧ numG (numT n).data.toList = n := by
  unfold numT at h ⊢
  cases hr : inR n 0 999999999
  · rw [hr, if_neg (by simp)] at h; exact absurd rfl h
  · obtain ⟨k, rfl, hk⟩ := inR_nat hr
    rw [if_pos rfl, Int.toNat_natCast]
    have hg := good_dec hk
    show goodN (Lib.decDigits k) = true ∧ numG (Lib.decDigits k) = (k : Int)
    unfold numG
    rw [hg, if_pos rfl, dval_dec]
    exact ⟨rfl, rfl⟩

set_option maxHeartbeats 1000000 in
theorem drawNumPut_any (A : Option Addr) (n c : Nat) (zs : List Int) (w : World) (h : U8s w A n c zs) :
    Calls Tryd.prog 17 #[.slice A n c] w fun r w' => ∃ m : Int, r = .returned (.int .i64 m) ∧ Below w.heap.size w w' := by
  go_enter Tryd.func17, Tryd.ntmps17
  go_wp2_with fail
  refine (l6Open_any _ _ _ _ _ h).mono ?_; rintro r w1 ⟨rfl, hr, hb⟩
  obtain ⟨R, hR⟩ : ∃ R, R = w.heap.size := ⟨_, rfl⟩
  rw [← hR] at hr
  rw [← hR]
  have HR := hide hr
  have HB := hide hb
  have hR' := hide hR
  clear hr hb hR h
  go_wp2_with fail
  refine (pick_any R 0 200 _ HR.out (by omega) (by omega) (by omega)).mono ?_; rintro r w2 ⟨v0, rfl, _, _, _, hr, hf⟩
  have HR := hide hr
  have HB := hide (fr_new HB.out (Nat.le_of_eq hR'.out.symm) hf)
  clear hr hf
  go_wp2_with fail
  refine (pick_any R _ 256 _ HR.out (by omega) (by omega) (by omega)).mono ?_; rintro r w3 ⟨a, rfl, _, _, _, hr, hf⟩
  have HR := hide hr
  have HB := hide (fr_new HB.out (Nat.le_of_eq hR'.out.symm) hf)
  clear hr hf
  go_wp2_with fail
  refine (pick_any R _ 256 _ HR.out (by omega) (by omega) (by omega)).mono ?_; rintro r w4 ⟨b, rfl, _, _, _, hr, hf⟩
  obtain ⟨ab, hab⟩ : ∃ m, IntKind.i64.wrap (a * b) = m := ⟨_, rfl⟩
  obtain ⟨v1, hv1⟩ : ∃ m, IntKind.i64.wrap (ab * 977) = m := ⟨_, rfl⟩
  have HR := hide ((hr).after (bel1 w4 (.cells #[.int .i64 v0, .int .i64 v1, .int .i64 (-1), .int .i64 999999999, .int .i64 1000000000, .int .i64 0] 3)))
  have HNE := hide (Nat.ne_of_gt hr.lt)
  have HB := hide ((fr_new HB.out (Nat.le_of_eq hR'.out.symm) hf).alloc (fr_new HB.out (Nat.le_of_eq hR'.out.symm) hf).size (.cells #[.int .i64 v0, .int .i64 v1, .int .i64 (-1), .int .i64 999999999, .int .i64 1000000000, .int .i64 0] 3))
  have HK := hide (Bk.fresh w4 3 #[.int .i64 v0, .int .i64 v1, .int .i64 (-1), .int .i64 999999999, .int .i64 1000000000, .int .i64 0])
  clear hr hf
  go_wp2_with fail
  refine (pick_any R _ 6 _ HR.out (by omega) (by omega) (by omega)).mono ?_; rintro r w5 ⟨j, rfl, j0, j1, _, hr, hf⟩
  have j2 := j1 (by omega)
  obtain ⟨j, rfl⟩ : ∃ k : Nat, j = (k : Int) := ⟨j.toNat, by omega⟩
  obtain ⟨y, hy⟩ := six_at (HK.out.fr hf HNE.out) (show j < 6 by omega)
  have HB := hide (fr_new HB.out (Nat.le_of_eq hR'.out.symm) hf)
  clear hr hf j1
  go_wp2_with fail
  go_ret
  exact ⟨_, rfl, HB.out⟩
set_option maxHeartbeats 1000000 in
theorem drawNumGet_any (A : Option Addr) (n c : Nat) (zs : List Int) (w : World) (h : U8s w A n c zs) :
    Calls Tryd.prog 18 #[.slice A n c] w (DrawnS 64 w) := by
  go_enter Tryd.func18, Tryd.ntmps18
  go_wp2_with fail
  refine (l6Open_any _ _ _ _ _ h).mono ?_; rintro r w1 ⟨rfl, hr, hb⟩
  obtain ⟨R, hR⟩ : ∃ R, R = w.heap.size := ⟨_, rfl⟩
  rw [← hR] at hr
  rw [← hR]
  have HR := hide hr
  have HB := hide hb
  have hR' := hide hR
  clear hr hb hR h
  go_wp2_with fail
  refine (pick_any R 0 256 _ HR.out (by omega) (by omega) (by omega)).mono ?_; rintro r w2 ⟨a, rfl, a0, a1, _, hr, hf⟩
  have HR := hide hr
  have HB := hide (fr_new HB.out (Nat.le_of_eq hR'.out.symm) hf)
  clear hr hf
  go_wp2_with fail
  refine (pick_any R _ 256 _ HR.out (by omega) (by omega) (by omega)).mono ?_; rintro r w3 ⟨b, rfl, b0, b1, _, hr, hf⟩
  obtain ⟨b', hb'⟩ : ∃ m, IntKind.i64.wrap (1 + b) = m := ⟨_, rfl⟩
  obtain ⟨m, hm⟩ : ∃ m, IntKind.i64.wrap (a * b') = m := ⟨_, rfl⟩
  have HR := hide hr
  have HB := hide (fr_new HB.out (Nat.le_of_eq hR'.out.symm) hf)
  clear hr hf
  go_wp2_with fail
  refine (specNumPut_any m _).mono ?_; rintro r w4 ⟨rfl, hb⟩
  have HR := hide (HR.out.after hb)
  have HB := hide (HB.out.trans (hb.mono HB.out.size))
  obtain ⟨T, hT⟩ : ∃ T, T = numT m := ⟨_, rfl⟩
  have hTs : T.size ≤ 9 := by rw [hT]; exact numT_size m
  rw [← hT]
  clear hb hT
  go_wp2_with fail
  refine (pick_any R _ 3 _ HR.out (by omega) (by omega) (by omega)).mono ?_; rintro r w5 ⟨v, rfl, v0, v1, _, hr, hf⟩
  have HR := hide hr
  have HB := hide (fr_new HB.out (Nat.le_of_eq hR'.out.symm) hf)
  clear hr hf v1
  by_cases e0 : v = 0
  · subst e0
    go_wp2_with fail
    refine (l91Spoil_any R _ T (by omega) _ HR.out (by omega)).mono ?_; rintro r w6 ⟨u, q2, rfl, hl2, _, _, hf⟩
    have HB := hide (fr_new HB.out (Nat.le_of_eq hR'.out.symm) hf)
    go_wp2_with fail
    go_ret
    exact ⟨_, rfl, by omega, HB.out⟩
  · have z0 : (v == 0) = false := by rw [beq_eq_false_iff_ne]; exact e0
    go_wp2_with fail
    go_ret
    exact ⟨_, rfl, by omega, HB.out⟩

set_option maxHeartbeats 1000000 in
theorem fnNumPut_walk (A1 : Option Addr) (n1 c1 : Nat) (z1 : List Int) (w : World) (ht : Tab w) (he : Err w) (h1 : U8s w A1 n1 c1 z1) :
    Calls Tryd.prog 5 #[.slice A1 n1 c1] w fun r w' => r = .returned (.bool true) ∧ Below w.heap.size w w' := by
  have m1 : n1 ≤ maxLen := Nat.le_trans h1.1 h1.2.1
  have H1 := hide h1
  have HT := hide ht
  have HE := hide he
  clear h1 ht he
  unfold maxLen at m1
  by_cases g1 : (1048576 : Int) < (n1 : Int)
  · go_enter Tryd.func5, Tryd.ntmps5
    go_wp2_with fail
    go_ret
    exact ⟨rfl, Below.refl _ _⟩
  · go_enter Tryd.func5, Tryd.ntmps5
    go_wp2_with fail
    refine (drawNumPut_any _ _ _ _ _ H1.out).mono ?_; rintro r w1 ⟨m, rfl, hb1⟩
    have HI := hide (implNumPut_any m)
    have HS := hide (specNumPut_any m)
    have HK := hide (numT_back (n := m))
    have hsz := numT_size m
    obtain ⟨T, hT⟩ : ∃ T, T = numT m := ⟨_, rfl⟩
    rw [← hT] at HI HS HK hsz
    clear hT
    have hss := beqT_eq (rfl : T = T)
    have hq := isEmpty_size' T
    go_wp2_with fail
    refine (HI.out _ (HT.out.after hb1)).mono ?_; rintro r w2 ⟨rfl, hb2⟩
    have HB := hide (hb1.trans (hb2.mono hb1.size))
    clear hb1 hb2
    go_wp2_with fail
    refine (HS.out _).mono ?_; rintro r w3 ⟨rfl, hb3⟩
    have HB := hide (HB.out.trans (hb3.mono HB.out.size))
    clear hb3
    by_cases h0 : T.size = 0
    · rw [decide_eq_true h0] at hq
      go_wp2_with fail
      go_ret
      exact ⟨rfl, HB.out⟩
    · rw [decide_eq_false h0] at hq
      have HG := hide (implNumGet_any T w3 (HT.out.after HB.out) (HE.out.after HB.out))
      obtain ⟨k1, k2⟩ := HK.out h0
      rw [k1, k2] at HG
      clear k1 k2
      have hmm : (m == m) = true := beq_self_eq_true m
      have hle : decide ((T.size : Int) ≤ 9) = true := decide_eq_true (by omega)
      go_wp2_with fail
      refine HG.out.mono ?_; rintro r w4 ⟨rfl, hb4⟩
      have HB := hide (HB.out.trans (hb4.mono HB.out.size))
      clear hb4
      go_wp2_with fail
      go_ret
      exact ⟨rfl, HB.out⟩
set_option maxHeartbeats 1000000 in
theorem fnNumGet_walk (A1 : Option Addr) (n1 c1 : Nat) (z1 : List Int) (w : World) (ht : Tab w) (he : Err w) (h1 : U8s w A1 n1 c1 z1) :
    Calls Tryd.prog 6 #[.slice A1 n1 c1] w fun r w' => r = .returned (.bool true) ∧ Below w.heap.size w w' := by
  have m1 : n1 ≤ maxLen := Nat.le_trans h1.1 h1.2.1
  have H1 := hide h1
  have HT := hide ht
  have HE := hide he
  clear h1 ht he
  unfold maxLen at m1
  by_cases g1 : (1048576 : Int) < (n1 : Int)
  · go_enter Tryd.func6, Tryd.ntmps6
    go_wp2_with fail
    go_ret
    exact ⟨rfl, Below.refl _ _⟩
  · go_enter Tryd.func6, Tryd.ntmps6
    go_wp2_with fail
    refine (drawNumGet_any _ _ _ _ _ H1.out).mono ?_; rintro r w1 ⟨s, rfl, hs, hb1⟩
    have HI := hide (implNumGet_any s)
    have HS := hide (specNumGet_any s (by omega))
    have HP : Hid (goodN s.data.toList = true → numT (numG s.data.toList) = s ∧ 0 ≤ numG s.data.toList) := hide (by
      intro h
      have := numT_good h
      unfold numG
      rw [h, if_pos rfl]
      exact ⟨this, by omega⟩)
    obtain ⟨m, hm⟩ : ∃ m, m = numG s.data.toList := ⟨_, rfl⟩
    obtain ⟨v, hv⟩ : ∃ v, v = goodN s.data.toList := ⟨_, rfl⟩
    rw [← hm, ← hv] at HI HS HP
    clear hm hv
    have hmm : (m == m) = true := beq_self_eq_true m
    have hvv : (v == v) = true := beq_self_eq_true v
    go_wp2_with fail
    refine (HI.out _ (HT.out.after hb1) (HE.out.after hb1)).mono ?_; rintro r w2 ⟨rfl, hb2⟩
    have HB := hide (hb1.trans (hb2.mono hb1.size))
    clear hb1 hb2
    go_wp2_with fail
    refine (HS.out _).mono ?_; rintro r w3 ⟨rfl, rfl⟩
    cases v
    · go_wp2_with fail
      go_ret
      exact ⟨rfl, HB.out⟩
    · obtain ⟨hp, hp0⟩ := HP.out rfl
      have HN := hide (implNumPut_any m _ (HT.out.after HB.out))
      rw [hp] at HN
      clear hp
      have hss := beqT_eq (rfl : s = s)
      have hge : decide ((0 : Int) ≤ m) = true := decide_eq_true hp0
      go_wp2_with fail
      refine HN.out.mono ?_; rintro r w4 ⟨rfl, hb4⟩
      have HB := hide (HB.out.trans (hb4.mono HB.out.size))
      clear hb4
      go_wp2_with fail
      go_ret
      exact ⟨rfl, HB.out⟩
end Go.Proofs.YtnagmagjdglmoaaDoor
