/- The laws FnExactRunsOpen, FnRunsPack and FnRunsOpen, walked. -/
import Derived.Test.YtkbpnaliipbfiaaRunsOpen
import Derived.Test.YtkbpnaliipbfiaaSpoil
namespace Go.Proofs.Ytkbpnaliipbfiaa
open Go.RowKit
set_option linter.unusedVariables false

theorem specPack_is {l out : List UInt8} {T : ByteArray} (h : T = ⟨(pack l).toArray⟩) : T.data.toList = pack l := by rw [h]
theorem pack_size (l : List UInt8) : (pack l).length ≤ 3 * l.length := pack_len l.length l (Nat.le_refl _)

set_option maxHeartbeats 1000000 in
theorem fnExactRunsOpen_walk (s : ByteArray) (hs : s.size ≤ maxLen) (w : World) :
    Calls Try.prog 3 #[.string s] w fun r w' => r = .returned (.bool true) ∧ Below w.heap.size w w' := by
  unfold maxLen at hs
  by_cases hn : (1048576 : Int) < (s.size : Int)
  · go_enter Try.func3, Try.ntmps3
    go_wp2_with fail
    go_ret
    exact ⟨rfl, Below.refl _ _⟩
  · obtain ⟨T, hT⟩ : ∃ T, openT s = T := ⟨_, rfl⟩
    obtain ⟨v, hv⟩ : ∃ v, openB s = v := ⟨_, rfl⟩
    have hss := beqT_eq (rfl : T = T)
    have hvv : (v != v) = false := by cases v <;> rfl
    have HS := hide (specRunsOpen_any s)
    have HI := hide (implRunsOpen_any s)
    rw [hT, hv] at HS HI
    clear hT hv
    go_enter Try.func3, Try.ntmps3
    go_wp2_with fail
    refine (HS.out _ (by omega)).mono ?_; rintro r w1 ⟨rfl, hb1⟩
    go_wp2_with fail
    refine (HI.out _ (by omega)).mono ?_; rintro r w2 ⟨rfl, hb2⟩
    go_wp2_with fail
    go_ret
    exact ⟨rfl, hb1.trans (hb2.mono hb1.size)⟩

set_option maxHeartbeats 400000 in
theorem drawRunsPack_any (A : Option Addr) (n c : Nat) (zs : List Int) (w : World) (h : U8s w A n c zs) :
    Calls Try.prog 8 #[.slice A n c] w (DrawnS 40 w) := by
  go_enter Try.func8, Try.ntmps8
  go_wp2_with fail
  refine (l6Open_any _ _ _ _ _ h).mono ?_; rintro r w1 ⟨rfl, hr, hb⟩
  go_wp2_with fail
  refine (l91Text_any _ 0 40 _ hr (by omega) (by decide)).mono ?_; rintro r w2 ⟨out, q, rfl, hl, _, _, hf⟩
  go_wp2_with fail
  go_ret
  exact ⟨_, rfl, by show out.toArray.size ≤ 40; rw [List.size_toArray]; exact hl, fr_new hb (Nat.le_refl _) hf⟩
set_option maxHeartbeats 1000000 in
theorem drawRunsOpen_any (A : Option Addr) (n c : Nat) (zs : List Int) (w : World) (h : U8s w A n c zs) :
    Calls Try.prog 11 #[.slice A n c] w (DrawnS 1000 w) := by
  go_enter Try.func11, Try.ntmps11
  go_wp2_with fail
  refine (l6Open_any _ _ _ _ _ h).mono ?_; rintro r w1 ⟨rfl, hr, hb⟩
  obtain ⟨R, hR⟩ : ∃ R, R = w.heap.size := ⟨_, rfl⟩
  rw [← hR] at hr
  rw [← hR]
  have HR := hide hr
  have HB := hide hb
  have hR' := hide hR
  clear hr hb hR h
  go_wp2_with fail
  refine (l91Text_any R 0 24 _ HR.out (by omega) (by decide)).mono ?_; rintro r w2 ⟨out, q, rfl, hl, hq, hr, hf⟩
  have HR := hide hr
  have HB := hide (fr_new HB.out (Nat.le_of_eq hR'.out.symm) hf)
  clear hr hf
  go_wp2_with fail
  refine (specRunsPack_any _ _ (by show out.toArray.size ≤ _; rw [List.size_toArray]; omega)).mono ?_; rintro r w3 ⟨rfl, hb⟩
  obtain ⟨T, hT⟩ : ∃ T : ByteArray, T = ⟨(pack (ByteArray.mk out.toArray).data.toList).toArray⟩ := ⟨_, rfl⟩
  rw [← hT]
  have hTs : T.size ≤ 72 := by
    rw [hT]
    show (pack out.toArray.toList).toArray.size ≤ 72
    rw [List.size_toArray]
    have := pack_size out
    show (pack out).length ≤ 72
    omega
  have HR := hide (HR.out.after hb)
  have HB := hide (HB.out.trans (hb.mono HB.out.size))
  clear hb hT
  go_wp2_with fail
  refine (pick_any R q 3 _ HR.out (by omega) (by omega) (by omega)).mono ?_; rintro r w4 ⟨v, rfl, v0, v1, _, hr, hf⟩
  have HR := hide hr
  have HB := hide (fr_new HB.out (Nat.le_of_eq hR'.out.symm) hf)
  clear hr hf v1
  by_cases e0 : v = 0
  · subst e0
    go_wp2_with fail
    refine (l91Spoil_any R (q + 1) T (by omega) _ HR.out (by omega)).mono ?_; rintro r w5 ⟨u, q2, rfl, hl2, _, _, hf⟩
    have HB := hide (fr_new HB.out (Nat.le_of_eq hR'.out.symm) hf)
    go_wp2_with fail
    go_ret
    exact ⟨_, rfl, by omega, HB.out⟩
  · have z0 : (v == 0) = false := by rw [beq_eq_false_iff_ne]; exact e0
    go_wp2_with fail
    go_ret
    exact ⟨_, rfl, by omega, HB.out⟩

theorem openT_pack {s T : ByteArray} (h : T = ⟨(pack s.data.toList).toArray⟩) : openT T = s ∧ openB T = true := by
  have e : opened T.data.toList = some s.data.toList := by rw [h]; exact opened_pack _
  obtain ⟨h1, h2⟩ := open_yes e
  exact ⟨by rw [h2], h1⟩
theorem pack_of_open {p : ByteArray} (h : openB p = true) : (⟨(pack (openT p).data.toList).toArray⟩ : ByteArray) = p := by
  unfold openB at h
  obtain ⟨out, ho⟩ := Option.isSome_iff_exists.1 h
  rw [(open_yes ho).2]
  show (⟨(pack out).toArray⟩ : ByteArray) = p
  rw [opened_back ho]
theorem unpk_len : ∀ (n : Nat) (p out : List UInt8), p.length ≤ n → unpk p = some out → out.length ≤ 9 * p.length
  | _, [], out, _, h => by unfold unpk at h; injection h with h; rw [← h]; simp
  | 0, _ :: _, _, h, _ => by simp at h
  | n + 1, c :: r, out, hn, h => by
    simp at hn
    by_cases hc : c = 126
    · subst hc
      match r, hn, h with
      | [], _, h => rw [unpk_short [] (by simp)] at h; cases h
      | [d], _, h => rw [unpk_short [d] (by simp)] at h; cases h
      | d :: x :: r, hn, h =>
        by_cases hd : 49 ≤ d.toNat ∧ d.toNat ≤ 57
        · rw [unpk_run _ _ _ hd] at h
          obtain ⟨o, ho, rfl⟩ := Option.map_eq_some_iff.1 h
          have := unpk_len n r o (by simp at hn; omega) ho
          simp
          omega
        · rw [unpk_bad _ _ _ hd] at h; cases h
    · rw [unpk_cons _ _ hc] at h
      obtain ⟨o, ho, rfl⟩ := Option.map_eq_some_iff.1 h
      have := unpk_len n r o hn ho
      simp
      omega
theorem open_size {p : ByteArray} (hp : p.size ≤ 1000) (h : openB p = true) : (openT p).size ≤ 9000 := by
  unfold openB at h
  obtain ⟨out, ho⟩ := Option.isSome_iff_exists.1 h
  rw [(open_yes ho).2]
  show out.toArray.size ≤ 9000
  rw [List.size_toArray]
  have e : p.data.toList.length = p.size := by simp
  unfold opened at ho
  split at ho
  · rename_i o hu
    have := unpk_len _ _ _ (Nat.le_refl _) hu
    by_cases e2 : pack o = p.data.toList
    · rw [if_pos e2] at ho
      injection ho with ho
      subst ho
      omega
    · rw [if_neg e2] at ho; cases ho
  · cases ho

set_option maxHeartbeats 1000000 in
theorem fnRunsPack_walk (A1 : Option Addr) (n1 c1 : Nat) (z1 : List Int) (w : World) (h1 : U8s w A1 n1 c1 z1) :
    Calls Try.prog 4 #[.slice A1 n1 c1] w fun r w' => r = .returned (.bool true) ∧ Below w.heap.size w w' := by
  have m1 : n1 ≤ maxLen := Nat.le_trans h1.1 h1.2.1
  have H1 := hide h1
  clear h1
  unfold maxLen at m1
  by_cases g1 : (1048576 : Int) < (n1 : Int)
  · go_enter Try.func4, Try.ntmps4
    go_wp2_with fail
    go_ret
    exact ⟨rfl, Below.refl _ _⟩
  · go_enter Try.func4, Try.ntmps4
    go_wp2_with fail
    refine (drawRunsPack_any _ _ _ _ _ H1.out).mono ?_; rintro r w1 ⟨s, rfl, hs, hb1⟩
    obtain ⟨T, hT⟩ : ∃ T : ByteArray, T = ⟨(pack s.data.toList).toArray⟩ := ⟨_, rfl⟩
    have HI := hide (implRunsPack_any s)
    have HS := hide (specRunsPack_any s)
    rw [← hT] at HI HS
    have HO := hide (openT_pack hT)
    have hTs : T.size ≤ 3 * s.size := by
      rw [hT]
      show (pack s.data.toList).toArray.size ≤ _
      rw [List.size_toArray]
      have := pack_size s.data.toList
      have e : s.data.toList.length = s.size := by simp
      omega
    have hss := beqT_eq (rfl : T = T)
    have hs2 := beqT_eq (rfl : s = s)
    have hle : (T.size : Int) ≤ 3 * (s.size : Int) := by omega
    have HR := hide (implRunsOpen_any T)
    rw [HO.out.1, HO.out.2] at HR
    clear hT
    go_wp2_with fail
    refine (HI.out _ (by omega)).mono ?_; rintro r w2 ⟨rfl, hb2⟩
    go_wp2_with fail
    refine (HS.out _ (by omega)).mono ?_; rintro r w3 ⟨rfl, hb3⟩
    go_wp2_with fail
    refine (HR.out _ (by omega)).mono ?_; rintro r w4 ⟨rfl, hb4⟩
    go_wp2_with fail
    go_ret
    exact ⟨rfl, bnext (bnext (bnext hb1 (Nat.le_refl _) hb2) (Nat.le_refl _) hb3) (Nat.le_refl _) hb4⟩

set_option maxHeartbeats 1000000 in
theorem fnRunsOpen_walk (A1 : Option Addr) (n1 c1 : Nat) (z1 : List Int) (w : World) (h1 : U8s w A1 n1 c1 z1) :
    Calls Try.prog 5 #[.slice A1 n1 c1] w fun r w' => r = .returned (.bool true) ∧ Below w.heap.size w w' := by
  have m1 : n1 ≤ maxLen := Nat.le_trans h1.1 h1.2.1
  have H1 := hide h1
  clear h1
  unfold maxLen at m1
  by_cases g1 : (1048576 : Int) < (n1 : Int)
  · go_enter Try.func5, Try.ntmps5
    go_wp2_with fail
    go_ret
    exact ⟨rfl, Below.refl _ _⟩
  · go_enter Try.func5, Try.ntmps5
    go_wp2_with fail
    refine (drawRunsOpen_any _ _ _ _ _ H1.out).mono ?_; rintro r w1 ⟨p, rfl, hs, hb1⟩
    have HS := hide (specRunsOpen_any p)
    have HI := hide (implRunsOpen_any p)
    obtain ⟨v, hv⟩ : ∃ v, openB p = v := ⟨_, rfl⟩
    cases v
    · obtain ⟨T, hT⟩ : ∃ T, openT p = T := ⟨_, rfl⟩
      have hss := beqT_eq (rfl : T = T)
      rw [hT, hv] at HS HI
      clear hT hv
      go_wp2_with fail
      refine (HI.out _ (by omega)).mono ?_; rintro r w2 ⟨rfl, hb2⟩
      go_wp2_with fail
      refine (HS.out _ (by omega)).mono ?_; rintro r w3 ⟨rfl, hb3⟩
      go_wp2_with fail
      go_ret
      exact ⟨rfl, bnext (bnext hb1 (Nat.le_refl _) hb2) (Nat.le_refl _) hb3⟩
    · have hpk := pack_of_open hv
      have hsz := open_size hs hv
      obtain ⟨T, hT⟩ : ∃ T, openT p = T := ⟨_, rfl⟩
      have hss := beqT_eq (rfl : T = T)
      have hpp := beqT_eq (rfl : p = p)
      have HP := hide (implRunsPack_any T)
      rw [hT] at hpk hsz
      rw [hpk] at HP
      rw [hT, hv] at HS HI
      clear hT hv hpk
      go_wp2_with fail
      refine (HI.out _ (by omega)).mono ?_; rintro r w2 ⟨rfl, hb2⟩
      go_wp2_with fail
      refine (HS.out _ (by omega)).mono ?_; rintro r w3 ⟨rfl, hb3⟩
      go_wp2_with fail
      refine (HP.out _ (by omega)).mono ?_; rintro r w4 ⟨rfl, hb4⟩
      go_wp2_with fail
      go_ret
      exact ⟨rfl, bnext (bnext (bnext hb1 (Nat.le_refl _) hb2) (Nat.le_refl _) hb3) (Nat.le_refl _) hb4⟩
end Go.Proofs.Ytkbpnaliipbfiaa
