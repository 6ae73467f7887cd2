/- The laws FnExactPtrPut, FnPtrHole, FnPtrOk and FnPtrApart, walked. -/
import Derived.Test.YtmhbpmacfekhgaaDoorPtrPut
import Derived.Test.YtmhbpmacfekhgaaDoorPtrDraws
import Derived.Test.YtmhbpmacfekhgaaDoorPtrEq
namespace Go.Proofs.YtmhbpmacfekhgaaDoor
open Go.RowKit
set_option linter.unusedVariables false

theorem beqT_same (s : ByteArray) : (s.toList == s.toList) = true := beqT_eq rfl
set_option maxHeartbeats 1000000 in
theorem fnExactPtrPut_walk (a b c d e : Int) (_ : Fit5 a b c d e) (w : World) (ht : Tab w) :
    Calls Tryd.prog 3 #[.agg #[.int .i64 a, .int .i64 b, .int .i64 c, .int .i64 d, .int .i64 e]] w fun r w' => r = .returned (.bool true) ∧ Below w.heap.size w w' := by
  have HT := hide ht
  clear ht
  have K0 := hide (Bk.fresh w 23 #[.int .i64 a, .int .i64 b, .int .i64 c, .int .i64 d, .int .i64 e])
  have B0 := hide (bel1 w (.cells #[.int .i64 a, .int .i64 b, .int .i64 c, .int .i64 d, .int .i64 e] 23))
  have HS := hide (specPtrPut_any a b c d e)
  have HI := hide (implPtrPut_any a b c d e)
  obtain ⟨T, hT⟩ : ∃ T, T = ptrT a b c d e := ⟨_, rfl⟩
  rw [← hT] at HS HI
  clear hT
  have hss := beqT_same T
  go_enter Tryd.func3, Tryd.ntmps3
  go_wp2_with fail
  refine (toPtr_any _ _ _ _ _ _).mono ?_; rintro r w1 ⟨rfl, hb⟩
  have K0 := hide (K0.out.after hb)
  have B0 := hide (bnext B0.out (Nat.le_refl _) hb)
  clear hb
  go_wp2_with fail
  refine (HS.out _).mono ?_; rintro r w2 ⟨rfl, hb⟩
  have K0 := hide (K0.out.after hb)
  have B0 := hide (B0.out.trans (hb.mono B0.out.size))
  clear hb
  obtain ⟨q0, q1, q2, q3, q4⟩ := K0.out.c5
  go_wp2_with fail
  refine (toPtr_any _ _ _ _ _ _).mono ?_; rintro r w3 ⟨rfl, hb⟩
  have B0 := hide (B0.out.trans (hb.mono B0.out.size))
  clear hb q0 q1 q2 q3 q4
  go_wp2_with fail
  refine (HI.out _ (HT.out.after B0.out)).mono ?_; rintro r w4 ⟨rfl, hb⟩
  go_wp2_with fail
  go_ret
  exact ⟨rfl, B0.out.trans (hb.mono B0.out.size)⟩

set_option maxHeartbeats 2000000 in
theorem fnPtrHole_walk (A1 : Option Addr) (n1 c1 : Nat) (z1 : List Int) (w : World) (ht : Tab w) (h1 : U8s w A1 n1 c1 z1) :
    Calls Tryd.prog 7 #[.slice A1 n1 c1] w fun r w' => r = .returned (.bool true) ∧ Below w.heap.size w w' := by
  have m1 : n1 ≤ maxLen := Nat.le_trans h1.1 h1.2.1
  have H1 := hide h1
  have HT := hide ht
  clear h1 ht
  unfold maxLen at m1
  by_cases g1 : (1048576 : Int) < (n1 : Int)
  · go_enter Tryd.func7, Tryd.ntmps7
    go_wp2_with fail
    go_ret
    exact ⟨rfl, Below.refl _ _⟩
  · go_enter Tryd.func7, Tryd.ntmps7
    go_wp2_with fail
    refine (drawPtrHole_any _ _ _ _ _ H1.out).mono ?_; rintro r w1 ⟨a, b, c, d, e, rfl, hb1⟩
    have K0 := hide (Bk.fresh w1 25 #[.int .i64 a, .int .i64 b, .int .i64 c, .int .i64 d, .int .i64 e])
    have B0 := hide (hb1.alloc hb1.size (.cells #[.int .i64 a, .int .i64 b, .int .i64 c, .int .i64 d, .int .i64 e] 25))
    clear hb1
    cases hv : holeB a b c d e
    · have HV := hide hv
      have hz : (a == 0 && (b == 0 && (c == 0 && (d == 0 && e == 0)))) = false := by
        have := hv; unfold holeB at this; simpa [Bool.and_assoc] using this
      clear hv
      go_wp2_with fail
      refine (implPtrHole_v HV.out _).mono ?_; rintro r w2 ⟨rfl, hb⟩
      have K0 := hide (K0.out.after hb)
      have B0 := hide (B0.out.trans (hb.mono B0.out.size))
      clear hb
      obtain ⟨q0, q1, q2, q3, q4⟩ := K0.out.c5
      go_wp2_with fail
      refine (specPtrHole_v HV.out _).mono ?_; rintro r w3 ⟨rfl, hb⟩
      have K0 := hide (K0.out.after hb)
      have B0 := hide (B0.out.trans (hb.mono B0.out.size))
      clear hb q0 q1 q2 q3 q4
      obtain ⟨q0, q1, q2, q3, q4⟩ := K0.out.c5
      go_wp2_with fail
      all_goals
        go_ret
        exact ⟨ret_bool (by simp_all), B0.out⟩
    · obtain ⟨rfl, rfl, rfl, rfl, rfl⟩ := hole_eq hv
      clear hv
      have HV := hide (show holeB 0 0 0 0 0 = true from rfl)
      have HO := hide (show okB 0 0 0 0 0 = true from rfl)
      have HP := hide (implPtrPut_any 0 0 0 0 0)
      rw [ptrT_hole HO.out HV.out] at HP
      go_wp2_with fail
      refine (implPtrHole_v HV.out _).mono ?_; rintro r w2 ⟨rfl, hb⟩
      have K0 := hide (K0.out.after hb)
      have B0 := hide (B0.out.trans (hb.mono B0.out.size))
      clear hb
      obtain ⟨q0, q1, q2, q3, q4⟩ := K0.out.c5
      go_wp2_with fail
      refine (specPtrHole_v HV.out _).mono ?_; rintro r w3 ⟨rfl, hb⟩
      have K0 := hide (K0.out.after hb)
      have B0 := hide (B0.out.trans (hb.mono B0.out.size))
      clear hb q0 q1 q2 q3 q4
      obtain ⟨q0, q1, q2, q3, q4⟩ := K0.out.c5
      go_wp2_with fail
      refine (implPtrOk_v HO.out _).mono ?_; rintro r w4 ⟨rfl, hb⟩
      have K0 := hide (K0.out.after hb)
      have B0 := hide (B0.out.trans (hb.mono B0.out.size))
      clear hb q0 q1 q2 q3 q4
      obtain ⟨q0, q1, q2, q3, q4⟩ := K0.out.c5
      go_wp2_with fail
      refine (HP.out _ (HT.out.after B0.out)).mono ?_; rintro r w5 ⟨rfl, hb⟩
      go_wp2_with fail
      go_ret
      exact ⟨rfl, B0.out.trans (hb.mono B0.out.size)⟩
theorem ptrT_ne (a b c d e : Int) : (ptrT a b c d e).toList.isEmpty = !okB a b c d e := by
  rw [ByteArray.toList_eq]
  show (ptrL a b c d e).isEmpty = _
  cases h : okB a b c d e
  · rw [ptrL_no h]; rfl
  · cases hl : ptrL a b c d e with
    | nil => have := ptrL_ne.1 hl; rw [h] at this; cases this
    | cons x xs => rfl
set_option maxHeartbeats 2000000 in
theorem fnPtrOk_walk (A1 : Option Addr) (n1 c1 : Nat) (z1 : List Int) (w : World) (ht : Tab w) (h1 : U8s w A1 n1 c1 z1) :
    Calls Tryd.prog 8 #[.slice A1 n1 c1] w fun r w' => r = .returned (.bool true) ∧ Below w.heap.size w w' := by
  have m1 : n1 ≤ maxLen := Nat.le_trans h1.1 h1.2.1
  have H1 := hide h1
  have HT := hide ht
  clear h1 ht
  unfold maxLen at m1
  by_cases g1 : (1048576 : Int) < (n1 : Int)
  · go_enter Tryd.func8, Tryd.ntmps8
    go_wp2_with fail
    go_ret
    exact ⟨rfl, Below.refl _ _⟩
  · go_enter Tryd.func8, Tryd.ntmps8
    go_wp2_with fail
    refine (drawPtrOk_any _ _ _ _ _ H1.out).mono ?_; rintro r w1 ⟨a, b, c, d, e, rfl, hb1⟩
    have K0 := hide (Bk.fresh w1 25 #[.int .i64 a, .int .i64 b, .int .i64 c, .int .i64 d, .int .i64 e])
    have B0 := hide (hb1.alloc hb1.size (.cells #[.int .i64 a, .int .i64 b, .int .i64 c, .int .i64 d, .int .i64 e] 25))
    clear hb1
    have HI := hide (implPtrPut_any a b c d e)
    have hq := ptrT_ne a b c d e
    obtain ⟨T, hT⟩ : ∃ T, T = ptrT a b c d e := ⟨_, rfl⟩
    rw [← hT] at HI hq
    clear hT
    cases hv : okB a b c d e
    all_goals
      have HV := hide hv
      rw [hv] at hq
      have hq : T.toList.isEmpty = _ := hq
      simp only [Bool.not_false, Bool.not_true] at hq
      clear hv
      go_wp2_with fail
      refine (implPtrOk_v HV.out _).mono ?_; rintro r w2 ⟨rfl, hb⟩
      have K0 := hide (K0.out.after hb)
      have B0 := hide (B0.out.trans (hb.mono B0.out.size))
      clear hb
      obtain ⟨q0, q1, q2, q3, q4⟩ := K0.out.c5
      go_wp2_with fail
      refine (specPtrOk_v HV.out _).mono ?_; rintro r w3 ⟨rfl, hb⟩
      have K0 := hide (K0.out.after hb)
      have B0 := hide (B0.out.trans (hb.mono B0.out.size))
      clear hb q0 q1 q2 q3 q4
      obtain ⟨q0, q1, q2, q3, q4⟩ := K0.out.c5
      go_wp2_with fail
      refine (HI.out _ (HT.out.after B0.out)).mono ?_; rintro r w4 ⟨rfl, hb⟩
      go_wp2_with fail
      go_ret
      exact ⟨rfl, B0.out.trans (hb.mono B0.out.size)⟩
theorem U8s.afterB {w w' : World} {A : Option Addr} {n c : Nat} {zs : List Int} (h : U8s w A n c zs) (hb : Below w.heap.size w w') : U8s w' A n c zs := ⟨h.1, h.2.1, h.2.2.1, h.2.2.2.1, h.2.2.2.2.after hb⟩
theorem ptrT_inj {a b c d e a' b' c' d' e' : Int} (h : okB a b c d e = true) (he : ptrT a b c d e = ptrT a' b' c' d' e') : a = a' ∧ b = b' ∧ c = c' ∧ d = d' ∧ e = e' := by
  have hl : ptrL a b c d e = ptrL a' b' c' d' e' := by
    have := congrArg (fun s : ByteArray => s.data.toList) he
    exact this
  refine ptrL_inj h ?_ hl
  cases h' : okB a' b' c' d' e'
  · rw [ptrL_no h'] at hl
    have := ptrL_ne.1 hl
    rw [h] at this; cases this
  · rfl
set_option maxHeartbeats 4000000 in
theorem fnPtrApart_walk (A1 : Option Addr) (n1 c1 : Nat) (z1 : List Int) (A2 : Option Addr) (n2 c2 : Nat) (z2 : List Int) (w : World) (ht : Tab w) (h1 : U8s w A1 n1 c1 z1) (h2 : U8s w A2 n2 c2 z2) :
    Calls Tryd.prog 9 #[.slice A1 n1 c1, .slice A2 n2 c2] w fun r w' => r = .returned (.bool true) ∧ Below w.heap.size w w' := by
  have m1 : n1 ≤ maxLen := Nat.le_trans h1.1 h1.2.1
  have m2 : n2 ≤ maxLen := Nat.le_trans h2.1 h2.2.1
  have H1 := hide h1
  have H2 := hide h2
  have HT := hide ht
  clear h1 h2 ht
  unfold maxLen at m1 m2
  by_cases g1 : (1048576 : Int) < (n1 : Int)
  · go_enter Tryd.func9, Tryd.ntmps9
    go_wp2_with fail
    go_ret
    exact ⟨rfl, Below.refl _ _⟩
  · by_cases g2 : (1048576 : Int) < (n2 : Int)
    · go_enter Tryd.func9, Tryd.ntmps9
      go_wp2_with fail
      go_ret
      exact ⟨rfl, Below.refl _ _⟩
    · go_enter Tryd.func9, Tryd.ntmps9
      go_wp2_with fail
      refine (drawPtrPut_any _ _ _ _ _ H1.out).mono ?_; rintro r w1 ⟨a, b, c, d, e, rfl, hb1⟩
      have K0 := hide (Bk.fresh w1 25 #[.int .i64 a, .int .i64 b, .int .i64 c, .int .i64 d, .int .i64 e])
      have B0 := hide (hb1.alloc hb1.size (.cells #[.int .i64 a, .int .i64 b, .int .i64 c, .int .i64 d, .int .i64 e] 25))
      have hzn := K0.out.lt
      have H2 := hide (U8s.afterB H2.out B0.out)
      clear hb1
      go_wp2_with fail
      refine (drawPtrPut_any _ _ _ _ _ H2.out).mono ?_; rintro r w2 ⟨a', b', c', d', e', rfl, hb1⟩
      have K0 := hide ((K0.out.after hb1).alloc (.cells #[.int .i64 a', .int .i64 b', .int .i64 c', .int .i64 d', .int .i64 e'] 25))
      have K1 := hide (Bk.fresh w2 25 #[.int .i64 a', .int .i64 b', .int .i64 c', .int .i64 d', .int .i64 e'])
      have B0 := hide ((B0.out.trans (hb1.mono B0.out.size)).alloc (B0.out.trans (hb1.mono B0.out.size)).size (.cells #[.int .i64 a', .int .i64 b', .int .i64 c', .int .i64 d', .int .i64 e'] 25))
      clear hb1 hzn H1 H2
      have HI := hide (implPtrPut_any a b c d e)
      have HJ := hide (implPtrPut_any a' b' c' d' e')
      have HS := hide (specPtrPut_any a b c d e)
      have HR := hide (specPtrPut_any a' b' c' d' e')
      have hq := ptrT_ne a b c d e
      have HU := hide (ptrT_inj (a := a) (b := b) (c := c) (d := d) (e := e) (a' := a') (b' := b') (c' := c') (d' := d') (e' := e'))
      have HV := hide (show (a, b, c, d, e) = (a', b', c', d', e') → ptrT a b c d e = ptrT a' b' c' d' e' from fun h => by
        simp only [Prod.mk.injEq] at h
        obtain ⟨rfl, rfl, rfl, rfl, rfl⟩ := h
        rfl)
      obtain ⟨T, hT⟩ : ∃ T, T = ptrT a b c d e := ⟨_, rfl⟩
      obtain ⟨T', hT'⟩ : ∃ T, T = ptrT a' b' c' d' e' := ⟨_, rfl⟩
      obtain ⟨v, hv⟩ : ∃ v, v = okB a b c d e := ⟨_, rfl⟩
      rw [← hT] at HI HS HU HV hq
      rw [← hT'] at HJ HR HU HV
      rw [← hv] at HU hq
      clear hT hT' hv
      have hss := beqT_same T
      have hss' := beqT_same T'
      obtain ⟨q0, q1, q2, q3, q4⟩ := K0.out.c5
      go_wp2_with fail
      refine (HI.out _ (HT.out.after B0.out)).mono ?_; rintro r w3 ⟨rfl, hb⟩
      have K0 := hide (K0.out.after hb)
      have K1 := hide (K1.out.after hb)
      have B0 := hide (B0.out.trans (hb.mono B0.out.size))
      clear hb q0 q1 q2 q3 q4
      obtain ⟨q0, q1, q2, q3, q4⟩ := K1.out.c5
      go_wp2_with fail
      refine (HJ.out _ (HT.out.after B0.out)).mono ?_; rintro r w4 ⟨rfl, hb⟩
      have K0 := hide (K0.out.after hb)
      have K1 := hide (K1.out.after hb)
      have B0 := hide (B0.out.trans (hb.mono B0.out.size))
      clear hb q0 q1 q2 q3 q4
      obtain ⟨q0, q1, q2, q3, q4⟩ := K0.out.c5
      go_wp2_with fail
      refine (HS.out _).mono ?_; rintro r w5 ⟨rfl, hb⟩
      have K0 := hide (K0.out.after hb)
      have K1 := hide (K1.out.after hb)
      have B0 := hide (B0.out.trans (hb.mono B0.out.size))
      clear hb q0 q1 q2 q3 q4
      obtain ⟨q0, q1, q2, q3, q4⟩ := K1.out.c5
      go_wp2_with fail
      refine (HR.out _).mono ?_; rintro r w6 ⟨rfl, hb⟩
      have K0 := hide (K0.out.after hb)
      have K1 := hide (K1.out.after hb)
      have B0 := hide (B0.out.trans (hb.mono B0.out.size))
      clear hb q0 q1 q2 q3 q4
      cases v
      · have hq : T.toList.isEmpty = true := hq
        obtain ⟨q0, q1, q2, q3, q4⟩ := K0.out.c5
        go_wp2_with fail
        refine (HS.out _).mono ?_; rintro r w7 ⟨rfl, hb⟩
        have K1 := hide (K1.out.after hb)
        have B0 := hide (B0.out.trans (hb.mono B0.out.size))
        clear hb q0 q1 q2 q3 q4
        obtain ⟨q0, q1, q2, q3, q4⟩ := K1.out.c5
        go_wp2_with fail
        refine (HR.out _).mono ?_; rintro r w8 ⟨rfl, hb⟩
        go_wp2_with fail
        go_ret
        exact ⟨rfl, B0.out.trans (hb.mono B0.out.size)⟩
      · have hq : T.toList.isEmpty = false := hq
        obtain ⟨q0, q1, q2, q3, q4⟩ := K0.out.c5
        obtain ⟨r0, r1, r2, r3, r4⟩ := K1.out.c5
        have BF := hide B0.out
        by_cases he : (a, b, c, d, e) = (a', b', c', d', e')
        · have hTT := HV.out he
          simp only [Prod.mk.injEq] at he
          obtain ⟨rfl, rfl, rfl, rfl, rfl⟩ := he
          subst hTT
          go_wp2_with fail
          all_goals
            go_ret
            exact ⟨ret_bool (by simp_all), BF.out⟩
        · have hne := beqT_ne (fun h => he (by obtain ⟨h1, h2, h3, h4, h5⟩ := HU.out rfl h; rw [h1, h2, h3, h4, h5]))
          have HE := hide he
          clear he
          go_wp2_with fail
          all_goals
            go_ret
            exact ⟨ret_bool (by have he := HE.out; simp_all), BF.out⟩
end Go.Proofs.YtmhbpmacfekhgaaDoor
