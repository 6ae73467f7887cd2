/- l1Num and both NumGet. -/
import Derived.Test.YtmhbpmacfekhgaaDoorAtoi
import Derived.Test.YtmhbpmacfekhgaaDoorStrs
namespace Go.Proofs.YtmhbpmacfekhgaaDoor
open Go.RowKit
set_option linter.unusedVariables false

theorem byte_at (s : ByteArray) (k : Nat) (h : k < s.size) : s.data.toList[k]? = some s[k] := by
  rw [List.getElem?_eq_getElem (by simpa using h)]; rfl
theorem take_more (s : ByteArray) (k : Nat) (h : k < s.size) : s.data.toList.take (k + 1) = s.data.toList.take k ++ [s[k]] := by
  rw [List.take_add_one, byte_at s k h]; rfl
theorem dval_take {s : ByteArray} {k n : Nat} (h1 : (s.data.toList.take k).all isDig = true) (h2 : dval (s.data.toList.take k) = n) : n < 10 ^ k := by
  rw [← h2]
  refine Nat.lt_of_lt_of_le (dval_lt _ h1) (Nat.pow_le_pow_right (by decide) ?_)
  rw [List.length_take]; omega
theorem dval_take8 {s : ByteArray} {k n : Nat} (h1 : (s.data.toList.take k).all isDig = true) (h2 : dval (s.data.toList.take k) = n) (hk : k < 9) : n < 100000000 := by
  have := dval_take h1 h2
  have h9 : 10 ^ k ≤ 10 ^ 8 := Nat.pow_le_pow_right (by decide) (by omega)
  omega
theorem dig_more {s : ByteArray} {k n : Nat} (hk : k < s.size) (h1 : (s.data.toList.take k).all isDig = true) (h2 : dval (s.data.toList.take k) = n) (hc : isDig s[k] = true) :
    (s.data.toList.take (k + 1)).all isDig = true ∧ dval (s.data.toList.take (k + 1)) = 10 * n + (s[k].toNat - 48) := by
  rw [take_more s k hk, dval_snoc, h2, List.all_append, h1]
  exact ⟨by simp [hc], rfl⟩
theorem l1_end {s : ByteArray} {k n : Nat} (hk : k ≤ s.size) (h9 : k ≤ 9) (h1 : (s.data.toList.take k).all isDig = true) (h2 : dval (s.data.toList.take k) = n)
    (hs : k = s.size ∨ k = 9 ∨ ∃ h : k < s.size, isDig s[k] = false) : pre9 s.data.toList = k ∧ dval (s.data.toList.take (pre9 s.data.toList)) = n := by
  have hp : pre9 s.data.toList = k := by
    refine pre_of _ k (by simpa using hk) h9 h1 ?_
    rcases hs with h | h | ⟨h, hc⟩
    · exact .inl (by rw [h]; simp)
    · exact .inr (.inl h)
    · exact .inr (.inr ⟨_, byte_at s k h, hc⟩)
  rw [hp]; exact ⟨rfl, h2⟩
theorem l1_zero {s : ByteArray} {k n : Nat} (h : pre9 s.data.toList = k ∧ dval (s.data.toList.take (pre9 s.data.toList)) = n) (hk : 1 < k) (h0 : 0 < s.size) (hz : s[0].toNat = 48) : l1T s.data.toList = (0, 1) := by
  unfold l1T
  rw [h.1, if_pos ⟨hk, by rw [List.head?_eq_getElem?, byte_at s 0 h0]; exact congrArg some (UInt8.toNat_inj.1 hz)⟩]
theorem l1_num {s : ByteArray} {k n : Nat} (h : pre9 s.data.toList = k ∧ dval (s.data.toList.take (pre9 s.data.toList)) = n) (hz : ¬ 1 < k ∨ ∃ h0 : 0 < s.size, s[0].toNat ≠ 48) : l1T s.data.toList = (n, k) := by
  unfold l1T
  rw [if_neg, h.2, h.1]
  rintro ⟨a, b⟩
  rcases hz with hz | ⟨h0, hz⟩
  · rw [h.1] at a; exact hz a
  · rw [List.head?_eq_getElem?, byte_at s 0 h0] at b
    have := Option.some.inj b
    rw [this] at hz
    exact hz rfl
theorem ret_two {a b : Int} {n k : Nat} {p : Nat × Nat} (h : p = (n, k)) (ha : a = (n : Int)) (hb : b = (k : Int)) : (Ending.returned (.tuple #[.int .i64 a, .int .i64 b]) : Ending) = .returned (.tuple #[.int .i64 p.1, .int .i64 p.2]) := by subst h ha hb; rfl

set_option maxHeartbeats 2000000 in
theorem l1Num_any (s : ByteArray) (hs : s.size ≤ 1048576) (w : World) :
    Calls Tryd.prog 63 #[.string s] w fun r w' => r = .returned (.tuple #[.int .i64 (l1T s.data.toList).1, .int .i64 (l1T s.data.toList).2]) ∧ w = w' := by
  go_enter Tryd.func63, Tryd.ntmps63
  go_wp2_with fail
  go_loop [4, 5] (fun x y => ∃ n k : Nat, k ≤ s.size ∧ k ≤ 9 ∧ Hid ((s.data.toList.take k).all isDig = true) ∧ Hid (dval (s.data.toList.take k) = n) ∧ x = .int .i64 n ∧ y = .int .i64 k) (fun _ y => s.size - (intOf y).toNat)
  case atStart => exact ⟨0, 0, by omega, by omega, hide (by simp), hide (by simp [dval]), rfl, rfl⟩
  case round =>
    obtain ⟨n, k, hk, h9, H1, H2, rfl, rfl⟩ := hrel
    by_cases hlt : k < s.size
    · have hu := s[k].toNat_lt
      by_cases hlt9 : k < 9
      · by_cases hd : isDig s[k] = true
        · have hd2 := (isDig_iff _).1 hd
          have hn8 := dval_take8 H1.out H2.out hlt9
          obtain ⟨d, hdd⟩ : ∃ d, d = s[k].toNat - 48 := ⟨_, rfl⟩
          have HM := hide (dig_more hlt H1.out H2.out hd)
          rw [← hdd] at HM
          have j3 : decide ((48 : Int) ≤ (s[k].toNat : Int)) = true := decide_eq_true (by omega)
          have j4 : decide ((s[k].toNat : Int) ≤ (57 : Int)) = true := decide_eq_true (by omega)
          have j5 : IntKind.u8.wrap ((s[k].toNat : Int) - 48) = (d : Int) := by rw [IntKind.wrap_u8]; omega
          have j6 : IntKind.i64.wrap (d : Int) = (d : Int) := by rw [IntKind.wrap_i64]; omega
          have j7 : IntKind.i64.wrap (10 * (n : Int)) = 10 * (n : Int) := by rw [IntKind.wrap_i64]; omega
          have j8 : IntKind.i64.wrap (10 * (n : Int) + (d : Int)) = 10 * (n : Int) + (d : Int) := by rw [IntKind.wrap_i64]; omega
          clear hd hdd
          go_wp2_with fail
          go_round
          case rel => exact ⟨10 * n + d, k + 1, by omega, by omega, hide HM.out.1, hide HM.out.2, int_eq (by omega), int_eq (by omega)⟩
          case measure => simp [intOf]; try omega
        · have hdf : isDig s[k] = false := by simpa using hd
          clear hd
          by_cases h48 : 48 ≤ s[k].toNat
          · have j3 : decide ((48 : Int) ≤ (s[k].toNat : Int)) = true := decide_eq_true (by omega)
            have h57 : ¬ s[k].toNat ≤ 57 := fun h => by rw [(isDig_iff _).2 ⟨h48, h⟩] at hdf; cases hdf
            have j4 : decide ((s[k].toNat : Int) ≤ (57 : Int)) = false := decide_eq_false (by omega)
            have HE := hide (l1_end hk h9 H1.out H2.out (.inr (.inr ⟨hlt, hdf⟩)))
            by_cases h1 : 1 < k
            · have g1 : decide ((1 : Int) < (k : Int)) = true := decide_eq_true (by omega)
              have h0 : 0 < s.size := by omega
              have hw0 : wrap64 (s[0].toNat : Int) = (s[0].toNat : Int) := by have := s[0].toNat_lt; unfold wrap64; omega
              by_cases hz : s[0].toNat = 48
              · have HR := hide (l1_zero HE.out h1 h0 hz)
                have jz : ((s[0].toNat : Int) == 48) = true := by rw [beq_iff_eq]; omega
                go_wp2_with fail
                go_ret2
                exact ⟨ret_two HR.out rfl rfl, rfl⟩
              · have HR := hide (l1_num HE.out (.inr ⟨h0, hz⟩))
                have jz : ((s[0].toNat : Int) == 48) = false := by rw [beq_eq_false_iff_ne]; omega
                go_wp2_with fail
                go_ret2
                exact ⟨ret_two HR.out rfl rfl, rfl⟩
            · have g1 : decide ((1 : Int) < (k : Int)) = false := decide_eq_false (by omega)
              have HR := hide (l1_num HE.out (.inl h1))
              go_wp2_with fail
              go_ret2
              exact ⟨ret_two HR.out rfl rfl, rfl⟩
          · have j3 : decide ((48 : Int) ≤ (s[k].toNat : Int)) = false := decide_eq_false (by omega)
            have HE := hide (l1_end hk h9 H1.out H2.out (.inr (.inr ⟨hlt, hdf⟩)))
            by_cases h1 : 1 < k
            · have g1 : decide ((1 : Int) < (k : Int)) = true := decide_eq_true (by omega)
              have h0 : 0 < s.size := by omega
              have hw0 : wrap64 (s[0].toNat : Int) = (s[0].toNat : Int) := by have := s[0].toNat_lt; unfold wrap64; omega
              by_cases hz : s[0].toNat = 48
              · have HR := hide (l1_zero HE.out h1 h0 hz)
                have jz : ((s[0].toNat : Int) == 48) = true := by rw [beq_iff_eq]; omega
                go_wp2_with fail
                go_ret2
                exact ⟨ret_two HR.out rfl rfl, rfl⟩
              · have HR := hide (l1_num HE.out (.inr ⟨h0, hz⟩))
                have jz : ((s[0].toNat : Int) == 48) = false := by rw [beq_eq_false_iff_ne]; omega
                go_wp2_with fail
                go_ret2
                exact ⟨ret_two HR.out rfl rfl, rfl⟩
            · have g1 : decide ((1 : Int) < (k : Int)) = false := decide_eq_false (by omega)
              have HR := hide (l1_num HE.out (.inl h1))
              go_wp2_with fail
              go_ret2
              exact ⟨ret_two HR.out rfl rfl, rfl⟩
      · skip
        have HE := hide (l1_end hk h9 H1.out H2.out (.inr (.inl (by omega))))
        by_cases h1 : 1 < k
        · have g1 : decide ((1 : Int) < (k : Int)) = true := decide_eq_true (by omega)
          have h0 : 0 < s.size := by omega
          have hw0 : wrap64 (s[0].toNat : Int) = (s[0].toNat : Int) := by have := s[0].toNat_lt; unfold wrap64; omega
          by_cases hz : s[0].toNat = 48
          · have HR := hide (l1_zero HE.out h1 h0 hz)
            have jz : ((s[0].toNat : Int) == 48) = true := by rw [beq_iff_eq]; omega
            go_wp2_with fail
            go_ret2
            exact ⟨ret_two HR.out rfl rfl, rfl⟩
          · have HR := hide (l1_num HE.out (.inr ⟨h0, hz⟩))
            have jz : ((s[0].toNat : Int) == 48) = false := by rw [beq_eq_false_iff_ne]; omega
            go_wp2_with fail
            go_ret2
            exact ⟨ret_two HR.out rfl rfl, rfl⟩
        · omega
    · skip
      have HE := hide (l1_end hk h9 H1.out H2.out (.inl (by omega)))
      by_cases h1 : 1 < k
      · have g1 : decide ((1 : Int) < (k : Int)) = true := decide_eq_true (by omega)
        have h0 : 0 < s.size := by omega
        have hw0 : wrap64 (s[0].toNat : Int) = (s[0].toNat : Int) := by have := s[0].toNat_lt; unfold wrap64; omega
        by_cases hz : s[0].toNat = 48
        · have HR := hide (l1_zero HE.out h1 h0 hz)
          have jz : ((s[0].toNat : Int) == 48) = true := by rw [beq_iff_eq]; omega
          go_wp2_with fail
          go_ret2
          exact ⟨ret_two HR.out rfl rfl, rfl⟩
        · have HR := hide (l1_num HE.out (.inr ⟨h0, hz⟩))
          have jz : ((s[0].toNat : Int) == 48) = false := by rw [beq_eq_false_iff_ne]; omega
          go_wp2_with fail
          go_ret2
          exact ⟨ret_two HR.out rfl rfl, rfl⟩
      · have g1 : decide ((1 : Int) < (k : Int)) = false := decide_eq_false (by omega)
        have HR := hide (l1_num HE.out (.inl h1))
        go_wp2_with fail
        go_ret2
        exact ⟨ret_two HR.out rfl rfl, rfl⟩
/-- what NumGet gives -/
def numG (l : List UInt8) : Int := if goodN l = true then (dval l : Int) else 0
theorem ret_ib {a c : Int} {b d : Bool} (h1 : a = c) (h2 : b = d) : (Ending.returned (.tuple #[.int .i64 a, .bool b]) : Ending) = .returned (.tuple #[.int .i64 c, .bool d]) := by subst h1 h2; rfl
theorem numG_no {l : List UInt8} (h : goodN l = false) : (0 : Int) = numG l := by unfold numG; rw [h]; rfl
theorem numG_yes {l : List UInt8} (h : goodN l = true) : (dval l : Int) = numG l := by unfold numG; rw [h]; rfl
set_option maxHeartbeats 1000000 in
theorem specNumGet_any (s : ByteArray) (hs : s.size ≤ 1048576) (w : World) :
    Calls Tryd.prog 45 #[.string s] w fun r w' => r = .returned (.tuple #[.int .i64 (numG s.data.toList), .bool (goodN s.data.toList)]) ∧ w = w' := by
  obtain ⟨n, k, e⟩ : ∃ n k : Nat, l1T s.data.toList = (n, k) := ⟨_, _, rfl⟩
  have HC := hide (fun w => show Calls Tryd.prog 63 #[.string s] w fun r w' => r = .returned (.tuple #[.int .i64 n, .int .i64 k]) ∧ w = w' by have := l1Num_any s hs w; rw [e] at this; exact this)
  cases hg : goodN s.data.toList
  · have hb := l1_bad hg
    rw [e] at hb
    have HG := hide (numG_no hg)
    clear hg e
    by_cases h0 : k = 0
    · have j0 : ((k : Int) == 0) = true := by rw [beq_iff_eq]; omega
      clear hb h0
      go_enter Tryd.func45, Tryd.ntmps45
      go_wp2_with fail
      ((with_reducible refine (HC.out _).mono ?_); rintro r w1 ⟨rfl, rfl⟩)
      go_wp2_with fail
      go_ret2
      exact ⟨ret_ib HG.out rfl, rfl⟩
    · have j0 : ((k : Int) == 0) = false := by rw [beq_eq_false_iff_ne]; omega
      have hk : k ≠ s.size := by
        rcases hb with hb | hb
        · exact absurd hb h0
        · simpa using hb
      have j1 : ((k : Int) == (s.size : Int)) = false := by rw [beq_eq_false_iff_ne]; omega
      clear hb h0
      go_enter Tryd.func45, Tryd.ntmps45
      go_wp2_with fail
      ((with_reducible refine (HC.out _).mono ?_); rintro r w1 ⟨rfl, rfl⟩)
      go_wp2_with fail
      go_ret2
      exact ⟨ret_ib HG.out rfl, rfl⟩
  · have hb := l1_good hg
    rw [e] at hb
    have HG := hide (numG_yes hg)
    obtain ⟨h1, _⟩ := (good_iff _).1 hg
    have hs0 : s.size ≠ 0 := fun h => h1 (List.eq_nil_of_length_eq_zero (by simpa using h))
    have hk : k = s.size := by have := (Prod.mk.inj hb).2; simpa using this
    have HN := hide (Prod.mk.inj hb).1
    have j0 : ((k : Int) == 0) = false := by rw [beq_eq_false_iff_ne]; omega
    have j1 : ((k : Int) == (s.size : Int)) = true := by rw [beq_iff_eq]; omega
    clear hb e hg h1 hs0 hk
    go_enter Tryd.func45, Tryd.ntmps45
    go_wp2_with fail
    ((with_reducible refine (HC.out _).mono ?_); rintro r w1 ⟨rfl, rfl⟩)
    go_wp2_with fail
    go_ret2
    exact ⟨ret_ib (by rw [HN.out]; exact HG.out) rfl, rfl⟩
set_option maxHeartbeats 1000000 in
theorem implNumGet_any (s : ByteArray) (w : World) (ht : Tab w) (he : Err w) :
    Calls Tryd.prog 47 #[.string s] w fun r w' => r = .returned (.tuple #[.int .i64 (numG s.data.toList), .bool (goodN s.data.toList)]) ∧ Below w.heap.size w w' := by
  have HT := hide ht
  obtain ⟨tp, p, hv⟩ := he
  have HV := hide hv
  clear ht hv
  cases hg : goodN s.data.toList
  · have HG := hide (numG_no hg)
    by_cases h9 : 9 < s.size
    · have HG2 := hide hg
      clear hg
      go_enter Tryd.func47, Tryd.ntmps47
      go_wp2_with fail
      go_ret2
      exact ⟨ret_ib HG.out rfl, Below.refl _ _⟩
    · cases ha : Lib.atoi s.data.toList with
      | none =>
        have HA := hide ha
        clear hg ha
        go_enter Tryd.func47, Tryd.ntmps47
        go_wp2_with fail
        ((with_reducible refine (atoiE s (by omega) HA.out tp p _ HV.out).mono ?_); rintro r w1 ⟨⟨N, rfl⟩, hb⟩)
        have HB := hide hb
        clear hb
        go_wp2_with fail
        go_ret2
        exact ⟨ret_ib HG.out rfl, HB.out⟩
      | some m =>
        have HA := hide ha
        have HN := hide (numT_bad hg ha)
        clear hg ha
        go_enter Tryd.func47, Tryd.ntmps47
        go_wp2_with fail
        ((with_reducible refine (atoiC s m (by omega) HA.out _).mono ?_); rintro r w1 ⟨rfl, t, rfl⟩)
        have HB := hide (Lib.bytesWorld_below w 5 t)
        go_wp2_with fail
        ((with_reducible refine (implNumPut_any m _ (HT.out.after HB.out)).mono ?_); rintro r w2 ⟨rfl, hb2⟩)
        have HB2 := hide (HB.out.trans (hb2.mono HB.out.size))
        clear hb2
        have j1 : ((numT m).toList == s.toList) = false := beqT_ne HN.out
        go_wp2_with fail
        go_ret2
        exact ⟨ret_ib HG.out rfl, HB2.out⟩
  · have HG := hide (numG_yes hg)
    have h9 : s.size ≤ 9 := by have := ((good_iff _).1 hg).2.1; simpa using this
    have HA := hide (atoi_good hg)
    have HN := hide (numT_good hg)
    obtain ⟨m, hm⟩ : ∃ m, m = dval s.data.toList := ⟨_, rfl⟩
    rw [← hm] at HA HN HG
    clear hg hm
    go_enter Tryd.func47, Tryd.ntmps47
    go_wp2_with fail
    ((with_reducible refine (atoiC s m (by omega) HA.out _).mono ?_); rintro r w1 ⟨rfl, t, rfl⟩)
    have HB := hide (Lib.bytesWorld_below w 5 t)
    go_wp2_with fail
    ((with_reducible refine (implNumPut_any m _ (HT.out.after HB.out)).mono ?_); rintro r w2 ⟨rfl, hb2⟩)
    have HB2 := hide (HB.out.trans (hb2.mono HB.out.size))
    clear hb2
    rw [HN.out]
    go_wp2_with fail
    go_ret2
    exact ⟨ret_ib HG.out rfl, HB2.out⟩
end Go.Proofs.YtmhbpmacfekhgaaDoor
