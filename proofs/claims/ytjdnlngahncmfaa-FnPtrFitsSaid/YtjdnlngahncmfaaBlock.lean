/- l6Many repeats a text; l91Block draws a block. -/
import Derived.Test.YtjdnlngahncmfaaText
import Derived.Test.YtjdnlngahncmfaaStrs
namespace Go.Proofs.Ytjdnlngahncmfaa
open Go.RowKit
set_option linter.unusedVariables false

set_option maxHeartbeats 1000000 in
theorem l6Many_any (s : ByteArray) (n : Nat) (hs : s.size ≤ 1000) (hn : n ≤ 100000) (w : World) :
    Calls Try.prog 26 #[.string s, .int .i64 n] w fun r w' => (∃ out : ByteArray, r = .returned (.string out) ∧ out.size = n * s.size) ∧ w = w' := by
  have HS := hide hs
  go_enter Try.func26, Try.ntmps26
  go_wp2_with fail
  go_loop [0, 1, 5] (fun u i o => ∃ (k m : Nat) (u' o' : ByteArray), u = .string u' ∧ i = .int .i64 m ∧ o = .string o' ∧ m ≤ 100000 ∧ u'.size = k ∧ k ≤ 200000000 ∧ o'.size ≤ 100000000 ∧ Hid (o'.size + k * m = n * s.size)) (fun _ i _ => (intOf i).toNat)
  case atStart => exact ⟨s.size, n, s, ⟨#[]⟩, rfl, rfl, rfl, hn, rfl, by omega, (show 0 ≤ 100000000 by omega), hide (show 0 + s.size * n = n * s.size by rw [Nat.zero_add, Nat.mul_comm])⟩
  case round =>
    obtain ⟨k, m, u', o', rfl, rfl, rfl, hm, hk, hk2, ho, HE⟩ := hrel
    by_cases h0 : 0 < m
    · obtain ⟨q, hq⟩ : ∃ q, q = m / 2 := ⟨_, rfl⟩
      have eq2 : (m : Int) / 2 = (q : Int) := by omega
      have hkm : k ≤ k * m := Nat.le_mul_of_pos_right k h0
      have hb : n * s.size ≤ 100000 * 1000 := Nat.mul_le_mul hn HS.out
      have hE := HE.out
      have hk1 : k ≤ 100000000 := by omega
      have ho1 : o'.size + k ≤ 100000000 := by omega
      have qm : q < m := by omega
      have i0 : (0 : Int) < (m : Int) := by omega
      by_cases hodd : m % 2 = 1
      · have em : (m : Int) % 2 = 1 := by omega
        have HE1 := hide (show (o' ++ u').size + (2 * k) * q = n * s.size by
          rw [ByteArray.size_append, ← hE, hk, show m = 2 * q + 1 by omega, Nat.mul_add, Nat.mul_one, Nat.mul_comm 2 k, Nat.mul_assoc]; omega)
        clear hq hkm hb hE hodd
        go_wp2_with fail
        go_round
        case rel => exact ⟨2 * k, q, u' ++ u', o' ++ u', rfl, rfl, rfl, by omega, by rw [ByteArray.size_append]; omega, by omega, by rw [ByteArray.size_append]; omega, HE1⟩
        case measure => simp [intOf]; omega
      · have em : (m : Int) % 2 = 0 := by omega
        have HE1 := hide (show o'.size + (2 * k) * q = n * s.size by
          rw [← hE]
          conv => rhs; rw [show m = 2 * q by omega]
          rw [Nat.mul_comm 2 k, Nat.mul_assoc])
        clear hq hkm hb hE hodd
        go_wp2_with fail
        go_round
        case rel => exact ⟨2 * k, q, u' ++ u', o', rfl, rfl, rfl, by omega, by rw [ByteArray.size_append]; omega, by omega, by omega, HE1⟩
        case measure => simp [intOf]; omega
    · have i0 : ¬ (0 : Int) < (m : Int) := by omega
      have hE := HE.out
      have e0 : m = 0 := by omega
      rw [e0, Nat.mul_zero, Nat.add_zero] at hE
      have HE2 := hide hE
      clear hE e0
      go_wp2_with fail
      go_ret
      exact ⟨⟨_, rfl, HE2.out⟩, rfl⟩

theorem l6Many_i {s : ByteArray} {n : Nat} {i : Int} (hi : i = (n : Int)) (hs : s.size ≤ 1000) (hn : n ≤ 100000) (w : World) :
    Calls Try.prog 26 #[.string s, .int .i64 i] w fun r w' => (∃ out : ByteArray, r = .returned (.string out) ∧ out.size = n * s.size) ∧ w = w' := by
  subst hi; exact l6Many_any s n hs hn w
/-- what is drawn: a text of at most n bytes; the reader has gone on by at most d -/
def DrawnB (R p d n : Nat) (w : World) (r : Ending) (w' : World) : Prop :=
  ∃ (s : ByteArray) (q : Nat), r = .returned (.string s) ∧ s.size ≤ n ∧ q ≤ p + d ∧ Rdr w' R q ∧ Fr (· = R) w w'

set_option maxHeartbeats 1000000 in
theorem l91Block_any (R p : Nat) (w : World) (hr : Rdr w R p) (hp : p ≤ 800000) :
    Calls Try.prog 17 #[.pointer (some ⟨R, 0, none⟩)] w (DrawnB R p 60 129 w) := by
  have HR := hide hr
  clear hr
  go_enter Try.func17, Try.ntmps17
  go_wp2_with fail
  refine (pick_any R p 30 _ HR.out (by omega) (by omega) (by omega)).mono ?_; rintro r w1 ⟨v, rfl, v0, _, _, hr1, hf1⟩
  have HR := hide hr1
  have HF := hide hf1
  clear hr1 hf1
  by_cases e0 : v = 0
  · subst e0
    go_wp2_with fail
    go_ret
    exact ⟨_, p + 1, rfl, Nat.zero_le _, by omega, HR.out, HF.out⟩
  · have z0 : (v == 0) = false := by rw [beq_eq_false_iff_ne]; exact e0
    by_cases e1 : v = 1
    · subst e1
      clear z0 e0
      go_wp2_with fail
      refine (pick_any R (p + 1) 2 _ HR.out (by omega) (by omega) (by omega)).mono ?_; rintro r w2 ⟨x, rfl, x0, x1, _, hr2, hf2⟩
      have x2 := x1 (by omega)
      obtain ⟨k, rfl⟩ : ∃ k : Nat, x = (k : Int) := ⟨x.toNat, by omega⟩
      have HR := hide hr2
      have HF := hide (HF.out.trans hf2)
      clear hr2 hf2 x1
      go_wp2_with fail
      refine (l6Many_i (n := 128 + k) (by omega) (by decide) (by omega) _).mono ?_; rintro r w3 ⟨⟨o, rfl, ho⟩, rfl⟩
      have ho2 : o.size ≤ 129 := by rw [ho]; show (128 + k) * 1 ≤ 129; omega
      go_wp2_with fail
      go_ret
      exact ⟨_, p + 1 + 1, rfl, ho2, by omega, HR.out, HF.out⟩
    · have z1 : (v == 1) = false := by rw [beq_eq_false_iff_ne]; exact e1
      go_wp2_with fail
      refine (l91Text_any R (p + 1) 24 _ HR.out (by omega) (by decide)).mono ?_; rintro r w2 ⟨out, q, rfl, hl, hq, hr2, hf2⟩
      have HF := hide (HF.out.trans hf2)
      have HR := hide hr2
      clear hf2 hr2
      cases out with
      | nil =>
        go_wp2_with fail
        go_ret
        exact ⟨_, q, rfl, (by show 1 ≤ 129; omega), by omega, HR.out, HF.out⟩
      | cons x xs =>
        go_wp2_with fail
        go_ret
        refine ⟨_, q, rfl, ?_, by omega, HR.out, HF.out⟩
        show (x :: xs).toArray.size ≤ 129
        rw [List.size_toArray]
        omega
end Go.Proofs.Ytjdnlngahncmfaa
