/- l6Many repeats a text; l91Block draws a block. -/
import Derived.Test.YtnagmagjdglmoaaDoorText
import Derived.Test.YtnagmagjdglmoaaDoorStrs
namespace Go.Proofs.YtnagmagjdglmoaaDoor
open Go.RowKit
set_option linter.unusedVariables false

set_option maxHeartbeats 1000000 in
theorem l6Many_any (s : ByteArray) (n : Nat) (hs : s.size ≤ 1000) (hn : n ≤ 100000) (w : World) :
    Calls Tryd.prog 48 #[.string s, .int .i64 n] w fun r w' => (∃ out : ByteArray, r = .returned (.string out) ∧ out.size = n * s.size) ∧ w = w' := by
  have HS := hide hs
  go_enter Tryd.func48, Tryd.ntmps48
  go_wp2_with fail
  go_loop [0, 1, 5] (fun u i o => ∃ (k m : Nat) (u' o' : ByteArray), u = .string u' ∧ i = .int .i64 m ∧ o = .string o' ∧ m ≤ 100000 ∧ u'.size = k ∧ k ≤ 200000000 ∧ o'.size ≤ 100000000 ∧ Hid (o'.size + k * m = n * s.size)) (fun _ i _ => (intOf i).toNat)
  case atStart => exact ⟨s.size, n, s, ⟨#[]⟩, rfl, rfl, rfl, hn, rfl, by omega, (show 0 ≤ 100000000 by omega), hide (show 0 + s.size * n = n * s.size by rw [Nat.zero_add, Nat.mul_comm])⟩
  case round =>
    obtain ⟨k, m, u', o', rfl, rfl, rfl, hm, hk, hk2, ho, HE⟩ := hrel
    by_cases h0 : 0 < m
    · obtain ⟨q, hq⟩ : ∃ q, q = m / 2 := ⟨_, rfl⟩
      have eq2 : (m : Int) / 2 = (q : Int) := by omega
      have hkm : k ≤ k * m := Nat.le_mul_of_pos_right k h0
      have hb : n * s.size ≤ 100000 * 1000 := Nat.mul_le_mul hn HS.out
      have hE := HE.out
      have hk1 : k ≤ 100000000 := by omega
      have ho1 : o'.size + k ≤ 100000000 := by omega
      have qm : q < m := by omega
      have i0 : (0 : Int) < (m : Int) := by omega
      by_cases hodd : m % 2 = 1
      · have em : (m : Int) % 2 = 1 := by omega
        have HE1 := hide (show (o' ++ u').size + (2 * k) * q = n * s.size by
          rw [ByteArray.size_append, ← hE, hk, show m = 2 * q + 1 by omega, Nat.mul_add, Nat.mul_one, Nat.mul_comm 2 k, Nat.mul_assoc]; omega)
        clear hq hkm hb hE hodd
        go_wp2_with fail
        go_round
        case rel => exact ⟨2 * k, q, u' ++ u', o' ++ u', rfl, rfl, rfl, by omega, by rw [ByteArray.size_append]; omega, by omega, by rw [ByteArray.size_append]; omega, HE1⟩
        case measure => simp [intOf]; omega
      · have em : (m : Int) % 2 = 0 := by omega
        have HE1 := hide (show o'.size + (2 * k) * q = n * s.size by
          rw [← hE]
          conv => rhs; rw [show m = 2 * q by omega]
          rw [Nat.mul_comm 2 k, Nat.mul_assoc])
        clear hq hkm hb hE hodd
        go_wp2_with fail
        go_round
        case rel => exact ⟨2 * k, q, u' ++ u', o', rfl, rfl, rfl, by omega, by rw [ByteArray.size_append]; omega, by omega, by omega, HE1⟩
        case measure => simp [intOf]; omega
    · have i0 : ¬ (0 : Int) < (m : Int) := by omega
      have hE := HE.out
      have e0 : m = 0 := by omega
      rw [e0, Nat.mul_zero, Nat.add_zero] at hE
      have HE2 := hide hE
      clear hE e0
      go_wp2_with fail
      go_ret
      exact ⟨⟨_, rfl, HE2.out⟩, rfl⟩

theorem l6Many_i {s : ByteArray} {n : Nat} {i : Int} (hi : i = (n : Int)) (hs : s.size ≤ 1000) (hn : n ≤ 100000) (w : World) :
    Calls Tryd.prog 48 #[.string s, .int .i64 i] w fun r w' => (∃ out : ByteArray, r = .returned (.string out) ∧ out.size = n * s.size) ∧ w = w' := by
  subst hi; exact l6Many_any s n hs hn w
/-- what is drawn: a text of at most n bytes; the reader has gone on by at most d -/
def DrawnB (R p d n : Nat) (w : World) (r : Ending) (w' : World) : Prop :=
  ∃ (s : ByteArray) (q : Nat), r = .returned (.string s) ∧ s.size ≤ n ∧ q ≤ p + d ∧ Rdr w' R q ∧ Fr (· = R) w w'

end Go.Proofs.YtnagmagjdglmoaaDoor
