/- The checksum: what SumOf of the program and of the reference compute: one plain function of the bytes. -/
import Derived.Test.YtcaoekaephnimaaBase
namespace Go.Proofs.Ytcaoekaephnimaa
open Go.RowKit

theorem ret_int {k : IntKind} {a b : Int} (h : a = b) : Ending.returned (.int k a) = .returned (.int k b) := by rw [h]
theorem ret_bool {a b : Bool} (h : a = b) : Ending.returned (.bool a) = .returned (.bool b) := by rw [h]
theorem int_eq {k : IntKind} {a b : Int} (h : a = b) : Value.int k a = .int k b := by rw [h]
theorem take_snoc (s : ByteArray) (k : Nat) (h : k < s.size) : s.data.toList.take (k + 1) = s.data.toList.take k ++ [s[k]] := by
  rw [List.take_succ_eq_append_getElem (by simpa using h)]; rfl

/-- the two sums -/
def sumAB (l : List UInt8) : Nat × Nat := l.foldl (fun p c => ((p.1 + c.toNat + 1) % 9973, ((p.1 + c.toNat + 1) % 9973 + p.2) % 9973)) (1, 0)
/-- the checksum -/
def sumOf (l : List UInt8) : Int := (sumAB l).1 * 9973 + (sumAB l).2
theorem sumAB_snoc (l : List UInt8) (c : UInt8) : sumAB (l ++ [c]) = (((sumAB l).1 + c.toNat + 1) % 9973, (((sumAB l).1 + c.toNat + 1) % 9973 + (sumAB l).2) % 9973) := by
  simp [sumAB, List.foldl_append]
theorem sum_step (s : ByteArray) (k a b : Nat) (hk : k < s.size) (h : sumAB (s.data.toList.take k) = (a, b)) :
    sumAB (s.data.toList.take (k + 1)) = ((a + s[k].toNat + 1) % 9973, ((a + s[k].toNat + 1) % 9973 + b) % 9973) := by
  rw [take_snoc s k hk, sumAB_snoc, h]
theorem sum_end (s : ByteArray) (k a b : Nat) (hk : s.size ≤ k) (h : sumAB (s.data.toList.take k) = (a, b)) : (a : Int) * 9973 + b = sumOf s.data.toList := by
  rw [List.take_of_length_le (by simpa using hk)] at h
  simp [sumOf, h]

set_option maxHeartbeats 400000 in
theorem specSum_any (s : ByteArray) (w : World) (hs : s.size ≤ maxLen) :
    Calls Try.prog 93 #[.string s] w fun r w' => r = .returned (.int .i64 (sumOf s.data.toList)) ∧ w = w' := by
  unfold maxLen at hs
  go_enter Try.func93, Try.ntmps93
  go_wp2
  go_loop [3, 4, 5] (fun x y i => ∃ k a b : Nat, k ≤ s.size ∧ a < 9973 ∧ b < 9973 ∧ Hid (sumAB (s.data.toList.take k) = (a, b)) ∧ x = .int .i64 a ∧ y = .int .i64 b ∧ i = .int .i64 k) (fun _ _ i => s.size - (intOf i).toNat)
  case atStart => exact ⟨0, 1, 0, by omega, by omega, by omega, hide (by simp [sumAB]), rfl, rfl, rfl⟩
  case round =>
    obtain ⟨k, a, b, hk, ha, hb, H, rfl, rfl, rfl⟩ := hrel
    by_cases hlt : k < s.size
    · have hc : s[k].toNat < 256 := s[k].toNat_lt
      have H1 := hide (sum_step s k a b hlt H.out)
      clear H
      go_wp2
      go_round
      case rel => exact ⟨k + 1, _, _, by omega, Nat.mod_lt _ (by omega), Nat.mod_lt _ (by omega), H1, int_eq (by omega), int_eq (by omega), int_eq (by omega)⟩
      case measure => simp [intOf]; omega
    · go_wp2
      go_ret
      exact ⟨ret_int (sum_end s k a b (by omega) H.out), rfl⟩

end Go.Proofs.Ytcaoekaephnimaa
