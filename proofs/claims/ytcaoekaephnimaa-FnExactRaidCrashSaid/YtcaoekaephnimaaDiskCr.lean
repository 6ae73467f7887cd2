/- What a power failure leaves of a waiting write: l3Torn, the closure of DiskCrash. -/
import Derived.Test.YtcaoekaephnimaaDiskFlush
namespace Go.Proofs.Ytcaoekaephnimaa
open Go.RowKit
set_option linter.unusedVariables false
set_option maxRecDepth 100000

theorem ofInt_nat64 (a : Nat) (ha : a < 9223372036854775808) : (BitVec.ofInt 64 (a : Int)).toNat = a := by
  rw [BitVec.toNat_ofInt]
  omega
theorem and_one_i64 (q : Nat) (hq : q < 9223372036854775808) : bits .and .i64 (q : Int) 1 = ((q % 2 : Nat) : Int) := by
  show IntKind.i64.wrap ((BitVec.ofInt 64 (q : Int) &&& BitVec.ofInt 64 ((1 : Nat) : Int)).toNat : Int) = _
  rw [BitVec.toNat_and, ofInt_nat64 q hq, ofInt_nat64 1 (by decide), Nat.and_one_is_mod, IntKind.wrap_i64]
  omega
/-- half a text over another one -/
def tornT (old s : ByteArray) : ByteArray := if s.size / 2 < old.size then s.extract 0 (s.size / 2) ++ old.extract (s.size / 2) old.size else s.extract 0 (s.size / 2)
/-- what a failure leaves of the i-th waiting write -/
def crashF (m : Nat) (tear : Int) (i : Nat) (z : Int × ByteArray) (old : ByteArray) : ByteArray := if m / 2 ^ (i % 60) % 2 = 1 then z.2 else if (i : Int) = tear then tornT old z.2 else old
theorem exz (s : ByteArray) (i j : Nat) (h : i ≤ j) (hj : j ≤ s.size) : (s.extract i j).size = j - i := by rw [ByteArray.size_extract]; omega
theorem torn_size (old s : ByteArray) (ho : old.size ≤ 200) (hs : s.size ≤ 200) : (tornT old s).size ≤ 200 := by
  unfold tornT
  by_cases h : s.size / 2 < old.size
  · rw [if_pos h, ByteArray.size_append, exz _ _ _ (by omega) (by omega), exz _ _ _ (by omega) (by omega)]; omega
  · rw [if_neg h, exz _ _ _ (by omega) (by omega)]; omega
theorem crash_size (m : Nat) (tear : Int) (i : Nat) (z : Int × ByteArray) (old : ByteArray) (ho : old.size ≤ 200) (hs : z.2.size ≤ 200) : (crashF m tear i z old).size ≤ 200 := by
  unfold crashF
  split
  · exact hs
  · split
    · exact torn_size old z.2 ho hs
    · exact ho

set_option maxHeartbeats 1000000 in
theorem l3Torn_any (old s : ByteArray) (hs : s.size ≤ 200) (ho : old.size ≤ 200) (w : World) :
    Calls Try.prog 72 #[.string old, .string s] w fun r w' => r = .returned (.string (tornT old s)) ∧ Below w.heap.size w w' := by
  obtain ⟨n, hn⟩ : ∃ n, n = s.size / 2 := ⟨_, rfl⟩
  have hni : (s.size : Int) / 2 = (n : Int) := by omega
  have n0 : (0 : Int) ≤ (n : Int) := by omega
  have n1 : (n : Int) ≤ (s.size : Int) := by omega
  have HN := hide hn
  by_cases h : n < old.size
  · have h1 : (n : Int) < (old.size : Int) := by omega
    have h2 : (n : Int) ≤ (old.size : Int) := by omega
    obtain ⟨x, hx⟩ : ∃ x, s.extract 0 n = x := ⟨_, rfl⟩
    obtain ⟨y, hy⟩ : ∃ y, old.extract n old.size = y := ⟨_, rfl⟩
    have hc : ¬ 9223372036854775807 < x.size + y.size := by rw [← hx, ← hy, exz _ _ _ (by omega) (by omega), exz _ _ _ (by omega) (by omega)]; omega
    have HF := hide (show tornT old s = x ++ y by unfold tornT; rw [← hn, if_pos h, hx, hy])
    clear hn h
    go_enter Try.func72, Try.ntmps72
    go_wp2_with fail
    go_region
    go_wp2_with fail
    go_ret
    exact ⟨ret_str HF.out.symm, (Below.refl _ _).drew⟩
  · have h1 : ¬ (n : Int) < (old.size : Int) := by omega
    have HF := hide (show tornT old s = s.extract 0 n by unfold tornT; rw [← hn, if_neg h])
    clear hn h
    go_enter Try.func72, Try.ntmps72
    go_wp2_with fail
    go_ret
    exact ⟨ret_str HF.out.symm, Below.refl _ _⟩

set_option maxHeartbeats 1000000 in
theorem crashOne_any (i : Nat) (a : Int) (s old : ByteArray) (m : Nat) (tear : Int) (g3 g4 : Nat) (w : World) (k3 : Bk w g3 3 #[.int .i64 m]) (k4 : Bk w g4 3 #[.int .i64 tear]) (hm : m < 9223372036854775808) (hs : s.size ≤ 200) (ho : old.size ≤ 200) (hi : i ≤ 2000000) :
    Calls Try.prog 56 #[.int .i64 i, .agg #[.int .i64 a, .string s], .string old, .pointer (some ⟨g3, 0, none⟩), .pointer (some ⟨g4, 0, none⟩)] w fun r w' => r = .returned (.string (crashF m tear i (a, s) old)) ∧ Below w.heap.size w w' := by
  have hb := bel1 w (.cells #[.int .i64 a, .string s] 74)
  have q3 := (k3.after hb).c1
  have q4 := (k4.after hb).c1
  have HB := hide hb
  obtain ⟨q, hq⟩ : ∃ q, q = m / 2 ^ (i % 60) := ⟨_, rfl⟩
  have hqi : (m : Int) / 2 ^ (i % 60) = (q : Int) := by rw [hq]; simp
  have hql : q < 9223372036854775808 := Nat.lt_of_le_of_lt (by rw [hq]; exact Nat.div_le_self _ _) hm
  have hand := and_one_i64 q hql
  have HQ := hide hq
  clear hb hq k3 k4
  by_cases hbit : q % 2 = 1
  · have hb1 : bits .and .i64 (q : Int) 1 = 1 := by rw [hand, hbit]; rfl
    have HF := hide (show crashF m tear i (a, s) old = s by unfold crashF; rw [← HQ.out, if_pos hbit])
    clear hand hbit
    go_enter Try.func56, Try.ntmps56
    go_wp2_with fail
    go_ret
    exact ⟨ret_str HF.out.symm, HB.out⟩
  · have hb1 : bits .and .i64 (q : Int) 1 = 0 := by rw [hand, show q % 2 = 0 by omega]; rfl
    have HBIT := hide hbit
    clear hand hbit
    obtain ⟨n, hn⟩ : ∃ n, n = s.size / 2 := ⟨_, rfl⟩
    have hni : (s.size : Int) / 2 = (n : Int) := by omega
    have n0 : (0 : Int) ≤ (n : Int) := by omega
    have n1 : (n : Int) ≤ (s.size : Int) := by omega
    by_cases ht : (i : Int) = tear
    · by_cases h : n < old.size
      · have h1 : (n : Int) < (old.size : Int) := by omega
        have h2 : (n : Int) ≤ (old.size : Int) := by omega
        obtain ⟨x, hx⟩ : ∃ x, s.extract 0 n = x := ⟨_, rfl⟩
        obtain ⟨y, hy⟩ : ∃ y, old.extract n old.size = y := ⟨_, rfl⟩
        have hc : ¬ 9223372036854775807 < x.size + y.size := by rw [← hx, ← hy, exz _ _ _ (by omega) (by omega), exz _ _ _ (by omega) (by omega)]; omega
        have HF := hide (show crashF m tear i (a, s) old = x ++ y by unfold crashF tornT; rw [← HQ.out, if_neg HBIT.out, if_pos ht]; show (if s.size / 2 < old.size then _ else _) = _; rw [← hn, if_pos h, hx, hy])
        subst ht
        clear hn h
        go_enter Try.func56, Try.ntmps56
        go_wp2_with fail
        go_region
        go_wp2_with fail
        go_ret
        exact ⟨ret_str HF.out.symm, HB.out.drew⟩
      · have h1 : ¬ (n : Int) < (old.size : Int) := by omega
        have HF := hide (show crashF m tear i (a, s) old = s.extract 0 n by unfold crashF tornT; rw [← HQ.out, if_neg HBIT.out, if_pos ht]; show (if s.size / 2 < old.size then _ else _) = _; rw [← hn, if_neg h])
        subst ht
        clear hn h
        go_enter Try.func56, Try.ntmps56
        go_wp2_with fail
        go_ret
        exact ⟨ret_str HF.out.symm, HB.out⟩
    · have ht2 : ((i : Int) == tear) = false := by rw [beq_eq_false_iff_ne]; exact ht
      have HF := hide (show crashF m tear i (a, s) old = old by unfold crashF; rw [← HQ.out, if_neg HBIT.out, if_neg ht])
      clear hn
      go_enter Try.func56, Try.ntmps56
      go_wp2_with fail
      go_ret
      exact ⟨ret_str HF.out.symm, HB.out⟩
end Go.Proofs.Ytcaoekaephnimaa
