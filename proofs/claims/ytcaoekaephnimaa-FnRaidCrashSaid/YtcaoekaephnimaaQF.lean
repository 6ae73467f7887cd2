/- DiskFlush of the program and of the reference. -/
import Derived.Test.YtcaoekaephnimaaDiskSet
import Derived.Test.YtcaoekaephnimaaQD
namespace Go.Proofs.Ytcaoekaephnimaa
open Go.RowKit
set_option linter.unusedVariables false
set_option maxRecDepth 100000

set_option maxHeartbeats 2000000 in
theorem implFlush_no (b1 o1 n1 c1 b2 o2 n2 c2 : Nat) (z1 : List ByteArray) (z2 : List (Int × ByteArray)) (g : Bool) (w : World) (h1 : Rd w 1 (some ⟨b1, o1, none⟩) n1 (z1.map Value.string)) (h2 : Rd w 2 (some ⟨b2, o2, none⟩) n2 (waitCells z2)) (m1 : n1 ≤ 1048576) (m2 : n2 ≤ 1048576) (hv : diskOk z1 z2 g = false) :
    Calls Try.prog 47 #[.agg #[.slice (some ⟨b1, o1, none⟩) n1 c1, .slice (some ⟨b2, o2, none⟩) n2 c2, .bool g]] w fun r w' => r = .returned (.agg #[.slice none 0 0, .slice none 0 0, .bool false]) ∧ Below w.heap.size w w' := by
  have HV := hide hv
  clear hv
  have K1 := hide ((Bk.fresh w 49 #[.slice (some ⟨b1, o1, none⟩) n1 c1, .slice (some ⟨b2, o2, none⟩) n2 c2, .bool g]).alloc (.cells #[.slice none 0 0, .slice none 0 0, .bool false] 49))
  have K2 := hide (show Bk ((w.alloc (.cells #[.slice (some ⟨b1, o1, none⟩) n1 c1, .slice (some ⟨b2, o2, none⟩) n2 c2, .bool g] 49)).alloc (.cells #[.slice none 0 0, .slice none 0 0, .bool false] 49)) (w.heap.size + 1) 49 #[.slice none 0 0, .slice none 0 0, .bool false] by
    have h := Bk.fresh (w.alloc (.cells #[.slice (some ⟨b1, o1, none⟩) n1 c1, .slice (some ⟨b2, o2, none⟩) n2 c2, .bool g] 49)) 49 #[.slice none 0 0, .slice none 0 0, .bool false]
    rw [show (w.alloc (.cells #[.slice (some ⟨b1, o1, none⟩) n1 c1, .slice (some ⟨b2, o2, none⟩) n2 c2, .bool g] 49)).heap.size = w.heap.size + 1 by simp] at h
    exact h)
  have hb : Below w.heap.size w ((w.alloc (.cells #[.slice (some ⟨b1, o1, none⟩) n1 c1, .slice (some ⟨b2, o2, none⟩) n2 c2, .bool g] 49)).alloc (.cells #[.slice none 0 0, .slice none 0 0, .bool false] 49)) := ((Below.refl _ _).alloc (Nat.le_refl _) _).alloc (by simp) _
  have hsz : ((w.alloc (.cells #[.slice (some ⟨b1, o1, none⟩) n1 c1, .slice (some ⟨b2, o2, none⟩) n2 c2, .bool g] 49)).alloc (.cells #[.slice none 0 0, .slice none 0 0, .bool false] 49)).heap.size = w.heap.size + 1 + 1 := by simp
  have HSZ := hide hsz
  have H1 := hide (h1.after hb)
  have H2 := hide (h2.after hb)
  have HB := hide hb
  clear h1 h2 hb hsz
  go_enter Try.func47, Try.ntmps47
  go_wp2_with fail
  refine (implDiskOk_v HV.out _ H1.out H2.out (by unfold maxLen; omega) (by unfold maxLen; omega)).mono ?_; rintro r x1 ⟨rfl, hb1⟩
  have K2 := hide (K2.out.after hb1)
  have HB := hide (HB.out.trans (hb1.mono HB.out.size))
  clear hb1
  obtain ⟨q0, q1, q2⟩ := K2.out.c3
  have f0 := K2.out.frozen 0
  have f1 := K2.out.frozen 1
  have f2 := K2.out.frozen 2
  have P3 := hide (put3 K2.out (.slice none 0 0) (.slice none 0 0) (.bool false))
  have PB := hide (((HB.out.setCell (p := ⟨w.heap.size + 1, 0, none⟩) (Nat.le_succ _) (.slice none 0 0)).setCell (p := ⟨w.heap.size + 1, 1, none⟩) (Nat.le_succ _) (.slice none 0 0)).setCell (p := ⟨w.heap.size + 1, 2, none⟩) (Nat.le_succ _) (.bool false))
  go_wp2_with fail
  clear q0 q1 q2 f0 f1 f2
  obtain ⟨Y, hY⟩ : ∃ Y : World, Y = ((x1.setCell ⟨w.heap.size + 1, 0, none⟩ (.slice none 0 0)).setCell ⟨w.heap.size + 1, 1, none⟩ (.slice none 0 0)).setCell ⟨w.heap.size + 1, 2, none⟩ (.bool false) := ⟨_, rfl⟩
  rw [← hY] at P3 PB
  rw [← hY]
  clear hY
  obtain ⟨r0, r1, r2⟩ := P3.out.c3
  refine bodyPost_ret (v := .agg #[.slice none 0 0, .slice none 0 0, .bool false]) (by simp [results, Try.results47, go_sem, r0, r1, r2]) rfl ?_
  exact ⟨rfl, PB.out⟩

set_option maxHeartbeats 2000000 in
theorem implFlush_yes (b1 o1 n1 c1 b2 o2 n2 c2 : Nat) (z1 R : List ByteArray) (z2 : List (Int × ByteArray)) (g : Bool) (w : World) (h1 : Rd w 1 (some ⟨b1, o1, none⟩) n1 (z1.map Value.string)) (h2 : Rd w 2 (some ⟨b2, o2, none⟩) n2 (waitCells z2)) (m2 : n2 ≤ 1048576) (lb1 : b1 < w.heap.size) (lb2 : b2 < w.heap.size) (hv : diskOk z1 z2 g = true) (hR : settleT (fun _ z _ => z.2) 0 z2 z1 = R) :
    Calls Try.prog 47 #[.agg #[.slice (some ⟨b1, o1, none⟩) n1 c1, .slice (some ⟨b2, o2, none⟩) n2 c2, .bool g]] w (SetPost R g w) := by
  have HL1 : Hid (z1.length = 64) := by unfold diskOk at hv; simp only [Bool.and_eq_true, decide_eq_true_eq] at hv; exact hide hv.1.1.1.1
  have HOK : Hid (z2.all waitB = true) := by unfold diskOk at hv; simp only [Bool.and_eq_true] at hv; exact hide hv.2
  have HL2 : Hid (z2.length = n2) := hide (by have := h2.len; rw [waitCells_len] at this; omega)
  obtain rfl : n1 = 64 := by have h := h1.len; have h2 := HL1.out; simp at h; omega
  have HV := hide hv
  have HR := hide hR
  clear hv hR
  have K1 := hide ((Bk.fresh w 49 #[.slice (some ⟨b1, o1, none⟩) 64 c1, .slice (some ⟨b2, o2, none⟩) n2 c2, .bool g]).alloc (.cells #[.slice none 0 0, .slice none 0 0, .bool false] 49))
  have K2 := hide (show Bk ((w.alloc (.cells #[.slice (some ⟨b1, o1, none⟩) 64 c1, .slice (some ⟨b2, o2, none⟩) n2 c2, .bool g] 49)).alloc (.cells #[.slice none 0 0, .slice none 0 0, .bool false] 49)) (w.heap.size + 1) 49 #[.slice none 0 0, .slice none 0 0, .bool false] by
    have h := Bk.fresh (w.alloc (.cells #[.slice (some ⟨b1, o1, none⟩) 64 c1, .slice (some ⟨b2, o2, none⟩) n2 c2, .bool g] 49)) 49 #[.slice none 0 0, .slice none 0 0, .bool false]
    rw [show (w.alloc (.cells #[.slice (some ⟨b1, o1, none⟩) 64 c1, .slice (some ⟨b2, o2, none⟩) n2 c2, .bool g] 49)).heap.size = w.heap.size + 1 by simp] at h
    exact h)
  have hb : Below w.heap.size w ((w.alloc (.cells #[.slice (some ⟨b1, o1, none⟩) 64 c1, .slice (some ⟨b2, o2, none⟩) n2 c2, .bool g] 49)).alloc (.cells #[.slice none 0 0, .slice none 0 0, .bool false] 49)) := ((Below.refl _ _).alloc (Nat.le_refl _) _).alloc (by simp) _
  have hsz : ((w.alloc (.cells #[.slice (some ⟨b1, o1, none⟩) 64 c1, .slice (some ⟨b2, o2, none⟩) n2 c2, .bool g] 49)).alloc (.cells #[.slice none 0 0, .slice none 0 0, .bool false] 49)).heap.size = w.heap.size + 1 + 1 := by simp
  have HSZ := hide hsz
  have H1 := hide (h1.after hb)
  have H2 := hide (h2.after hb)
  have HB := hide hb
  clear h1 h2 hb hsz
  go_enter Try.func47, Try.ntmps47
  go_wp2_with fail
  refine (implDiskOk_v HV.out _ H1.out H2.out (by decide) (by unfold maxLen; omega)).mono ?_; rintro r x1 ⟨rfl, hb1⟩
  have HX1 := hide hb1.size
  have K1 := hide (K1.out.after hb1)
  have K2 := hide (K2.out.after hb1)
  have H1 := hide (H1.out.after hb1)
  have H2 := hide (H2.out.after hb1)
  have HB := hide (HB.out.trans (hb1.mono HB.out.size))
  clear hb1
  obtain ⟨t0, t1, t2⟩ := K1.out.c3
  go_wp2_with fail
  refine (settleFlush_any b1 o1 c1 b2 o2 n2 c2 z1 R z2 g _ H1.out H2.out m2 HOK.out HR.out).mono ?_; rintro r x2 ⟨g1, ca, B, rfl, hg1, hrow, hb1⟩
  have K2 := hide (K2.out.after hb1)
  have HROW := hide hrow
  have HG1 : Hid (w.heap.size + 1 + 1 ≤ g1) := hide (Nat.le_trans (Nat.le_of_eq HSZ.out.symm) (Nat.le_trans HX1.out hg1))
  have HB := hide (HB.out.trans (hb1.mono HB.out.size))
  clear hb1 hrow hg1
  obtain ⟨q0, q1, q2⟩ := K2.out.c3
  have f0 := K2.out.frozen 0
  have f1 := K2.out.frozen 1
  have f2 := K2.out.frozen 2
  have P3 := hide (put3 K2.out (.slice (some ⟨g1, 0, none⟩) 64 ca) (.slice B 0 0) (.bool g))
  have PB := hide (((HB.out.setCell (p := ⟨w.heap.size + 1, 0, none⟩) (Nat.le_succ _) (.slice (some ⟨g1, 0, none⟩) 64 ca)).setCell (p := ⟨w.heap.size + 1, 1, none⟩) (Nat.le_succ _) (.slice B 0 0)).setCell (p := ⟨w.heap.size + 1, 2, none⟩) (Nat.le_succ _) (.bool g))
  have PR := hide (HROW.out.fr (fr3 (Fr.refl (fun b => b = w.heap.size + 1) _) (.inl rfl) (.slice (some ⟨g1, 0, none⟩) 64 ca) (.slice B 0 0) (.bool g)) (by have := HG1.out; omega))
  clear t0 t1 t2
  go_wp2_with fail
  clear q0 q1 q2 f0 f1 f2
  obtain ⟨Y, hY⟩ : ∃ Y : World, Y = ((x2.setCell ⟨w.heap.size + 1, 0, none⟩ (.slice (some ⟨g1, 0, none⟩) 64 ca)).setCell ⟨w.heap.size + 1, 1, none⟩ (.slice B 0 0)).setCell ⟨w.heap.size + 1, 2, none⟩ (.bool g) := ⟨_, rfl⟩
  rw [← hY] at P3 PB PR
  rw [← hY]
  clear hY
  obtain ⟨r0, r1, r2⟩ := P3.out.c3
  refine bodyPost_ret (v := .agg #[.slice (some ⟨g1, 0, none⟩) 64 ca, .slice B 0 0, .bool g]) (by simp [results, Try.results47, go_sem, r0, r1, r2]) rfl ?_
  exact ⟨g1, ca, B, rfl, by have := HG1.out; omega, PR.out, PB.out⟩

end Go.Proofs.Ytcaoekaephnimaa

/- What a power failure leaves of a waiting write: l3Torn, the closure of DiskCrash. -/
namespace Go.Proofs.Ytcaoekaephnimaa
open Go.RowKit
set_option linter.unusedVariables false
set_option maxRecDepth 100000

theorem ofInt_nat64 (a : Nat) (ha : a < 9223372036854775808) : (BitVec.ofInt 64 (a : Int)).toNat = a := by
  rw [BitVec.toNat_ofInt]
  omega
theorem and_one_i64 (q : Nat) (hq : q < 9223372036854775808) : bits .and .i64 (q : Int) 1 = ((q % 2 : Nat) : Int) := by
  show IntKind.i64.wrap ((BitVec.ofInt 64 (q : Int) &&& BitVec.ofInt 64 ((1 : Nat) : Int)).toNat : Int) = _
  rw [BitVec.toNat_and, ofInt_nat64 q hq, ofInt_nat64 1 (by decide), Nat.and_one_is_mod, IntKind.wrap_i64]
  omega
/-- half a text over another one -/
def tornT (old s : ByteArray) : ByteArray := if s.size / 2 < old.size then s.extract 0 (s.size / 2) ++ old.extract (s.size / 2) old.size else s.extract 0 (s.size / 2)
/-- what a failure leaves of the i-th waiting write -/
def crashF (m : Nat) (tear : Int) (i : Nat) (z : Int × ByteArray) (old : ByteArray) : ByteArray := if m / 2 ^ (i % 60) % 2 = 1 then z.2 else if (i : Int) = tear then tornT old z.2 else old
theorem exz (s : ByteArray) (i j : Nat) (h : i ≤ j) (hj : j ≤ s.size) : (s.extract i j).size = j - i := by rw [ByteArray.size_extract]; omega
theorem torn_size (old s : ByteArray) (ho : old.size ≤ 200) (hs : s.size ≤ 200) : (tornT old s).size ≤ 200 := by
  unfold tornT
  by_cases h : s.size / 2 < old.size
  · rw [if_pos h, ByteArray.size_append, exz _ _ _ (by omega) (by omega), exz _ _ _ (by omega) (by omega)]; omega
  · rw [if_neg h, exz _ _ _ (by omega) (by omega)]; omega
theorem crash_size (m : Nat) (tear : Int) (i : Nat) (z : Int × ByteArray) (old : ByteArray) (ho : old.size ≤ 200) (hs : z.2.size ≤ 200) : (crashF m tear i z old).size ≤ 200 := by
  unfold crashF
  split
  · exact hs
  · split
    · exact torn_size old z.2 ho hs
    · exact ho

set_option maxHeartbeats 1000000 in
theorem l3Torn_any (old s : ByteArray) (hs : s.size ≤ 200) (ho : old.size ≤ 200) (w : World) :
    Calls Try.prog 72 #[.string old, .string s] w fun r w' => r = .returned (.string (tornT old s)) ∧ Below w.heap.size w w' := by
  obtain ⟨n, hn⟩ : ∃ n, n = s.size / 2 := ⟨_, rfl⟩
  have hni : (s.size : Int) / 2 = (n : Int) := by omega
  have n0 : (0 : Int) ≤ (n : Int) := by omega
  have n1 : (n : Int) ≤ (s.size : Int) := by omega
  have HN := hide hn
  by_cases h : n < old.size
  · have h1 : (n : Int) < (old.size : Int) := by omega
    have h2 : (n : Int) ≤ (old.size : Int) := by omega
    obtain ⟨x, hx⟩ : ∃ x, s.extract 0 n = x := ⟨_, rfl⟩
    obtain ⟨y, hy⟩ : ∃ y, old.extract n old.size = y := ⟨_, rfl⟩
    have hc : ¬ 9223372036854775807 < x.size + y.size := by rw [← hx, ← hy, exz _ _ _ (by omega) (by omega), exz _ _ _ (by omega) (by omega)]; omega
    have HF := hide (show tornT old s = x ++ y by unfold tornT; rw [← hn, if_pos h, hx, hy])
    clear hn h
    go_enter Try.func72, Try.ntmps72
    go_wp2_with fail
    go_region
    go_wp2_with fail
    go_ret
    exact ⟨ret_str HF.out.symm, (Below.refl _ _).drew⟩
  · have h1 : ¬ (n : Int) < (old.size : Int) := by omega
    have HF := hide (show tornT old s = s.extract 0 n by unfold tornT; rw [← hn, if_neg h])
    clear hn h
    go_enter Try.func72, Try.ntmps72
    go_wp2_with fail
    go_ret
    exact ⟨ret_str HF.out.symm, Below.refl _ _⟩

set_option maxHeartbeats 1000000 in
theorem crashOne_any (i : Nat) (a : Int) (s old : ByteArray) (m : Nat) (tear : Int) (g3 g4 : Nat) (w : World) (k3 : Bk w g3 3 #[.int .i64 m]) (k4 : Bk w g4 3 #[.int .i64 tear]) (hm : m < 9223372036854775808) (hs : s.size ≤ 200) (ho : old.size ≤ 200) (hi : i ≤ 2000000) :
    Calls Try.prog 56 #[.int .i64 i, .agg #[.int .i64 a, .string s], .string old, .pointer (some ⟨g3, 0, none⟩), .pointer (some ⟨g4, 0, none⟩)] w fun r w' => r = .returned (.string (crashF m tear i (a, s) old)) ∧ Below w.heap.size w w' := by
  have hb := bel1 w (.cells #[.int .i64 a, .string s] 74)
  have q3 := (k3.after hb).c1
  have q4 := (k4.after hb).c1
  have HB := hide hb
  obtain ⟨q, hq⟩ : ∃ q, q = m / 2 ^ (i % 60) := ⟨_, rfl⟩
  have hqi : (m : Int) / 2 ^ (i % 60) = (q : Int) := by rw [hq]; simp
  have hql : q < 9223372036854775808 := Nat.lt_of_le_of_lt (by rw [hq]; exact Nat.div_le_self _ _) hm
  have hand := and_one_i64 q hql
  have HQ := hide hq
  clear hb hq k3 k4
  by_cases hbit : q % 2 = 1
  · have hb1 : bits .and .i64 (q : Int) 1 = 1 := by rw [hand, hbit]; rfl
    have HF := hide (show crashF m tear i (a, s) old = s by unfold crashF; rw [← HQ.out, if_pos hbit])
    clear hand hbit
    go_enter Try.func56, Try.ntmps56
    go_wp2_with fail
    go_ret
    exact ⟨ret_str HF.out.symm, HB.out⟩
  · have hb1 : bits .and .i64 (q : Int) 1 = 0 := by rw [hand, show q % 2 = 0 by omega]; rfl
    have HBIT := hide hbit
    clear hand hbit
    obtain ⟨n, hn⟩ : ∃ n, n = s.size / 2 := ⟨_, rfl⟩
    have hni : (s.size : Int) / 2 = (n : Int) := by omega
    have n0 : (0 : Int) ≤ (n : Int) := by omega
    have n1 : (n : Int) ≤ (s.size : Int) := by omega
    by_cases ht : (i : Int) = tear
    · by_cases h : n < old.size
      · have h1 : (n : Int) < (old.size : Int) := by omega
        have h2 : (n : Int) ≤ (old.size : Int) := by omega
        obtain ⟨x, hx⟩ : ∃ x, s.extract 0 n = x := ⟨_, rfl⟩
        obtain ⟨y, hy⟩ : ∃ y, old.extract n old.size = y := ⟨_, rfl⟩
        have hc : ¬ 9223372036854775807 < x.size + y.size := by rw [← hx, ← hy, exz _ _ _ (by omega) (by omega), exz _ _ _ (by omega) (by omega)]; omega
        have HF := hide (show crashF m tear i (a, s) old = x ++ y by unfold crashF tornT; rw [← HQ.out, if_neg HBIT.out, if_pos ht]; show (if s.size / 2 < old.size then _ else _) = _; rw [← hn, if_pos h, hx, hy])
        subst ht
        clear hn h
        go_enter Try.func56, Try.ntmps56
        go_wp2_with fail
        go_region
        go_wp2_with fail
        go_ret
        exact ⟨ret_str HF.out.symm, HB.out.drew⟩
      · have h1 : ¬ (n : Int) < (old.size : Int) := by omega
        have HF := hide (show crashF m tear i (a, s) old = s.extract 0 n by unfold crashF tornT; rw [← HQ.out, if_neg HBIT.out, if_pos ht]; show (if s.size / 2 < old.size then _ else _) = _; rw [← hn, if_neg h])
        subst ht
        clear hn h
        go_enter Try.func56, Try.ntmps56
        go_wp2_with fail
        go_ret
        exact ⟨ret_str HF.out.symm, HB.out⟩
    · have ht2 : ((i : Int) == tear) = false := by rw [beq_eq_false_iff_ne]; exact ht
      have HF := hide (show crashF m tear i (a, s) old = old by unfold crashF; rw [← HQ.out, if_neg HBIT.out, if_neg ht])
      clear hn
      go_enter Try.func56, Try.ntmps56
      go_wp2_with fail
      go_ret
      exact ⟨ret_str HF.out.symm, HB.out⟩
end Go.Proofs.Ytcaoekaephnimaa

/- Disks are marked, whatever waits on them. -/
namespace Go.Proofs.Ytcaoekaephnimaa
open Go.RowKit
set_option linter.unusedVariables false
set_option maxRecDepth 100000

set_option maxHeartbeats 2000000 in
theorem markWaitS_fr (g n c : Nat) (cs : Array Value) (k0 : Nat) (w : World) (hb : Bk w g 74 cs) (hn : n * 2 ≤ cs.size) (hm : n ≤ 100000000) (h1 : k0 ≤ 100000000) :
    Calls Try.prog 59 #[.slice (some ⟨g, 0, none⟩) n c, .int .i64 k0] w fun r w' => (∃ v : Nat, r = .returned (.int .i64 v)) ∧ Fr (· = g) w w' := by
  have HB := hide hb
  have HN := hide hn
  have hg := hb.lt
  clear hb hn
  go_enter Try.func59, Try.ntmps59
  go_wp2
  go_loopw [1, 5] (fun q i wr => ∃ (k q' : Nat) (cs' : Array Value), k ≤ n ∧ Hid (q' = k0 + 2 * k) ∧ Hid (Bk wr g 74 cs') ∧ Hid (cs'.size = cs.size) ∧ Hid (Fr (· = g) w wr) ∧ q = .int .i64 q' ∧ i = .int .i64 k) (fun _ i _ => n - (intOf i).toNat)
  case atStart => exact ⟨0, k0, cs, by omega, hide rfl, HB, hide rfl, hide (Fr.refl _ _), rfl, rfl⟩
  case round =>
    obtain ⟨k, q', cs', hk, hq, HB, HS, HF, rfl, rfl⟩ := hrel
    have qb : q' ≤ 500000000 := by have := hq.out; omega
    by_cases hlt : k < n
    · have hs0 : k * 2 + 1 < cs'.size := by have := HS.out; have := HN.out; omega
      have HS0 := hide hs0
      obtain ⟨u0, d0⟩ : ∃ u, wr.cell? ⟨g, k * 2, none⟩ = some u := ⟨cs'[k * 2], by rw [HB.out.cell]; exact Array.getElem?_eq_getElem (by omega)⟩
      have f0 := HB.out.frozen (k * 2)
      have HP := hide (HB.out.put (k * 2) (.int .i64 q'))
      have HF1 := hide (HF.out.setCell (p := ⟨g, k * 2, none⟩) (.inl rfl) (.int .i64 q'))
      have i0 : (0 : Int) ≤ (k : Int) := by omega
      have i1 : (k : Int) < (n : Int) := by omega
      obtain ⟨q1, hq1⟩ : ∃ q1 : Nat, q1 = q' + 1 := ⟨_, rfl⟩
      have qw : IntKind.i64.wrap (q1 : Int) = (q1 : Int) := by rw [IntKind.wrap_i64]; omega
      have qq : (q' : Int) + 1 = (q1 : Int) := by omega
      have HQ1 := hide hq1
      clear hq1
      clear hs0
      go_upto_region 6 with fail
      clear d0 f0
      obtain ⟨W1, hW1⟩ : ∃ X : World, X = wr.setCell ⟨g, k * 2, none⟩ (.int .i64 q') := ⟨_, rfl⟩
      rw [← hW1] at HP HF1
      rw [← hW1]
      clear hW1
      go_wp2_with fail
      refine (markText_any q1 _ (by have := HQ1.out; omega)).mono ?_; rintro r w1 ⟨rfl, hb1⟩
      have HB2 := HP.out.after hb1
      obtain ⟨cs2, hcs2⟩ : ∃ x, x = cs'.setIfInBounds (k * 2) (.int .i64 q') := ⟨_, rfl⟩
      have hsz2 : cs2.size = cs'.size := by rw [hcs2, Array.size_setIfInBounds]
      rw [← hcs2] at HB2
      obtain ⟨u1, d1⟩ : ∃ u, w1.cell? ⟨g, k * 2 + 1, none⟩ = some u := ⟨cs2[k * 2 + 1]'(by rw [hsz2]; exact HS0.out), by rw [HB2.cell]; exact Array.getElem?_eq_getElem _⟩
      have f1 := HB2.frozen (k * 2 + 1)
      have HP2 := hide (HB2.put (k * 2 + 1) (.string (mtext q1)))
      have HF2 := hide ((HF1.out.trans (Fr.of_below _ hb1)).setCell (p := ⟨g, k * 2 + 1, none⟩) (.inl rfl) (.string (mtext q1)))
      have HSZ2 := hide hsz2
      clear hb1 HB2 hcs2 hsz2
      have qb1 : q1 ≤ 500000001 := by have := HQ1.out; omega
      go_wp2_with fail
      go_roundw
      case rel => exact ⟨k + 1, q1 + 1, _, by omega, hide (by have := hq.out; have := HQ1.out; omega), HP2, hide (by rw [Array.size_setIfInBounds, HSZ2.out]; exact HS.out), HF2, int_eq (by omega), int_eq (by omega)⟩
      case measure => simp [intOf]; omega
    · go_wp2
      go_ret
      exact ⟨⟨q', rfl⟩, HF.out⟩

end Go.Proofs.Ytcaoekaephnimaa

/- What is left of a disk when its waiting writes are done, in plain words. -/
namespace Go.Proofs.Ytcaoekaephnimaa
open Go.RowKit
set_option linter.unusedVariables false
set_option maxRecDepth 100000

theorem diskOk_parts {z1 : List ByteArray} {z2 : List (Int × ByteArray)} {g : Bool} (h : diskOk z1 z2 g = true) : z1.length = 64 ∧ z2.length ≤ 120 ∧ (g && decide (0 < z2.length)) = false ∧ z1.all (cellB g) = true ∧ z2.all waitB = true := by
  unfold diskOk at h
  simp only [Bool.and_eq_true, decide_eq_true_eq, Bool.not_eq_true'] at h
  exact ⟨h.1.1.1.1, h.1.1.1.2, h.1.1.2, h.1.2, h.2⟩
/-- all cells stay small -/
theorem settle_small {f : Nat → Int × ByteArray → ByteArray → ByteArray} (hf : ∀ i z old, z.2.size ≤ 200 → old.size ≤ 200 → (f i z old).size ≤ 200) (zs : List (Int × ByteArray)) (hz : ∀ z ∈ zs, z.2.size ≤ 200) : ∀ (i : Nat) (cs : List ByteArray), (∀ u ∈ cs, u.size ≤ 200) → ∀ u ∈ settleT f i zs cs, u.size ≤ 200 := by
  induction zs with
  | nil => intro i cs h; exact h
  | cons z zs ih =>
    intro i cs h
    rw [settleT]
    refine ih (fun y hy => hz y (List.mem_cons_of_mem _ hy)) (i + 1) _ (fun u hu => ?_)
    rcases List.mem_or_eq_of_mem_set hu with h1 | h1
    · exact h u h1
    · rw [h1]
      refine hf i z _ (hz z (List.mem_cons_self ..)) ?_
      rw [List.getD_eq_getElem?_getD]
      cases e : cs[z.1.toNat]? with
      | none => exact Nat.zero_le _
      | some v => exact h v (List.mem_of_getElem? e)
/-- what is flushed is valid -/
theorem settle_ok {f : Nat → Int × ByteArray → ByteArray → ByteArray} (hf : ∀ i z old, z.2.size ≤ 200 → old.size ≤ 200 → (f i z old).size ≤ 200) {z1 : List ByteArray} {z2 : List (Int × ByteArray)} {g : Bool} (h : diskOk z1 z2 g = true) : diskOk (settleT f 0 z2 z1) [] g = true := by
  obtain ⟨h1, h2, h3, h4, h5⟩ := diskOk_parts h
  rw [List.all_eq_true] at h4 h5
  refine ok_yes (by rw [settle_len]; exact h1) (Nat.zero_le _) ?_ rfl (by simp)
  rw [List.all_eq_true]
  intro u hu
  cases g with
  | true =>
    have e : z2 = [] := by
      cases z2 with
      | nil => rfl
      | cons z zs => simp at h3
    subst e
    exact h4 u hu
  | false =>
    have hs : u.size ≤ 200 := settle_small hf z2 (fun z hz => by have := h5 z hz; unfold waitB at this; simp only [Bool.and_eq_true, decide_eq_true_eq] at this; exact this.2) 0 z1 (fun v hv => by have := h4 v hv; unfold cellB at this; simp only [Bool.and_eq_true, decide_eq_true_eq] at this; exact this.1) u hu
    unfold cellB
    rw [decide_eq_true hs]
    rfl
/-- a failure behind the last write -/
theorem crash_all (z2 : List (Int × ByteArray)) : ∀ (i : Nat) (cs : List ByteArray), settleT (crashF 1152921504606846975 (-1)) i z2 cs = settleT (fun _ z _ => z.2) i z2 cs := by
  induction z2 with
  | nil => intro i cs; rfl
  | cons z zs ih =>
    intro i cs
    rw [settleT, settleT, ih]
    have hb : 1152921504606846975 / 2 ^ (i % 60) % 2 = 1 := by
      have hlt : i % 60 < 60 := Nat.mod_lt _ (by decide)
      have key : ∀ j, j < 60 → 1152921504606846975 / 2 ^ j % 2 = 1 := by decide
      exact key _ hlt
    congr 2
    unfold crashF
    rw [if_pos hb]
end Go.Proofs.Ytcaoekaephnimaa
