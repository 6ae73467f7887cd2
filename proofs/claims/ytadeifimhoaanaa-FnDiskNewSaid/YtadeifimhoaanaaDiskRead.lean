/- DiskRead of the program and of the reference. -/
import Derived.Test.YtadeifimhoaanaaDiskBack
namespace Go.Proofs.Ytadeifimhoaanaa
open Go.RowKit
set_option linter.unusedVariables false

set_option maxHeartbeats 2000000 in
theorem l3Read_any (A1 A2 : Option Addr) (n1 n2 c1 c2 k : Nat) (z1 : List ByteArray) (z2 : List (Int × ByteArray)) (d : ByteArray) (g : Bool) (w : World) (h1 : Rd w 1 A1 n1 (z1.map Value.string)) (h2 : Rd w 2 A2 n2 (waitCells z2)) (m1 : n1 ≤ 1048576) (m2 : n2 ≤ 1048576) (hk : k < n1) (hd : z1[k]? = some d) :
    Calls Try.prog 51 #[.agg #[.slice A1 n1 c1, .slice A2 n2 c2, .bool g], .int .i64 k] w fun r w' => r = .returned (.string (lookT z2 k d)) ∧ Below w.heap.size w w' := by
  have HD := hide hd
  have hb := bel1 w (.cells #[.slice A1 n1 c1, .slice A2 n2 c2, .bool g] 25)
  have K := Bk.fresh w 25 #[.slice A1 n1 c1, .slice A2 n2 c2, .bool g]
  obtain ⟨t0, t1, t2⟩ := K.c3
  have H1 := hide (h1.after hb)
  have H2 := hide (h2.after hb)
  have HZL : Hid (z2.length = n2) := hide (by have := h2.len; rw [waitCells_len] at this; omega)
  have HB := hide hb
  clear hd h1 h2 hb K
  go_enter Try.func51, Try.ntmps51
  go_wp2_with fail
  go_loop [5] (fun i => ∃ (m : Nat) (q : Int), m ≤ n2 ∧ i = .int .i64 q ∧ q + 1 = m ∧ Hid (∀ y ∈ uptoB (backF z2) (n2 - m), y.2.1 ≠ (k : Int))) (fun i => (intOf i + 1).toNat)
  case atStart => exact ⟨n2, (n2 : Int) - 1, Nat.le_refl _, rfl, by omega, hide (by rw [Nat.sub_self]; intro y hy; simp [uptoB] at hy)⟩
  case round =>
    obtain ⟨m, q, hm, rfl, hq, HP⟩ := hrel
    by_cases hlt : 0 < m
    · obtain ⟨j, rfl⟩ : ∃ j, m = j + 1 := ⟨m - 1, by omega⟩
      obtain rfl : q = (j : Int) := by omega
      obtain ⟨b, o, z, e1, _, hz, hc0, hc1⟩ := H2.out.wait_at (show j < n2 by omega)
      subst e1
      have hbk : backF z2 (n2 - (j + 1)) = (j, z) := by
        unfold backF
        rw [HZL.out, show n2 - 1 - (n2 - (j + 1)) = j by omega, hz]
        rfl
      have HZ := hide hbk
      have j0 : (0 : Int) ≤ (j : Int) := by omega
      have j1 : (j : Int) < (n2 : Int) := by omega
      clear hz hbk
      by_cases hx : z.1 = (k : Int)
      · have hx2 : (z.1 == (k : Int)) = true := by simp [hx]
        have HN := hide (look_some (d := d) (show n2 - (j + 1) < z2.length by have := HZL.out; omega) HP.out (by rw [HZ.out]; exact hx))
        clear hx
        go_wp2_with fail
        go_ret
        exact ⟨ret_str (by rw [HN.out, HZ.out]), HB.out⟩
      · have hx2 : (z.1 == (k : Int)) = false := by simp [hx]
        have HX := hide hx
        clear hx
        go_wp2_with fail
        go_round
        case rel => exact ⟨j, (j : Int) - 1, by omega, rfl, by omega, hide (by
          rw [show n2 - j = n2 - (j + 1) + 1 by omega, uptoB_succ, HZ.out]
          intro y hy
          exact (List.mem_append.1 hy).elim (HP.out y) (fun e => by simp at e; subst e; exact HX.out))⟩
        case measure => simp [intOf]
    · obtain rfl : m = 0 := by omega
      obtain rfl : q = -1 := by omega
      obtain ⟨b, o, z, e1, _, hz, hc⟩ := H1.out.str_at hk
      subst e1
      have hzd : z = d := by
        have h := HD.out
        rw [hz] at h
        injection h
      subst hzd
      have HN := hide (look_none (zs := z2) (k := (k : Int)) (d := z) (by rw [HZL.out]; exact HP.out))
      have k0 : (0 : Int) ≤ (k : Int) := by omega
      have k1 : (k : Int) < (n1 : Int) := by omega
      clear hz
      go_wp2_with fail
      go_ret
      exact ⟨ret_str HN.out.symm, HB.out⟩

/-- can the cell be read? -/
def readOk (z1 : List ByteArray) (z2 : List (Int × ByteArray)) (g : Bool) (k : Int) : Bool := diskOk z1 z2 g && !g && inR k 0 63
/-- what is read -/
def readS (z1 : List ByteArray) (z2 : List (Int × ByteArray)) (g : Bool) (k : Int) : ByteArray := if readOk z1 z2 g k = true then lookT z2 k (z1.getD k.toNat ⟨#[]⟩) else ⟨#[]⟩

set_option maxHeartbeats 2000000 in
theorem implRead_any (A1 A2 : Option Addr) (n1 n2 c1 c2 : Nat) (k : Int) (z1 : List ByteArray) (z2 : List (Int × ByteArray)) (g v : Bool) (S : ByteArray) (w : World) (h1 : Rd w 1 A1 n1 (z1.map Value.string)) (h2 : Rd w 2 A2 n2 (waitCells z2)) (m1 : n1 ≤ 1048576) (m2 : n2 ≤ 1048576) (hv : readOk z1 z2 g k = v) (hS : readS z1 z2 g k = S) :
    Calls Try.prog 26 #[.agg #[.slice A1 n1 c1, .slice A2 n2 c2, .bool g], .int .i64 k] w fun r w' => r = .returned (.tuple #[.string S, .bool v]) ∧ Below w.heap.size w w' := by
  have hb := bel1 w (.cells #[.slice A1 n1 c1, .slice A2 n2 c2, .bool g] 25)
  have K := hide (Bk.fresh w 25 #[.slice A1 n1 c1, .slice A2 n2 c2, .bool g])
  have H1 := hide (h1.after hb)
  have H2 := hide (h2.after hb)
  have M1 : Hid (n1 ≤ maxLen) := hide (by unfold maxLen; omega)
  have M2 : Hid (n2 ≤ maxLen) := hide (by unfold maxLen; omega)
  have HL1 : Hid (z1.length = n1) := hide (by have := h1.len; simpa using this)
  have HB := hide hb
  clear h1 h2 hb
  obtain ⟨t0, t1, t2⟩ := K.out.c3
  cases ho : diskOk z1 z2 g
  · have HO := hide ho
    have HV := hide (show v = false by rw [← hv]; unfold readOk; rw [ho]; rfl)
    have HS := hide (show S = ⟨#[]⟩ by rw [← hS]; unfold readS readOk; rw [ho]; rfl)
    clear ho hv hS
    go_enter Try.func26, Try.ntmps26
    go_wp2_with fail
    refine (implDiskOk_v HO.out _ H1.out H2.out M1.out M2.out).mono ?_; rintro r w1 ⟨rfl, hb1⟩
    have HB := hide (bnext HB.out (Nat.le_refl _) hb1)
    clear hb1 t0 t1 t2
    go_wp2_with fail
    go_ret2
    exact ⟨by rw [HV.out, HS.out]; rfl, HB.out⟩
  · have HO := hide ho
    cases g
    · cases hc : inR k 0 63
      · have HC := hide hc
        have HV := hide (show v = false by rw [← hv]; unfold readOk; rw [ho, hc]; rfl)
        have HS := hide (show S = ⟨#[]⟩ by rw [← hS]; unfold readS readOk; rw [ho, hc]; rfl)
        clear ho hv hS hc
        go_enter Try.func26, Try.ntmps26
        go_wp2_with fail
        refine (implDiskOk_v HO.out _ H1.out H2.out M1.out M2.out).mono ?_; rintro r w1 ⟨rfl, hb1⟩
        have HB := hide (bnext HB.out (Nat.le_refl _) hb1)
        clear t0 t1 t2
        obtain ⟨t0, t1, t2⟩ := (K.out.after hb1).c3
        clear hb1
        go_wp2_with fail
        refine (isCell_v HC.out _).mono ?_; rintro r w2 ⟨rfl, rfl⟩
        go_wp2_with fail
        go_ret2
        exact ⟨by rw [HV.out, HS.out]; rfl, HB.out⟩
      · have HC := hide hc
        have hin := hc
        simp only [inR, Bool.and_eq_true, decide_eq_true_eq] at hin
        have hz64 : z1.length = 64 := by unfold diskOk at ho; simp only [Bool.and_eq_true, decide_eq_true_eq] at ho; exact ho.1.1.1.1
        obtain ⟨k, rfl⟩ : ∃ j : Nat, k = (j : Int) := ⟨k.toNat, by omega⟩
        have hkn : k < n1 := by have := HL1.out; omega
        obtain ⟨d, hd⟩ : ∃ d, z1[k]? = some d := ⟨z1[k]'(by omega), List.getElem?_eq_getElem (by omega)⟩
        have HD := hide hd
        have HV := hide (show v = true by rw [← hv]; unfold readOk; rw [ho, hc]; rfl)
        have HS := hide (show S = lookT z2 k d by rw [← hS]; unfold readS readOk; rw [ho, hc]; show lookT z2 k (z1.getD k ⟨#[]⟩) = _; rw [List.getD_eq_getElem?_getD, hd]; rfl)
        clear ho hv hS hc hd hin hz64
        go_enter Try.func26, Try.ntmps26
        go_wp2_with fail
        refine (implDiskOk_v HO.out _ H1.out H2.out M1.out M2.out).mono ?_; rintro r w1 ⟨rfl, hb1⟩
        have HB := hide (bnext HB.out (Nat.le_refl _) hb1)
        have H1 := hide (H1.out.after hb1)
        have H2 := hide (H2.out.after hb1)
        clear t0 t1 t2
        obtain ⟨t0, t1, t2⟩ := (K.out.after hb1).c3
        clear hb1
        go_wp2_with fail
        refine (isCell_v HC.out _).mono ?_; rintro r w2 ⟨rfl, rfl⟩
        go_wp2_with fail
        refine (implLook_any A1 A2 n1 n2 c1 c2 k z1 z2 d false _ H1.out H2.out m1 m2 hkn HD.out).mono ?_; rintro r w3 ⟨rfl, hb1⟩
        have HB := hide (bnext HB.out (Nat.le_refl _) hb1)
        clear hb1 t0 t1 t2
        go_wp2_with fail
        go_ret2
        exact ⟨by rw [HV.out, HS.out]; rfl, HB.out⟩
    · have HV := hide (show v = false by rw [← hv]; unfold readOk; rw [ho]; rfl)
      have HS := hide (show S = ⟨#[]⟩ by rw [← hS]; unfold readS readOk; rw [ho]; rfl)
      clear ho hv hS
      go_enter Try.func26, Try.ntmps26
      go_wp2_with fail
      refine (implDiskOk_v HO.out _ H1.out H2.out M1.out M2.out).mono ?_; rintro r w1 ⟨rfl, hb1⟩
      have HB := hide (bnext HB.out (Nat.le_refl _) hb1)
      clear t0 t1 t2
      obtain ⟨t0, t1, t2⟩ := (K.out.after hb1).c3
      clear hb1
      go_wp2_with fail
      go_ret2
      exact ⟨by rw [HV.out, HS.out]; rfl, HB.out⟩

set_option maxHeartbeats 2000000 in
theorem specRead_any (A1 A2 : Option Addr) (n1 n2 c1 c2 : Nat) (k : Int) (z1 : List ByteArray) (z2 : List (Int × ByteArray)) (g v : Bool) (S : ByteArray) (w : World) (h1 : Rd w 1 A1 n1 (z1.map Value.string)) (h2 : Rd w 2 A2 n2 (waitCells z2)) (m1 : n1 ≤ 1048576) (m2 : n2 ≤ 1048576) (hv : readOk z1 z2 g k = v) (hS : readS z1 z2 g k = S) :
    Calls Try.prog 25 #[.agg #[.slice A1 n1 c1, .slice A2 n2 c2, .bool g], .int .i64 k] w fun r w' => r = .returned (.tuple #[.string S, .bool v]) ∧ Below w.heap.size w w' := by
  have hb := bel1 w (.cells #[.slice A1 n1 c1, .slice A2 n2 c2, .bool g] 25)
  have K := hide (Bk.fresh w 25 #[.slice A1 n1 c1, .slice A2 n2 c2, .bool g])
  have H1 := hide (h1.after hb)
  have H2 := hide (h2.after hb)
  have M1 : Hid (n1 ≤ maxLen) := hide (by unfold maxLen; omega)
  have M2 : Hid (n2 ≤ maxLen) := hide (by unfold maxLen; omega)
  have HL1 : Hid (z1.length = n1) := hide (by have := h1.len; simpa using this)
  have HB := hide hb
  clear h1 h2 hb
  obtain ⟨t0, t1, t2⟩ := K.out.c3
  cases ho : diskOk z1 z2 g
  · have HO := hide ho
    have HV := hide (show v = false by rw [← hv]; unfold readOk; rw [ho]; rfl)
    have HS := hide (show S = ⟨#[]⟩ by rw [← hS]; unfold readS readOk; rw [ho]; rfl)
    clear ho hv hS
    go_enter Try.func25, Try.ntmps25
    go_wp2_with fail
    refine (specDiskOk_v HO.out _ H1.out H2.out M1.out M2.out).mono ?_; rintro r w1 ⟨rfl, hb1⟩
    have HB := hide (bnext HB.out (Nat.le_refl _) hb1)
    clear hb1 t0 t1 t2
    go_wp2_with fail
    go_ret2
    exact ⟨by rw [HV.out, HS.out]; rfl, HB.out⟩
  · have HO := hide ho
    cases g
    · cases hc : inR k 0 63
      · have HC := hide hc
        have HV := hide (show v = false by rw [← hv]; unfold readOk; rw [ho, hc]; rfl)
        have HS := hide (show S = ⟨#[]⟩ by rw [← hS]; unfold readS readOk; rw [ho, hc]; rfl)
        clear ho hv hS hc
        go_enter Try.func25, Try.ntmps25
        go_wp2_with fail
        refine (specDiskOk_v HO.out _ H1.out H2.out M1.out M2.out).mono ?_; rintro r w1 ⟨rfl, hb1⟩
        have HB := hide (bnext HB.out (Nat.le_refl _) hb1)
        clear t0 t1 t2
        obtain ⟨t0, t1, t2⟩ := (K.out.after hb1).c3
        clear hb1
        go_wp2_with fail
        refine (l3Cell_v HC.out _).mono ?_; rintro r w2 ⟨rfl, rfl⟩
        go_wp2_with fail
        go_ret2
        exact ⟨by rw [HV.out, HS.out]; rfl, HB.out⟩
      · have HC := hide hc
        have hin := hc
        simp only [inR, Bool.and_eq_true, decide_eq_true_eq] at hin
        have hz64 : z1.length = 64 := by unfold diskOk at ho; simp only [Bool.and_eq_true, decide_eq_true_eq] at ho; exact ho.1.1.1.1
        obtain ⟨k, rfl⟩ : ∃ j : Nat, k = (j : Int) := ⟨k.toNat, by omega⟩
        have hkn : k < n1 := by have := HL1.out; omega
        obtain ⟨d, hd⟩ : ∃ d, z1[k]? = some d := ⟨z1[k]'(by omega), List.getElem?_eq_getElem (by omega)⟩
        have HD := hide hd
        have HV := hide (show v = true by rw [← hv]; unfold readOk; rw [ho, hc]; rfl)
        have HS := hide (show S = lookT z2 k d by rw [← hS]; unfold readS readOk; rw [ho, hc]; show lookT z2 k (z1.getD k ⟨#[]⟩) = _; rw [List.getD_eq_getElem?_getD, hd]; rfl)
        clear ho hv hS hc hd hin hz64
        go_enter Try.func25, Try.ntmps25
        go_wp2_with fail
        refine (specDiskOk_v HO.out _ H1.out H2.out M1.out M2.out).mono ?_; rintro r w1 ⟨rfl, hb1⟩
        have HB := hide (bnext HB.out (Nat.le_refl _) hb1)
        have H1 := hide (H1.out.after hb1)
        have H2 := hide (H2.out.after hb1)
        clear t0 t1 t2
        obtain ⟨t0, t1, t2⟩ := (K.out.after hb1).c3
        clear hb1
        go_wp2_with fail
        refine (l3Cell_v HC.out _).mono ?_; rintro r w2 ⟨rfl, rfl⟩
        go_wp2_with fail
        refine (l3Read_any A1 A2 n1 n2 c1 c2 k z1 z2 d false _ H1.out H2.out m1 m2 hkn HD.out).mono ?_; rintro r w3 ⟨rfl, hb1⟩
        have HB := hide (bnext HB.out (Nat.le_refl _) hb1)
        clear hb1 t0 t1 t2
        go_wp2_with fail
        go_ret2
        exact ⟨by rw [HV.out, HS.out]; rfl, HB.out⟩
    · have HV := hide (show v = false by rw [← hv]; unfold readOk; rw [ho]; rfl)
      have HS := hide (show S = ⟨#[]⟩ by rw [← hS]; unfold readS readOk; rw [ho]; rfl)
      clear ho hv hS
      go_enter Try.func25, Try.ntmps25
      go_wp2_with fail
      refine (specDiskOk_v HO.out _ H1.out H2.out M1.out M2.out).mono ?_; rintro r w1 ⟨rfl, hb1⟩
      have HB := hide (bnext HB.out (Nat.le_refl _) hb1)
      clear t0 t1 t2
      obtain ⟨t0, t1, t2⟩ := (K.out.after hb1).c3
      clear hb1
      go_wp2_with fail
      go_ret2
      exact ⟨by rw [HV.out, HS.out]; rfl, HB.out⟩

end Go.Proofs.Ytadeifimhoaanaa
