/- The laws FnExactFanPut and FnExactFanGet, walked. -/
import Derived.Test.YtmhbpmacfekhgaaDoorPtrMark
namespace Go.Proofs.YtmhbpmacfekhgaaDoor
open Go.RowKit
set_option linter.unusedVariables false

set_option maxHeartbeats 4000000 in
theorem fnExactFanPut_walk (A1 : Option Addr) (n1 c1 : Nat) (ps : List P5) (w : World) (ht : Tab w) (h1 : PtrS w A1 n1 c1 ps) :
    Calls Tryd.prog 10 #[.slice A1 n1 c1] w fun r w' => r = .returned (.bool true) ∧ Below w.heap.size w w' := by
  have m1 : n1 ≤ maxLen := Nat.le_trans h1.1 h1.2.1
  have HR := hide h1.2.2.2.2
  have HL := hide h1.2.2.1
  have HT := hide ht
  have HM := hide m1
  clear h1 ht
  unfold maxLen at m1
  have HSZ := hide (fun w => szPtrS_any A1 n1 c1 1048576 w HM.out (by omega) (by omega))
  by_cases g1 : (1048576 : Int) < (n1 : Int)
  · rw [show szI 1048576 n1 = -1 from if_pos g1] at HSZ
    clear g1
    go_enter Tryd.func10, Tryd.ntmps10
    go_wp2_with fail
    refine (HSZ.out _).mono ?_; rintro r w1 ⟨rfl, rfl⟩
    go_wp2_with fail
    go_ret
    exact ⟨rfl, Below.refl _ _⟩
  · rw [show szI 1048576 n1 = 1048576 - n1 from if_neg g1] at HSZ
    have hl0 : ¬ ((1048576 : Int) - n1 < 0) := by omega
    obtain ⟨left, hleft⟩ : ∃ left : Int, left = 1048576 - n1 := ⟨_, rfl⟩
    rw [← hleft] at HSZ hl0
    have hn9 : n1 ≤ 1000000000 := by omega
    have HS := hide (fun w A n c h => specFanPut_any A n c ps w h)
    have HI := hide (fun w A n c ht h => implFanPut_any A n c ps w ht h)
    obtain ⟨T, hT⟩ : ∃ T, T = fanT ps := ⟨_, rfl⟩
    obtain ⟨v, hv⟩ : ∃ v, v = fanB ps := ⟨_, rfl⟩
    rw [← hT, ← hv] at HS HI
    have hss := beqT_eq (rfl : T = T)
    have hvv : (v != v) = false := by cases v <;> rfl
    clear hleft hT hv
    go_enter Tryd.func10, Tryd.ntmps10
    go_wp2_with fail
    refine (HSZ.out _).mono ?_; rintro r w1 ⟨rfl, rfl⟩
    go_wp2_with fail
    refine (toPtrS_any _ _ _ ps _ HR.out hn9).mono ?_; rintro r w1 ⟨rfl, hk, hb, _⟩
    have K1 := hide (hk.rdP HL.out)
    have B0 := hide hb
    clear hk hb
    go_wp2_with fail
    refine (HS.out _ _ _ _ K1.out HM.out).mono ?_; rintro r w2 ⟨rfl, hb⟩
    have B0 := hide (B0.out.trans (hb.mono B0.out.size))
    clear hb
    go_wp2_with fail
    refine (toPtrS_any _ _ _ ps _ (HR.out.after B0.out) hn9).mono ?_; rintro r w3 ⟨rfl, hk, hb, _⟩
    have K2 := hide (hk.rdP HL.out)
    have B0 := hide (B0.out.trans (hb.mono B0.out.size))
    clear hk hb K1
    go_wp2_with fail
    refine (HI.out _ _ _ _ (HT.out.after B0.out) K2.out HM.out).mono ?_; rintro r w4 ⟨rfl, hb⟩
    have K2 := hide (K2.out.after hb)
    have B0 := hide (B0.out.trans (hb.mono B0.out.size))
    clear hb
    go_wp2_with fail
    refine (toPtrS_any _ _ _ ps _ (HR.out.after B0.out) hn9).mono ?_; rintro r w5 ⟨rfl, hk, hb, _⟩
    have K3 := hide (hk.rdP HL.out)
    have K2 := hide (K2.out.after hb)
    have B0 := hide (B0.out.trans (hb.mono B0.out.size))
    clear hk hb
    go_wp2_with fail
    refine (eqPtrS_v (eqP_same ps) _ K2.out K3.out HM.out).mono ?_; rintro r w6 ⟨rfl, hb⟩
    go_wp2_with fail
    go_ret
    exact ⟨rfl, B0.out.trans (hb.mono B0.out.size)⟩
theorem fP_len (l : List UInt8) : (fP l).length ≤ 4 := by
  unfold fP
  cases h : getF l with
  | none => exact Nat.zero_le _
  | some ps => exact Nat.le_of_eq ((fan_iff ps).1 (getF_some h).1).1
set_option maxHeartbeats 4000000 in
theorem fnExactFanGet_walk (s : ByteArray) (h0 : s.size ≤ maxLen) (W : World) (ht : Tab W) (he : Err W) (hx : Mx W) :
    Calls Tryd.prog 11 #[.string s] W fun r w' => r = .returned (.bool true) ∧ Below W.heap.size W w' := by
  unfold maxLen at h0
  have HT := hide ht
  have HE := hide he
  have HX := hide hx
  clear ht he hx
  by_cases hs : s.size ≤ 1048576
  · have HS := hide (specFanGet_any s)
    have HI := hide (implFanGet_any s)
    have hl4 := fP_len s.data.toList
    obtain ⟨ps, hps⟩ : ∃ ps, fP s.data.toList = ps := ⟨_, rfl⟩
    obtain ⟨v, hv⟩ : ∃ v, fB s.data.toList = v := ⟨_, rfl⟩
    unfold GetFR at HS HI
    rw [hps, hv] at HS HI
    rw [hps] at hl4
    clear hps hv
    obtain ⟨n, hn⟩ : ∃ n, ps.length = n := ⟨_, rfl⟩
    rw [hn] at HS HI hl4
    have hvv : (v != v) = false := by cases v <;> rfl
    have nm : Hid (n ≤ maxLen) := hide (by unfold maxLen; omega)
    obtain ⟨M, hM⟩ : ∃ M : Nat, M = 1 + n * 5 := ⟨_, rfl⟩
    have HM := hide hM
    have hM21 : M ≤ 21 := by omega
    clear hn hM
    go_enter Tryd.func11, Tryd.ntmps11
    go_wp2_with fail
    refine (HS.out _ hs).mono ?_; rintro r w1 ⟨v1, rfl, ho1, hb1⟩
    obtain ⟨A1, c1, rfl⟩ := own_shape ho1
    have R1 := hide (own_rdP ho1)
    have HB := hide hb1
    clear ho1 hb1
    go_wp2_with fail
    refine (HI.out _ hs (HT.out.after HB.out) (HE.out.after HB.out) (HX.out.after HB.out)).mono ?_; rintro r w2 ⟨v2, rfl, ho2, hb2⟩
    obtain ⟨A2, c2, rfl⟩ := own_shape ho2
    have HO2 := hide ho2
    have HC := hide hb2
    clear ho2 hb2
    go_wp2_with fail
    refine (eqPtrS_v (eqP_same ps) _ (own_rdP HO2.out) (R1.out.after HC.out) nm.out).mono ?_; rintro r w3 ⟨rfl, hb3⟩
    have HO3 := hide (own_bel HO2.out hb3)
    have HC := hide (HC.out.trans (hb3.mono HC.out.size))
    clear hb3
    go_wp2_with fail
    refine (mark_ownP HO3.out HC.out.size (by omega)).mono ?_; rintro r w4 ⟨rfl, hr4, hb4⟩
    have M4 := hide hr4
    have HC := hide (HC.out.trans hb4)
    rw [← HM.out]
    have HHD := hide (fun w h => heldPtrS_any A2 n c2 1 w h (by omega) (by omega))
    rw [← HM.out] at HHD
    clear hr4 hb4
    go_wp2_with fail
    refine (HHD.out _ M4.out).mono ?_; rintro r w5 ⟨rfl, rfl⟩
    go_wp2_with fail
    have HB5 := hide (HB.out.trans (HC.out.mono HB.out.size))
    refine (HI.out _ hs (HT.out.after HB5.out) (HE.out.after HB5.out) (HX.out.after HB5.out)).mono ?_; rintro r w6 ⟨v6, rfl, ho6, hb6⟩
    obtain ⟨A6, c6, rfl⟩ := own_shape ho6
    have R6 := hide (own_rdP ho6)
    have M6 := hide (M4.out.after hb6)
    have HC := hide (HC.out.trans (hb6.mono HC.out.size))
    clear ho6 hb6
    go_wp2_with fail
    refine (eqPtrS_v (eqP_same ps) _ R6.out (R1.out.after HC.out) nm.out).mono ?_; rintro r w7 ⟨rfl, hb7⟩
    have M7 := hide (M6.out.after hb7)
    have HC := hide (HC.out.trans (hb7.mono HC.out.size))
    clear hb7
    go_wp2_with fail
    refine (HHD.out _ M7.out).mono ?_; rintro r w8 ⟨rfl, rfl⟩
    have HB8 := hide (HB.out.trans (HC.out.mono HB.out.size))
    go_wp2_with fail
    go_ret
    exact ⟨rfl, HB8.out⟩
  · go_enter Tryd.func11, Tryd.ntmps11
    go_wp2_with fail
    go_ret
    exact ⟨rfl, Below.refl _ _⟩
end Go.Proofs.YtmhbpmacfekhgaaDoor
