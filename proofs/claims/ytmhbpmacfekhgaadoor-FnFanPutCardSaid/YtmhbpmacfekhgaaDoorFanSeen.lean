/- The laws FnFanPut and FnFanGet, walked. -/
import Derived.Test.YtmhbpmacfekhgaaDoorFanDraw
namespace Go.Proofs.YtmhbpmacfekhgaaDoor
open Go.RowKit
set_option linter.unusedVariables false

theorem f_of {l : List UInt8} {ps : List P5} (h : getF l = some ps) : fP l = ps ∧ fB l = true := by
  unfold fP fB
  rw [h]
  exact ⟨rfl, rfl⟩
theorem f_some {l : List UInt8} (h : fB l = true) : getF l = some (fP l) := by
  unfold fB at h
  unfold fP
  cases hg : getF l with
  | none => rw [hg] at h; cases h
  | some q => rfl
theorem fanT_ne {ps : List P5} (h : fanB ps = false) : fanT ps = ⟨#[]⟩ := fanT_no h
/-- FanGet's answer, spelled out -/
theorem getFR_v {P : Program} {f : FuncId} {args : Array Value} {l : List UInt8} {ps : List P5} {v : Bool} {w : World} (hp : fP l = ps) (hv : fB l = v) (h : Calls P f args w (GetFR l w)) :
    Calls P f args w fun r w' => ∃ A c, r = .returned (.tuple #[.slice A ps.length c, .bool v]) ∧ Rd w' 5 A ps.length (ptrCells ps) ∧ Below w.heap.size w w' := by
  subst hp hv
  refine h.mono ?_
  rintro r w' ⟨x, rfl, ho, hb⟩
  obtain ⟨A, c, rfl⟩ := own_shape ho
  exact ⟨A, c, rfl, own_rdP ho, hb⟩
theorem fP_len' (l : List UInt8) : (fP l).length ≤ 4 := by
  unfold fP
  cases h : getF l with
  | none => exact Nat.zero_le _
  | some ps => exact Nat.le_of_eq ((fan_iff ps).1 (getF_some h).1).1
set_option maxHeartbeats 4000000 in
theorem fnFanPut_walk (A1 : Option Addr) (n1 c1 : Nat) (z1 : List Int) (w : World) (ht : Tab w) (he : Err w) (hx : Mx w) (h1 : U8s w A1 n1 c1 z1) :
    Calls Tryd.prog 12 #[.slice A1 n1 c1] w fun r w' => r = .returned (.bool true) ∧ Below w.heap.size w w' := by
  have m1 : n1 ≤ maxLen := Nat.le_trans h1.1 h1.2.1
  have H1 := hide h1
  have HT := hide ht
  have HE := hide he
  have HX := hide hx
  clear h1 ht he hx
  unfold maxLen at m1
  by_cases g1 : (1048576 : Int) < (n1 : Int)
  · go_enter Tryd.func12, Tryd.ntmps12
    go_wp2_with fail
    go_ret
    exact ⟨rfl, Below.refl _ _⟩
  · go_enter Tryd.func12, Tryd.ntmps12
    go_wp2_with fail
    refine (drawFanPut_any _ _ _ _ _ H1.out).mono ?_; rintro r w1 ⟨v1, ps, rfl, ho, hl6, hb1⟩
    obtain ⟨A, c, rfl⟩ := own_shape ho
    have B0 := hide hb1
    have R0 := hide (own_rdP ho)
    clear hb1 ho
    have nm : Hid (ps.length ≤ maxLen) := hide (by unfold maxLen; omega)
    have HI := hide (fun w ht h => implFanPut_any A ps.length c ps w ht h nm.out)
    have HS := hide (fun w h => specFanPut_any A ps.length c ps w h nm.out)
    have hsz := fanT_size ps
    have HG := hide (show fanB ps = true → getF (fanT ps).data.toList = some ps from fun h => getF_put h)
    obtain ⟨T, hT⟩ : ∃ T, T = fanT ps := ⟨_, rfl⟩
    obtain ⟨n, hn⟩ : ∃ n, n = ps.length := ⟨_, rfl⟩
    have HN := hide hn
    rw [← hT] at HI HS hsz HG
    rw [← hn] at HI HS R0 nm hl6
    rw [← hn]
    have hss := beqT_eq (rfl : T = T)
    clear hT hn
    cases hv : fanB ps
    · rw [hv] at HI HS
      clear hv
      go_wp2_with fail
      refine (HI.out _ (HT.out.after B0.out) R0.out).mono ?_; rintro r w2 ⟨rfl, hb⟩
      have R0 := hide (R0.out.after hb)
      have B0 := hide (B0.out.trans (hb.mono B0.out.size))
      clear hb
      go_wp2_with fail
      refine (HS.out _ R0.out).mono ?_; rintro r w3 ⟨rfl, hb⟩
      go_wp2_with fail
      go_ret
      exact ⟨rfl, B0.out.trans (hb.mono B0.out.size)⟩
    · rw [hv] at HI HS
      have HY := hide (f_of (HG.out hv))
      have HP := hide (fun w ht he hx => getFR_v HY.out.1 HY.out.2 (implFanGet_any T w (by omega) ht he hx))
      rw [← HN.out] at HP
      clear hv
      go_wp2_with fail
      refine (HI.out _ (HT.out.after B0.out) R0.out).mono ?_; rintro r w2 ⟨rfl, hb⟩
      have R0 := hide (R0.out.after hb)
      have B0 := hide (B0.out.trans (hb.mono B0.out.size))
      clear hb
      go_wp2_with fail
      refine (HS.out _ R0.out).mono ?_; rintro r w3 ⟨rfl, hb⟩
      have R0 := hide (R0.out.after hb)
      have B0 := hide (B0.out.trans (hb.mono B0.out.size))
      clear hb
      go_wp2_with fail
      refine (HP.out _ (HT.out.after B0.out) (HE.out.after B0.out) (HX.out.after B0.out)).mono ?_; rintro r w4 ⟨A4, c4, rfl, hr, hb⟩
      have R4 := hide hr
      have R0 := hide (R0.out.after hb)
      have B0 := hide (B0.out.trans (hb.mono B0.out.size))
      clear hb hr
      have hle : decide ((T.size : Int) ≤ 128) = true := decide_eq_true (by omega)
      go_wp2_with fail
      refine (pfPtrs_same _ _ _ _ _ _ _ R4.out R0.out nm.out).mono ?_; rintro r w5 ⟨rfl, hb⟩
      go_wp2_with fail
      go_ret
      exact ⟨ret_bool (by simp), B0.out.trans (hb.mono B0.out.size)⟩
set_option maxHeartbeats 4000000 in
theorem fnFanGet_walk (A1 : Option Addr) (n1 c1 : Nat) (z1 : List Int) (w : World) (ht : Tab w) (he : Err w) (hx : Mx w) (h1 : U8s w A1 n1 c1 z1) :
    Calls Tryd.prog 13 #[.slice A1 n1 c1] w fun r w' => r = .returned (.bool true) ∧ Below w.heap.size w w' := by
  have m1 : n1 ≤ maxLen := Nat.le_trans h1.1 h1.2.1
  have H1 := hide h1
  have HT := hide ht
  have HE := hide he
  have HX := hide hx
  clear h1 ht he hx
  unfold maxLen at m1
  by_cases g1 : (1048576 : Int) < (n1 : Int)
  · go_enter Tryd.func13, Tryd.ntmps13
    go_wp2_with fail
    go_ret
    exact ⟨rfl, Below.refl _ _⟩
  · go_enter Tryd.func13, Tryd.ntmps13
    go_wp2_with fail
    refine (drawFanGet_any _ _ _ _ _ H1.out).mono ?_; rintro r w1 ⟨s, rfl, hs, hb1⟩
    have B0 := hide hb1
    clear hb1
    have hl4 := fP_len' s.data.toList
    obtain ⟨ps, hps⟩ : ∃ ps, fP s.data.toList = ps := ⟨_, rfl⟩
    obtain ⟨v, hv⟩ : ∃ v, fB s.data.toList = v := ⟨_, rfl⟩
    have HS := hide (fun w => getFR_v hps hv (specFanGet_any s w (by omega)))
    have HI := hide (fun w ht he hx => getFR_v hps hv (implFanGet_any s w (by omega) ht he hx))
    have HQ := hide (show v = true → fanB ps = true ∧ fanT ps = s from fun h => by
      obtain ⟨h1, h2⟩ := getF_some (f_some (hv.trans h))
      rw [hps] at h1 h2
      refine ⟨h1, ?_⟩
      unfold fanT
      rw [h2])
    have nm : Hid (ps.length ≤ maxLen) := hide (by unfold maxLen; rw [hps] at hl4; omega)
    have hvv : (v == v) = true := beq_self_eq_true v
    have hss := beqT_eq (rfl : s = s)
    clear hps hv hl4
    go_wp2_with fail
    refine (HI.out _ (HT.out.after B0.out) (HE.out.after B0.out) (HX.out.after B0.out)).mono ?_; rintro r w2 ⟨A2, c2, rfl, hr, hb⟩
    have R2 := hide hr
    have B0 := hide (B0.out.trans (hb.mono B0.out.size))
    clear hb hr
    go_wp2_with fail
    refine (HS.out _).mono ?_; rintro r w3 ⟨A3, c3, rfl, hr, hb⟩
    have R3 := hide hr
    have R2 := hide (R2.out.after hb)
    have B0 := hide (B0.out.trans (hb.mono B0.out.size))
    clear hb hr
    go_wp2_with fail
    refine (pfPtrs_same _ _ _ _ _ _ _ R2.out R3.out nm.out).mono ?_; rintro r w4 ⟨rfl, hb⟩
    have R2 := hide (R2.out.after hb)
    have B0 := hide (B0.out.trans (hb.mono B0.out.size))
    clear hb
    cases v
    · go_wp2_with fail
      go_ret
      exact ⟨rfl, B0.out⟩
    · obtain ⟨hfb, hft⟩ := HQ.out rfl
      have HP := hide (fun w ht h => implFanPut_any A2 ps.length c2 ps w ht h nm.out)
      rw [hfb, hft] at HP
      clear hfb hft
      go_wp2_with fail
      refine (HP.out _ (HT.out.after B0.out) R2.out).mono ?_; rintro r w5 ⟨rfl, hb⟩
      go_wp2_with fail
      go_ret
      exact ⟨ret_bool (by simp), B0.out.trans (hb.mono B0.out.size)⟩
end Go.Proofs.YtmhbpmacfekhgaaDoor
