/- The laws FnExactPtrGet, FnPtrPut and FnPtrGet, walked. -/
import Derived.Test.YtmhbpmacfekhgaaDoorPtrGetS
import Derived.Test.YtmhbpmacfekhgaaDoorPtrPutLaw
import Derived.Test.YtmhbpmacfekhgaaDoorSpoil
namespace Go.Proofs.YtmhbpmacfekhgaaDoor
open Go.RowKit
set_option linter.unusedVariables false

theorem q_some {l : List UInt8} {p : P5} (hp : qP l = p) (hv : qB l = true) : getQ l = some p := by
  unfold qP at hp
  unfold qB at hv
  cases h : getQ l with
  | none => rw [h] at hv; cases hv
  | some q => rw [h] at hp; exact congrArg some hp
theorem q_of {l : List UInt8} {p : P5} (h : getQ l = some p) : qP l = p ∧ qB l = true := by
  unfold qP qB
  rw [h]
  exact ⟨rfl, rfl⟩
/-- PtrGet's answer, spelled out -/
theorem getQR_v {P : Program} {f : FuncId} {args : Array Value} {l : List UInt8} {a b c d e : Int} {v : Bool} {w : World} (hp : qP l = (a, b, c, d, e)) (hv : qB l = v) (h : Calls P f args w (GetQR l w)) :
    Calls P f args w fun r w' => r = .returned (.tuple #[.agg #[.int .i64 a, .int .i64 b, .int .i64 c, .int .i64 d, .int .i64 e], .bool v]) ∧ Below w.heap.size w w' := by
  unfold GetQR at h
  rw [hp, hv] at h
  exact h
theorem ptrT_of {s : ByteArray} {a b c d e : Int} (h : getQ s.data.toList = some (a, b, c, d, e)) : okB a b c d e = true ∧ ptrT a b c d e = s := by
  obtain ⟨h1, h2⟩ := getQ_some h
  refine ⟨h1, ?_⟩
  unfold ptrT
  rw [h2]

set_option maxHeartbeats 2000000 in
theorem fnExactPtrGet_walk (s : ByteArray) (h0 : s.size ≤ maxLen) (w : World) (ht : Tab w) (he : Err w) (hx : Mx w) :
    Calls Tryd.prog 4 #[.string s] w fun r w' => r = .returned (.bool true) ∧ Below w.heap.size w w' := by
  unfold maxLen at h0
  have HT := hide ht
  have HE := hide he
  have HX := hide hx
  clear ht he hx
  by_cases hs : s.size ≤ 1048576
  · obtain ⟨⟨a, b, c, d, e⟩, hp⟩ : ∃ p, qP s.data.toList = p := ⟨_, rfl⟩
    obtain ⟨v, hv⟩ : ∃ v, qB s.data.toList = v := ⟨_, rfl⟩
    have HS := hide (fun w => getQR_v hp hv (specPtrGet_any s w hs))
    have HI := hide (fun w ht he hx => getQR_v hp hv (implPtrGet_any s w hs ht he hx))
    have hvv : (v != v) = false := by cases v <;> rfl
    clear hp hv
    go_enter Tryd.func4, Tryd.ntmps4
    go_wp2_with fail
    refine (HS.out _).mono ?_; rintro r w1 ⟨rfl, hb⟩
    have K0 := hide (Bk.fresh w1 25 #[.int .i64 a, .int .i64 b, .int .i64 c, .int .i64 d, .int .i64 e])
    have B0 := hide (hb.alloc hb.size (.cells #[.int .i64 a, .int .i64 b, .int .i64 c, .int .i64 d, .int .i64 e] 25))
    clear hb
    go_wp2_with fail
    refine (HI.out _ (HT.out.after B0.out) (HE.out.after B0.out) (HX.out.after B0.out)).mono ?_; rintro r w2 ⟨rfl, hb⟩
    have K0 := hide ((K0.out.after hb).alloc (.cells #[.int .i64 a, .int .i64 b, .int .i64 c, .int .i64 d, .int .i64 e] 25))
    have B0 := hide ((B0.out.trans (hb.mono B0.out.size)).alloc (B0.out.trans (hb.mono B0.out.size)).size (.cells #[.int .i64 a, .int .i64 b, .int .i64 c, .int .i64 d, .int .i64 e] 25))
    clear hb
    obtain ⟨q0, q1, q2, q3, q4⟩ := K0.out.c5
    go_wp2_with fail
    refine (eqPtr_same _ _ _ _ _ _).mono ?_; rintro r w3 ⟨rfl, hb⟩
    go_wp2_with fail
    go_ret
    exact ⟨rfl, B0.out.trans (hb.mono B0.out.size)⟩
  · go_enter Tryd.func4, Tryd.ntmps4
    go_wp2_with fail
    go_ret
    exact ⟨rfl, Below.refl _ _⟩
theorem ptrT_size (a b c d e : Int) : (ptrT a b c d e).size ≤ 21 := by
  show (ptrL a b c d e).toArray.size ≤ 21
  rw [List.size_toArray]
  exact ptrL_len
set_option maxHeartbeats 4000000 in
theorem fnPtrPut_walk (A1 : Option Addr) (n1 c1 : Nat) (z1 : List Int) (w : World) (ht : Tab w) (he : Err w) (hx : Mx w) (h1 : U8s w A1 n1 c1 z1) :
    Calls Tryd.prog 5 #[.slice A1 n1 c1] w fun r w' => r = .returned (.bool true) ∧ Below w.heap.size w w' := by
  have m1 : n1 ≤ maxLen := Nat.le_trans h1.1 h1.2.1
  have H1 := hide h1
  have HT := hide ht
  have HE := hide he
  have HX := hide hx
  clear h1 ht he hx
  unfold maxLen at m1
  by_cases g1 : (1048576 : Int) < (n1 : Int)
  · go_enter Tryd.func5, Tryd.ntmps5
    go_wp2_with fail
    go_ret
    exact ⟨rfl, Below.refl _ _⟩
  · go_enter Tryd.func5, Tryd.ntmps5
    go_wp2_with fail
    refine (drawPtrPut_any _ _ _ _ _ H1.out).mono ?_; rintro r w1 ⟨a, b, c, d, e, rfl, hb1⟩
    have K0 := hide (Bk.fresh w1 25 #[.int .i64 a, .int .i64 b, .int .i64 c, .int .i64 d, .int .i64 e])
    have B0 := hide (hb1.alloc hb1.size (.cells #[.int .i64 a, .int .i64 b, .int .i64 c, .int .i64 d, .int .i64 e] 25))
    clear hb1
    have HI := hide (implPtrPut_any a b c d e)
    have HS := hide (specPtrPut_any a b c d e)
    have hq := ptrT_ne a b c d e
    have hsz := ptrT_size a b c d e
    have HG := hide (show okB a b c d e = true → getQ (ptrT a b c d e).data.toList = some (a, b, c, d, e) from fun h => getQ_put h)
    obtain ⟨T, hT⟩ : ∃ T, T = ptrT a b c d e := ⟨_, rfl⟩
    rw [← hT] at HI HS hq HG hsz
    have hss := beqT_same T
    clear hT
    cases hv : okB a b c d e
    · rw [hv] at hq
      have hq : T.toList.isEmpty = true := hq
      clear hv
      go_wp2_with fail
      refine (HI.out _ (HT.out.after B0.out)).mono ?_; rintro r w2 ⟨rfl, hb⟩
      have K0 := hide (K0.out.after hb)
      have B0 := hide (B0.out.trans (hb.mono B0.out.size))
      clear hb
      obtain ⟨q0, q1, q2, q3, q4⟩ := K0.out.c5
      go_wp2_with fail
      refine (HS.out _).mono ?_; rintro r w3 ⟨rfl, hb⟩
      go_wp2_with fail
      go_ret
      exact ⟨rfl, B0.out.trans (hb.mono B0.out.size)⟩
    · rw [hv] at hq
      have hq : T.toList.isEmpty = false := hq
      have HY := hide (q_of (HG.out hv))
      have HP := hide (fun w ht he hx => getQR_v HY.out.1 HY.out.2 (implPtrGet_any T w (by omega) ht he hx))
      clear hv
      go_wp2_with fail
      refine (HI.out _ (HT.out.after B0.out)).mono ?_; rintro r w2 ⟨rfl, hb⟩
      have K0 := hide (K0.out.after hb)
      have B0 := hide (B0.out.trans (hb.mono B0.out.size))
      clear hb
      obtain ⟨q0, q1, q2, q3, q4⟩ := K0.out.c5
      go_wp2_with fail
      refine (HS.out _).mono ?_; rintro r w3 ⟨rfl, hb⟩
      have K0 := hide (K0.out.after hb)
      have B0 := hide (B0.out.trans (hb.mono B0.out.size))
      clear hb q0 q1 q2 q3 q4
      go_wp2_with fail
      refine (HP.out _ (HT.out.after B0.out) (HE.out.after B0.out) (HX.out.after B0.out)).mono ?_; rintro r w4 ⟨rfl, hb⟩
      have K0 := hide ((K0.out.after hb).alloc (.cells #[.int .i64 a, .int .i64 b, .int .i64 c, .int .i64 d, .int .i64 e] 25))
      have B0 := hide ((B0.out.trans (hb.mono B0.out.size)).alloc (B0.out.trans (hb.mono B0.out.size)).size (.cells #[.int .i64 a, .int .i64 b, .int .i64 c, .int .i64 d, .int .i64 e] 25))
      clear hb
      obtain ⟨q0, q1, q2, q3, q4⟩ := K0.out.c5
      go_wp2_with fail
      go_ret
      exact ⟨ret_bool (by simp), B0.out⟩
set_option maxHeartbeats 2000000 in
theorem drawPtrGet_any (A : Option Addr) (n c : Nat) (zs : List Int) (w : World) (h : U8s w A n c zs) :
    Calls Tryd.prog 21 #[.slice A n c] w (DrawnS 64 w) := by
  go_enter Tryd.func21, Tryd.ntmps21
  go_wp2_with fail
  refine (l6Open_any _ _ _ _ _ h).mono ?_; rintro r w1 ⟨rfl, hr, hb⟩
  obtain ⟨R, hR⟩ : ∃ R, R = w.heap.size := ⟨_, rfl⟩
  rw [← hR] at hr
  rw [← hR]
  have HR := hide hr
  have HB := hide hb
  have hR' := hide hR
  clear hr hb hR h
  go_wp2_with fail
  refine (l91Ptr_any R 0 _ HR.out (by omega)).mono ?_; rintro r w2 ⟨a, b, c', d, e, q, rfl, hq, hr, hf⟩
  have HR := hide hr
  have HB := hide (fr_new HB.out (Nat.le_of_eq hR'.out.symm) hf)
  clear hr hf
  have HS := hide (specPtrPut_any a b c' d e)
  have hsz := ptrT_size a b c' d e
  obtain ⟨T, hT⟩ : ∃ T, T = ptrT a b c' d e := ⟨_, rfl⟩
  rw [← hT] at HS hsz
  clear hT
  go_wp2_with fail
  refine (HS.out _).mono ?_; rintro r w3 ⟨rfl, hb⟩
  have HR := hide (HR.out.after hb)
  have HB := hide (HB.out.trans (hb.mono HB.out.size))
  clear hb
  go_wp2_with fail
  refine (pick_any R q 3 _ HR.out (by omega) (by omega) (by omega)).mono ?_; rintro r w5 ⟨v, rfl, v0, v1, _, hr, hf⟩
  have HR := hide hr
  have HB := hide (fr_new HB.out (Nat.le_of_eq hR'.out.symm) hf)
  clear hr hf v1
  by_cases e0 : v = 0
  · subst e0
    go_wp2_with fail
    refine (l91Spoil_any R _ T (by omega) _ HR.out (by omega)).mono ?_; rintro r w6 ⟨u, q2, rfl, hl2, _, _, hf⟩
    have HB := hide (fr_new HB.out (Nat.le_of_eq hR'.out.symm) hf)
    go_wp2_with fail
    go_ret
    exact ⟨_, rfl, by omega, HB.out⟩
  · have z0 : (v == 0) = false := by rw [beq_eq_false_iff_ne]; exact e0
    go_wp2_with fail
    go_ret
    exact ⟨_, rfl, by omega, HB.out⟩
set_option maxHeartbeats 4000000 in
theorem fnPtrGet_walk (A1 : Option Addr) (n1 c1 : Nat) (z1 : List Int) (w : World) (ht : Tab w) (he : Err w) (hx : Mx w) (h1 : U8s w A1 n1 c1 z1) :
    Calls Tryd.prog 6 #[.slice A1 n1 c1] w fun r w' => r = .returned (.bool true) ∧ Below w.heap.size w w' := by
  have m1 : n1 ≤ maxLen := Nat.le_trans h1.1 h1.2.1
  have H1 := hide h1
  have HT := hide ht
  have HE := hide he
  have HX := hide hx
  clear h1 ht he hx
  unfold maxLen at m1
  by_cases g1 : (1048576 : Int) < (n1 : Int)
  · go_enter Tryd.func6, Tryd.ntmps6
    go_wp2_with fail
    go_ret
    exact ⟨rfl, Below.refl _ _⟩
  · go_enter Tryd.func6, Tryd.ntmps6
    go_wp2_with fail
    refine (drawPtrGet_any _ _ _ _ _ H1.out).mono ?_; rintro r w1 ⟨s, rfl, hs, hb1⟩
    have B0 := hide hb1
    clear hb1
    obtain ⟨⟨a, b, c, d, e⟩, hp⟩ : ∃ p, qP s.data.toList = p := ⟨_, rfl⟩
    obtain ⟨v, hv⟩ : ∃ v, qB s.data.toList = v := ⟨_, rfl⟩
    have HS := hide (fun w => getQR_v hp hv (specPtrGet_any s w (by omega)))
    have HI := hide (fun w ht he hx => getQR_v hp hv (implPtrGet_any s w (by omega) ht he hx))
    have HP := hide (implPtrPut_any a b c d e)
    have HQ := hide (show v = true → okB a b c d e = true ∧ ptrT a b c d e = s from fun h => ptrT_of (q_some hp (hv.trans h)))
    have hvv : (v == v) = true := beq_self_eq_true v
    have hss := beqT_same s
    clear hp hv
    go_wp2_with fail
    refine (HI.out _ (HT.out.after B0.out) (HE.out.after B0.out) (HX.out.after B0.out)).mono ?_; rintro r w2 ⟨rfl, hb⟩
    have K0 := hide (Bk.fresh w2 25 #[.int .i64 a, .int .i64 b, .int .i64 c, .int .i64 d, .int .i64 e])
    have B0 := hide ((B0.out.trans (hb.mono B0.out.size)).alloc (B0.out.trans (hb.mono B0.out.size)).size (.cells #[.int .i64 a, .int .i64 b, .int .i64 c, .int .i64 d, .int .i64 e] 25))
    clear hb
    go_wp2_with fail
    refine (HS.out _).mono ?_; rintro r w3 ⟨rfl, hb⟩
    have K0 := hide ((K0.out.after hb).alloc (.cells #[.int .i64 a, .int .i64 b, .int .i64 c, .int .i64 d, .int .i64 e] 25))
    have B0 := hide ((B0.out.trans (hb.mono B0.out.size)).alloc (B0.out.trans (hb.mono B0.out.size)).size (.cells #[.int .i64 a, .int .i64 b, .int .i64 c, .int .i64 d, .int .i64 e] 25))
    clear hb
    obtain ⟨q0, q1, q2, q3, q4⟩ := K0.out.c5
    cases v
    · go_wp2_with fail
      go_ret
      exact ⟨ret_bool (by simp), B0.out⟩
    · obtain ⟨hok, hpt⟩ := HQ.out rfl
      rw [hpt] at HP
      have HK := hide hok
      clear hok hpt
      go_wp2_with fail
      refine (HP.out _ (HT.out.after B0.out)).mono ?_; rintro r w4 ⟨rfl, hb⟩
      have K0 := hide (K0.out.after hb)
      have B0 := hide (B0.out.trans (hb.mono B0.out.size))
      clear hb q0 q1 q2 q3 q4
      obtain ⟨q0, q1, q2, q3, q4⟩ := K0.out.c5
      go_wp2_with fail
      refine (implPtrOk_v HK.out _).mono ?_; rintro r w5 ⟨rfl, hb⟩
      go_wp2_with fail
      go_ret
      exact ⟨rfl, B0.out.trans (hb.mono B0.out.size)⟩
end Go.Proofs.YtmhbpmacfekhgaaDoor
