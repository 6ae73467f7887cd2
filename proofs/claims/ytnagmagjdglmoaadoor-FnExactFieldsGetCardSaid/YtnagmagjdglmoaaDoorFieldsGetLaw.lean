/- The law FnExactFieldsGet, walked. -/
import Derived.Test.YtnagmagjdglmoaaDoorFieldsGetS
import Derived.Test.YtnagmagjdglmoaaDoorMark
import Derived.Test.YtnagmagjdglmoaaDoorOpen
namespace Go.Proofs.YtnagmagjdglmoaaDoor
open Go.RowKit
set_option linter.unusedVariables false

/-- marking a row of the call's own -/
theorem mark_own {w : World} {base n c : Nat} {A : Option Addr} {xs : List Value} {i j : Int} (k0 : Nat) (hi : i = (k0 : Int)) (hj : j = i + n) (h : w.ownsRow base 9 1 (.slice A n c) n xs) (hbw : base ≤ w.heap.size) (hm : n ≤ 1000000000) (h1 : k0 ≤ 1000000000) :
    Calls Tryd.prog 26 #[.slice A n c, .int .i64 i] w fun r w' => r = .returned (.int .i64 j) ∧ Rd w' 1 A n (marksT k0 n) ∧ Below base w w' := by
  rcases h.2 with ⟨e, rfl⟩ | ⟨g, cap, cur, e, hb, hg, hnc, _, hsz, htk⟩
  · refine (markStringS_nil A c i w).mono ?_
    rintro r w' ⟨rfl, rfl⟩
    refine ⟨by rw [hj]; simp, ?_, Below.refl _ _⟩
    exact Rd.nil _ _ _
  · injection e with e1 e2 e3
    subst e1
    refine (markStringS_at (cs := cur) k0 hi hj w hg (by omega) hm h1).mono ?_
    rintro r w' ⟨rfl, ⟨cs', hk, hsz', hcs⟩, hf⟩
    exact ⟨rfl, marksT_rd hk hcs, hf.below hbw (fun i e => by rw [e]; exact hb)⟩

set_option maxHeartbeats 2000000 in
theorem fieldsGetLaw (s : ByteArray) (h0 : s.size ≤ maxLen) (W : World) (ht : Tab W) (he : Err W) (hx : Mx W) :
    Calls Tryd.prog 8 #[.string s] W fun r w' => r = .returned (.bool true) ∧ Below W.heap.size W w' := by
  unfold maxLen at h0
  have HT := hide ht
  have HE := hide he
  have HX := hide hx
  clear ht he hx
  by_cases hs : s.size ≤ 1048576
  · have HS := hide (specFieldsGet_any s)
    have HI := hide (implFieldsGet_any s)
    have hl60 : (getL s.data.toList).length ≤ 60 := get_len
    obtain ⟨zs, hzs⟩ : ∃ zs, getL s.data.toList = zs := ⟨_, rfl⟩
    obtain ⟨v, hv⟩ : ∃ v, getB s.data.toList = v := ⟨_, rfl⟩
    unfold GetR at HS HI
    rw [hzs, hv] at HS HI
    rw [hzs] at hl60
    clear hzs hv
    obtain ⟨n, hn⟩ : ∃ n, zs.length = n := ⟨_, rfl⟩
    rw [hn] at HS HI hl60
    have hvv : (v != v) = false := by cases v <;> rfl
    have nm : Hid (n ≤ maxLen) := hide (by unfold maxLen; omega)
    clear hn
    go_enter Tryd.func8, Tryd.ntmps8
    go_wp2_with fail
    refine (HS.out _ hs).mono ?_; rintro r w1 ⟨v1, rfl, ho1, hb1⟩
    obtain ⟨A1, c1, rfl⟩ := own_shape ho1
    have R1 := hide (own_rds ho1)
    have HB := hide hb1
    clear ho1 hb1
    go_wp2_with fail
    refine (HI.out _ hs (HT.out.after HB.out) (HE.out.after HB.out) (HX.out.after HB.out)).mono ?_; rintro r w2 ⟨v2, rfl, ho2, hb2⟩
    obtain ⟨A2, c2, rfl⟩ := own_shape ho2
    have HO2 := hide ho2
    have HC := hide hb2
    clear ho2 hb2
    go_wp2_with fail
    refine (eqStringS_v (eqT_same zs) _ (own_rds HO2.out) (R1.out.after HC.out) nm.out).mono ?_; rintro r w3 ⟨rfl, hb3⟩
    have HO3 := hide (own_bel HO2.out hb3)
    have HC := hide (HC.out.trans (hb3.mono HC.out.size))
    clear hb3
    go_wp2_with fail
    refine (mark_own (j := 1 + (n : Int)) 1 rfl rfl HO3.out HC.out.size (by omega) (by omega)).mono ?_; rintro r w4 ⟨rfl, hr4, hb4⟩
    have M4 := hide hr4
    have HC := hide (HC.out.trans hb4)
    clear hr4 hb4
    go_wp2_with fail
    refine (heldStringS_at (j := 1 + (n : Int)) 1 rfl rfl _ M4.out (by omega) (by omega)).mono ?_; rintro r w5 ⟨rfl, hb5⟩
    have M5 := hide (M4.out.after hb5)
    have HC := hide (HC.out.trans (hb5.mono HC.out.size))
    clear hb5
    go_wp2_with fail
    have HB5 := hide (HB.out.trans (HC.out.mono HB.out.size))
    refine (HI.out _ hs (HT.out.after HB5.out) (HE.out.after HB5.out) (HX.out.after HB5.out)).mono ?_; rintro r w6 ⟨v6, rfl, ho6, hb6⟩
    obtain ⟨A6, c6, rfl⟩ := own_shape ho6
    have R6 := hide (own_rds ho6)
    have M6 := hide (M5.out.after hb6)
    have HC := hide (HC.out.trans (hb6.mono HC.out.size))
    clear ho6 hb6
    go_wp2_with fail
    refine (eqStringS_v (eqT_same zs) _ R6.out (R1.out.after HC.out) nm.out).mono ?_; rintro r w7 ⟨rfl, hb7⟩
    have M7 := hide (M6.out.after hb7)
    have HC := hide (HC.out.trans (hb7.mono HC.out.size))
    clear hb7
    go_wp2_with fail
    refine (heldStringS_at (j := 1 + (n : Int)) 1 rfl rfl _ M7.out (by omega) (by omega)).mono ?_; rintro r w8 ⟨rfl, hb8⟩
    have HC := hide (HC.out.trans (hb8.mono HC.out.size))
    clear hb8
    have HB8 := hide (HB.out.trans (HC.out.mono HB.out.size))
    go_wp2_with fail
    go_ret
    exact ⟨rfl, HB8.out⟩
  · go_enter Tryd.func8, Tryd.ntmps8
    go_wp2_with fail
    go_ret
    exact ⟨rfl, Below.refl _ _⟩
end Go.Proofs.YtnagmagjdglmoaaDoor
