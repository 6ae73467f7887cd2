/- The laws FnFieldsPut, FnFieldsGet, FnFieldsJoin and FnFieldsApart, walked. -/
import Derived.Test.YtnagmagjdglmoaaDoorFieldsDraw
import Derived.Test.YtnagmagjdglmoaaDoorPfTexts
namespace Go.Proofs.YtnagmagjdglmoaaDoor
open Go.RowKit
set_option linter.unusedVariables false

theorem put_get {zs : List ByteArray} (h : putB zs = true) : (putT zs).data.toList = recOf zs ∧ (putT zs).size ≤ 2048 ∧ getB (putT zs).data.toList = true ∧ getL (putT zs).data.toList = zs := by
  simp only [putB, Bool.and_eq_true, decide_eq_true_eq] at h
  have e := (put_yes h.1 h.2).1
  have e2 : (putT zs).data.toList = recOf zs := by rw [e]
  refine ⟨e2, by rw [e, bsz]; exact h.2, ?_⟩
  rw [e2]
  exact get_yes h.2 h.1 rfl
theorem get_put {s : ByteArray} (h : getB s.data.toList = true) : putT (getL s.data.toList) = s ∧ putB (getL s.data.toList) = true := by
  obtain ⟨h1, h2, h3⟩ := get_of h
  obtain ⟨e1, e2⟩ := put_yes (zs := getL s.data.toList) h2 (by rw [h3]; exact h1)
  rw [e1, e2, h3]
  exact ⟨ba_self s, rfl⟩

set_option maxHeartbeats 2000000 in
theorem fnFieldsPut_walk (A1 : Option Addr) (n1 c1 : Nat) (z1 : List Int) (w : World) (ht : Tab w) (he : Err w) (hx : Mx w) (h1 : U8s w A1 n1 c1 z1) :
    Calls Tryd.prog 9 #[.slice A1 n1 c1] w fun r w' => r = .returned (.bool true) ∧ Below w.heap.size w w' := by
  have m1 : n1 ≤ maxLen := Nat.le_trans h1.1 h1.2.1
  have H1 := hide h1
  have HT := hide ht
  have HE := hide he
  have HX := hide hx
  clear h1 ht he hx
  unfold maxLen at m1
  by_cases g1 : (1048576 : Int) < (n1 : Int)
  · go_enter Tryd.func9, Tryd.ntmps9
    go_wp2_with fail
    go_ret
    exact ⟨rfl, Below.refl _ _⟩
  · go_enter Tryd.func9, Tryd.ntmps9
    go_wp2_with fail
    refine (drawFieldsPut_any _ _ _ _ _ H1.out).mono ?_; rintro r w1 ⟨v1, zs, rfl, _, ho1, hzl, hzs, hb1⟩
    obtain ⟨A, c, rfl⟩ := own_shape ho1
    have R1 := hide (own_rds ho1)
    have HB := hide hb1
    have HZS : Hid (∀ z ∈ zs, z.size ≤ 1048576) := hide (fun z hz => Nat.le_trans (hzs z hz) (by decide))
    have HI := hide (fun w ht h => implFieldsPut_any A zs.length c zs w ht h (by omega) HZS.out)
    have HS := hide (fun w h => specFieldsPut_any A zs.length c zs w h (by omega) HZS.out)
    have HG := hide (put_get (zs := zs))
    obtain ⟨T, hT⟩ : ∃ T, putT zs = T := ⟨_, rfl⟩
    obtain ⟨v, hv⟩ : ∃ v, putB zs = v := ⟨_, rfl⟩
    rw [hT, hv] at HI HS HG
    have hss := beqT_eq (rfl : T = T)
    have hvv : (v == v) = true := by cases v <;> rfl
    have nm : Hid (zs.length ≤ maxLen) := hide (by unfold maxLen; omega)
    clear ho1 hb1 hT hv hzs
    go_wp2_with fail
    refine (HI.out _ (HT.out.after HB.out) R1.out).mono ?_; rintro r w2 ⟨rfl, hb2⟩
    have R1 := hide (R1.out.after hb2)
    have HB := hide (HB.out.trans (hb2.mono HB.out.size))
    clear hb2
    go_wp2_with fail
    refine (HS.out _ R1.out).mono ?_; rintro r w3 ⟨rfl, hb3⟩
    have R1 := hide (R1.out.after hb3)
    have HB := hide (HB.out.trans (hb3.mono HB.out.size))
    clear hb3
    cases v
    · go_wp2_with fail
      go_ret
      exact ⟨rfl, HB.out⟩
    · obtain ⟨k1, k2, k3, k4⟩ := HG.out rfl
      have HF := hide (fun w => implFieldsGet_any T w (by omega))
      unfold GetR at HF
      rw [k3, k4] at HF
      have hle : decide ((T.size : Int) ≤ 2048) = true := decide_eq_true (by omega)
      clear k1 k3 k4
      go_wp2_with fail
      refine (HF.out _ (HT.out.after HB.out) (HE.out.after HB.out) (HX.out.after HB.out)).mono ?_; rintro r w4 ⟨v4, rfl, ho4, hb4⟩
      obtain ⟨A4, c4, rfl⟩ := own_shape ho4
      have R4 := hide (own_rds ho4)
      have R1 := hide (R1.out.after hb4)
      have HB := hide (HB.out.trans (hb4.mono HB.out.size))
      clear ho4 hb4
      go_wp2_with fail
      refine (pfTexts_v (eqT_same zs) _ R4.out R1.out nm.out).mono ?_; rintro r w5 ⟨rfl, hb5⟩
      have HB := hide (HB.out.trans (hb5.mono HB.out.size))
      clear hb5
      go_wp2_with fail
      go_ret
      exact ⟨rfl, HB.out⟩

theorem three_own {w : World} {x y z : ByteArray} : Rd (w.alloc (.cells #[.string x, .string y, .string z] 9)) 1 (some ⟨w.heap.size, 0, none⟩) 3 ([x, y, z].map Value.string) := Bk.rdT (zs := [x, y, z]) (Bk.fresh w 9 _)
set_option maxHeartbeats 2000000 in
theorem drawFieldsGet_any (A : Option Addr) (n c : Nat) (zs : List Int) (w : World) (h : U8s w A n c zs) :
    Calls Tryd.prog 30 #[.slice A n c] w (DrawnS 4096 w) := by
  go_enter Tryd.func30, Tryd.ntmps30
  go_wp2_with fail
  refine (l6Open_any _ _ _ _ _ h).mono ?_; rintro r w1 ⟨rfl, hr, hb⟩
  obtain ⟨R, hR⟩ : ∃ R, R = w.heap.size := ⟨_, rfl⟩
  rw [← hR] at hr
  rw [← hR]
  have HR := hide hr
  have HB := hide hb
  have hR' := hide hR
  clear hr hb hR h
  go_wp2_with fail
  refine (l91Text_any R 0 9 _ HR.out (by omega) (by decide)).mono ?_; rintro r w2 ⟨o1, q1, rfl, l1, hq1, hr, hf⟩
  have HR := hide hr
  have HB := hide (fr_new HB.out (Nat.le_of_eq hR'.out.symm) hf)
  clear hr hf
  obtain ⟨x, hx⟩ : ∃ x : ByteArray, x = ⟨o1.toArray⟩ := ⟨_, rfl⟩
  have hxs : x.size ≤ 14 := by rw [hx, bsz]; omega
  rw [← hx]
  clear hx
  go_wp2_with fail
  refine (l91Text_any R q1 3 _ HR.out (by omega) (by decide)).mono ?_; rintro r w3 ⟨o2, q2, rfl, l2, hq2, hr, hf⟩
  have HR := hide hr
  have HB := hide (fr_new HB.out (Nat.le_of_eq hR'.out.symm) hf)
  clear hr hf
  obtain ⟨y, hy⟩ : ∃ x : ByteArray, x = ⟨o2.toArray⟩ := ⟨_, rfl⟩
  have hys : y.size ≤ 14 := by rw [hy, bsz]; omega
  rw [← hy]
  clear hy
  go_wp2_with fail
  refine (l91Text_any R q2 14 _ HR.out (by omega) (by decide)).mono ?_; rintro r w4 ⟨o3, q3, rfl, l3, hq3, hr, hf⟩
  obtain ⟨z, hz⟩ : ∃ x : ByteArray, x = ⟨o3.toArray⟩ := ⟨_, rfl⟩
  have hzs : z.size ≤ 14 := by rw [hz, bsz]; omega
  rw [← hz]
  clear hz
  have HB0 := hide (fr_new HB.out (Nat.le_of_eq hR'.out.symm) hf)
  have HR := hide (hr.after (bel1 w4 (.cells #[.string x, .string y, .string z] 9)))
  have HB := hide (HB0.out.alloc HB0.out.size (.cells #[.string x, .string y, .string z] 9))
  clear hr hf
  have HS := hide (specFieldsPut_any _ 3 3 [x, y, z] (w4.alloc (.cells #[.string x, .string y, .string z] 9)) three_own (by omega) (by intro u hu; simp only [List.mem_cons, List.not_mem_nil, or_false] at hu; rcases hu with rfl | rfl | rfl <;> omega))
  obtain ⟨T, hT⟩ : ∃ T, putT [x, y, z] = T := ⟨_, rfl⟩
  obtain ⟨v, hv⟩ : ∃ v, putB [x, y, z] = v := ⟨_, rfl⟩
  have hTs : T.size ≤ 200 := by
    rw [← hT]
    have hd : ∀ s : ByteArray, s.size ≤ 14 → (fld s).length ≤ 30 := by
      intro s hs
      have h1 := dec_len s.size
      have h2 : s.data.toList.length = s.size := by simp
      unfold fld
      rw [List.length_append, List.length_append, List.length_singleton, h2]
      omega
    have h1 := hd x hxs
    have h2 := hd y hys
    have h3 := hd z hzs
    have hl : (recOf [x, y, z]).length ≤ 90 := by
      rw [recOf_cons, recOf_cons, recOf_cons, List.length_append, List.length_append, List.length_append]
      simp only [recOf, List.flatMap_nil, List.length_nil]
      omega
    have := (put_yes (zs := [x, y, z]) (by simp) (by omega)).1
    rw [this, bsz]; omega
  rw [hT, hv] at HS
  clear hT hv
  go_wp2_with fail
  refine HS.out.mono ?_; rintro r w5 ⟨rfl, hb5⟩
  have HR := hide (HR.out.after hb5)
  have HB := hide (HB.out.trans (hb5.mono HB.out.size))
  clear hb5
  go_wp2_with fail
  refine (pick_any R q3 3 _ HR.out (by omega) (by omega) (by omega)).mono ?_; rintro r w6 ⟨a, rfl, _, _, _, hr, hf⟩
  have HR := hide hr
  have HB := hide (fr_new HB.out (Nat.le_of_eq hR'.out.symm) hf)
  clear hr hf
  by_cases e0 : a = 0
  · subst e0
    go_wp2_with fail
    refine (l91Spoil_any R (q3 + 1) T (by omega) _ HR.out (by omega)).mono ?_; rintro r w7 ⟨u, q4, rfl, hl2, _, _, hf⟩
    have HB := hide (fr_new HB.out (Nat.le_of_eq hR'.out.symm) hf)
    go_wp2_with fail
    go_ret
    exact ⟨_, rfl, by omega, HB.out⟩
  · have z0 : (a == 0) = false := by rw [beq_eq_false_iff_ne]; exact e0
    go_wp2_with fail
    go_ret
    exact ⟨_, rfl, by omega, HB.out⟩

set_option maxHeartbeats 2000000 in
theorem fnFieldsGet_walk (A1 : Option Addr) (n1 c1 : Nat) (z1 : List Int) (w : World) (ht : Tab w) (he : Err w) (hx : Mx w) (h1 : U8s w A1 n1 c1 z1) :
    Calls Tryd.prog 10 #[.slice A1 n1 c1] w fun r w' => r = .returned (.bool true) ∧ Below w.heap.size w w' := by
  have m1 : n1 ≤ maxLen := Nat.le_trans h1.1 h1.2.1
  have H1 := hide h1
  have HT := hide ht
  have HE := hide he
  have HX := hide hx
  clear h1 ht he hx
  unfold maxLen at m1
  by_cases g1 : (1048576 : Int) < (n1 : Int)
  · go_enter Tryd.func10, Tryd.ntmps10
    go_wp2_with fail
    go_ret
    exact ⟨rfl, Below.refl _ _⟩
  · go_enter Tryd.func10, Tryd.ntmps10
    go_wp2_with fail
    refine (drawFieldsGet_any _ _ _ _ _ H1.out).mono ?_; rintro r w1 ⟨s, rfl, hs, hb1⟩
    have HS := hide (fun w => specFieldsGet_any s w (by omega))
    have HI := hide (fun w => implFieldsGet_any s w (by omega))
    have HG := hide (get_put (s := s))
    have hl60 : (getL s.data.toList).length ≤ 60 := get_len
    have HCT : Hid (getB s.data.toList = true → ∀ z ∈ getL s.data.toList, z.size ≤ 1048576) := hide (by
      intro h z hz
      have h3 := get_of h
      have := rec_each hz
      rw [h3.2.2] at this
      have := h3.1
      omega)
    obtain ⟨zs, hzs⟩ : ∃ zs, getL s.data.toList = zs := ⟨_, rfl⟩
    obtain ⟨v, hv⟩ : ∃ v, getB s.data.toList = v := ⟨_, rfl⟩
    unfold GetR at HS HI
    rw [hzs, hv] at HS HI HG HCT
    rw [hzs] at hl60
    have hvv : (v == v) = true := by cases v <;> rfl
    have nm : Hid (zs.length ≤ maxLen) := hide (by unfold maxLen; omega)
    have HB := hide hb1
    clear hzs hv hb1
    go_wp2_with fail
    refine (HI.out _ (HT.out.after HB.out) (HE.out.after HB.out) (HX.out.after HB.out)).mono ?_; rintro r w2 ⟨v2, rfl, ho2, hb2⟩
    obtain ⟨A2, c2, rfl⟩ := own_shape ho2
    have R2 := hide (own_rds ho2)
    have HB := hide (HB.out.trans (hb2.mono HB.out.size))
    clear ho2 hb2
    go_wp2_with fail
    refine (HS.out _).mono ?_; rintro r w3 ⟨v3, rfl, ho3, hb3⟩
    obtain ⟨A3, c3, rfl⟩ := own_shape ho3
    have R3 := hide (own_rds ho3)
    have R2 := hide (R2.out.after hb3)
    have HB := hide (HB.out.trans (hb3.mono HB.out.size))
    clear ho3 hb3
    go_wp2_with fail
    refine (pfTexts_v (eqT_same zs) _ R2.out R3.out nm.out).mono ?_; rintro r w4 ⟨rfl, hb4⟩
    have R2 := hide (R2.out.after hb4)
    have HB := hide (HB.out.trans (hb4.mono HB.out.size))
    clear hb4
    cases v
    · go_wp2_with fail
      go_ret
      exact ⟨rfl, HB.out⟩
    · obtain ⟨k1, k2⟩ := HG.out rfl
      have HP := hide (fun w ht h => implFieldsPut_any A2 zs.length c2 zs w ht h (by omega) (HCT.out rfl))
      rw [k1, k2] at HP
      have hss := beqT_eq (rfl : s = s)
      clear k1 k2
      go_wp2_with fail
      refine (HP.out _ (HT.out.after HB.out) R2.out).mono ?_; rintro r w5 ⟨rfl, hb5⟩
      have HB := hide (HB.out.trans (hb5.mono HB.out.size))
      clear hb5
      go_wp2_with fail
      go_ret
      exact ⟨rfl, HB.out⟩
end Go.Proofs.YtnagmagjdglmoaaDoor
