/- StripeJoin of the program: one of its ways. -/
import Derived.Test.YtjcokbpioiakjaaStripeJoin
namespace Go.Proofs.Ytjcokbpioiakjaa
open Go.RowKit
set_option linter.unusedVariables false

set_option maxRecDepth 100000 in
set_option maxHeartbeats 8000000 in
theorem implStripeJoin_1 (P : Option Addr) (cc : Nat) (a b c : ByteArray) (size : Int) (w : World) (h : Rd w 1 P 3 ([a, b, c].map Value.string)) (ha : a.size ≤ 1000000000) (hb : b.size ≤ 1000000000) (hc : c.size ≤ 1000000000) (h1 : inR size 1 128 = true) :
    Calls Try.prog 25 #[.slice P 3 cc, .int .i64 size, .int .i64 1] w fun r w' => r = .returned (joinV [a, b, c] size 1) ∧ Below w.heap.size w w' := by
  obtain ⟨g, o, rfl, hg, ca, cb, cd⟩ := h.three
  have h2 : inR 1 (-1) 1 = true := by decide
  clear h
  have H1 := hide h1
  have H2 := hide h2
  have hs : 1 ≤ size ∧ size ≤ 128 := by simp [inR] at h1; omega
  obtain ⟨n, rfl⟩ : ∃ n : Nat, size = (n : Int) := ⟨size.toNat, by omega⟩
  obtain ⟨q, hq⟩ : ∃ q, q = (n + 1) / 2 := ⟨_, rfl⟩
  have hqn : q ≤ n := by omega
  have HQ := hide hq
  have HQI := hide (show ((n : Int) + 1) / 2 = (q : Int) by omega)
  clear h1 h2 hq
  have hn128 : n ≤ 128 := by omega
  obtain ⟨m, hm⟩ : ∃ m : Nat, m = n - q := ⟨_, rfl⟩
  have hmi : (n : Int) - (q : Int) = (m : Int) := by omega
  have jw : IntKind.i64.wrap ((n : Int) - (q : Int)) = (m : Int) := by rw [IntKind.wrap_i64]; omega
  have jw2 : IntKind.i64.wrap (m : Int) = (m : Int) := by rw [IntKind.wrap_i64]; omega
  have hmq : m ≤ q := by have := HQ.out; omega
  have HMI := hide (show ((n : Int) - ((n : Int) + 1) / 2) = (m : Int) by rw [HQI.out]; omega)
  have HG := hide hg
  have CA := hide ca
  have CB := hide cb
  have CD := hide cd
  clear hm
  go_enter Try.func25, Try.ntmps25
  go_wp2_with fail
  refine (within_v H1.out _).mono ?_; rintro r w1 ⟨rfl, rfl⟩
  go_wp2_with fail
  refine (within_v H2.out _).mono ?_; rintro r w1 ⟨rfl, rfl⟩
  go_wp2_with fail
  refine (half_any n (by omega) _).mono ?_; rintro r w1 ⟨rfl, rfl⟩
  rw [← HQ.out]
  go_wp2_with fail
  have hb0 := bel1 w (.cells #[.int .i64 q, .int .i64 m, .int .i64 q] 60)
  have K := Bk.fresh w 60 #[.int .i64 q, .int .i64 m, .int .i64 q]
  have DA := (hb0.cell (p := ⟨g, o, none⟩) HG.out).trans CA.out
  have DB := (hb0.cell (p := ⟨g, o + 1, none⟩) HG.out).trans CB.out
  have DC := (hb0.cell (p := ⟨g, o + 2, none⟩) HG.out).trans CD.out
  obtain ⟨W0, HW0⟩ : ∃ W, W = w.alloc (.cells #[.int .i64 q, .int .i64 m, .int .i64 q] 60) := ⟨_, rfl⟩
  rw [← HW0] at hb0 K DA DB DC
  rw [← HW0]
  clear HW0 ca cb cd
  have HB := hide hb0
  obtain ⟨q0, q1, q2⟩ := K.c3
  clear hb0 K
  go_loop [36] (fun i => ∃ k : Nat, k ≤ 3 ∧ Hid (0 < k → ((a.size : Int) == (q : Int)) = true) ∧ Hid (2 < k → ((c.size : Int) == (q : Int)) = true) ∧ i = .int .i64 k) (fun i => 3 - (intOf i).toNat)
  case atStart => exact ⟨0, by omega, hide (fun h => absurd h (by omega)), hide (fun h => absurd h (by omega)), rfl⟩
  case round =>
    obtain ⟨k, hk, I0, I2, rfl⟩ := hrel
    rcases (show k = 0 ∨ k = 1 ∨ k = 2 ∨ k = 3 by omega) with rfl | rfl | rfl | rfl
    · cases E1 : ((a.size : Int) == (q : Int))
      · have E2 : ((a.size : Int) != (q : Int)) = true := by rw [bne, E1]; rfl
        have HJ := hide (join_a HQI.out (by decide) E1 : joinV [a, b, c] n 1 = _)
        go_wp2_with fail
        exact bodyPost_ret (v := .tuple #[.string ⟨#[]⟩, .bool false]) (by simp [results, Try.results25, go_sem]) rfl ⟨by rw [HJ.out], HB.out⟩
      · have E2 : ((a.size : Int) != (q : Int)) = false := by rw [bne, E1]; rfl
        go_wp2_with fail
        go_round
        case rel => exact ⟨1, by omega, hide (fun _ => by first | exact E1 | trivial), hide (fun h => absurd h (by omega)), rfl⟩
        case measure => (simp [intOf]; try omega)
    · go_wp2_with fail
      go_round
      case rel => exact ⟨2, by omega, hide (fun _ => I0.out (by omega)), hide (fun h => absurd h (by omega)), rfl⟩
      case measure => (simp [intOf]; try omega)
    · cases E1 : ((c.size : Int) == (q : Int))
      · have E2 : ((c.size : Int) != (q : Int)) = true := by rw [bne, E1]; rfl
        have HJ := hide (join_c HQI.out (by decide) E1 : joinV [a, b, c] n 1 = _)
        go_wp2_with fail
        exact bodyPost_ret (v := .tuple #[.string ⟨#[]⟩, .bool false]) (by simp [results, Try.results25, go_sem]) rfl ⟨by rw [HJ.out], HB.out⟩
      · have E2 : ((c.size : Int) != (q : Int)) = false := by rw [bne, E1]; rfl
        go_wp2_with fail
        go_round
        case rel => exact ⟨3, by omega, hide (fun _ => I0.out (by omega)), hide (fun _ => by first | exact E1 | trivial), rfl⟩
        case measure => (simp [intOf]; try omega)
    · have E1 := I0.out (by omega)
      have E3 := I2.out (by omega)
      have z1 := E1
      have z3 := E3
      rw [beq_iff_eq] at z1 z3
      have HJ := hide (join_1 (b := b) HQI.out HMI.out H1.out E1 E3)
      obtain ⟨X, hX⟩ : ∃ X, X = othT c a := ⟨_, rfl⟩
      have hzx : X.size = q := by rw [hX, oth_size]; omega
      have hmx : m ≤ X.size := by omega
      have hze : (X.extract 0 m).size = m := by rw [ByteArray.size_extract]; omega
      have hz : ¬ 9223372036854775807 < a.size + m := by omega
      have hv : ByteArray.mk (xr c.data.toList a.data.toList).toArray = X := hX.symm
      rw [← hX] at HJ
      have HV := hide hv
      have zc : c.size = q := by omega
      have zb : a.size ≤ q := by omega
      have ZC := hide zc
      clear hX hv z1 z3 zc
      go_wp2_with fail
      refine wp_region_held_drew (S := fun x => Below w.heap.size w x) (by kernel_rfl) (HB.out.drew) (fun hH => ?_)
      refine wpAnyH_take (i := 0) (v := ?_) rfl (by kernel_rfl) (by kernel_rfl) (by kernel_rfl) (fun _ _ _ h => h) (Or.inl ⟨by rfl, fun w hS => ?_⟩) hH ?_
      rotate_left
      · have ca := (hS.cell (p := ⟨g, o, none⟩) HG.out).trans CA.out; have cb := (hS.cell (p := ⟨g, o + 1, none⟩) HG.out).trans CB.out; have cd := (hS.cell (p := ⟨g, o + 2, none⟩) HG.out).trans CD.out; go_simp; try exact rfl
      simp only [Act.put, List.setIfInBounds_toArray, List.set_cons_zero, List.set_cons_succ, List.getElem_toArray, List.getElem_cons_zero]
      refine wpAnyH_take (i := 1) (v := ?_) rfl (by kernel_rfl) (by kernel_rfl) (by kernel_rfl) (fun _ _ _ h => h) (Or.inl ⟨by rfl, fun w hS => ?_⟩) hH ?_
      rotate_left
      · have ca := (hS.cell (p := ⟨g, o, none⟩) HG.out).trans CA.out; have cb := (hS.cell (p := ⟨g, o + 1, none⟩) HG.out).trans CB.out; have cd := (hS.cell (p := ⟨g, o + 2, none⟩) HG.out).trans CD.out; go_simp; try exact rfl
      simp only [Act.put, List.setIfInBounds_toArray, List.set_cons_zero, List.set_cons_succ, List.getElem_toArray, List.getElem_cons_zero, List.getElem_cons_succ]
      refine wpAnyH_take (i := 2) (v := ?_) rfl (by kernel_rfl) (by kernel_rfl) (by kernel_rfl) (fun _ _ _ h => h) (Or.inl ⟨by rfl, fun w hS => ?_⟩) hH ?_
      rotate_left
      · have ca := (hS.cell (p := ⟨g, o, none⟩) HG.out).trans CA.out; have cb := (hS.cell (p := ⟨g, o + 1, none⟩) HG.out).trans CB.out; have cd := (hS.cell (p := ⟨g, o + 2, none⟩) HG.out).trans CD.out; go_simp; try exact rfl
      simp only [Act.put, List.setIfInBounds_toArray, List.set_cons_zero, List.set_cons_succ, List.getElem_toArray, List.getElem_cons_zero, List.getElem_cons_succ]
      refine wpAnyH_take (i := 3) (v := ?_) rfl (by kernel_rfl) (by kernel_rfl) (by kernel_rfl) (fun _ _ _ h => h) (Or.inl ⟨by rfl, fun w hS => ?_⟩) hH ?_
      rotate_left
      · have ca := (hS.cell (p := ⟨g, o, none⟩) HG.out).trans CA.out; have cb := (hS.cell (p := ⟨g, o + 1, none⟩) HG.out).trans CB.out; have cd := (hS.cell (p := ⟨g, o + 2, none⟩) HG.out).trans CD.out; go_simp; try exact rfl
      simp only [Act.put, List.setIfInBounds_toArray, List.set_cons_zero, List.set_cons_succ, List.getElem_toArray, List.getElem_cons_zero, List.getElem_cons_succ]
      refine wpAnyH_take (i := 4) (v := ?_) rfl (by kernel_rfl) (by kernel_rfl) (by kernel_rfl) (fun _ _ _ h => h) (Or.inl ⟨by rfl, fun w hS => ?_⟩) hH ?_
      rotate_left
      · have ca := (hS.cell (p := ⟨g, o, none⟩) HG.out).trans CA.out; have cb := (hS.cell (p := ⟨g, o + 1, none⟩) HG.out).trans CB.out; have cd := (hS.cell (p := ⟨g, o + 2, none⟩) HG.out).trans CD.out; go_simp; try exact rfl
      simp only [Act.put, List.setIfInBounds_toArray, List.set_cons_zero, List.set_cons_succ, List.getElem_toArray, List.getElem_cons_zero, List.getElem_cons_succ]
      refine wpAnyH_take (i := 5) (v := ?_) rfl (by kernel_rfl) (by kernel_rfl) (by kernel_rfl) (fun _ _ _ h => h) (Or.inl ⟨by rfl, fun w hS => ?_⟩) hH ?_
      rotate_left
      · have ca := (hS.cell (p := ⟨g, o, none⟩) HG.out).trans CA.out; have cb := (hS.cell (p := ⟨g, o + 1, none⟩) HG.out).trans CB.out; have cd := (hS.cell (p := ⟨g, o + 2, none⟩) HG.out).trans CD.out; go_simp; try exact rfl
      simp only [Act.put, List.setIfInBounds_toArray, List.set_cons_zero, List.set_cons_succ, List.getElem_toArray, List.getElem_cons_zero, List.getElem_cons_succ]
      refine wpAnyH_take (i := 6) (v := ?_) rfl (by kernel_rfl) (by kernel_rfl) (by kernel_rfl) (fun _ _ _ h => h) (Or.inl ⟨by rfl, fun w hS => ?_⟩) hH ?_
      rotate_left
      · have ca := (hS.cell (p := ⟨g, o, none⟩) HG.out).trans CA.out; have cb := (hS.cell (p := ⟨g, o + 1, none⟩) HG.out).trans CB.out; have cd := (hS.cell (p := ⟨g, o + 2, none⟩) HG.out).trans CD.out; go_simp; try exact rfl
      simp only [Act.put, List.setIfInBounds_toArray, List.set_cons_zero, List.set_cons_succ, List.getElem_toArray, List.getElem_cons_zero, List.getElem_cons_succ]
      refine wpAnyH_take (i := 7) (v := ?_) rfl (by kernel_rfl) (by kernel_rfl) (by kernel_rfl) (fun _ _ _ h => h) (Or.inl ⟨by rfl, fun w hS => ?_⟩) hH ?_
      rotate_left
      · have ca := (hS.cell (p := ⟨g, o, none⟩) HG.out).trans CA.out; have cb := (hS.cell (p := ⟨g, o + 1, none⟩) HG.out).trans CB.out; have cd := (hS.cell (p := ⟨g, o + 2, none⟩) HG.out).trans CD.out; go_simp; try exact rfl
      simp only [Act.put, List.setIfInBounds_toArray, List.set_cons_zero, List.set_cons_succ, List.getElem_toArray, List.getElem_cons_zero, List.getElem_cons_succ]
      refine wpAnyH_take (i := 8) (v := ?_) rfl (by kernel_rfl) (by kernel_rfl) (by kernel_rfl) (fun _ _ _ h => h) (Or.inl ⟨by rfl, fun w hS => ?_⟩) hH ?_
      rotate_left
      · have ca := (hS.cell (p := ⟨g, o, none⟩) HG.out).trans CA.out; have cb := (hS.cell (p := ⟨g, o + 1, none⟩) HG.out).trans CB.out; have cd := (hS.cell (p := ⟨g, o + 2, none⟩) HG.out).trans CD.out; go_simp; try exact rfl
      simp only [Act.put, List.setIfInBounds_toArray, List.set_cons_zero, List.set_cons_succ, List.getElem_toArray, List.getElem_cons_zero, List.getElem_cons_succ]
      refine wpAnyH_take (i := 9) (v := ?_) rfl (by kernel_rfl) (by kernel_rfl) (by kernel_rfl) (fun _ _ _ h => h) (Or.inl ⟨by rfl, fun w hS => ?_⟩) hH ?_
      rotate_left
      · have ca := (hS.cell (p := ⟨g, o, none⟩) HG.out).trans CA.out; have cb := (hS.cell (p := ⟨g, o + 1, none⟩) HG.out).trans CB.out; have cd := (hS.cell (p := ⟨g, o + 2, none⟩) HG.out).trans CD.out; go_simp; try exact rfl
      simp only [Act.put, List.setIfInBounds_toArray, List.set_cons_zero, List.set_cons_succ, List.getElem_toArray, List.getElem_cons_zero, List.getElem_cons_succ]
      refine wpAnyH_take (i := 11) (v := ?_) rfl (by kernel_rfl) (by kernel_rfl) (by kernel_rfl) (fun _ _ _ h => h) (Or.inl ⟨by rfl, fun w hS => ?_⟩) hH ?_
      rotate_left
      · have ca := (hS.cell (p := ⟨g, o, none⟩) HG.out).trans CA.out; have cb := (hS.cell (p := ⟨g, o + 1, none⟩) HG.out).trans CB.out; have cd := (hS.cell (p := ⟨g, o + 2, none⟩) HG.out).trans CD.out; go_simp; try exact rfl
      simp only [Act.put, List.setIfInBounds_toArray, List.set_cons_zero, List.set_cons_succ, List.getElem_toArray, List.getElem_cons_zero, List.getElem_cons_succ]
      refine wpAnyH_take (i := 12) (v := ?_) rfl (by kernel_rfl) (by kernel_rfl) (by kernel_rfl) (fun _ _ _ h => h) (Or.inl ⟨by rfl, fun w hS => ?_⟩) hH ?_
      rotate_left
      · have ca := (hS.cell (p := ⟨g, o, none⟩) HG.out).trans CA.out; have cb := (hS.cell (p := ⟨g, o + 1, none⟩) HG.out).trans CB.out; have cd := (hS.cell (p := ⟨g, o + 2, none⟩) HG.out).trans CD.out; go_simp; try exact rfl
      simp only [Act.put, List.setIfInBounds_toArray, List.set_cons_zero, List.set_cons_succ, List.getElem_toArray, List.getElem_cons_zero, List.getElem_cons_succ]
      refine wpAnyH_take (i := 13) (v := ?_) rfl (by kernel_rfl) (by kernel_rfl) (by kernel_rfl) (fun _ _ _ h => h) (Or.inl ⟨by rfl, fun w hS => ?_⟩) hH ?_
      rotate_left
      · have ca := (hS.cell (p := ⟨g, o, none⟩) HG.out).trans CA.out; have cb := (hS.cell (p := ⟨g, o + 1, none⟩) HG.out).trans CB.out; have cd := (hS.cell (p := ⟨g, o + 2, none⟩) HG.out).trans CD.out; go_simp; try exact rfl
      simp only [Act.put, List.setIfInBounds_toArray, List.set_cons_zero, List.set_cons_succ, List.getElem_toArray, List.getElem_cons_zero, List.getElem_cons_succ]
      refine wpAnyH_ready (rs := [10]) (by kernel_rfl) (by simp) (AllReadyH.cons rfl (fun K hK => ?_) AllReadyH.nil)
      go_simp
      go_at_call 43
      refine (xor_v ZC.out zb (by omega) HV.out _).mono ?_; rintro r w1 ⟨rfl, hb1⟩
      refine hK.out _ _ (hH.trans (hb1.mono hH.size)) (fun hH5 => ?_)
      clear hK K
      try simp only [Act.put, List.setIfInBounds_toArray, List.set_cons_zero, List.set_cons_succ]
      refine wpAnyH_take (i := 14) (v := ?_) rfl (by kernel_rfl) (by kernel_rfl) (by kernel_rfl) (fun _ _ _ h => h) (Or.inl ⟨by rfl, fun w hS => ?_⟩) hH5 ?_
      rotate_left
      · have ca := (hS.cell (p := ⟨g, o, none⟩) HG.out).trans CA.out; have cb := (hS.cell (p := ⟨g, o + 1, none⟩) HG.out).trans CB.out; have cd := (hS.cell (p := ⟨g, o + 2, none⟩) HG.out).trans CD.out; go_simp; try exact rfl
      simp only [Act.put, List.setIfInBounds_toArray, List.set_cons_zero, List.set_cons_succ, List.getElem_toArray, List.getElem_cons_zero, List.getElem_cons_succ]
      refine wpAnyH_take (i := 15) (v := ?_) rfl (by kernel_rfl) (by kernel_rfl) (by kernel_rfl) (fun _ _ _ h => h) (Or.inl ⟨by rfl, fun w hS => ?_⟩) hH5 ?_
      rotate_left
      · have ca := (hS.cell (p := ⟨g, o, none⟩) HG.out).trans CA.out; have cb := (hS.cell (p := ⟨g, o + 1, none⟩) HG.out).trans CB.out; have cd := (hS.cell (p := ⟨g, o + 2, none⟩) HG.out).trans CD.out; go_simp; try exact rfl
      simp only [Act.put, List.setIfInBounds_toArray, List.set_cons_zero, List.set_cons_succ, List.getElem_toArray, List.getElem_cons_zero, List.getElem_cons_succ]
      refine wpAnyH_take (i := 16) (v := ?_) rfl (by kernel_rfl) (by kernel_rfl) (by kernel_rfl) (fun _ _ _ h => h) (Or.inl ⟨by rfl, fun w hS => ?_⟩) hH5 ?_
      rotate_left
      · have ca := (hS.cell (p := ⟨g, o, none⟩) HG.out).trans CA.out; have cb := (hS.cell (p := ⟨g, o + 1, none⟩) HG.out).trans CB.out; have cd := (hS.cell (p := ⟨g, o + 2, none⟩) HG.out).trans CD.out; go_simp; try exact rfl
      simp only [Act.put, List.setIfInBounds_toArray, List.set_cons_zero, List.set_cons_succ, List.getElem_toArray, List.getElem_cons_zero, List.getElem_cons_succ]
      refine wpAnyH_take (i := 17) (v := ?_) rfl (by kernel_rfl) (by kernel_rfl) (by kernel_rfl) (fun _ _ _ h => h) (Or.inl ⟨by rfl, fun w hS => ?_⟩) hH5 ?_
      rotate_left
      · have ca := (hS.cell (p := ⟨g, o, none⟩) HG.out).trans CA.out; have cb := (hS.cell (p := ⟨g, o + 1, none⟩) HG.out).trans CB.out; have cd := (hS.cell (p := ⟨g, o + 2, none⟩) HG.out).trans CD.out; go_simp; try exact rfl
      simp only [Act.put, List.setIfInBounds_toArray, List.set_cons_zero, List.set_cons_succ, List.getElem_toArray, List.getElem_cons_zero, List.getElem_cons_succ]
      refine wpAnyH_done (by kernel_rfl) ?_ _
      go_wp2_with fail
      exact bodyPost_ret (v := .tuple #[.string (a ++ X.extract 0 m), .bool true]) (by simp [results, Try.results25, go_sem]) rfl ⟨by rw [HJ.out], hH5⟩
end Go.Proofs.Ytjcokbpioiakjaa
