/- StripeJoin of the reference: one of its ways. -/
import Derived.Test.YtjcokbpioiakjaaStripeJoin
namespace Go.Proofs.Ytjcokbpioiakjaa
open Go.RowKit
set_option linter.unusedVariables false

set_option maxRecDepth 100000 in
set_option maxHeartbeats 8000000 in
theorem specStripeJoin_0 (P : Option Addr) (cc : Nat) (a b c : ByteArray) (size : Int) (w : World) (h : Rd w 1 P 3 ([a, b, c].map Value.string)) (ha : a.size ≤ 1000000000) (hb : b.size ≤ 1000000000) (hc : c.size ≤ 1000000000) (h1 : inR size 1 128 = true) :
    Calls Try.prog 27 #[.slice P 3 cc, .int .i64 size, .int .i64 0] w fun r w' => r = .returned (joinV [a, b, c] size 0) ∧ Below w.heap.size w w' := by
  obtain ⟨g, o, rfl, hg, ca, cb, cd⟩ := h.three
  have h2 : inR 0 (-1) 1 = true := by decide
  clear h
  have H1 := hide h1
  have H2 := hide h2
  have hs : 1 ≤ size ∧ size ≤ 128 := by simp [inR] at h1; omega
  obtain ⟨n, rfl⟩ : ∃ n : Nat, size = (n : Int) := ⟨size.toNat, by omega⟩
  obtain ⟨q, hq⟩ : ∃ q, q = (n + 1) / 2 := ⟨_, rfl⟩
  have hqn : q ≤ n := by omega
  have HQ := hide hq
  have HQI := hide (show ((n : Int) + 1) / 2 = (q : Int) by omega)
  clear h1 h2 hq
  have hn128 : n ≤ 128 := by omega
  obtain ⟨m, hm⟩ : ∃ m : Nat, m = n - q := ⟨_, rfl⟩
  have hmi : (n : Int) - (q : Int) = (m : Int) := by omega
  have jw : IntKind.i64.wrap ((n : Int) - (q : Int)) = (m : Int) := by rw [IntKind.wrap_i64]; omega
  have jw2 : IntKind.i64.wrap (m : Int) = (m : Int) := by rw [IntKind.wrap_i64]; omega
  have hmq : m ≤ q := by have := HQ.out; omega
  have HMI := hide (show ((n : Int) - ((n : Int) + 1) / 2) = (m : Int) by rw [HQI.out]; omega)
  have HG := hide hg
  have CA := hide ca
  have CB := hide cb
  have CD := hide cd
  clear hm
  go_enter Try.func27, Try.ntmps27
  go_wp2_with fail
  refine (l6In_v H1.out _).mono ?_; rintro r w1 ⟨rfl, rfl⟩
  go_wp2_with fail
  refine (l6In_v H2.out _).mono ?_; rintro r w1 ⟨rfl, rfl⟩
  go_wp2_with fail
  refine (l4Half_any n (by omega) _).mono ?_; rintro r w1 ⟨rfl, rfl⟩
  rw [← HQ.out]
  have HJ0 : Hid (((b.size : Int) == (m : Int)) = false → joinV [a, b, c] n 0 = .tuple #[.string ⟨#[]⟩, .bool false]) := hide (fun e => join_b HMI.out (by decide) e)
  have HJ1 : Hid (((c.size : Int) == (q : Int)) = false → joinV [a, b, c] n 0 = .tuple #[.string ⟨#[]⟩, .bool false]) := hide (fun e => join_c HQI.out (by decide) e)
  cases e1 : ((b.size : Int) == (m : Int))
  · have HJ := hide (HJ0.out e1)
    go_wp2_with fail
    exact bodyPost_ret (v := .tuple #[.string ⟨#[]⟩, .bool false]) (by simp [results, Try.results27, go_sem]) rfl ⟨by rw [HJ.out], Below.refl _ _⟩
  · cases e2 : ((c.size : Int) == (q : Int))
    · have HJ := hide (HJ1.out e2)
      go_wp2_with fail
      exact bodyPost_ret (v := .tuple #[.string ⟨#[]⟩, .bool false]) (by simp [results, Try.results27, go_sem]) rfl ⟨by rw [HJ.out], Below.refl _ _⟩
    · have z1 := e1
      have z2 := e2
      rw [beq_iff_eq] at z1 z2
      have HJ := hide (show joinV [a, b, c] n 0 = .tuple #[.string (othT c b ++ b), .bool true] from join_0 HQI.out HMI.out H1.out e1 e2)
      have hv := oth_all c b q (by omega)
      have hqc : q ≤ c.size := by omega
      obtain ⟨X, hX⟩ : ∃ X, X = othT c b := ⟨_, rfl⟩
      have hz : ¬ 9223372036854775807 < X.size + b.size := by rw [hX, oth_size]; omega
      rw [← hX] at hv HJ
      clear hX z1 z2
      have HV := hide hv
      clear hv
      go_wp2_with fail
      refine wp_region_held_drew (S := fun x => Below w.heap.size w x) (by kernel_rfl) ((Below.refl _ _).drew) (fun hH => ?_)
      refine wpAnyH_take (i := 0) (v := ?_) rfl (by kernel_rfl) (by kernel_rfl) (by kernel_rfl) (fun _ _ _ h => h) (Or.inl ⟨by rfl, fun w hS => ?_⟩) hH ?_
      rotate_left
      · have ca := (hS.cell (p := ⟨g, o, none⟩) HG.out).trans CA.out; have cb := (hS.cell (p := ⟨g, o + 1, none⟩) HG.out).trans CB.out; have cd := (hS.cell (p := ⟨g, o + 2, none⟩) HG.out).trans CD.out; go_simp; try exact rfl
      simp only [Act.put, List.setIfInBounds_toArray, List.set_cons_zero, List.set_cons_succ, List.getElem_toArray, List.getElem_cons_zero]
      refine wpAnyH_take (i := 1) (v := ?_) rfl (by kernel_rfl) (by kernel_rfl) (by kernel_rfl) (fun _ _ _ h => h) (Or.inl ⟨by rfl, fun w hS => ?_⟩) hH ?_
      rotate_left
      · have ca := (hS.cell (p := ⟨g, o, none⟩) HG.out).trans CA.out; have cb := (hS.cell (p := ⟨g, o + 1, none⟩) HG.out).trans CB.out; have cd := (hS.cell (p := ⟨g, o + 2, none⟩) HG.out).trans CD.out; go_simp; try exact rfl
      simp only [Act.put, List.setIfInBounds_toArray, List.set_cons_zero, List.set_cons_succ, List.getElem_toArray, List.getElem_cons_zero, List.getElem_cons_succ]
      refine wpAnyH_take (i := 2) (v := ?_) rfl (by kernel_rfl) (by kernel_rfl) (by kernel_rfl) (fun _ _ _ h => h) (Or.inl ⟨by rfl, fun w hS => ?_⟩) hH ?_
      rotate_left
      · have ca := (hS.cell (p := ⟨g, o, none⟩) HG.out).trans CA.out; have cb := (hS.cell (p := ⟨g, o + 1, none⟩) HG.out).trans CB.out; have cd := (hS.cell (p := ⟨g, o + 2, none⟩) HG.out).trans CD.out; go_simp; try exact rfl
      simp only [Act.put, List.setIfInBounds_toArray, List.set_cons_zero, List.set_cons_succ, List.getElem_toArray, List.getElem_cons_zero, List.getElem_cons_succ]
      refine wpAnyH_take (i := 3) (v := ?_) rfl (by kernel_rfl) (by kernel_rfl) (by kernel_rfl) (fun _ _ _ h => h) (Or.inl ⟨by rfl, fun w hS => ?_⟩) hH ?_
      rotate_left
      · have ca := (hS.cell (p := ⟨g, o, none⟩) HG.out).trans CA.out; have cb := (hS.cell (p := ⟨g, o + 1, none⟩) HG.out).trans CB.out; have cd := (hS.cell (p := ⟨g, o + 2, none⟩) HG.out).trans CD.out; go_simp; try exact rfl
      simp only [Act.put, List.setIfInBounds_toArray, List.set_cons_zero, List.set_cons_succ, List.getElem_toArray, List.getElem_cons_zero, List.getElem_cons_succ]
      refine wpAnyH_take (i := 4) (v := ?_) rfl (by kernel_rfl) (by kernel_rfl) (by kernel_rfl) (fun _ _ _ h => h) (Or.inl ⟨by rfl, fun w hS => ?_⟩) hH ?_
      rotate_left
      · have ca := (hS.cell (p := ⟨g, o, none⟩) HG.out).trans CA.out; have cb := (hS.cell (p := ⟨g, o + 1, none⟩) HG.out).trans CB.out; have cd := (hS.cell (p := ⟨g, o + 2, none⟩) HG.out).trans CD.out; go_simp; try exact rfl
      simp only [Act.put, List.setIfInBounds_toArray, List.set_cons_zero, List.set_cons_succ, List.getElem_toArray, List.getElem_cons_zero, List.getElem_cons_succ]
      refine wpAnyH_take (i := 5) (v := ?_) rfl (by kernel_rfl) (by kernel_rfl) (by kernel_rfl) (fun _ _ _ h => h) (Or.inl ⟨by rfl, fun w hS => ?_⟩) hH ?_
      rotate_left
      · have ca := (hS.cell (p := ⟨g, o, none⟩) HG.out).trans CA.out; have cb := (hS.cell (p := ⟨g, o + 1, none⟩) HG.out).trans CB.out; have cd := (hS.cell (p := ⟨g, o + 2, none⟩) HG.out).trans CD.out; go_simp; try exact rfl
      simp only [Act.put, List.setIfInBounds_toArray, List.set_cons_zero, List.set_cons_succ, List.getElem_toArray, List.getElem_cons_zero, List.getElem_cons_succ]
      refine wpAnyH_take (i := 6) (v := ?_) rfl (by kernel_rfl) (by kernel_rfl) (by kernel_rfl) (fun _ _ _ h => h) (Or.inl ⟨by rfl, fun w hS => ?_⟩) hH ?_
      rotate_left
      · have ca := (hS.cell (p := ⟨g, o, none⟩) HG.out).trans CA.out; have cb := (hS.cell (p := ⟨g, o + 1, none⟩) HG.out).trans CB.out; have cd := (hS.cell (p := ⟨g, o + 2, none⟩) HG.out).trans CD.out; go_simp; try exact rfl
      simp only [Act.put, List.setIfInBounds_toArray, List.set_cons_zero, List.set_cons_succ, List.getElem_toArray, List.getElem_cons_zero, List.getElem_cons_succ]
      refine wpAnyH_take (i := 8) (v := ?_) rfl (by kernel_rfl) (by kernel_rfl) (by kernel_rfl) (fun _ _ _ h => h) (Or.inl ⟨by rfl, fun w hS => ?_⟩) hH ?_
      rotate_left
      · have ca := (hS.cell (p := ⟨g, o, none⟩) HG.out).trans CA.out; have cb := (hS.cell (p := ⟨g, o + 1, none⟩) HG.out).trans CB.out; have cd := (hS.cell (p := ⟨g, o + 2, none⟩) HG.out).trans CD.out; go_simp; try exact rfl
      simp only [Act.put, List.setIfInBounds_toArray, List.set_cons_zero, List.set_cons_succ, List.getElem_toArray, List.getElem_cons_zero, List.getElem_cons_succ]
      refine wpAnyH_take (i := 9) (v := ?_) rfl (by kernel_rfl) (by kernel_rfl) (by kernel_rfl) (fun _ _ _ h => h) (Or.inl ⟨by rfl, fun w hS => ?_⟩) hH ?_
      rotate_left
      · have ca := (hS.cell (p := ⟨g, o, none⟩) HG.out).trans CA.out; have cb := (hS.cell (p := ⟨g, o + 1, none⟩) HG.out).trans CB.out; have cd := (hS.cell (p := ⟨g, o + 2, none⟩) HG.out).trans CD.out; go_simp; try exact rfl
      simp only [Act.put, List.setIfInBounds_toArray, List.set_cons_zero, List.set_cons_succ, List.getElem_toArray, List.getElem_cons_zero, List.getElem_cons_succ]
      refine wpAnyH_take (i := 10) (v := ?_) rfl (by kernel_rfl) (by kernel_rfl) (by kernel_rfl) (fun _ _ _ h => h) (Or.inl ⟨by rfl, fun w hS => ?_⟩) hH ?_
      rotate_left
      · have ca := (hS.cell (p := ⟨g, o, none⟩) HG.out).trans CA.out; have cb := (hS.cell (p := ⟨g, o + 1, none⟩) HG.out).trans CB.out; have cd := (hS.cell (p := ⟨g, o + 2, none⟩) HG.out).trans CD.out; go_simp; try exact rfl
      simp only [Act.put, List.setIfInBounds_toArray, List.set_cons_zero, List.set_cons_succ, List.getElem_toArray, List.getElem_cons_zero, List.getElem_cons_succ]
      refine wpAnyH_ready (rs := [7]) (by kernel_rfl) (by simp) (AllReadyH.cons rfl (fun K hK => ?_) AllReadyH.nil)
      go_simp
      go_at_call 47
      refine (l4Other_v (n := q) rfl (by omega) (by omega) (by omega) HV.out _).mono ?_; rintro r w1 ⟨rfl, hb1⟩
      refine hK.out _ _ (hH.trans (hb1.mono hH.size)) (fun hH5 => ?_)
      clear hK K
      try simp only [Act.put, List.setIfInBounds_toArray, List.set_cons_zero, List.set_cons_succ]
      refine wpAnyH_take (i := 11) (v := ?_) rfl (by kernel_rfl) (by kernel_rfl) (by kernel_rfl) (fun _ _ _ h => h) (Or.inl ⟨by rfl, fun w hS => ?_⟩) hH5 ?_
      rotate_left
      · have ca := (hS.cell (p := ⟨g, o, none⟩) HG.out).trans CA.out; have cb := (hS.cell (p := ⟨g, o + 1, none⟩) HG.out).trans CB.out; have cd := (hS.cell (p := ⟨g, o + 2, none⟩) HG.out).trans CD.out; go_simp; try exact rfl
      simp only [Act.put, List.setIfInBounds_toArray, List.set_cons_zero, List.set_cons_succ, List.getElem_toArray, List.getElem_cons_zero, List.getElem_cons_succ]
      refine wpAnyH_take (i := 12) (v := ?_) rfl (by kernel_rfl) (by kernel_rfl) (by kernel_rfl) (fun _ _ _ h => h) (Or.inl ⟨by rfl, fun w hS => ?_⟩) hH5 ?_
      rotate_left
      · have ca := (hS.cell (p := ⟨g, o, none⟩) HG.out).trans CA.out; have cb := (hS.cell (p := ⟨g, o + 1, none⟩) HG.out).trans CB.out; have cd := (hS.cell (p := ⟨g, o + 2, none⟩) HG.out).trans CD.out; go_simp; try exact rfl
      simp only [Act.put, List.setIfInBounds_toArray, List.set_cons_zero, List.set_cons_succ, List.getElem_toArray, List.getElem_cons_zero, List.getElem_cons_succ]
      refine wpAnyH_take (i := 13) (v := ?_) rfl (by kernel_rfl) (by kernel_rfl) (by kernel_rfl) (fun _ _ _ h => h) (Or.inl ⟨by rfl, fun w hS => ?_⟩) hH5 ?_
      rotate_left
      · have ca := (hS.cell (p := ⟨g, o, none⟩) HG.out).trans CA.out; have cb := (hS.cell (p := ⟨g, o + 1, none⟩) HG.out).trans CB.out; have cd := (hS.cell (p := ⟨g, o + 2, none⟩) HG.out).trans CD.out; go_simp; try exact rfl
      simp only [Act.put, List.setIfInBounds_toArray, List.set_cons_zero, List.set_cons_succ, List.getElem_toArray, List.getElem_cons_zero, List.getElem_cons_succ]
      refine wpAnyH_done (by kernel_rfl) ?_ _
      go_wp2_with fail
      exact bodyPost_ret (v := .tuple #[.string (X ++ b), .bool true]) (by simp [results, Try.results27, go_sem]) rfl ⟨by rw [HJ.out], hH5⟩
end Go.Proofs.Ytjcokbpioiakjaa
