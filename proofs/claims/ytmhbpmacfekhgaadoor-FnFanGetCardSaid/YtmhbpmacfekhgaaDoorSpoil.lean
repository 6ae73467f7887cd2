/- l91Spoil changes a byte of a text, cuts it, or adds to it: how long the new text can be. -/
import Derived.Test.YtmhbpmacfekhgaaDoorBlock
import Derived.Test.YtmhbpmacfekhgaaDoorMark
namespace Go.Proofs.YtmhbpmacfekhgaaDoor
open Go.RowKit
set_option linter.unusedVariables false

theorem exs (s : ByteArray) (i j : Nat) (h : i ≤ j) (hj : j ≤ s.size) : (s.extract i j).size = j - i := by rw [ByteArray.size_extract]; omega
theorem six {w : World} {g j : Nat} {t : TypeId} {a b c d e f : ByteArray} (h : Bk w g t #[.string a, .string b, .string c, .string d, .string e, .string f]) (ha : a.size = 1) (hb : b.size = 1) (hc : c.size = 1) (hd : d.size = 1) (he : e.size = 1) (hf : f.size = 1) (hj : j < 6) : ∃ y : ByteArray, w.cell? ⟨g, j, none⟩ = some (.string y) ∧ y.size = 1 := by
  have hl := h.cell j
  rw [hl]
  match j, hj with
  | 0, _ => exact ⟨a, rfl, ha⟩
  | 1, _ => exact ⟨b, rfl, hb⟩
  | 2, _ => exact ⟨c, rfl, hc⟩
  | 3, _ => exact ⟨d, rfl, hd⟩
  | 4, _ => exact ⟨e, rfl, he⟩
  | 5, _ => exact ⟨f, rfl, hf⟩

set_option maxHeartbeats 2000000 in
theorem l91Spoil_any (R p : Nat) (s : ByteArray) (hs : s.size ≤ 1000) (w : World) (hr : Rdr w R p) (hp : p ≤ 800000) :
    Calls Tryd.prog 51 #[.pointer (some ⟨R, 0, none⟩), .string s] w (DrawnB R p 60 (s.size + 4) w) := by
  have HR := hide hr
  clear hr
  by_cases he : s = ⟨#[]⟩
  · have hq : s.toList.isEmpty = true := by rw [he, ByteArray.toList_eq]; rfl
    clear he
    go_enter Tryd.func51, Tryd.ntmps51
    go_wp2_with fail
    refine (l91Text_any R p 4 _ HR.out (by omega) (by decide)).mono ?_; rintro r w1 ⟨out, q, rfl, hl, hq, hr1, hf1⟩
    go_wp2_with fail
    go_ret
    refine ⟨_, q, rfl, ?_, by omega, hr1, hf1⟩
    show out.toArray.size ≤ s.size + 4
    rw [List.size_toArray]
    omega
  · have hpos : 0 < s.size := by
      rcases Nat.eq_zero_or_pos s.size with h | h
      · exact absurd (ByteArray.ext (Array.eq_empty_of_size_eq_zero h)) he
      · exact h
    have hq : s.toList.isEmpty = false := by
      rw [ByteArray.toList_eq]
      have hl : s.data.toList.length = s.size := Array.length_toList
      cases h : s.data.toList with
      | nil => rw [h] at hl; simp at hl; omega
      | cons x xs => rfl
    clear he
    go_enter Tryd.func51, Tryd.ntmps51
    go_wp2_with fail
    refine (pick_any R p s.size _ HR.out (by omega) (by omega) (by omega)).mono ?_; rintro r w1 ⟨v, rfl, v0, v1, _, hr1, hf1⟩
    have v2 := v1 (by omega)
    obtain ⟨k, rfl⟩ : ∃ k : Nat, v = (k : Int) := ⟨v.toNat, by omega⟩
    have hk : k < s.size := by omega
    have HR := hide hr1
    have HF := hide hf1
    clear hr1 hf1 v1
    go_wp2_with fail
    refine (pick_any R (p + 1) 4 _ HR.out (by omega) (by omega) (by omega)).mono ?_; rintro r w2 ⟨x, rfl, x0, x1, _, hr2, hf2⟩
    have x4 : x = 0 ∨ x = 1 ∨ x = 2 ∨ x = 3 := by have := x1 (by omega); omega
    have HR := hide hr2
    have HF := hide (HF.out.trans hf2)
    clear hr2 hf2 x0 x1
    have k0 : (0 : Int) ≤ (k : Int) := by omega
    have k1 : (k : Int) ≤ (s.size : Int) := by omega
    have k2 : (k : Int) + 1 ≤ (s.size : Int) := by omega
    have k3 : (0 : Int) ≤ (k : Int) + 1 := by omega
    have jw : IntKind.i64.wrap ((k : Int) + 1) = (k : Int) + 1 := by rw [IntKind.wrap_i64]; omega
    have jn : ((k : Int) + 1).toNat = k + 1 := by omega
    obtain ⟨a, ha⟩ : ∃ a, a = s.extract 0 k := ⟨_, rfl⟩
    obtain ⟨b, hb⟩ : ∃ b, b = s.extract (k + 1) s.size := ⟨_, rfl⟩
    have sa : a.size = k := by rw [ha, exs _ _ _ (by omega) (by omega)]; omega
    have sb : b.size = s.size - (k + 1) := by rw [hb, exs _ _ _ (by omega) (by omega)]
    rcases x4 with rfl | rfl | rfl | rfl
    · have SA := hide sa
      have SB := hide sb
      have hab : ¬ 9223372036854775807 < (s.extract 0 k).size + (s.extract (k + 1) s.size).size := by rw [← ha, ← hb]; omega
      have HA := hide ha
      have HB := hide hb
      clear sa sb ha hb
      go_wp2_with fail
      go_region
      go_wp2_with fail
      go_ret
      refine ⟨_, p + 1 + 1, rfl, ?_, by omega, HR.out, HF.out.drew⟩
      rw [ByteArray.size_append, ← HA.out, ← HB.out, SA.out, SB.out]
      omega
    · have SA := hide sa
      have HA := hide ha
      clear sa sb ha hb
      go_wp2_with fail
      go_ret
      refine ⟨_, p + 1 + 1, rfl, ?_, by omega, HR.out, HF.out⟩
      rw [← HA.out, SA.out]
      omega
    · skip
      have SA := hide sa
      have SB := hide sb
      have hab1 : ¬ 9223372036854775807 < a.size + 1 := by omega
      have hab2 : ¬ 9223372036854775807 < a.size + 1 + b.size := by omega
      have ha2 := ha.symm
      have hb2 := hb.symm
      clear sa sb ha hb
      have HRD := hide (HR.out.after (Below.refl _ _).drew)
      go_wp2_with fail
      refine wp_region_held_drew (S := fun x => Fr (· = R) w x) (by kernel_rfl) (HF.out.drew) (fun hH => ?_)
      refine wpAnyH_take (i := 0) (v := ?_) rfl (by kernel_rfl) (by kernel_rfl) (by kernel_rfl) (fun _ _ _ h => h) (Or.inl ⟨by rfl, fun w hS => ?_⟩) hH ?_
      rotate_left
      · go_simp; try exact rfl
      simp only [Act.put, List.setIfInBounds_toArray, List.set_cons_zero, List.set_cons_succ, List.getElem_toArray, List.getElem_cons_zero]
      refine wpAnyH_take (i := 1) (v := ?_) rfl (by kernel_rfl) (by kernel_rfl) (by kernel_rfl) (fun _ _ _ h => h) (Or.inl ⟨by rfl, fun w hS => ?_⟩) hH ?_
      rotate_left
      · go_simp; try exact rfl
      simp only [Act.put, List.setIfInBounds_toArray, List.set_cons_zero, List.set_cons_succ, List.getElem_toArray, List.getElem_cons_zero, List.getElem_cons_succ]
      refine wpAnyH_take (i := 2) (v := ?_) rfl (by kernel_rfl) (by kernel_rfl) (by kernel_rfl) (fun _ _ _ h => h) (Or.inl ⟨by rfl, fun w hS => ?_⟩) hH ?_
      rotate_left
      · go_simp; try exact rfl
      simp only [Act.put, List.setIfInBounds_toArray, List.set_cons_zero, List.set_cons_succ, List.getElem_toArray, List.getElem_cons_zero, List.getElem_cons_succ]
      refine wpAnyH_take (i := 3) (v := ?_) rfl (by kernel_rfl) (by kernel_rfl) (by kernel_rfl) (fun _ _ _ h => h) (Or.inl ⟨by rfl, fun w hS => ?_⟩) hH ?_
      rotate_left
      · go_simp; try exact rfl
      simp only [Act.put, List.setIfInBounds_toArray, List.set_cons_zero, List.set_cons_succ, List.getElem_toArray, List.getElem_cons_zero, List.getElem_cons_succ]
      refine wpAnyH_take (i := 9) (v := ?_) rfl (by kernel_rfl) (by kernel_rfl) (by kernel_rfl) (fun _ _ _ h => h) (Or.inl ⟨by rfl, fun w hS => ?_⟩) hH ?_
      rotate_left
      · go_simp; try exact rfl
      simp only [Act.put, List.setIfInBounds_toArray, List.set_cons_zero, List.set_cons_succ, List.getElem_toArray, List.getElem_cons_zero, List.getElem_cons_succ]
      refine wpAnyH_take (i := 10) (v := ?_) rfl (by kernel_rfl) (by kernel_rfl) (by kernel_rfl) (fun _ _ _ h => h) (Or.inl ⟨by rfl, fun w hS => ?_⟩) hH ?_
      rotate_left
      · go_simp; try exact rfl
      simp only [Act.put, List.setIfInBounds_toArray, List.set_cons_zero, List.set_cons_succ, List.getElem_toArray, List.getElem_cons_zero, List.getElem_cons_succ]
      refine wpAnyH_take (i := 11) (v := ?_) rfl (by kernel_rfl) (by kernel_rfl) (by kernel_rfl) (fun _ _ _ h => h) (Or.inl ⟨by rfl, fun w hS => ?_⟩) hH ?_
      rotate_left
      · go_simp; try exact rfl
      simp only [Act.put, List.setIfInBounds_toArray, List.set_cons_zero, List.set_cons_succ, List.getElem_toArray, List.getElem_cons_zero, List.getElem_cons_succ]
      refine wpAnyH_take (i := 12) (v := ?_) rfl (by kernel_rfl) (by kernel_rfl) (by kernel_rfl) (fun _ _ _ h => h) (Or.inl ⟨by rfl, fun w hS => ?_⟩) hH ?_
      rotate_left
      · go_simp; try exact rfl
      simp only [Act.put, List.setIfInBounds_toArray, List.set_cons_zero, List.set_cons_succ, List.getElem_toArray, List.getElem_cons_zero, List.getElem_cons_succ]
      refine wpAnyH_ready (rs := [4]) (by kernel_rfl) (by simp) (AllReadyH.cons rfl (fun K hK => ?_) AllReadyH.nil)
      go_simp
      go_at_call 50
      refine (pick_any R (p + 1 + 1) 256 _ HRD.out (by omega) (by omega) (by omega)).mono ?_; rintro r w3 ⟨x, rfl, x0, x1, _, hr3, hf3⟩
      have x2 := x1 (by omega)
      obtain ⟨c, hc⟩ : ∃ c : UInt8, x = (c.toNat : Int) := ⟨UInt8.ofNat x.toNat, by rw [UInt8.toNat_ofNat']; omega⟩
      have c256 : (c.toNat : Int) % 256 = (c.toNat : Int) := by omega
      have HR3 := hide hr3
      have HF3 := hide hf3
      subst hc
      have hcv := one_str w3 c (IntKind.u8.wrap (c.toNat : Int)) (by rw [IntKind.wrap_u8]; exact c256)
      clear hr3 hf3 x0 x1 x2
      refine hK.out _ _ (hH.trans HF3.out) (fun hH5 => ?_)
      clear hK K
      try simp only [Act.put, List.setIfInBounds_toArray, List.set_cons_zero, List.set_cons_succ]
      refine wpAnyH_take (i := 5) (v := ?_) rfl (by kernel_rfl) (by kernel_rfl) (by kernel_rfl) (fun _ _ _ h => h) (Or.inl ⟨by rfl, fun w hS => ?_⟩) hH5 ?_
      rotate_left
      · go_simp; try exact rfl
      simp only [Act.put, List.setIfInBounds_toArray, List.set_cons_zero, List.set_cons_succ, List.getElem_toArray, List.getElem_cons_zero, List.getElem_cons_succ]
      refine wpAnyH_ready (rs := [6]) (by kernel_rfl) (by simp) (AllReadyH.cons rfl (fun K hK => ?_) AllReadyH.nil)
      go_simp
      refine hK.out _ _ (hH5.alloc _) (fun hH6 => ?_)
      clear hK K
      try simp only [Act.put, List.setIfInBounds_toArray, List.set_cons_zero, List.set_cons_succ]
      refine wpAnyH_ready (rs := [7]) (by kernel_rfl) (by simp) (AllReadyH.cons rfl (fun K hK => ?_) AllReadyH.nil)
      go_simp
      refine hK.out _ _ (hH6) (fun hH7 => ?_)
      clear hK K
      try simp only [Act.put, List.setIfInBounds_toArray, List.set_cons_zero, List.set_cons_succ]
      refine wpAnyH_take (i := 8) (v := ?_) rfl (by kernel_rfl) (by kernel_rfl) (by kernel_rfl) (fun _ _ _ h => h) (Or.inl ⟨by rfl, fun w hS => ?_⟩) hH7 ?_
      rotate_left
      · go_simp; try exact rfl
      simp only [Act.put, List.setIfInBounds_toArray, List.set_cons_zero, List.set_cons_succ, List.getElem_toArray, List.getElem_cons_zero, List.getElem_cons_succ]
      refine wpAnyH_take (i := 13) (v := ?_) rfl (by kernel_rfl) (by kernel_rfl) (by kernel_rfl) (fun _ _ _ h => h) (Or.inl ⟨by rfl, fun w hS => ?_⟩) hH7 ?_
      rotate_left
      · go_simp; try exact rfl
      simp only [Act.put, List.setIfInBounds_toArray, List.set_cons_zero, List.set_cons_succ, List.getElem_toArray, List.getElem_cons_zero, List.getElem_cons_succ]
      refine wpAnyH_take (i := 14) (v := ?_) rfl (by kernel_rfl) (by kernel_rfl) (by kernel_rfl) (fun _ _ _ h => h) (Or.inl ⟨by rfl, fun w hS => ?_⟩) hH7 ?_
      rotate_left
      · go_simp; try exact rfl
      simp only [Act.put, List.setIfInBounds_toArray, List.set_cons_zero, List.set_cons_succ, List.getElem_toArray, List.getElem_cons_zero, List.getElem_cons_succ]
      refine wpAnyH_done (by kernel_rfl) ?_ _
      go_wp2_with fail
      go_ret
      refine ⟨_, p + 1 + 1 + 1, rfl, ?_, by omega, HR3.out.after (bel1 _ _), hH7⟩
      rw [ByteArray.size_append, ByteArray.size_append, SA.out, SB.out]
      show k + 1 + (s.size - (k + 1)) ≤ _
      omega
    · have hRlt : R < w2.heap.size := HR.out.lt
      have HK := hide (Bk.fresh w2 9 #[.string ⟨#[48]⟩, .string ⟨#[58]⟩, .string ⟨#[46]⟩, .string ⟨#[45]⟩, .string ⟨#[59]⟩, .string ⟨#[32]⟩])
      have HR := hide (HR.out.after (bel1 w2 (.cells #[.string ⟨#[48]⟩, .string ⟨#[58]⟩, .string ⟨#[46]⟩, .string ⟨#[45]⟩, .string ⟨#[59]⟩, .string ⟨#[32]⟩] 9)))
      have HF := hide (HF.out.alloc (.cells #[.string ⟨#[48]⟩, .string ⟨#[58]⟩, .string ⟨#[46]⟩, .string ⟨#[45]⟩, .string ⟨#[59]⟩, .string ⟨#[32]⟩] 9))
      clear sa sb ha hb
      go_wp2_with fail
      refine (pick_any R (p + 1 + 1) 6 _ HR.out (by omega) (by omega) (by omega)).mono ?_; rintro r w3 ⟨x, rfl, x0, x1, _, hr3, hf3⟩
      have x2 := x1 (by omega)
      obtain ⟨j, rfl⟩ : ∃ j : Nat, x = (j : Int) := ⟨x.toNat, by omega⟩
      have j1 : (j : Int) < 6 := by omega
      obtain ⟨y, hy, y1⟩ := six (HK.out.fr hf3 (by omega)) rfl rfl rfl rfl rfl rfl (show j < 6 by omega)
      have HR := hide hr3
      have HF := hide (HF.out.trans hf3)
      have hsy : ¬ 9223372036854775807 < s.size + y.size := by omega
      have Y1 := hide y1
      clear hr3 hf3 y1 x1 x2
      go_wp2_with fail
      go_ret
      refine ⟨_, p + 1 + 1 + 1, rfl, ?_, by omega, HR.out, HF.out⟩
      rw [ByteArray.size_append, Y1.out]
      omega
end Go.Proofs.YtmhbpmacfekhgaaDoor
