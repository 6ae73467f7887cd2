/- The walk of the law FnExactDiskCrash. -/
import Derived.Test.YtadeifimhoaanaaDiskMark
import Derived.Test.YtadeifimhoaanaaDiskCrash
import Derived.Test.YtadeifimhoaanaaOpen
namespace Go.Proofs.Ytadeifimhoaanaa
open Go.RowKit
set_option linter.unusedVariables false

set_option maxHeartbeats 8000000 in
theorem fnExactDiskCrash_walk (A1 A2 : Option Addr) (n1 n2 c1 c2 : Nat) (z1 : List ByteArray) (z2 : List (Int × ByteArray)) (g : Bool) (mask : Int) (wm : (Lit.int .i64 mask).wf = true) (tear : Int) (wt : (Lit.int .i64 tear).wf = true) (w : World) (h1 : Strs w A1 n1 c1 z1) (h2 : WaitS w A2 n2 c2 z2) :
    Calls Try.prog 8 #[.agg #[.slice A1 n1 c1, .slice A2 n2 c2, .bool g], .int .i64 mask, .int .i64 tear] w fun r w' => r = .returned (.bool true) ∧ Below w.heap.size w w' := by
  have SA := hide (show Strs (w.alloc (.cells #[.slice A1 n1 c1, .slice A2 n2 c2, .bool g] 32)) A1 n1 c1 z1 from ⟨h1.1, h1.2.1, h1.2.2.1, h1.2.2.2.1, h1.2.2.2.2.after (bel1 _ _)⟩)
  have SB := hide (show WaitS (w.alloc (.cells #[.slice A1 n1 c1, .slice A2 n2 c2, .bool g] 32)) A2 n2 c2 z2 from ⟨h2.1, h2.2.1, h2.2.2.1, h2.2.2.2.1, h2.2.2.2.2.after (bel1 _ _)⟩)
  have L1 := hide h1.2.2.1
  have L2 := hide h2.2.2.1
  have KA := hide (Bk.fresh w 32 #[.slice A1 n1 c1, .slice A2 n2 c2, .bool g])
  have H1 := hide (h1.2.2.2.2.after (bel1 w (.cells #[.slice A1 n1 c1, .slice A2 n2 c2, .bool g] 32)))
  have H2 := hide (h2.2.2.2.2.after (bel1 w (.cells #[.slice A1 n1 c1, .slice A2 n2 c2, .bool g] 32)))
  have M1 := hide (Nat.le_trans h1.1 h1.2.1)
  have M2 := hide (Nat.le_trans h2.1 h2.2.1)
  have HW := hide (bel1 w (.cells #[.slice A1 n1 c1, .slice A2 n2 c2, .bool g] 32))
  clear h1 h2
  obtain ⟨W1, hW1⟩ : ∃ X : World, X = w.alloc (.cells #[.slice A1 n1 c1, .slice A2 n2 c2, .bool g] 32) := ⟨_, rfl⟩
  rw [← hW1] at SA SB KA H1 H2 HW
  have HX := hide (Below.refl W1.heap.size W1)
  go_enter Try.func8, Try.ntmps8
  go_wp2_with fail
  rw [← hW1]
  clear hW1
  refine (szDisk_any _ _ _ _ _ _ z1 z2 g _ SA.out SB.out).mono ?_; rintro r w1 ⟨⟨l, rfl, hl⟩, hb1⟩
  have HLL := hide hl
  have HX := hide (HX.out.trans (hb1.mono HX.out.size))
  clear hl hb1 SA SB
  by_cases hneg : l < 0
  · go_wp2_with fail
    go_ret
    exact ⟨rfl, HW.out.trans (HX.out.mono HW.out.size)⟩
  have hsm : n1 ≤ 1048576 ∧ n2 ≤ 1048576 := by
    rcases HLL.out with h | ⟨_, a, b, _⟩
    · exact absurd h hneg
    · exact ⟨a, b⟩
  have N1 := hide hsm.1
  have N2 := hide hsm.2
  clear hsm HLL
  have hbm := bounds_i64 wm
  cases hv : diskOk z1 z2 g
  · have HV := hide hv
    clear hv
    obtain ⟨a0, a1, a2⟩ := (KA.out.below HX.out KA.out.lt).c3
    go_wp2_with fail
    refine (toDisk_any _ _ _ _ _ _ z1 z2 g _ (H1.out.keep HX.out.size (fun p hp => HX.out.cell hp)) (H2.out.keep HX.out.size (fun p hp => HX.out.cell hp)) N1.out N2.out).mono ?_; rintro r w2 ⟨ga, gb, rfl, hnab, hga, hgb, hBa, hBb, hb2⟩
    have HX := hide (HX.out.trans (hb2.mono HX.out.size))
    clear a0 a1 a2 hnab hga hgb
    have T1 := hide hBa
    have T2 := hide hBb
    clear hBa hBb hb2
    go_wp2_with fail
    refine (specCrash_no0 ga 0 n1 n1 gb 0 n2 n2 z1 z2 g mask tear _ (strs_rd T1.out L1.out) (waits_rd T2.out L2.out) N1.out N2.out HV.out).mono ?_; rintro r w3 ⟨rfl, hb3⟩
    have hb4 := hb3.alloc hb3.size (.cells #[.slice none 0 0, .slice none 0 0, .bool false] 25)
    have HX := hide (HX.out.trans (hb4.mono HX.out.size))
    have KW := hide (Bk.fresh w3 25 #[.slice none 0 0, .slice none 0 0, .bool false])
    clear hb3 hb4
    clear T1 T2
    obtain ⟨a0, a1, a2⟩ := (KA.out.below HX.out KA.out.lt).c3
    go_wp2_with fail
    refine (toDisk_any _ _ _ _ _ _ z1 z2 g _ (H1.out.keep HX.out.size (fun p hp => HX.out.cell hp)) (H2.out.keep HX.out.size (fun p hp => HX.out.cell hp)) N1.out N2.out).mono ?_; rintro r w4 ⟨gc, gd, rfl, hnab, hga, hgb, hBa, hBb, hb2⟩
    have HLW : Hid (w3.heap.size < gc ∧ w3.heap.size < gd) := hide (by have h := KW.out.lt; omega)
    have HWC : Hid (W1.heap.size ≤ gc ∧ W1.heap.size ≤ gd) := hide (by have h := HX.out.size; omega)
    have KW := hide (KW.out.after hb2)
    have HX := hide (HX.out.trans (hb2.mono HX.out.size))
    clear a0 a1 a2 hnab hga hgb
    have hb5 := bel1 w4 (.cells #[.slice (some ⟨gc, 0, none⟩) n1 n1, .slice (some ⟨gd, 0, none⟩) n2 n2, .bool g] 25)
    have KW := hide (KW.out.after hb5)
    have HX := hide (HX.out.trans (hb5.mono HX.out.size))
    have X1 := hide (hBa.alloc (.cells #[.slice (some ⟨gc, 0, none⟩) n1 n1, .slice (some ⟨gd, 0, none⟩) n2 n2, .bool g] 25))
    have X2 := hide (hBb.alloc (.cells #[.slice (some ⟨gc, 0, none⟩) n1 n1, .slice (some ⟨gd, 0, none⟩) n2 n2, .bool g] 25))
    have KX := hide (Bk.fresh w4 25 #[.slice (some ⟨gc, 0, none⟩) n1 n1, .slice (some ⟨gd, 0, none⟩) n2 n2, .bool g])
    have T1 := hide X1.out
    have T2 := hide X2.out
    clear hBa hBb hb2 hb5
    go_wp2_with fail
    refine (implCrash_no0 gc 0 n1 n1 gd 0 n2 n2 z1 z2 g mask tear _ (strs_rd T1.out L1.out) (waits_rd T2.out L2.out) N1.out N2.out HV.out).mono ?_; rintro r w5 ⟨rfl, hb3⟩
    have HX5 : Hid (gc < w5.heap.size ∧ gd < w5.heap.size) := hide ⟨(X1.out.after hb3).lt, (X2.out.after hb3).lt⟩
    have hb4 := hb3.alloc hb3.size (.cells #[.slice none 0 0, .slice none 0 0, .bool false] 25)
    have KW := hide (KW.out.after hb4)
    have KX := hide (KX.out.after hb4)
    have X1 := hide (X1.out.after hb4)
    have X2 := hide (X2.out.after hb4)
    have HX := hide (HX.out.trans (hb4.mono HX.out.size))
    have KG := hide (Bk.fresh w5 25 #[.slice none 0 0, .slice none 0 0, .bool false])
    clear hb3 hb4
    clear T1 T2
    obtain ⟨y00, y01, y02⟩ := KW.out.c3
    go_wp2_with fail
    refine (eqDisk_v (eqD_same [] [] false) _ (Rd.nil _ _ _) (Rd.nil _ _ _) (Rd.nil _ _ _) (Rd.nil _ _ _) (by decide) (by decide)).mono ?_; rintro r w6 ⟨rfl, hb2⟩
    have KW := hide (KW.out.after hb2)
    have KX := hide (KX.out.after hb2)
    have X1 := hide (X1.out.after hb2)
    have X2 := hide (X2.out.after hb2)
    have KG := hide (KG.out.after hb2)
    have HX := hide (HX.out.trans (hb2.mono HX.out.size))
    clear hb2
    clear y00 y01 y02
    have KAc := hide (KA.out.below HX.out KA.out.lt)
    go_wp2_with fail
    have KK1 := (H1.out.keep HX.out.size (fun p hp => HX.out.cell hp))
    have KK2 := (H2.out.keep HX.out.size (fun p hp => HX.out.cell hp))
    refine wp_region_held_drew (S := fun x => Below w6.heap.size w6 x) (by kernel_rfl) ((Below.refl _ _).drew) (fun hH => ?_)
    refine wpAnyH_take (i := 0) (v := ?_) rfl (by kernel_rfl) (by kernel_rfl) (by kernel_rfl) (fun _ _ _ h => h) (Or.inl ⟨by rfl, fun wS hS => ?_⟩) hH ?_
    rotate_left
    · have a0 := (hS.cell (p := ⟨w.heap.size, 0, none⟩) KAc.out.lt).trans (KAc.out.cell 0); have a1 := (hS.cell (p := ⟨w.heap.size, 1, none⟩) KAc.out.lt).trans (KAc.out.cell 1); have a2 := (hS.cell (p := ⟨w.heap.size, 2, none⟩) KAc.out.lt).trans (KAc.out.cell 2); have b0 := (hS.cell (p := ⟨w4.heap.size, 0, none⟩) KX.out.lt).trans (KX.out.cell 0); have b1 := (hS.cell (p := ⟨w4.heap.size, 1, none⟩) KX.out.lt).trans (KX.out.cell 1); have b2 := (hS.cell (p := ⟨w4.heap.size, 2, none⟩) KX.out.lt).trans (KX.out.cell 2); go_simp; try exact rfl
    simp only [Act.put, List.setIfInBounds_toArray, List.set_cons_zero, List.set_cons_succ, List.getElem_toArray, List.getElem_cons_zero]
    refine wpAnyH_take (i := 1) (v := ?_) rfl (by kernel_rfl) (by kernel_rfl) (by kernel_rfl) (fun _ _ _ h => h) (Or.inl ⟨by rfl, fun wS hS => ?_⟩) hH ?_
    rotate_left
    · have a0 := (hS.cell (p := ⟨w.heap.size, 0, none⟩) KAc.out.lt).trans (KAc.out.cell 0); have a1 := (hS.cell (p := ⟨w.heap.size, 1, none⟩) KAc.out.lt).trans (KAc.out.cell 1); have a2 := (hS.cell (p := ⟨w.heap.size, 2, none⟩) KAc.out.lt).trans (KAc.out.cell 2); have b0 := (hS.cell (p := ⟨w4.heap.size, 0, none⟩) KX.out.lt).trans (KX.out.cell 0); have b1 := (hS.cell (p := ⟨w4.heap.size, 1, none⟩) KX.out.lt).trans (KX.out.cell 1); have b2 := (hS.cell (p := ⟨w4.heap.size, 2, none⟩) KX.out.lt).trans (KX.out.cell 2); go_simp; try exact rfl
    simp only [Act.put, List.setIfInBounds_toArray, List.set_cons_zero, List.set_cons_succ, List.getElem_toArray, List.getElem_cons_zero, List.getElem_cons_succ]
    refine wpAnyH_ready (rs := [2]) (by kernel_rfl) (by simp) (AllReadyH.cons rfl (fun K hK => ?_) AllReadyH.nil)
    go_simp
    go_at_call 23
    refine (toDisk_any _ _ _ _ _ _ z1 z2 g _ (KK1.after (Below.refl _ _).drew) (KK2.after (Below.refl _ _).drew) N1.out N2.out).mono ?_; rintro r w7 ⟨g5, g6, rfl, _, _, _, hB5, hB6, hb5⟩
    have K5 := hide hB5
    have K6 := hide hB6
    have Y1 := hide (X1.out.after ((Below.refl _ _).drew.trans (hb5.mono (Nat.le_refl _))))
    have Y2 := hide (X2.out.after ((Below.refl _ _).drew.trans (hb5.mono (Nat.le_refl _))))
    have HB5 := hide hb5
    clear hB5 hB6 hb5
    refine hK.out _ _ (hH.trans HB5.out) (fun hH5 => ?_)
    clear hK K
    try simp only [Act.put, List.setIfInBounds_toArray, List.set_cons_zero, List.set_cons_succ]
    refine wpAnyH_ready (rs := [3]) (by kernel_rfl) (by simp) (AllReadyH.cons rfl (fun K hK => ?_) AllReadyH.nil)
    go_simp
    go_at_call 16
    refine (eqDisk_v (eqD_same z1 z2 g) _ (strs_rd Y1.out L1.out) (waits_rd Y2.out L2.out) (strs_rd K5.out L1.out) (waits_rd K6.out L2.out) M1.out M2.out).mono ?_; rintro r w8 ⟨rfl, hb6⟩
    have HB6 := hide hb6
    clear hb6
    refine hK.out _ _ (hH5.trans (HB6.out.mono hH5.size)) (fun hH6 => ?_)
    clear hK K
    try simp only [Act.put, List.setIfInBounds_toArray, List.set_cons_zero, List.set_cons_succ]
    refine wpAnyH_take (i := 4) (v := ?_) rfl (by kernel_rfl) (by kernel_rfl) (by kernel_rfl) (fun _ _ _ h => h) (Or.inl ⟨by rfl, fun wS hS => ?_⟩) hH6 ?_
    rotate_left
    · have a0 := (hS.cell (p := ⟨w.heap.size, 0, none⟩) KAc.out.lt).trans (KAc.out.cell 0); have a1 := (hS.cell (p := ⟨w.heap.size, 1, none⟩) KAc.out.lt).trans (KAc.out.cell 1); have a2 := (hS.cell (p := ⟨w.heap.size, 2, none⟩) KAc.out.lt).trans (KAc.out.cell 2); have b0 := (hS.cell (p := ⟨w4.heap.size, 0, none⟩) KX.out.lt).trans (KX.out.cell 0); have b1 := (hS.cell (p := ⟨w4.heap.size, 1, none⟩) KX.out.lt).trans (KX.out.cell 1); have b2 := (hS.cell (p := ⟨w4.heap.size, 2, none⟩) KX.out.lt).trans (KX.out.cell 2); go_simp; try exact rfl
    simp only [Act.put, List.setIfInBounds_toArray, List.set_cons_zero, List.set_cons_succ, List.getElem_toArray, List.getElem_cons_zero, List.getElem_cons_succ]
    refine wpAnyH_done (by kernel_rfl) ?_ _
    clear KK1 KK2 K5 K6 Y1 Y2 HB5 HB6 hH hH5 KAc
    have KW := hide (KW.out.after hH6)
    have KX := hide (KX.out.after hH6)
    have X1 := hide (X1.out.after hH6)
    have X2 := hide (X2.out.after hH6)
    have KG := hide (KG.out.after hH6)
    have HX := hide (HX.out.trans (hH6.mono HX.out.size))
    clear hH6
    obtain ⟨y00, y01, y02⟩ := KX.out.c3
    go_wp2_with fail
    refine (markDisk_x gc gd n1 n2 n1 n2 _ _ g _ X1.out X2.out (by have := L1.out; simp; omega) (by have := L2.out; rw [List.size_toArray, waitCells_len]; omega) N1.out N2.out).mono ?_; rintro r w9 ⟨⟨v, rfl⟩, hf⟩
    clear y00 y01 y02
    have KW := hide (KW.out.fr hf (by have h1 := HLW.out; have h2 := HX5.out; rintro (e | e) <;> omega))
    have KG := hide (KG.out.fr hf (by have h1 := HLW.out; have h2 := HX5.out; rintro (e | e) <;> omega))
    have HX := hide (HX.out.trans (hf.below HX.out.size (fun i e => by have h := HWC.out; rcases e with e | e <;> omega)))
    clear hf X1 X2 KX
    have hv0 : ¬ (v : Int) < 0 := by omega
    obtain ⟨y00, y01, y02⟩ := KW.out.c3
    obtain ⟨y10, y11, y12⟩ := KG.out.c3
    go_wp2_with fail
    refine (eqDisk_v (eqD_same [] [] false) _ (Rd.nil _ _ _) (Rd.nil _ _ _) (Rd.nil _ _ _) (Rd.nil _ _ _) (by decide) (by decide)).mono ?_; rintro r w10 ⟨rfl, hb2⟩
    have KW := hide (KW.out.after hb2)
    have KG := hide (KG.out.after hb2)
    have HX := hide (HX.out.trans (hb2.mono HX.out.size))
    clear hb2
    clear y00 y01 y02
    clear y10 y11 y12
    clear hv0
    obtain ⟨y00, y01, y02⟩ := KG.out.c3
    go_wp2_with fail
    refine (markDisk_n false _).mono ?_; rintro r w11 ⟨rfl, hb2⟩
    clear y00 y01 y02
    have KW := hide (KW.out.after hb2)
    have KG := hide (KG.out.after hb2)
    have HX := hide (HX.out.trans (hb2.mono HX.out.size))
    clear hb2
    obtain ⟨y00, y01, y02⟩ := KG.out.c3
    go_wp2_with fail
    refine (heldDisk_n false _).mono ?_; rintro r w12 ⟨rfl, hb2⟩
    clear y00 y01 y02
    have KW := hide (KW.out.after hb2)
    have KG := hide (KG.out.after hb2)
    have HX := hide (HX.out.trans (hb2.mono HX.out.size))
    clear hb2
    obtain ⟨a0, a1, a2⟩ := (KA.out.below HX.out KA.out.lt).c3
    go_wp2_with fail
    refine (toDisk_any _ _ _ _ _ _ z1 z2 g _ (H1.out.keep HX.out.size (fun p hp => HX.out.cell hp)) (H2.out.keep HX.out.size (fun p hp => HX.out.cell hp)) N1.out N2.out).mono ?_; rintro r w13 ⟨ge, gf, rfl, hnab, hga, hgb, hBa, hBb, hb2⟩
    have KW := hide (KW.out.after hb2)
    have KG := hide (KG.out.after hb2)
    have HX := hide (HX.out.trans (hb2.mono HX.out.size))
    clear a0 a1 a2 hnab hga hgb
    have T1 := hide hBa
    have T2 := hide hBb
    clear hBa hBb hb2
    go_wp2_with fail
    refine (implCrash_no0 ge 0 n1 n1 gf 0 n2 n2 z1 z2 g mask tear _ (strs_rd T1.out L1.out) (waits_rd T2.out L2.out) N1.out N2.out HV.out).mono ?_; rintro r w14 ⟨rfl, hb3⟩
    have hb4 := hb3.alloc hb3.size (.cells #[.slice none 0 0, .slice none 0 0, .bool false] 25)
    have KW := hide (KW.out.after hb4)
    have KG := hide (KG.out.after hb4)
    have HX := hide (HX.out.trans (hb4.mono HX.out.size))
    have KH := hide (Bk.fresh w14 25 #[.slice none 0 0, .slice none 0 0, .bool false])
    clear hb3 hb4
    clear T1 T2
    obtain ⟨y00, y01, y02⟩ := KW.out.c3
    go_wp2_with fail
    refine (eqDisk_v (eqD_same [] [] false) _ (Rd.nil _ _ _) (Rd.nil _ _ _) (Rd.nil _ _ _) (Rd.nil _ _ _) (by decide) (by decide)).mono ?_; rintro r w15 ⟨rfl, hb2⟩
    have KW := hide (KW.out.after hb2)
    have KG := hide (KG.out.after hb2)
    have HX := hide (HX.out.trans (hb2.mono HX.out.size))
    clear hb2
    clear y00 y01 y02
    obtain ⟨y00, y01, y02⟩ := KG.out.c3
    go_wp2_with fail
    refine (heldDisk_n false _).mono ?_; rintro r w16 ⟨rfl, hb2⟩
    clear y00 y01 y02
    have KW := hide (KW.out.after hb2)
    have KG := hide (KG.out.after hb2)
    have HX := hide (HX.out.trans (hb2.mono HX.out.size))
    clear hb2
    go_wp2_with fail
    go_ret
    exact ⟨rfl, HW.out.trans (HX.out.mono HW.out.size)⟩
  · by_cases hmask : mask < 0
    · have HV := hide hv
      clear hv
      obtain ⟨a0, a1, a2⟩ := (KA.out.below HX.out KA.out.lt).c3
      go_wp2_with fail
      refine (toDisk_any _ _ _ _ _ _ z1 z2 g _ (H1.out.keep HX.out.size (fun p hp => HX.out.cell hp)) (H2.out.keep HX.out.size (fun p hp => HX.out.cell hp)) N1.out N2.out).mono ?_; rintro r w2 ⟨ga, gb, rfl, hnab, hga, hgb, hBa, hBb, hb2⟩
      have HX := hide (HX.out.trans (hb2.mono HX.out.size))
      clear a0 a1 a2 hnab hga hgb
      have T1 := hide hBa
      have T2 := hide hBb
      clear hBa hBb hb2
      go_wp2_with fail
      refine (specCrash_no1 ga 0 n1 n1 gb 0 n2 n2 z1 z2 g mask tear _ (strs_rd T1.out L1.out) (waits_rd T2.out L2.out) N1.out N2.out HV.out hmask).mono ?_; rintro r w3 ⟨rfl, hb3⟩
      have hb4 := hb3.alloc hb3.size (.cells #[.slice none 0 0, .slice none 0 0, .bool false] 25)
      have HX := hide (HX.out.trans (hb4.mono HX.out.size))
      have KW := hide (Bk.fresh w3 25 #[.slice none 0 0, .slice none 0 0, .bool false])
      clear hb3 hb4
      clear T1 T2
      obtain ⟨a0, a1, a2⟩ := (KA.out.below HX.out KA.out.lt).c3
      go_wp2_with fail
      refine (toDisk_any _ _ _ _ _ _ z1 z2 g _ (H1.out.keep HX.out.size (fun p hp => HX.out.cell hp)) (H2.out.keep HX.out.size (fun p hp => HX.out.cell hp)) N1.out N2.out).mono ?_; rintro r w4 ⟨gc, gd, rfl, hnab, hga, hgb, hBa, hBb, hb2⟩
      have HLW : Hid (w3.heap.size < gc ∧ w3.heap.size < gd) := hide (by have h := KW.out.lt; omega)
      have HWC : Hid (W1.heap.size ≤ gc ∧ W1.heap.size ≤ gd) := hide (by have h := HX.out.size; omega)
      have KW := hide (KW.out.after hb2)
      have HX := hide (HX.out.trans (hb2.mono HX.out.size))
      clear a0 a1 a2 hnab hga hgb
      have hb5 := bel1 w4 (.cells #[.slice (some ⟨gc, 0, none⟩) n1 n1, .slice (some ⟨gd, 0, none⟩) n2 n2, .bool g] 25)
      have KW := hide (KW.out.after hb5)
      have HX := hide (HX.out.trans (hb5.mono HX.out.size))
      have X1 := hide (hBa.alloc (.cells #[.slice (some ⟨gc, 0, none⟩) n1 n1, .slice (some ⟨gd, 0, none⟩) n2 n2, .bool g] 25))
      have X2 := hide (hBb.alloc (.cells #[.slice (some ⟨gc, 0, none⟩) n1 n1, .slice (some ⟨gd, 0, none⟩) n2 n2, .bool g] 25))
      have KX := hide (Bk.fresh w4 25 #[.slice (some ⟨gc, 0, none⟩) n1 n1, .slice (some ⟨gd, 0, none⟩) n2 n2, .bool g])
      have T1 := hide X1.out
      have T2 := hide X2.out
      clear hBa hBb hb2 hb5
      go_wp2_with fail
      refine (implCrash_no1 gc 0 n1 n1 gd 0 n2 n2 z1 z2 g mask tear _ (strs_rd T1.out L1.out) (waits_rd T2.out L2.out) N1.out N2.out HV.out hmask).mono ?_; rintro r w5 ⟨rfl, hb3⟩
      have HX5 : Hid (gc < w5.heap.size ∧ gd < w5.heap.size) := hide ⟨(X1.out.after hb3).lt, (X2.out.after hb3).lt⟩
      have hb4 := hb3.alloc hb3.size (.cells #[.slice none 0 0, .slice none 0 0, .bool false] 25)
      have KW := hide (KW.out.after hb4)
      have KX := hide (KX.out.after hb4)
      have X1 := hide (X1.out.after hb4)
      have X2 := hide (X2.out.after hb4)
      have HX := hide (HX.out.trans (hb4.mono HX.out.size))
      have KG := hide (Bk.fresh w5 25 #[.slice none 0 0, .slice none 0 0, .bool false])
      clear hb3 hb4
      clear T1 T2
      obtain ⟨y00, y01, y02⟩ := KW.out.c3
      go_wp2_with fail
      refine (eqDisk_v (eqD_same [] [] false) _ (Rd.nil _ _ _) (Rd.nil _ _ _) (Rd.nil _ _ _) (Rd.nil _ _ _) (by decide) (by decide)).mono ?_; rintro r w6 ⟨rfl, hb2⟩
      have KW := hide (KW.out.after hb2)
      have KX := hide (KX.out.after hb2)
      have X1 := hide (X1.out.after hb2)
      have X2 := hide (X2.out.after hb2)
      have KG := hide (KG.out.after hb2)
      have HX := hide (HX.out.trans (hb2.mono HX.out.size))
      clear hb2
      clear y00 y01 y02
      have KAc := hide (KA.out.below HX.out KA.out.lt)
      go_wp2_with fail
      have KK1 := (H1.out.keep HX.out.size (fun p hp => HX.out.cell hp))
      have KK2 := (H2.out.keep HX.out.size (fun p hp => HX.out.cell hp))
      refine wp_region_held_drew (S := fun x => Below w6.heap.size w6 x) (by kernel_rfl) ((Below.refl _ _).drew) (fun hH => ?_)
      refine wpAnyH_take (i := 0) (v := ?_) rfl (by kernel_rfl) (by kernel_rfl) (by kernel_rfl) (fun _ _ _ h => h) (Or.inl ⟨by rfl, fun wS hS => ?_⟩) hH ?_
      rotate_left
      · have a0 := (hS.cell (p := ⟨w.heap.size, 0, none⟩) KAc.out.lt).trans (KAc.out.cell 0); have a1 := (hS.cell (p := ⟨w.heap.size, 1, none⟩) KAc.out.lt).trans (KAc.out.cell 1); have a2 := (hS.cell (p := ⟨w.heap.size, 2, none⟩) KAc.out.lt).trans (KAc.out.cell 2); have b0 := (hS.cell (p := ⟨w4.heap.size, 0, none⟩) KX.out.lt).trans (KX.out.cell 0); have b1 := (hS.cell (p := ⟨w4.heap.size, 1, none⟩) KX.out.lt).trans (KX.out.cell 1); have b2 := (hS.cell (p := ⟨w4.heap.size, 2, none⟩) KX.out.lt).trans (KX.out.cell 2); go_simp; try exact rfl
      simp only [Act.put, List.setIfInBounds_toArray, List.set_cons_zero, List.set_cons_succ, List.getElem_toArray, List.getElem_cons_zero]
      refine wpAnyH_take (i := 1) (v := ?_) rfl (by kernel_rfl) (by kernel_rfl) (by kernel_rfl) (fun _ _ _ h => h) (Or.inl ⟨by rfl, fun wS hS => ?_⟩) hH ?_
      rotate_left
      · have a0 := (hS.cell (p := ⟨w.heap.size, 0, none⟩) KAc.out.lt).trans (KAc.out.cell 0); have a1 := (hS.cell (p := ⟨w.heap.size, 1, none⟩) KAc.out.lt).trans (KAc.out.cell 1); have a2 := (hS.cell (p := ⟨w.heap.size, 2, none⟩) KAc.out.lt).trans (KAc.out.cell 2); have b0 := (hS.cell (p := ⟨w4.heap.size, 0, none⟩) KX.out.lt).trans (KX.out.cell 0); have b1 := (hS.cell (p := ⟨w4.heap.size, 1, none⟩) KX.out.lt).trans (KX.out.cell 1); have b2 := (hS.cell (p := ⟨w4.heap.size, 2, none⟩) KX.out.lt).trans (KX.out.cell 2); go_simp; try exact rfl
      simp only [Act.put, List.setIfInBounds_toArray, List.set_cons_zero, List.set_cons_succ, List.getElem_toArray, List.getElem_cons_zero, List.getElem_cons_succ]
      refine wpAnyH_ready (rs := [2]) (by kernel_rfl) (by simp) (AllReadyH.cons rfl (fun K hK => ?_) AllReadyH.nil)
      go_simp
      go_at_call 23
      refine (toDisk_any _ _ _ _ _ _ z1 z2 g _ (KK1.after (Below.refl _ _).drew) (KK2.after (Below.refl _ _).drew) N1.out N2.out).mono ?_; rintro r w7 ⟨g5, g6, rfl, _, _, _, hB5, hB6, hb5⟩
      have K5 := hide hB5
      have K6 := hide hB6
      have Y1 := hide (X1.out.after ((Below.refl _ _).drew.trans (hb5.mono (Nat.le_refl _))))
      have Y2 := hide (X2.out.after ((Below.refl _ _).drew.trans (hb5.mono (Nat.le_refl _))))
      have HB5 := hide hb5
      clear hB5 hB6 hb5
      refine hK.out _ _ (hH.trans HB5.out) (fun hH5 => ?_)
      clear hK K
      try simp only [Act.put, List.setIfInBounds_toArray, List.set_cons_zero, List.set_cons_succ]
      refine wpAnyH_ready (rs := [3]) (by kernel_rfl) (by simp) (AllReadyH.cons rfl (fun K hK => ?_) AllReadyH.nil)
      go_simp
      go_at_call 16
      refine (eqDisk_v (eqD_same z1 z2 g) _ (strs_rd Y1.out L1.out) (waits_rd Y2.out L2.out) (strs_rd K5.out L1.out) (waits_rd K6.out L2.out) M1.out M2.out).mono ?_; rintro r w8 ⟨rfl, hb6⟩
      have HB6 := hide hb6
      clear hb6
      refine hK.out _ _ (hH5.trans (HB6.out.mono hH5.size)) (fun hH6 => ?_)
      clear hK K
      try simp only [Act.put, List.setIfInBounds_toArray, List.set_cons_zero, List.set_cons_succ]
      refine wpAnyH_take (i := 4) (v := ?_) rfl (by kernel_rfl) (by kernel_rfl) (by kernel_rfl) (fun _ _ _ h => h) (Or.inl ⟨by rfl, fun wS hS => ?_⟩) hH6 ?_
      rotate_left
      · have a0 := (hS.cell (p := ⟨w.heap.size, 0, none⟩) KAc.out.lt).trans (KAc.out.cell 0); have a1 := (hS.cell (p := ⟨w.heap.size, 1, none⟩) KAc.out.lt).trans (KAc.out.cell 1); have a2 := (hS.cell (p := ⟨w.heap.size, 2, none⟩) KAc.out.lt).trans (KAc.out.cell 2); have b0 := (hS.cell (p := ⟨w4.heap.size, 0, none⟩) KX.out.lt).trans (KX.out.cell 0); have b1 := (hS.cell (p := ⟨w4.heap.size, 1, none⟩) KX.out.lt).trans (KX.out.cell 1); have b2 := (hS.cell (p := ⟨w4.heap.size, 2, none⟩) KX.out.lt).trans (KX.out.cell 2); go_simp; try exact rfl
      simp only [Act.put, List.setIfInBounds_toArray, List.set_cons_zero, List.set_cons_succ, List.getElem_toArray, List.getElem_cons_zero, List.getElem_cons_succ]
      refine wpAnyH_done (by kernel_rfl) ?_ _
      clear KK1 KK2 K5 K6 Y1 Y2 HB5 HB6 hH hH5 KAc
      have KW := hide (KW.out.after hH6)
      have KX := hide (KX.out.after hH6)
      have X1 := hide (X1.out.after hH6)
      have X2 := hide (X2.out.after hH6)
      have KG := hide (KG.out.after hH6)
      have HX := hide (HX.out.trans (hH6.mono HX.out.size))
      clear hH6
      obtain ⟨y00, y01, y02⟩ := KX.out.c3
      go_wp2_with fail
      refine (markDisk_x gc gd n1 n2 n1 n2 _ _ g _ X1.out X2.out (by have := L1.out; simp; omega) (by have := L2.out; rw [List.size_toArray, waitCells_len]; omega) N1.out N2.out).mono ?_; rintro r w9 ⟨⟨v, rfl⟩, hf⟩
      clear y00 y01 y02
      have KW := hide (KW.out.fr hf (by have h1 := HLW.out; have h2 := HX5.out; rintro (e | e) <;> omega))
      have KG := hide (KG.out.fr hf (by have h1 := HLW.out; have h2 := HX5.out; rintro (e | e) <;> omega))
      have HX := hide (HX.out.trans (hf.below HX.out.size (fun i e => by have h := HWC.out; rcases e with e | e <;> omega)))
      clear hf X1 X2 KX
      have hv0 : ¬ (v : Int) < 0 := by omega
      obtain ⟨y00, y01, y02⟩ := KW.out.c3
      obtain ⟨y10, y11, y12⟩ := KG.out.c3
      go_wp2_with fail
      refine (eqDisk_v (eqD_same [] [] false) _ (Rd.nil _ _ _) (Rd.nil _ _ _) (Rd.nil _ _ _) (Rd.nil _ _ _) (by decide) (by decide)).mono ?_; rintro r w10 ⟨rfl, hb2⟩
      have KW := hide (KW.out.after hb2)
      have KG := hide (KG.out.after hb2)
      have HX := hide (HX.out.trans (hb2.mono HX.out.size))
      clear hb2
      clear y00 y01 y02
      clear y10 y11 y12
      clear hv0
      obtain ⟨y00, y01, y02⟩ := KG.out.c3
      go_wp2_with fail
      refine (markDisk_n false _).mono ?_; rintro r w11 ⟨rfl, hb2⟩
      clear y00 y01 y02
      have KW := hide (KW.out.after hb2)
      have KG := hide (KG.out.after hb2)
      have HX := hide (HX.out.trans (hb2.mono HX.out.size))
      clear hb2
      obtain ⟨y00, y01, y02⟩ := KG.out.c3
      go_wp2_with fail
      refine (heldDisk_n false _).mono ?_; rintro r w12 ⟨rfl, hb2⟩
      clear y00 y01 y02
      have KW := hide (KW.out.after hb2)
      have KG := hide (KG.out.after hb2)
      have HX := hide (HX.out.trans (hb2.mono HX.out.size))
      clear hb2
      obtain ⟨a0, a1, a2⟩ := (KA.out.below HX.out KA.out.lt).c3
      go_wp2_with fail
      refine (toDisk_any _ _ _ _ _ _ z1 z2 g _ (H1.out.keep HX.out.size (fun p hp => HX.out.cell hp)) (H2.out.keep HX.out.size (fun p hp => HX.out.cell hp)) N1.out N2.out).mono ?_; rintro r w13 ⟨ge, gf, rfl, hnab, hga, hgb, hBa, hBb, hb2⟩
      have KW := hide (KW.out.after hb2)
      have KG := hide (KG.out.after hb2)
      have HX := hide (HX.out.trans (hb2.mono HX.out.size))
      clear a0 a1 a2 hnab hga hgb
      have T1 := hide hBa
      have T2 := hide hBb
      clear hBa hBb hb2
      go_wp2_with fail
      refine (implCrash_no1 ge 0 n1 n1 gf 0 n2 n2 z1 z2 g mask tear _ (strs_rd T1.out L1.out) (waits_rd T2.out L2.out) N1.out N2.out HV.out hmask).mono ?_; rintro r w14 ⟨rfl, hb3⟩
      have hb4 := hb3.alloc hb3.size (.cells #[.slice none 0 0, .slice none 0 0, .bool false] 25)
      have KW := hide (KW.out.after hb4)
      have KG := hide (KG.out.after hb4)
      have HX := hide (HX.out.trans (hb4.mono HX.out.size))
      have KH := hide (Bk.fresh w14 25 #[.slice none 0 0, .slice none 0 0, .bool false])
      clear hb3 hb4
      clear T1 T2
      obtain ⟨y00, y01, y02⟩ := KW.out.c3
      go_wp2_with fail
      refine (eqDisk_v (eqD_same [] [] false) _ (Rd.nil _ _ _) (Rd.nil _ _ _) (Rd.nil _ _ _) (Rd.nil _ _ _) (by decide) (by decide)).mono ?_; rintro r w15 ⟨rfl, hb2⟩
      have KW := hide (KW.out.after hb2)
      have KG := hide (KG.out.after hb2)
      have HX := hide (HX.out.trans (hb2.mono HX.out.size))
      clear hb2
      clear y00 y01 y02
      obtain ⟨y00, y01, y02⟩ := KG.out.c3
      go_wp2_with fail
      refine (heldDisk_n false _).mono ?_; rintro r w16 ⟨rfl, hb2⟩
      clear y00 y01 y02
      have KW := hide (KW.out.after hb2)
      have KG := hide (KG.out.after hb2)
      have HX := hide (HX.out.trans (hb2.mono HX.out.size))
      clear hb2
      go_wp2_with fail
      go_ret
      exact ⟨rfl, HW.out.trans (HX.out.mono HW.out.size)⟩
    · obtain ⟨m, rfl⟩ : ∃ m : Nat, mask = (m : Int) := ⟨mask.toNat, by omega⟩
      have HMM : Hid (m < 9223372036854775808) := hide (by omega)
      obtain ⟨R, hR⟩ : ∃ R, settleT (crashF m tear) 0 z2 z1 = R := ⟨_, rfl⟩
      have HRL : Hid ((R.map Value.string).length = 64 * 1) := hide (by
        rw [List.length_map, ← hR, settle_len]
        unfold diskOk at hv
        simp only [Bool.and_eq_true, decide_eq_true_eq] at hv
        omega)
      have HV := hide hv
      have HR := hide hR
      clear hv hR
      obtain ⟨a0, a1, a2⟩ := (KA.out.below HX.out KA.out.lt).c3
      go_wp2_with fail
      refine (toDisk_any _ _ _ _ _ _ z1 z2 g _ (H1.out.keep HX.out.size (fun p hp => HX.out.cell hp)) (H2.out.keep HX.out.size (fun p hp => HX.out.cell hp)) N1.out N2.out).mono ?_; rintro r w2 ⟨ga, gb, rfl, hnab, hga, hgb, hBa, hBb, hb2⟩
      have HX := hide (HX.out.trans (hb2.mono HX.out.size))
      clear a0 a1 a2 hnab hga hgb
      have T1 := hide hBa
      have T2 := hide hBb
      clear hBa hBb hb2
      go_wp2_with fail
      refine (specCrash_yes ga 0 n1 n1 gb 0 n2 n2 z1 R z2 g m tear _ (strs_rd T1.out L1.out) (waits_rd T2.out L2.out) N2.out T1.out.lt T2.out.lt HV.out HMM.out HR.out).mono ?_; rintro r w3 ⟨gw, cw, Bw, rfl, hg1, hrow, hb3⟩
      have hb4 := hb3.alloc hb3.size (.cells #[.slice (some ⟨gw, 0, none⟩) 64 cw, .slice Bw 0 0, .bool g] 25)
      have HX := hide (HX.out.trans (hb4.mono HX.out.size))
      have KW := hide (Bk.fresh w3 25 #[.slice (some ⟨gw, 0, none⟩) 64 cw, .slice Bw 0 0, .bool g])
      have RW := hide (hrow.alloc (.cells #[.slice (some ⟨gw, 0, none⟩) 64 cw, .slice Bw 0 0, .bool g] 25))
      clear hb3 hb4 hrow hg1
      clear T1 T2
      obtain ⟨a0, a1, a2⟩ := (KA.out.below HX.out KA.out.lt).c3
      go_wp2_with fail
      refine (toDisk_any _ _ _ _ _ _ z1 z2 g _ (H1.out.keep HX.out.size (fun p hp => HX.out.cell hp)) (H2.out.keep HX.out.size (fun p hp => HX.out.cell hp)) N1.out N2.out).mono ?_; rintro r w4 ⟨gc, gd, rfl, hnab, hga, hgb, hBa, hBb, hb2⟩
      have HLW : Hid (w3.heap.size < gc ∧ w3.heap.size < gd) := hide (by have h := KW.out.lt; omega)
      have HWC : Hid (W1.heap.size ≤ gc ∧ W1.heap.size ≤ gd) := hide (by have h := HX.out.size; omega)
      have HLR : Hid (gw < gc ∧ gw < gd) := hide (by have h := RW.out.lt; omega)
      have KW := hide (KW.out.after hb2)
      have RW := hide (RW.out.after hb2)
      have HX := hide (HX.out.trans (hb2.mono HX.out.size))
      clear a0 a1 a2 hnab hga hgb
      have hb5 := bel1 w4 (.cells #[.slice (some ⟨gc, 0, none⟩) n1 n1, .slice (some ⟨gd, 0, none⟩) n2 n2, .bool g] 25)
      have KW := hide (KW.out.after hb5)
      have RW := hide (RW.out.after hb5)
      have HX := hide (HX.out.trans (hb5.mono HX.out.size))
      have X1 := hide (hBa.alloc (.cells #[.slice (some ⟨gc, 0, none⟩) n1 n1, .slice (some ⟨gd, 0, none⟩) n2 n2, .bool g] 25))
      have X2 := hide (hBb.alloc (.cells #[.slice (some ⟨gc, 0, none⟩) n1 n1, .slice (some ⟨gd, 0, none⟩) n2 n2, .bool g] 25))
      have KX := hide (Bk.fresh w4 25 #[.slice (some ⟨gc, 0, none⟩) n1 n1, .slice (some ⟨gd, 0, none⟩) n2 n2, .bool g])
      have T1 := hide X1.out
      have T2 := hide X2.out
      clear hBa hBb hb2 hb5
      go_wp2_with fail
      refine (implCrash_yes gc 0 n1 n1 gd 0 n2 n2 z1 R z2 g m tear _ (strs_rd T1.out L1.out) (waits_rd T2.out L2.out) N2.out T1.out.lt T2.out.lt HV.out HMM.out HR.out).mono ?_; rintro r w5 ⟨gg, cg, Bg, rfl, hg1, hrow, hb3⟩
      have HX5 : Hid (gc < w5.heap.size ∧ gd < w5.heap.size) := hide ⟨(X1.out.after hb3).lt, (X2.out.after hb3).lt⟩
      have HGG : Hid (gc < gg ∧ gd < gg) := hide (by have h := X1.out.lt; have h2 := X2.out.lt; omega)
      have HG5 : Hid (gg < w5.heap.size) := hide hrow.lt
      have hb4 := hb3.alloc hb3.size (.cells #[.slice (some ⟨gg, 0, none⟩) 64 cg, .slice Bg 0 0, .bool g] 25)
      have KW := hide (KW.out.after hb4)
      have RW := hide (RW.out.after hb4)
      have KX := hide (KX.out.after hb4)
      have X1 := hide (X1.out.after hb4)
      have X2 := hide (X2.out.after hb4)
      have HX := hide (HX.out.trans (hb4.mono HX.out.size))
      have KG := hide (Bk.fresh w5 25 #[.slice (some ⟨gg, 0, none⟩) 64 cg, .slice Bg 0 0, .bool g])
      have RG := hide (hrow.alloc (.cells #[.slice (some ⟨gg, 0, none⟩) 64 cg, .slice Bg 0 0, .bool g] 25))
      clear hb3 hb4 hrow hg1
      clear T1 T2
      obtain ⟨y00, y01, y02⟩ := KW.out.c3
      go_wp2_with fail
      refine (eqDisk_v (eqD_same R [] g) _ (RG.out.rd HRL.out) (Rd.nil _ _ _) (RW.out.rd HRL.out) (Rd.nil _ _ _) (by decide) (by decide)).mono ?_; rintro r w6 ⟨rfl, hb2⟩
      have KW := hide (KW.out.after hb2)
      have RW := hide (RW.out.after hb2)
      have KX := hide (KX.out.after hb2)
      have X1 := hide (X1.out.after hb2)
      have X2 := hide (X2.out.after hb2)
      have KG := hide (KG.out.after hb2)
      have RG := hide (RG.out.after hb2)
      have HX := hide (HX.out.trans (hb2.mono HX.out.size))
      clear hb2
      clear y00 y01 y02
      have KAc := hide (KA.out.below HX.out KA.out.lt)
      go_wp2_with fail
      have KK1 := (H1.out.keep HX.out.size (fun p hp => HX.out.cell hp))
      have KK2 := (H2.out.keep HX.out.size (fun p hp => HX.out.cell hp))
      refine wp_region_held_drew (S := fun x => Below w6.heap.size w6 x) (by kernel_rfl) ((Below.refl _ _).drew) (fun hH => ?_)
      refine wpAnyH_take (i := 0) (v := ?_) rfl (by kernel_rfl) (by kernel_rfl) (by kernel_rfl) (fun _ _ _ h => h) (Or.inl ⟨by rfl, fun wS hS => ?_⟩) hH ?_
      rotate_left
      · have a0 := (hS.cell (p := ⟨w.heap.size, 0, none⟩) KAc.out.lt).trans (KAc.out.cell 0); have a1 := (hS.cell (p := ⟨w.heap.size, 1, none⟩) KAc.out.lt).trans (KAc.out.cell 1); have a2 := (hS.cell (p := ⟨w.heap.size, 2, none⟩) KAc.out.lt).trans (KAc.out.cell 2); have b0 := (hS.cell (p := ⟨w4.heap.size, 0, none⟩) KX.out.lt).trans (KX.out.cell 0); have b1 := (hS.cell (p := ⟨w4.heap.size, 1, none⟩) KX.out.lt).trans (KX.out.cell 1); have b2 := (hS.cell (p := ⟨w4.heap.size, 2, none⟩) KX.out.lt).trans (KX.out.cell 2); go_simp; try exact rfl
      simp only [Act.put, List.setIfInBounds_toArray, List.set_cons_zero, List.set_cons_succ, List.getElem_toArray, List.getElem_cons_zero]
      refine wpAnyH_take (i := 1) (v := ?_) rfl (by kernel_rfl) (by kernel_rfl) (by kernel_rfl) (fun _ _ _ h => h) (Or.inl ⟨by rfl, fun wS hS => ?_⟩) hH ?_
      rotate_left
      · have a0 := (hS.cell (p := ⟨w.heap.size, 0, none⟩) KAc.out.lt).trans (KAc.out.cell 0); have a1 := (hS.cell (p := ⟨w.heap.size, 1, none⟩) KAc.out.lt).trans (KAc.out.cell 1); have a2 := (hS.cell (p := ⟨w.heap.size, 2, none⟩) KAc.out.lt).trans (KAc.out.cell 2); have b0 := (hS.cell (p := ⟨w4.heap.size, 0, none⟩) KX.out.lt).trans (KX.out.cell 0); have b1 := (hS.cell (p := ⟨w4.heap.size, 1, none⟩) KX.out.lt).trans (KX.out.cell 1); have b2 := (hS.cell (p := ⟨w4.heap.size, 2, none⟩) KX.out.lt).trans (KX.out.cell 2); go_simp; try exact rfl
      simp only [Act.put, List.setIfInBounds_toArray, List.set_cons_zero, List.set_cons_succ, List.getElem_toArray, List.getElem_cons_zero, List.getElem_cons_succ]
      refine wpAnyH_ready (rs := [2]) (by kernel_rfl) (by simp) (AllReadyH.cons rfl (fun K hK => ?_) AllReadyH.nil)
      go_simp
      go_at_call 23
      refine (toDisk_any _ _ _ _ _ _ z1 z2 g _ (KK1.after (Below.refl _ _).drew) (KK2.after (Below.refl _ _).drew) N1.out N2.out).mono ?_; rintro r w7 ⟨g5, g6, rfl, _, _, _, hB5, hB6, hb5⟩
      have K5 := hide hB5
      have K6 := hide hB6
      have Y1 := hide (X1.out.after ((Below.refl _ _).drew.trans (hb5.mono (Nat.le_refl _))))
      have Y2 := hide (X2.out.after ((Below.refl _ _).drew.trans (hb5.mono (Nat.le_refl _))))
      have HB5 := hide hb5
      clear hB5 hB6 hb5
      refine hK.out _ _ (hH.trans HB5.out) (fun hH5 => ?_)
      clear hK K
      try simp only [Act.put, List.setIfInBounds_toArray, List.set_cons_zero, List.set_cons_succ]
      refine wpAnyH_ready (rs := [3]) (by kernel_rfl) (by simp) (AllReadyH.cons rfl (fun K hK => ?_) AllReadyH.nil)
      go_simp
      go_at_call 16
      refine (eqDisk_v (eqD_same z1 z2 g) _ (strs_rd Y1.out L1.out) (waits_rd Y2.out L2.out) (strs_rd K5.out L1.out) (waits_rd K6.out L2.out) M1.out M2.out).mono ?_; rintro r w8 ⟨rfl, hb6⟩
      have HB6 := hide hb6
      clear hb6
      refine hK.out _ _ (hH5.trans (HB6.out.mono hH5.size)) (fun hH6 => ?_)
      clear hK K
      try simp only [Act.put, List.setIfInBounds_toArray, List.set_cons_zero, List.set_cons_succ]
      refine wpAnyH_take (i := 4) (v := ?_) rfl (by kernel_rfl) (by kernel_rfl) (by kernel_rfl) (fun _ _ _ h => h) (Or.inl ⟨by rfl, fun wS hS => ?_⟩) hH6 ?_
      rotate_left
      · have a0 := (hS.cell (p := ⟨w.heap.size, 0, none⟩) KAc.out.lt).trans (KAc.out.cell 0); have a1 := (hS.cell (p := ⟨w.heap.size, 1, none⟩) KAc.out.lt).trans (KAc.out.cell 1); have a2 := (hS.cell (p := ⟨w.heap.size, 2, none⟩) KAc.out.lt).trans (KAc.out.cell 2); have b0 := (hS.cell (p := ⟨w4.heap.size, 0, none⟩) KX.out.lt).trans (KX.out.cell 0); have b1 := (hS.cell (p := ⟨w4.heap.size, 1, none⟩) KX.out.lt).trans (KX.out.cell 1); have b2 := (hS.cell (p := ⟨w4.heap.size, 2, none⟩) KX.out.lt).trans (KX.out.cell 2); go_simp; try exact rfl
      simp only [Act.put, List.setIfInBounds_toArray, List.set_cons_zero, List.set_cons_succ, List.getElem_toArray, List.getElem_cons_zero, List.getElem_cons_succ]
      refine wpAnyH_done (by kernel_rfl) ?_ _
      clear KK1 KK2 K5 K6 Y1 Y2 HB5 HB6 hH hH5 KAc
      have KW := hide (KW.out.after hH6)
      have RW := hide (RW.out.after hH6)
      have KX := hide (KX.out.after hH6)
      have X1 := hide (X1.out.after hH6)
      have X2 := hide (X2.out.after hH6)
      have KG := hide (KG.out.after hH6)
      have RG := hide (RG.out.after hH6)
      have HX := hide (HX.out.trans (hH6.mono HX.out.size))
      clear hH6
      obtain ⟨y00, y01, y02⟩ := KX.out.c3
      go_wp2_with fail
      refine (markDisk_x gc gd n1 n2 n1 n2 _ _ g _ X1.out X2.out (by have := L1.out; simp; omega) (by have := L2.out; rw [List.size_toArray, waitCells_len]; omega) N1.out N2.out).mono ?_; rintro r w9 ⟨⟨v, rfl⟩, hf⟩
      clear y00 y01 y02
      have KW := hide (KW.out.fr hf (by have h1 := HLW.out; have h2 := HX5.out; have h3 := HLR.out; have h4 := HGG.out; rintro (e | e) <;> omega))
      have KG := hide (KG.out.fr hf (by have h1 := HLW.out; have h2 := HX5.out; have h3 := HLR.out; have h4 := HGG.out; rintro (e | e) <;> omega))
      have RW := hide (RW.out.fr hf (by have h1 := HLW.out; have h2 := HX5.out; have h3 := HLR.out; have h4 := HGG.out; rintro (e | e) <;> omega))
      have RG := hide (RG.out.fr hf (by have h1 := HLW.out; have h2 := HX5.out; have h3 := HLR.out; have h4 := HGG.out; rintro (e | e) <;> omega))
      have HX := hide (HX.out.trans (hf.below HX.out.size (fun i e => by have h := HWC.out; rcases e with e | e <;> omega)))
      clear hf X1 X2 KX
      have hv0 : ¬ (v : Int) < 0 := by omega
      obtain ⟨y00, y01, y02⟩ := KW.out.c3
      obtain ⟨y10, y11, y12⟩ := KG.out.c3
      go_wp2_with fail
      refine (eqDisk_v (eqD_same R [] g) _ (RG.out.rd HRL.out) (Rd.nil _ _ _) (RW.out.rd HRL.out) (Rd.nil _ _ _) (by decide) (by decide)).mono ?_; rintro r w10 ⟨rfl, hb2⟩
      have KW := hide (KW.out.after hb2)
      have KG := hide (KG.out.after hb2)
      have RW := hide (RW.out.after hb2)
      have RG := hide (RG.out.after hb2)
      have HX := hide (HX.out.trans (hb2.mono HX.out.size))
      clear hb2
      clear y00 y01 y02
      clear y10 y11 y12
      clear hv0
      obtain ⟨y00, y01, y02⟩ := KG.out.c3
      go_wp2_with fail
      obtain ⟨cs, hcs, hcsz, _⟩ := RG.out
      refine (markDisk_c gg cg Bg cs g _ hcs (by have := HRL.out; omega)).mono ?_; rintro r w11 ⟨rfl, hM, hf⟩
      clear y00 y01 y02
      have HM := hide hM
      have KW := hide (KW.out.fr hf (by have h1 := HLW.out; have h2 := HG5.out; have h3 := HLR.out; have h4 := HGG.out; omega))
      have RW := hide (RW.out.fr hf (by have h1 := HLW.out; have h2 := HG5.out; have h3 := HLR.out; have h4 := HGG.out; omega))
      have KG := hide (KG.out.fr hf (by have h1 := HLW.out; have h2 := HG5.out; have h3 := HLR.out; have h4 := HGG.out; omega))
      have HX := hide (HX.out.trans (hf.below HX.out.size (fun i e => by have h := HWC.out; have h4 := HGG.out; omega)))
      clear hM hf hcs hcsz RG
      obtain ⟨y00, y01, y02⟩ := KG.out.c3
      go_wp2_with fail
      refine (heldDisk_c cg _ Bg g _ HM.out).mono ?_; rintro r w12 ⟨rfl, hb2⟩
      clear y00 y01 y02
      have KW := hide (KW.out.after hb2)
      have KG := hide (KG.out.after hb2)
      have RW := hide (RW.out.after hb2)
      have HM := hide (HM.out.after hb2)
      have HX := hide (HX.out.trans (hb2.mono HX.out.size))
      clear hb2
      obtain ⟨a0, a1, a2⟩ := (KA.out.below HX.out KA.out.lt).c3
      go_wp2_with fail
      refine (toDisk_any _ _ _ _ _ _ z1 z2 g _ (H1.out.keep HX.out.size (fun p hp => HX.out.cell hp)) (H2.out.keep HX.out.size (fun p hp => HX.out.cell hp)) N1.out N2.out).mono ?_; rintro r w13 ⟨ge, gf, rfl, hnab, hga, hgb, hBa, hBb, hb2⟩
      have KW := hide (KW.out.after hb2)
      have KG := hide (KG.out.after hb2)
      have RW := hide (RW.out.after hb2)
      have HM := hide (HM.out.after hb2)
      have HX := hide (HX.out.trans (hb2.mono HX.out.size))
      clear a0 a1 a2 hnab hga hgb
      have T1 := hide hBa
      have T2 := hide hBb
      clear hBa hBb hb2
      go_wp2_with fail
      refine (implCrash_yes ge 0 n1 n1 gf 0 n2 n2 z1 R z2 g m tear _ (strs_rd T1.out L1.out) (waits_rd T2.out L2.out) N2.out T1.out.lt T2.out.lt HV.out HMM.out HR.out).mono ?_; rintro r w14 ⟨gh, ch, Bh, rfl, hg1, hrow, hb3⟩
      have hb4 := hb3.alloc hb3.size (.cells #[.slice (some ⟨gh, 0, none⟩) 64 ch, .slice Bh 0 0, .bool g] 25)
      have KW := hide (KW.out.after hb4)
      have KG := hide (KG.out.after hb4)
      have RW := hide (RW.out.after hb4)
      have HM := hide (HM.out.after hb4)
      have HX := hide (HX.out.trans (hb4.mono HX.out.size))
      have KH := hide (Bk.fresh w14 25 #[.slice (some ⟨gh, 0, none⟩) 64 ch, .slice Bh 0 0, .bool g])
      have RH := hide (hrow.alloc (.cells #[.slice (some ⟨gh, 0, none⟩) 64 ch, .slice Bh 0 0, .bool g] 25))
      clear hb3 hb4 hrow hg1
      clear T1 T2
      obtain ⟨y00, y01, y02⟩ := KW.out.c3
      go_wp2_with fail
      refine (eqDisk_v (eqD_same R [] g) _ (RH.out.rd HRL.out) (Rd.nil _ _ _) (RW.out.rd HRL.out) (Rd.nil _ _ _) (by decide) (by decide)).mono ?_; rintro r w15 ⟨rfl, hb2⟩
      have KW := hide (KW.out.after hb2)
      have KG := hide (KG.out.after hb2)
      have RW := hide (RW.out.after hb2)
      have HM := hide (HM.out.after hb2)
      have HX := hide (HX.out.trans (hb2.mono HX.out.size))
      clear hb2
      clear y00 y01 y02
      obtain ⟨y00, y01, y02⟩ := KG.out.c3
      go_wp2_with fail
      refine (heldDisk_c cg _ Bg g _ HM.out).mono ?_; rintro r w16 ⟨rfl, hb2⟩
      clear y00 y01 y02
      have KW := hide (KW.out.after hb2)
      have KG := hide (KG.out.after hb2)
      have RW := hide (RW.out.after hb2)
      have HM := hide (HM.out.after hb2)
      have HX := hide (HX.out.trans (hb2.mono HX.out.size))
      clear hb2
      go_wp2_with fail
      go_ret
      exact ⟨rfl, HW.out.trans (HX.out.mono HW.out.size)⟩
end Go.Proofs.Ytadeifimhoaanaa
