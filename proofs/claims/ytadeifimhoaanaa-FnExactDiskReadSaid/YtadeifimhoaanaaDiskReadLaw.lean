/- The walk of the law FnExactDiskRead. -/
import Derived.Test.YtadeifimhoaanaaDiskRead
namespace Go.Proofs.Ytadeifimhoaanaa
open Go.RowKit
set_option linter.unusedVariables false

set_option maxHeartbeats 4000000 in
theorem fnExactDiskRead_walk (A1 A2 : Option Addr) (n1 n2 c1 c2 : Nat) (z1 : List ByteArray) (z2 : List (Int × ByteArray)) (g : Bool) (k : Int) (hk : (Lit.int .i64 k).wf = true) (w : World) (h1 : Strs w A1 n1 c1 z1) (h2 : WaitS w A2 n2 c2 z2) :
    Calls Try.prog 6 #[.agg #[.slice A1 n1 c1, .slice A2 n2 c2, .bool g], .int .i64 k] w fun r w' => r = .returned (.bool true) ∧ Below w.heap.size w w' := by
  have SA := hide (show Strs (w.alloc (.cells #[.slice A1 n1 c1, .slice A2 n2 c2, .bool g] 32)) A1 n1 c1 z1 from ⟨h1.1, h1.2.1, h1.2.2.1, h1.2.2.2.1, h1.2.2.2.2.after (bel1 _ _)⟩)
  have SB := hide (show WaitS (w.alloc (.cells #[.slice A1 n1 c1, .slice A2 n2 c2, .bool g] 32)) A2 n2 c2 z2 from ⟨h2.1, h2.2.1, h2.2.2.1, h2.2.2.2.1, h2.2.2.2.2.after (bel1 _ _)⟩)
  have L1 := hide h1.2.2.1
  have L2 := hide h2.2.2.1
  have KA := hide (Bk.fresh w 32 #[.slice A1 n1 c1, .slice A2 n2 c2, .bool g])
  have H1 := hide (h1.2.2.2.2.after (bel1 w (.cells #[.slice A1 n1 c1, .slice A2 n2 c2, .bool g] 32)))
  have H2 := hide (h2.2.2.2.2.after (bel1 w (.cells #[.slice A1 n1 c1, .slice A2 n2 c2, .bool g] 32)))
  have M1 := hide (Nat.le_trans h1.1 h1.2.1)
  have M2 := hide (Nat.le_trans h2.1 h2.2.1)
  have HB := hide (bel1 w (.cells #[.slice A1 n1 c1, .slice A2 n2 c2, .bool g] 32))
  clear h1 h2
  obtain ⟨v, hv⟩ : ∃ v, readOk z1 z2 g k = v := ⟨_, rfl⟩
  obtain ⟨S, hS⟩ : ∃ S, readS z1 z2 g k = S := ⟨_, rfl⟩
  have HV := hide hv
  have HS := hide hS
  have hvv : (v != v) = false := by cases v <;> rfl
  have hss := beqT_eq (rfl : S = S)
  clear hv hS hk
  go_enter Try.func6, Try.ntmps6
  go_wp2_with fail
  refine (szDisk_any _ _ _ _ _ _ z1 z2 g _ SA.out SB.out).mono ?_; rintro r w1 ⟨⟨l, rfl, hl⟩, hb1⟩
  have HLL := hide hl
  have KA := hide (KA.out.after hb1)
  have H1 := hide (H1.out.after hb1)
  have H2 := hide (H2.out.after hb1)
  have HB := hide (bnext HB.out (Nat.le_refl _) hb1)
  clear hl hb1 SA SB
  by_cases hneg : l < 0
  · go_wp2_with fail
    go_ret
    exact ⟨rfl, HB.out⟩
  have hsm : n1 ≤ 1048576 ∧ n2 ≤ 1048576 := by
    rcases HLL.out with h | ⟨_, a, b, _⟩
    · exact absurd h hneg
    · exact ⟨a, b⟩
  have N1 := hide hsm.1
  have N2 := hide hsm.2
  have SMZ : Hid ((∀ z ∈ z1, z.size ≤ 1048576) ∧ ∀ z ∈ z2, z.2.size ≤ 1048576) := by
    rcases HLL.out with h | ⟨_, _, _, a, b⟩
    · exact absurd h hneg
    · exact hide ⟨a, b⟩
  clear hsm
  obtain ⟨a0, a1, a2⟩ := KA.out.c3
  go_wp2_with fail
  refine (toDisk_any _ _ _ _ _ _ z1 z2 g _ H1.out H2.out N1.out N2.out).mono ?_; rintro r w2 ⟨ga, gb, rfl, _, _, _, hBa, hBb, hb2⟩
  have T1 := hide hBa
  have T2 := hide hBb
  have KA := hide (KA.out.after hb2)
  have H1 := hide (H1.out.after hb2)
  have H2 := hide (H2.out.after hb2)
  have HB := hide (HB.out.trans (hb2.mono HB.out.size))
  clear hBa hBb hb2 a0 a1 a2
  go_wp2_with fail
  refine (specRead_any _ _ n1 n2 n1 n2 k z1 z2 g v S _ (strs_rd T1.out L1.out) (waits_rd T2.out L2.out) N1.out N2.out HV.out HS.out).mono ?_; rintro r w3 ⟨rfl, hb3⟩
  have hb3 := hb3
  have KA := hide (KA.out.after hb3)
  have H1 := hide (H1.out.after hb3)
  have H2 := hide (H2.out.after hb3)
  have HB := hide (HB.out.trans (hb3.mono HB.out.size))
  clear hb3 T1 T2
  obtain ⟨a0, a1, a2⟩ := KA.out.c3
  go_wp2_with fail
  refine (toDisk_any _ _ _ _ _ _ z1 z2 g _ H1.out H2.out N1.out N2.out).mono ?_; rintro r w4 ⟨gc, gd, rfl, hne, hgc, hgd, hBc, hBd, hb4⟩
  have hb5 := hb4.alloc hb4.size (.cells #[.slice (some ⟨gc, 0, none⟩) n1 n1, .slice (some ⟨gd, 0, none⟩) n2 n2, .bool g] 25)
  have KX1 := hide (hBc.alloc (.cells #[.slice (some ⟨gc, 0, none⟩) n1 n1, .slice (some ⟨gd, 0, none⟩) n2 n2, .bool g] 25))
  have KX2 := hide (hBd.alloc (.cells #[.slice (some ⟨gc, 0, none⟩) n1 n1, .slice (some ⟨gd, 0, none⟩) n2 n2, .bool g] 25))
  have KV := hide (Bk.fresh w4 25 #[.slice (some ⟨gc, 0, none⟩) n1 n1, .slice (some ⟨gd, 0, none⟩) n2 n2, .bool g])
  have KA := hide (KA.out.after hb5)
  have H1 := hide (H1.out.after hb5)
  have H2 := hide (H2.out.after hb5)
  have HB := hide (HB.out.trans (hb5.mono HB.out.size))
  clear hBc hBd hb4 hb5 a0 a1 a2 hne hgc hgd
  go_wp2_with fail
  refine (implRead_any _ _ n1 n2 n1 n2 k z1 z2 g v S _ (strs_rd KX1.out L1.out) (waits_rd KX2.out L2.out) N1.out N2.out HV.out HS.out).mono ?_; rintro r w6 ⟨rfl, hb6⟩
  have KX1 := hide (KX1.out.after hb6)
  have KX2 := hide (KX2.out.after hb6)
  have KV := hide (KV.out.after hb6)
  have KA := hide (KA.out.after hb6)
  have H1 := hide (H1.out.after hb6)
  have H2 := hide (H2.out.after hb6)
  have HB := hide (HB.out.trans (hb6.mono HB.out.size))
  clear hb6
  go_wp2_with fail
  refine wp_region_held_drew (S := fun x => Below w6.heap.size w6 x) (by kernel_rfl) ((Below.refl _ _).drew) (fun hH => ?_)
  refine wpAnyH_take (i := 0) (v := ?_) rfl (by kernel_rfl) (by kernel_rfl) (by kernel_rfl) (fun _ _ _ h => h) (Or.inl ⟨by rfl, fun wS hS => ?_⟩) hH ?_
  rotate_left
  · have a0 := (hS.cell (p := ⟨w.heap.size, 0, none⟩) KA.out.lt).trans (KA.out.cell 0); have a1 := (hS.cell (p := ⟨w.heap.size, 1, none⟩) KA.out.lt).trans (KA.out.cell 1); have a2 := (hS.cell (p := ⟨w.heap.size, 2, none⟩) KA.out.lt).trans (KA.out.cell 2); have b0 := (hS.cell (p := ⟨w4.heap.size, 0, none⟩) KV.out.lt).trans (KV.out.cell 0); have b1 := (hS.cell (p := ⟨w4.heap.size, 1, none⟩) KV.out.lt).trans (KV.out.cell 1); have b2 := (hS.cell (p := ⟨w4.heap.size, 2, none⟩) KV.out.lt).trans (KV.out.cell 2); go_simp; try exact rfl
  simp only [Act.put, List.setIfInBounds_toArray, List.set_cons_zero, List.set_cons_succ, List.getElem_toArray, List.getElem_cons_zero]
  refine wpAnyH_take (i := 1) (v := ?_) rfl (by kernel_rfl) (by kernel_rfl) (by kernel_rfl) (fun _ _ _ h => h) (Or.inl ⟨by rfl, fun wS hS => ?_⟩) hH ?_
  rotate_left
  · have a0 := (hS.cell (p := ⟨w.heap.size, 0, none⟩) KA.out.lt).trans (KA.out.cell 0); have a1 := (hS.cell (p := ⟨w.heap.size, 1, none⟩) KA.out.lt).trans (KA.out.cell 1); have a2 := (hS.cell (p := ⟨w.heap.size, 2, none⟩) KA.out.lt).trans (KA.out.cell 2); have b0 := (hS.cell (p := ⟨w4.heap.size, 0, none⟩) KV.out.lt).trans (KV.out.cell 0); have b1 := (hS.cell (p := ⟨w4.heap.size, 1, none⟩) KV.out.lt).trans (KV.out.cell 1); have b2 := (hS.cell (p := ⟨w4.heap.size, 2, none⟩) KV.out.lt).trans (KV.out.cell 2); go_simp; try exact rfl
  simp only [Act.put, List.setIfInBounds_toArray, List.set_cons_zero, List.set_cons_succ, List.getElem_toArray, List.getElem_cons_zero, List.getElem_cons_succ]
  refine wpAnyH_ready (rs := [2]) (by kernel_rfl) (by simp) (AllReadyH.cons rfl (fun K hK => ?_) AllReadyH.nil)
  go_simp
  go_at_call 23
  refine (toDisk_any _ _ _ _ _ _ z1 z2 g _ (H1.out.after (Below.refl _ _).drew) (H2.out.after (Below.refl _ _).drew) N1.out N2.out).mono ?_; rintro r w7 ⟨g5, g6, rfl, _, _, _, hB5, hB6, hb5⟩
  have K5 := hide hB5
  have K6 := hide hB6
  have X1 := hide (KX1.out.after ((Below.refl _ _).drew.trans (hb5.mono (Nat.le_refl _))))
  have X2 := hide (KX2.out.after ((Below.refl _ _).drew.trans (hb5.mono (Nat.le_refl _))))
  have HB5 := hide hb5
  clear hB5 hB6 hb5
  refine hK.out _ _ (hH.trans HB5.out) (fun hH5 => ?_)
  clear hK K
  try simp only [Act.put, List.setIfInBounds_toArray, List.set_cons_zero, List.set_cons_succ]
  refine wpAnyH_ready (rs := [3]) (by kernel_rfl) (by simp) (AllReadyH.cons rfl (fun K hK => ?_) AllReadyH.nil)
  go_simp
  go_at_call 16
  refine (eqDisk_v (eqD_same z1 z2 g) _ (strs_rd X1.out L1.out) (waits_rd X2.out L2.out) (strs_rd K5.out L1.out) (waits_rd K6.out L2.out) M1.out M2.out).mono ?_; rintro r w8 ⟨rfl, hb6⟩
  have HB6 := hide hb6
  clear hb6
  refine hK.out _ _ (hH5.trans (HB6.out.mono hH5.size)) (fun hH6 => ?_)
  clear hK K
  try simp only [Act.put, List.setIfInBounds_toArray, List.set_cons_zero, List.set_cons_succ]
  refine wpAnyH_take (i := 4) (v := ?_) rfl (by kernel_rfl) (by kernel_rfl) (by kernel_rfl) (fun _ _ _ h => h) (Or.inl ⟨by rfl, fun wS hS => ?_⟩) hH6 ?_
  rotate_left
  · have a0 := (hS.cell (p := ⟨w.heap.size, 0, none⟩) KA.out.lt).trans (KA.out.cell 0); have a1 := (hS.cell (p := ⟨w.heap.size, 1, none⟩) KA.out.lt).trans (KA.out.cell 1); have a2 := (hS.cell (p := ⟨w.heap.size, 2, none⟩) KA.out.lt).trans (KA.out.cell 2); have b0 := (hS.cell (p := ⟨w4.heap.size, 0, none⟩) KV.out.lt).trans (KV.out.cell 0); have b1 := (hS.cell (p := ⟨w4.heap.size, 1, none⟩) KV.out.lt).trans (KV.out.cell 1); have b2 := (hS.cell (p := ⟨w4.heap.size, 2, none⟩) KV.out.lt).trans (KV.out.cell 2); go_simp; try exact rfl
  simp only [Act.put, List.setIfInBounds_toArray, List.set_cons_zero, List.set_cons_succ, List.getElem_toArray, List.getElem_cons_zero, List.getElem_cons_succ]
  refine wpAnyH_done (by kernel_rfl) ?_ _
  go_wp2_with fail
  go_ret
  exact ⟨rfl, HB.out.trans (hH6.mono HB.out.size)⟩
end Go.Proofs.Ytadeifimhoaanaa
