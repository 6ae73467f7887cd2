/- l3Flush and l4Flush, with the place of the new row of waits. -/
import Derived.Test.YtcaoekaephnimaaRaidNewM
import Derived.Test.YtcaoekaephnimaaRaidFlS
namespace Go.Proofs.Ytcaoekaephnimaa
open Go.RowKit
set_option linter.unusedVariables false
set_option maxRecDepth 100000

/-- a disk whose waiting writes are done in place, and where its new row of waits lies -/
def FlushM (R : List ByteArray) (g1 c1 : Nat) (g : Bool) (w : World) (r : Ending) (w' : World) : Prop :=
  ∃ e, r = .returned (.agg #[.slice (some ⟨g1, 0, none⟩) 64 c1, .slice (some ⟨e, 0, none⟩) 0 0, .bool g]) ∧ w.heap.size ≤ e ∧ Row w' g1 9 (R.map Value.string) ∧ Bk w' e 74 #[] ∧ Fr (· = g1) w w'

set_option maxHeartbeats 4000000 in
theorem l3FlushM (g1 c1 b2 o2 n2 c2 : Nat) (z1 R : List ByteArray) (z2 : List (Int × ByteArray)) (g : Bool) (w : World) (h1 : Row w g1 9 (z1.map Value.string)) (hl : z1.length = 64) (h2 : Rd w 2 (some ⟨b2, o2, none⟩) n2 (waitCells z2)) (m2 : n2 ≤ 1048576) (hne : b2 ≠ g1) (hok : z2.all waitB = true) (hR : settleT (fun _ z _ => z.2) 0 z2 z1 = R) :
    Calls Try.prog 69 #[.agg #[.slice (some ⟨g1, 0, none⟩) 64 c1, .slice (some ⟨b2, o2, none⟩) n2 c2, .bool g]] w (FlushM R g1 c1 g w) := by
  obtain ⟨W0, HW0⟩ : ∃ W : World, W = ((w.alloc (.cells #[.slice (some ⟨g1, 0, none⟩) 64 c1, .slice (some ⟨b2, o2, none⟩) n2 c2, .bool g] 49)).alloc (.cells #[.slice none 0 0, .slice none 0 0, .bool false] 49)) := ⟨_, rfl⟩
  have hb : Below w.heap.size w W0 := by rw [HW0]; exact (((Below.refl _ _).alloc (Nat.le_refl _) _).alloc (by simp) _)
  have z0 : W0.heap.size = w.heap.size + 1 + 1 := by rw [HW0]; simp
  have K1 := hide (show Bk W0 w.heap.size 49 #[.slice (some ⟨g1, 0, none⟩) 64 c1, .slice (some ⟨b2, o2, none⟩) n2 c2, .bool g] by rw [HW0]; exact ((Bk.fresh _ _ _).alloc _))
  have K2 := hide (show Bk W0 (w.heap.size + 1) 49 #[.slice none 0 0, .slice none 0 0, .bool false] by
    rw [HW0]
    have h := Bk.fresh (w.alloc (.cells #[.slice (some ⟨g1, 0, none⟩) 64 c1, .slice (some ⟨b2, o2, none⟩) n2 c2, .bool g] 49)) 49 #[.slice none 0 0, .slice none 0 0, .bool false]
    rw [show (w.alloc (.cells #[.slice (some ⟨g1, 0, none⟩) 64 c1, .slice (some ⟨b2, o2, none⟩) n2 c2, .bool g] 49)).heap.size = w.heap.size + 1 by simp] at h
    exact h)
  have hlt := h1.lt
  have hzl : z2.length = n2 := by have := h2.len; rw [waitCells_len] at this; omega
  have HZL := hide hzl
  have H1 := hide (h1.after hb)
  have H2 := hide (h2.after hb)
  have HB := hide hb
  have HL := hide hl
  have HR := hide hR
  have HZ0 := hide z0
  have HOK := hide hok
  clear h1 h2 hb z0 hl hR hzl hok
  go_enter Try.func69, Try.ntmps69
  go_wp2_with fail
  rw [← HW0]
  clear HW0
  go_loopw [3] (fun i wr => ∃ (k : Nat) (cur : List ByteArray), k ≤ n2 ∧ cur.length = 64 ∧ Hid (Row wr g1 9 (cur.map Value.string)) ∧ Hid (settleT (fun _ z _ => z.2) k (z2.drop k) cur = R) ∧ Hid (Fr (· = g1) W0 wr) ∧ i = .int .i64 k) (fun i _ => n2 - (intOf i).toNat)
  case atStart => exact ⟨0, z1, by omega, HL.out, H1, HR, hide (Fr.refl _ _), rfl⟩
  case round =>
    obtain ⟨k, cur, hk, hcl, HROW, HS, HF, rfl⟩ := hrel
    have k1n : ¬ w.heap.size = g1 := by omega
    have KK := hide (K1.out.fr HF.out k1n)
    obtain ⟨t0, t1, t2⟩ := KK.out.c3
    by_cases hlt2 : k < n2
    · obtain ⟨b, o, z, e, hb, hz, hc0, hc1⟩ := (H2.out.fr1 HF.out hne).wait_at hlt2
      injection e with e
      injection e with e1 e2
      subst e1 e2
      have HZ := hide hz
      have HB2 := hide hb
      have C0 := hide hc0
      have C1 := hide hc1
      have hw : waitB z = true := by have h := HOK.out; rw [List.all_eq_true] at h; exact h z (List.mem_of_getElem? hz)
      have hin : 0 ≤ z.1 ∧ z.1 ≤ 63 := by unfold waitB at hw; simp only [inR, Bool.and_eq_true, decide_eq_true_eq] at hw; omega
      obtain ⟨a, ha⟩ : ∃ a : Nat, z.1 = (a : Int) := ⟨z.1.toNat, by omega⟩
      have HA := hide ha
      have i0 : (0 : Int) ≤ (k : Int) := by omega
      have i1 : (k : Int) < (n2 : Int) := by omega
      have a0 : (0 : Int) ≤ (a : Int) := by omega
      have a1 : (a : Int) < 64 := by omega
      obtain ⟨hca, hfa⟩ := (show Row wr.drew g1 9 (cur.map Value.string) from HROW.out).at_ (a := a) (by omega)
      have HS1 := hide (settle_step HZ.out HA.out HS.out rfl)
      have HROW1 := hide ((show Row wr.drew g1 9 (cur.map Value.string) from HROW.out).put (a := a) z.2)
      have HF1 := hide (HF.out.drew.setCell (p := ⟨g1, a, none⟩) (.inl rfl) (.string z.2))
      rw [HA.out] at C0
      clear hz hb hc0 hc1 hw hin ha
      obtain ⟨s, hs⟩ : ∃ s, s = z.2 := ⟨_, rfl⟩
      rw [← hs] at C1 HS1 HROW1 HF1
      clear hs
      go_upto_region 4 with fail
      clear t0 t1 t2
      refine wp_region_held_drew (S := fun x => Fr (· = g1) wr.drew x) (by kernel_rfl) (Fr.refl _ _) (fun hH => ?_)
      refine wpAnyH_take (i := 0) (v := ?_) rfl (by kernel_rfl) (by kernel_rfl) (by kernel_rfl) (fun _ _ _ h => h) (Or.inl ⟨by rfl, fun wS hS => ?_⟩) hH ?_
      rotate_left
      · obtain ⟨t0, t1, t2⟩ := ((show Bk wr.drew w.heap.size _ _ from KK.out).fr hS k1n).c3; have c0 := (hS.cell_ (p := ⟨b2, o2 + k * 2, none⟩) HB2.out hne).trans C0.out; have c1 := (hS.cell_ (p := ⟨b2, o2 + k * 2 + 1, none⟩) HB2.out hne).trans C1.out; go_simp; try exact rfl
      simp only [Act.put, List.setIfInBounds_toArray, List.set_cons_zero, List.set_cons_succ, List.getElem_toArray, List.getElem_cons_zero]
      refine wpAnyH_take (i := 1) (v := ?_) rfl (by kernel_rfl) (by kernel_rfl) (by kernel_rfl) (fun _ _ _ h => h) (Or.inl ⟨by rfl, fun wS hS => ?_⟩) hH ?_
      rotate_left
      · obtain ⟨t0, t1, t2⟩ := ((show Bk wr.drew w.heap.size _ _ from KK.out).fr hS k1n).c3; have c0 := (hS.cell_ (p := ⟨b2, o2 + k * 2, none⟩) HB2.out hne).trans C0.out; have c1 := (hS.cell_ (p := ⟨b2, o2 + k * 2 + 1, none⟩) HB2.out hne).trans C1.out; go_simp; try exact rfl
      simp only [Act.put, List.setIfInBounds_toArray, List.set_cons_zero, List.set_cons_succ, List.getElem_toArray, List.getElem_cons_zero, List.getElem_cons_succ]
      refine wpAnyH_take (i := 2) (v := ?_) rfl (by kernel_rfl) (by kernel_rfl) (by kernel_rfl) (fun _ _ _ h => h) (Or.inl ⟨by rfl, fun wS hS => ?_⟩) hH ?_
      rotate_left
      · obtain ⟨t0, t1, t2⟩ := ((show Bk wr.drew w.heap.size _ _ from KK.out).fr hS k1n).c3; have c0 := (hS.cell_ (p := ⟨b2, o2 + k * 2, none⟩) HB2.out hne).trans C0.out; have c1 := (hS.cell_ (p := ⟨b2, o2 + k * 2 + 1, none⟩) HB2.out hne).trans C1.out; go_simp; try exact rfl
      simp only [Act.put, List.setIfInBounds_toArray, List.set_cons_zero, List.set_cons_succ, List.getElem_toArray, List.getElem_cons_zero, List.getElem_cons_succ]
      refine wpAnyH_take (i := 3) (v := ?_) rfl (by kernel_rfl) (by kernel_rfl) (by kernel_rfl) (fun _ _ _ h => h) (Or.inl ⟨by rfl, fun wS hS => ?_⟩) hH ?_
      rotate_left
      · obtain ⟨t0, t1, t2⟩ := ((show Bk wr.drew w.heap.size _ _ from KK.out).fr hS k1n).c3; have c0 := (hS.cell_ (p := ⟨b2, o2 + k * 2, none⟩) HB2.out hne).trans C0.out; have c1 := (hS.cell_ (p := ⟨b2, o2 + k * 2 + 1, none⟩) HB2.out hne).trans C1.out; go_simp; try exact rfl
      simp only [Act.put, List.setIfInBounds_toArray, List.set_cons_zero, List.set_cons_succ, List.getElem_toArray, List.getElem_cons_zero, List.getElem_cons_succ]
      refine wpAnyH_take (i := 4) (v := ?_) rfl (by kernel_rfl) (by kernel_rfl) (by kernel_rfl) (fun _ _ _ h => h) (Or.inl ⟨by rfl, fun wS hS => ?_⟩) hH ?_
      rotate_left
      · obtain ⟨t0, t1, t2⟩ := ((show Bk wr.drew w.heap.size _ _ from KK.out).fr hS k1n).c3; have c0 := (hS.cell_ (p := ⟨b2, o2 + k * 2, none⟩) HB2.out hne).trans C0.out; have c1 := (hS.cell_ (p := ⟨b2, o2 + k * 2 + 1, none⟩) HB2.out hne).trans C1.out; go_simp; try exact rfl
      simp only [Act.put, List.setIfInBounds_toArray, List.set_cons_zero, List.set_cons_succ, List.getElem_toArray, List.getElem_cons_zero, List.getElem_cons_succ]
      refine wpAnyH_take (i := 5) (v := ?_) rfl (by kernel_rfl) (by kernel_rfl) (by kernel_rfl) (fun _ _ _ h => h) (Or.inl ⟨by rfl, fun wS hS => ?_⟩) hH ?_
      rotate_left
      · obtain ⟨t0, t1, t2⟩ := ((show Bk wr.drew w.heap.size _ _ from KK.out).fr hS k1n).c3; have c0 := (hS.cell_ (p := ⟨b2, o2 + k * 2, none⟩) HB2.out hne).trans C0.out; have c1 := (hS.cell_ (p := ⟨b2, o2 + k * 2 + 1, none⟩) HB2.out hne).trans C1.out; go_simp; try exact rfl
      simp only [Act.put, List.setIfInBounds_toArray, List.set_cons_zero, List.set_cons_succ, List.getElem_toArray, List.getElem_cons_zero, List.getElem_cons_succ]
      refine wpAnyH_take (i := 6) (v := ?_) rfl (by kernel_rfl) (by kernel_rfl) (by kernel_rfl) (fun _ _ _ h => h) (Or.inl ⟨by rfl, fun wS hS => ?_⟩) hH ?_
      rotate_left
      · obtain ⟨t0, t1, t2⟩ := ((show Bk wr.drew w.heap.size _ _ from KK.out).fr hS k1n).c3; have c0 := (hS.cell_ (p := ⟨b2, o2 + k * 2, none⟩) HB2.out hne).trans C0.out; have c1 := (hS.cell_ (p := ⟨b2, o2 + k * 2 + 1, none⟩) HB2.out hne).trans C1.out; go_simp; try exact rfl
      simp only [Act.put, List.setIfInBounds_toArray, List.set_cons_zero, List.set_cons_succ, List.getElem_toArray, List.getElem_cons_zero, List.getElem_cons_succ]
      refine wpAnyH_take (i := 7) (v := ?_) rfl (by kernel_rfl) (by kernel_rfl) (by kernel_rfl) (fun _ _ _ h => h) (Or.inl ⟨by rfl, fun wS hS => ?_⟩) hH ?_
      rotate_left
      · obtain ⟨t0, t1, t2⟩ := ((show Bk wr.drew w.heap.size _ _ from KK.out).fr hS k1n).c3; have c0 := (hS.cell_ (p := ⟨b2, o2 + k * 2, none⟩) HB2.out hne).trans C0.out; have c1 := (hS.cell_ (p := ⟨b2, o2 + k * 2 + 1, none⟩) HB2.out hne).trans C1.out; go_simp; try exact rfl
      simp only [Act.put, List.setIfInBounds_toArray, List.set_cons_zero, List.set_cons_succ, List.getElem_toArray, List.getElem_cons_zero, List.getElem_cons_succ]
      refine wpAnyH_take (i := 8) (v := ?_) rfl (by kernel_rfl) (by kernel_rfl) (by kernel_rfl) (fun _ _ _ h => h) (Or.inl ⟨by rfl, fun wS hS => ?_⟩) hH ?_
      rotate_left
      · obtain ⟨t0, t1, t2⟩ := ((show Bk wr.drew w.heap.size _ _ from KK.out).fr hS k1n).c3; have c0 := (hS.cell_ (p := ⟨b2, o2 + k * 2, none⟩) HB2.out hne).trans C0.out; have c1 := (hS.cell_ (p := ⟨b2, o2 + k * 2 + 1, none⟩) HB2.out hne).trans C1.out; go_simp; try exact rfl
      simp only [Act.put, List.setIfInBounds_toArray, List.set_cons_zero, List.set_cons_succ, List.getElem_toArray, List.getElem_cons_zero, List.getElem_cons_succ]
      refine wpAnyH_take (i := 9) (v := ?_) rfl (by kernel_rfl) (by kernel_rfl) (by kernel_rfl) (fun _ _ _ h => h) (Or.inl ⟨by rfl, fun wS hS => ?_⟩) hH ?_
      rotate_left
      · obtain ⟨t0, t1, t2⟩ := ((show Bk wr.drew w.heap.size _ _ from KK.out).fr hS k1n).c3; have c0 := (hS.cell_ (p := ⟨b2, o2 + k * 2, none⟩) HB2.out hne).trans C0.out; have c1 := (hS.cell_ (p := ⟨b2, o2 + k * 2 + 1, none⟩) HB2.out hne).trans C1.out; go_simp; try exact rfl
      simp only [Act.put, List.setIfInBounds_toArray, List.set_cons_zero, List.set_cons_succ, List.getElem_toArray, List.getElem_cons_zero, List.getElem_cons_succ]
      refine wpAnyH_take (i := 10) (v := ?_) rfl (by kernel_rfl) (by kernel_rfl) (by kernel_rfl) (fun _ _ _ h => h) (Or.inl ⟨by rfl, fun wS hS => ?_⟩) hH ?_
      rotate_left
      · obtain ⟨t0, t1, t2⟩ := ((show Bk wr.drew w.heap.size _ _ from KK.out).fr hS k1n).c3; have c0 := (hS.cell_ (p := ⟨b2, o2 + k * 2, none⟩) HB2.out hne).trans C0.out; have c1 := (hS.cell_ (p := ⟨b2, o2 + k * 2 + 1, none⟩) HB2.out hne).trans C1.out; go_simp; try exact rfl
      simp only [Act.put, List.setIfInBounds_toArray, List.set_cons_zero, List.set_cons_succ, List.getElem_toArray, List.getElem_cons_zero, List.getElem_cons_succ]
      refine wpAnyH_take (i := 11) (v := ?_) rfl (by kernel_rfl) (by kernel_rfl) (by kernel_rfl) (fun _ _ _ h => h) (Or.inl ⟨by rfl, fun wS hS => ?_⟩) hH ?_
      rotate_left
      · obtain ⟨t0, t1, t2⟩ := ((show Bk wr.drew w.heap.size _ _ from KK.out).fr hS k1n).c3; have c0 := (hS.cell_ (p := ⟨b2, o2 + k * 2, none⟩) HB2.out hne).trans C0.out; have c1 := (hS.cell_ (p := ⟨b2, o2 + k * 2 + 1, none⟩) HB2.out hne).trans C1.out; go_simp; try exact rfl
      simp only [Act.put, List.setIfInBounds_toArray, List.set_cons_zero, List.set_cons_succ, List.getElem_toArray, List.getElem_cons_zero, List.getElem_cons_succ]
      refine wpAnyH_take (i := 12) (v := ?_) rfl (by kernel_rfl) (by kernel_rfl) (by kernel_rfl) (fun _ _ _ h => h) (Or.inl ⟨by rfl, fun wS hS => ?_⟩) hH ?_
      rotate_left
      · obtain ⟨t0, t1, t2⟩ := ((show Bk wr.drew w.heap.size _ _ from KK.out).fr hS k1n).c3; have c0 := (hS.cell_ (p := ⟨b2, o2 + k * 2, none⟩) HB2.out hne).trans C0.out; have c1 := (hS.cell_ (p := ⟨b2, o2 + k * 2 + 1, none⟩) HB2.out hne).trans C1.out; go_simp; try exact rfl
      simp only [Act.put, List.setIfInBounds_toArray, List.set_cons_zero, List.set_cons_succ, List.getElem_toArray, List.getElem_cons_zero, List.getElem_cons_succ]
      refine wpAnyH_take (i := 13) (v := ?_) rfl (by kernel_rfl) (by kernel_rfl) (by kernel_rfl) (fun _ _ _ h => h) (Or.inl ⟨by rfl, fun wS hS => ?_⟩) hH ?_
      rotate_left
      · obtain ⟨t0, t1, t2⟩ := ((show Bk wr.drew w.heap.size _ _ from KK.out).fr hS k1n).c3; have c0 := (hS.cell_ (p := ⟨b2, o2 + k * 2, none⟩) HB2.out hne).trans C0.out; have c1 := (hS.cell_ (p := ⟨b2, o2 + k * 2 + 1, none⟩) HB2.out hne).trans C1.out; go_simp; try exact rfl
      simp only [Act.put, List.setIfInBounds_toArray, List.set_cons_zero, List.set_cons_succ, List.getElem_toArray, List.getElem_cons_zero, List.getElem_cons_succ]
      refine wpAnyH_take (i := 14) (v := ?_) rfl (by kernel_rfl) (by kernel_rfl) (by kernel_rfl) (fun _ _ _ h => h) (Or.inl ⟨by rfl, fun wS hS => ?_⟩) hH ?_
      rotate_left
      · obtain ⟨t0, t1, t2⟩ := ((show Bk wr.drew w.heap.size _ _ from KK.out).fr hS k1n).c3; have c0 := (hS.cell_ (p := ⟨b2, o2 + k * 2, none⟩) HB2.out hne).trans C0.out; have c1 := (hS.cell_ (p := ⟨b2, o2 + k * 2 + 1, none⟩) HB2.out hne).trans C1.out; go_simp; try exact rfl
      simp only [Act.put, List.setIfInBounds_toArray, List.set_cons_zero, List.set_cons_succ, List.getElem_toArray, List.getElem_cons_zero, List.getElem_cons_succ]
      refine wpAnyH_ready (rs := [15]) (by kernel_rfl) (by simp) (AllReadyH.cons rfl (fun K hK => ?_) AllReadyH.nil)
      go_simp
      refine hK.out _ _ (hH.setCell (p := ⟨g1, a, none⟩) (.inl rfl) _) (fun hH5 => ?_)
      clear hK K
      try simp only [Act.put, List.setIfInBounds_toArray, List.set_cons_zero, List.set_cons_succ]
      refine wpAnyH_done (by kernel_rfl) ?_ _
      go_wp2_with fail
      go_roundw
      case rel => exact ⟨k + 1, _, by omega, by rw [List.length_set]; exact hcl, HROW1, HS1, HF1, int_eq (by omega)⟩
      case measure => simp [intOf]; omega
    · have hcr := hide (settle_end (by have := HZL.out; omega) HS.out)
      have kn : ¬ (k : Int) < (n2 : Int) := by omega
      have k2n : ¬ w.heap.size + 1 = g1 := by omega
      have KA := hide (KK.out.alloc (.cells #[] 74))
      have KB := hide ((K2.out.fr HF.out k2n).alloc (.cells #[] 74))
      have RA := hide (HROW.out.alloc (.cells #[] 74))
      have FA := hide (HF.out.alloc (.cells #[] 74))
      obtain ⟨s0, s1, s2⟩ := KA.out.c3
      have f1 := KA.out.frozen 1
      go_upto_region 6 with fail
      clear s0 s1 s2 f1 t0 t1 t2
      obtain ⟨X, hX⟩ : ∃ X : World, X = (wr.alloc (.cells #[] 74)).setCell ⟨w.heap.size, 1, none⟩ (.slice (some ⟨wr.heap.size, 0, none⟩) 0 0) := ⟨_, rfl⟩
      have KA2 : Bk X w.heap.size 49 #[.slice (some ⟨g1, 0, none⟩) 64 c1, .slice (some ⟨wr.heap.size, 0, none⟩) 0 0, .bool g] := by rw [hX]; exact KA.out.put 1 _
      have KB2 : Bk X (w.heap.size + 1) 49 #[.slice none 0 0, .slice none 0 0, .bool false] := by rw [hX]; exact KB.out.far (p := ⟨w.heap.size, 1, none⟩) (show w.heap.size + 1 ≠ w.heap.size by omega) _
      have RA2 : Row X g1 9 (cur.map Value.string) := by rw [hX]; exact RA.out.fr ((Fr.refl (fun b => b = w.heap.size) _).setCell (p := ⟨w.heap.size, 1, none⟩) (.inl rfl) _) (by omega)
      have FA2 : Fr (· = g1) w X := by rw [hX]; exact (((Fr.of_below _ HB.out).trans FA.out)).setCell (p := ⟨w.heap.size, 1, none⟩) (.inr (Nat.le_refl _)) _
      have hwz : w.heap.size + 1 + 1 ≤ wr.heap.size := by have h1 := HF.out.size; have h2 := HZ0.out; omega
      have EA2 : Bk X wr.heap.size 74 #[] := by rw [hX]; exact (Bk.fresh wr 74 #[]).far (p := ⟨w.heap.size, 1, none⟩) (show wr.heap.size ≠ w.heap.size by omega) _
      rw [← hX]
      obtain ⟨B, hBB⟩ : ∃ B : Option Addr, B = some ⟨wr.heap.size, 0, none⟩ := ⟨_, rfl⟩
      rw [← hBB] at KA2
      rw [← hBB]
      have HBE := hide hBB
      have HWZ := hide hwz
      clear hX hBB KA KB RA FA hwz
      obtain ⟨s0, s1, s2⟩ := KA2.c3
      obtain ⟨q0, q1, q2⟩ := KB2.c3
      have f0 := KB2.frozen 0
      have f1 := KB2.frozen 1
      have f2 := KB2.frozen 2
      have P3 := hide (put3 KB2 (.slice (some ⟨g1, 0, none⟩) 64 c1) (.slice B 0 0) (.bool g))
      have PR := hide (RA2.fr (fr3 (Fr.refl (fun b => b = w.heap.size + 1) X) (.inl rfl) (.slice (some ⟨g1, 0, none⟩) 64 c1) (.slice B 0 0) (.bool g)) (by omega))
      have PF := hide (fr3 FA2 (.inr (Nat.le_succ _)) (.slice (some ⟨g1, 0, none⟩) 64 c1) (.slice B 0 0) (.bool g) (g := w.heap.size + 1))
      have PE := hide (EA2.fr (fr3 (Fr.refl (fun b => b = w.heap.size + 1) X) (.inl rfl) (.slice (some ⟨g1, 0, none⟩) 64 c1) (.slice B 0 0) (.bool g)) (by have := HWZ.out; omega))
      clear KA2 KB2 RA2 FA2 EA2
      go_wp2_with fail
      clear s0 s1 s2 q0 q1 q2 f0 f1 f2
      obtain ⟨Y, hY⟩ : ∃ Y : World, Y = ((X.setCell ⟨w.heap.size + 1, 0, none⟩ (.slice (some ⟨g1, 0, none⟩) 64 c1)).setCell ⟨w.heap.size + 1, 1, none⟩ (.slice B 0 0)).setCell ⟨w.heap.size + 1, 2, none⟩ (.bool g) := ⟨_, rfl⟩
      rw [← hY] at P3 PR PF PE
      rw [← hY]
      clear hY
      obtain ⟨r0, r1, r2⟩ := P3.out.c3
      refine bodyPost_ret (v := .agg #[.slice (some ⟨g1, 0, none⟩) 64 c1, .slice B 0 0, .bool g]) (by simp [results, Try.results69, go_sem, r0, r1, r2]) rfl ?_
      exact ⟨wr.heap.size, by rw [HBE.out], by have := HWZ.out; omega, by rw [← hcr.out]; exact PR.out, PE.out, PF.out⟩
/-- a raid that can be written: the row g of n disks, each of the call's own -/
structure GR (B K : Nat) (w : World) (g c n : Nat) (es : List DV) : Prop where
  pl : ∃ cs, PlS w g cs n es ∧ cs.size = c * 3
  nc : n ≤ c
  cm : c ≤ maxLen
  base : B ≤ g
  each : ∀ d ∈ es, d.Made B w ∧ d.Good K
  apart : es.Pairwise (fun d e => d.b ≠ e.b)
theorem DV.Good.mono {K K' : Nat} {d : DV} (h : d.Good K) (hk : K ≤ K') : d.Good K' := ⟨h.n1, h.g, h.ok, Nat.le_trans h.n2 hk⟩
theorem GR.after {B K : Nat} {w w' : World} {g c n : Nat} {es : List DV} (h : GR B K w g c n es) (hb : Below w.heap.size w w') : GR B K w' g c n es := by
  obtain ⟨cs, h1, h2⟩ := h.pl
  exact ⟨⟨cs, h1.after hb, h2⟩, h.nc, h.cm, h.base, fun d hd => ⟨(h.each d hd).1.after hb, (h.each d hd).2⟩, h.apart⟩
/-- the blocks that a step on the raid may turn -/
def MB (g : Nat) (es : List DV) (i : Nat) : Prop := i = g ∨ ∃ d ∈ es, i = d.b
theorem GR.at_ {B K : Nat} {w : World} {g c n : Nat} {es : List DV} (h : GR B K w g c n es) {k : Nat} (hk : k < n) : ∃ d, es[k]? = some d ∧ d.Made B w ∧ d.Good K ∧ w.cell? ⟨g, k * 3, none⟩ = some (.slice (some ⟨d.b, 0, none⟩) 64 d.c1) ∧ w.cell? ⟨g, k * 3 + 1, none⟩ = some (.slice (some ⟨d.b2, 0, none⟩) d.n2 d.c2) ∧ w.cell? ⟨g, k * 3 + 2, none⟩ = some (.bool false) := by
  obtain ⟨cs, h1, h2⟩ := h.pl
  have hl : k < es.length := by rw [h1.2.2.1]; exact hk
  have hd : es[k]? = some es[k] := List.getElem?_eq_getElem hl
  obtain ⟨hm, hg⟩ := h.each _ (List.mem_of_getElem? hd)
  obtain ⟨s0, s1, s2⟩ := h1.at_ hd
  rw [hm.a1, hg.n1] at s0
  rw [hm.a2] at s1
  rw [hg.g] at s2
  exact ⟨_, hd, hm, hg, s0, s1, s2⟩
/-- one disk put anew -/
theorem GR.put {B K K' : Nat} {w w1 : World} {g c n k : Nat} {es : List DV} {d e : DV} (h : GR B K w g c n es) (hk : k < n) (hd : es[k]? = some d) (hf : Fr (· = d.b) w w1) (he : e.Made B w1) (hg : e.Good K') (hK : K ≤ K') (hx : ∀ j d', es[j]? = some d' → j ≠ k → d'.b ≠ e.b) :
    GR B K' (((w1.setCell ⟨g, k * 3, none⟩ (.slice e.A1 e.n1 e.c1)).setCell ⟨g, k * 3 + 1, none⟩ (.slice e.A2 e.n2 e.c2)).setCell ⟨g, k * 3 + 2, none⟩ (.bool e.g)) g c n (es.set k e) := by
  obtain ⟨cs, h1, h2⟩ := h.pl
  obtain ⟨xd, hxd, _⟩ := (h.each d (List.mem_of_getElem? hd)).1.r1
  have hgd : g ≠ d.b := h1.1.ne_type hxd (by decide)
  have h1' := h1.fr hf hgd
  have hf3 : Fr (fun i => i = g) w1 (((w1.setCell ⟨g, k * 3, none⟩ (.slice e.A1 e.n1 e.c1)).setCell ⟨g, k * 3 + 1, none⟩ (.slice e.A2 e.n2 e.c2)).setCell ⟨g, k * 3 + 2, none⟩ (.bool e.g)) := (((Fr.refl (fun i => i = g) w1).setCell (p := ⟨g, k * 3, none⟩) (.inl rfl) _).setCell (p := ⟨g, k * 3 + 1, none⟩) (.inl rfl) _).setCell (p := ⟨g, k * 3 + 2, none⟩) (.inl rfl) _
  have key : ∀ e : DV, e.Made B w1 → e.Made B (((w1.setCell ⟨g, k * 3, none⟩ (.slice _ _ _)).setCell ⟨g, k * 3 + 1, none⟩ (.slice _ _ _)).setCell ⟨g, k * 3 + 2, none⟩ (.bool _)) := fun e' he' => by
    obtain ⟨y1, hy1, _⟩ := he'.r1
    obtain ⟨y2, hy2, _⟩ := he'.r2
    exact he'.fr hf3 (hy1.ne_type h1'.1 (by decide)) (hy2.ne_type h1'.1 (by decide))
  refine ⟨⟨_, h1'.put hk e, by simp only [Array.size_setIfInBounds]; exact h2⟩, h.nc, h.cm, h.base, fun d' hd' => ?_, ?_⟩
  · obtain ⟨j, hj, rfl⟩ := List.getElem_of_mem hd'
    have hj' := List.getElem?_eq_getElem hj
    rw [List.getElem?_set] at hj'
    rw [List.length_set] at hj
    by_cases q : k = j
    · rw [if_pos q, if_pos (by omega)] at hj'
      rw [← Option.some.inj hj']
      exact ⟨key e he, hg⟩
    · rw [if_neg q] at hj'
      obtain ⟨hm', hg'⟩ := h.each _ (List.mem_of_getElem? hj')
      obtain ⟨y2, hy2, _⟩ := hm'.r2
      exact ⟨key _ (hm'.fr hf (apart_ne h.apart hj' hd (fun e => q e.symm)) (hy2.ne_type hxd (by decide))), hg'.mono hK⟩
  · rw [List.pairwise_iff_getElem]
    intro i j hi hj hij
    rw [List.length_set] at hi hj
    have hi' : es[i]? = some es[i] := List.getElem?_eq_getElem hi
    have hj' : es[j]? = some es[j] := List.getElem?_eq_getElem hj
    rw [List.getElem_set, List.getElem_set]
    by_cases q : k = i
    · rw [if_pos q, if_neg (by omega)]
      exact fun e' => hx j _ hj' (by omega) e'.symm
    · rw [if_neg q]
      by_cases q2 : k = j
      · rw [if_pos q2]
        exact hx i _ hi' (by omega)
      · rw [if_neg q2]
        exact apart_ne h.apart hi' hj' (by omega)
theorem GR.same {B K : Nat} {w : World} {g c n k : Nat} {es : List DV} {d e : DV} (h : GR B K w g c n es) (hd : es[k]? = some d) (he : e.b = d.b) : ∀ j d', es[j]? = some d' → j ≠ k → d'.b ≠ e.b := fun j d' hj hne => by
  rw [he]
  exact apart_ne h.apart hj hd hne
theorem MB.set {g k i : Nat} {es : List DV} {d e : DV} (hd : es[k]? = some d) (he : e.b = d.b) (h : MB g (es.set k e) i) : MB g es i := by
  rcases h with h | ⟨x, hx, h⟩
  · exact .inl h
  · refine .inr ?_
    rcases List.mem_or_eq_of_mem_set hx with hx | rfl
    · exact ⟨x, hx, h⟩
    · exact ⟨d, List.mem_of_getElem? hd, h.trans he⟩
/-- a box of a raid turned -/
theorem GR.box {B K : Nat} {w : World} {g c n b : Nat} {es : List DV} {cs : Array Value} {v : Value} (h : GR B K w g c n es) (hb : Bk w b 24 cs) : GR B K (w.setCell ⟨b, 0, none⟩ v) g c n es := by
  have hf := (Fr.refl (fun i => i = b) w).setCell (p := ⟨b, 0, none⟩) (.inl rfl) v
  obtain ⟨x, h1, h2⟩ := h.pl
  refine ⟨⟨x, h1.fr hf (h1.1.ne_type hb (by decide)), h2⟩, h.nc, h.cm, h.base, fun d hd => ⟨?_, (h.each d hd).2⟩, h.apart⟩
  obtain ⟨y1, hy1, _⟩ := (h.each d hd).1.r1
  obtain ⟨y2, hy2, _⟩ := (h.each d hd).1.r2
  exact (h.each d hd).1.fr hf (hy1.ne_type hb (by decide)) (hy2.ne_type hb (by decide))
def GRP (B K g c n : Nat) (es0 : List DV) (V : Value) (w : World) (r : Ending) (w' : World) : Prop := ∃ es, r = .returned V ∧ GR B K w' g c n es ∧ Fr (MB g es0) w w' ∧ ∀ i, MB g es i → MB g es0 i
set_option maxHeartbeats 8000000 in
theorem l4FlushM (B K g n c : Nat) (es0 : List DV) (w : World) (h : GR B K w g c n es0) (hB : B ≤ w.heap.size) (hn : n ≤ 1000) :
    Calls Try.prog 43 #[.agg #[.slice (some ⟨g, 0, none⟩) n c]] w (GRP B K g c n es0 (.agg #[.slice (some ⟨g, 0, none⟩) n c]) w) := by
  have hb0 : Below w.heap.size w ((w.alloc (.cells #[.slice (some ⟨g, 0, none⟩) n c] 24)).alloc (.cells #[.slice none 0 0] 24)) := ((Below.refl _ _).alloc (Nat.le_refl _) _).alloc (by simp) _
  have K0 := hide ((Bk.fresh w 24 #[.slice (some ⟨g, 0, none⟩) n c]).alloc (.cells #[.slice none 0 0] 24))
  have K2 := hide (show Bk ((w.alloc (.cells #[.slice (some ⟨g, 0, none⟩) n c] 24)).alloc (.cells #[.slice none 0 0] 24)) (w.heap.size + 1) 24 #[.slice none 0 0] by
    have h := Bk.fresh (w.alloc (.cells #[.slice (some ⟨g, 0, none⟩) n c] 24)) 24 #[.slice none 0 0]
    rw [show (w.alloc (.cells #[.slice (some ⟨g, 0, none⟩) n c] 24)).heap.size = w.heap.size + 1 by simp] at h
    exact h)
  have HGR := hide (h.after hb0)
  have HFF := hide (Fr.of_below (MB g es0) hb0)
  have HMB := hide (fun i (hi : MB g es0 i) => hi)
  have HBS0 := hide hB
  have HGL := hide (show g < w.heap.size by obtain ⟨cs, h1, _⟩ := h.pl; exact h1.1.lt)
  clear h hb0
  go_enter Try.func43, Try.ntmps43
  go_wp2_with fail
  go_loopw [3] (fun i wr => ∃ (k : Nat) (es : List DV), k ≤ n ∧ i = .int .i64 k ∧ Hid (Bk wr w.heap.size 24 #[.slice (some ⟨g, 0, none⟩) n c]) ∧ Hid (Bk wr (w.heap.size + 1) 24 #[.slice none 0 0]) ∧ Hid (GR B K wr g c n es) ∧ Hid (Fr (MB g es0) w wr) ∧ Hid (∀ i, MB g es i → MB g es0 i)) (fun i _ => n - (intOf i).toNat)
  case atStart => exact ⟨0, es0, by omega, rfl, K0, K2, HGR, HFF, HMB⟩
  case round =>
    clear K0 K2 HGR HFF HMB
    obtain ⟨k, es, hk, rfl, K0, K2, HGR, HFF, HMB⟩ := hrel
    have t0 := K0.out.cell 0
    by_cases hlt : k < n
    · have i0 : (0 : Int) ≤ (k : Int) := by omega
      have i1 : (k : Int) < (n : Int) := by omega
      have hb := (Below.refl wr.heap.size wr).drew
      have HBS := hide (show B ≤ wr.drew.heap.size from Nat.le_trans HBS0.out (Nat.le_trans HFF.out.size hb.size))
      have K2 := hide (K2.out.after hb)
      have HGR := hide (HGR.out.after hb)
      have HFF := hide (HFF.out.drew)
      obtain ⟨d, hdk, hmd, hgd, s0, s1, s2⟩ := HGR.out.at_ hlt
      obtain ⟨cs, hpl, hcz⟩ := HGR.out.pl
      have HDK := hide hdk
      have HCC := hide (And.intro s0 (And.intro s1 s2))
      have HL1 := hide (show d.z1.length = 64 by rw [hmd.l1, hgd.n1])
      have HR1 := hide hmd.r1
      have HR2 := hide (show Rd wr.drew 2 (some ⟨d.b2, 0, none⟩) d.n2 (waitCells d.z2) from hmd.r2.rd (by rw [waitCells_len, hmd.l2]))
      have HM2 := hide hmd.m2
      have HOK := hide hgd.ok
      have HBB := hide hmd.base
      obtain ⟨y1, hRB, _⟩ := hmd.r1
      obtain ⟨y2, hRB2, _⟩ := hmd.r2
      have HNE := hide (hRB2.ne_type hRB (by decide))
      have HG0 := hide (show Bk wr.drew g 49 cs ∧ n * 3 ≤ cs.size from ⟨hpl.1, hpl.2.1⟩)
      have HGN := hide (hpl.1.ne_type hRB (by decide))
      have HX0 := hide (show ¬ (w.heap.size = d.b) from (K0.out.drewN 1).ne_type hRB (by decide))
      have HX1 := hide (show ¬ (w.heap.size + 1 = d.b) from K2.out.ne_type hRB (by decide))
      have HXG := hide (show ¬ (w.heap.size = g) by have := HGL.out; omega)
      have HXH := hide (show ¬ (w.heap.size + 1 = g) by have := HGL.out; omega)
      obtain ⟨R, hR⟩ : ∃ R, settleT (fun _ z _ => z.2) 0 d.z2 d.z1 = R := ⟨_, rfl⟩
      have HSR := hide hR
      have HRL := hide (show R.length = 64 by rw [← hR, settle_len]; exact HL1.out)
      have HH0 := hide (show Bk wr.drew w.heap.size 24 #[.slice (some ⟨g, 0, none⟩) n c] from K0.out)
      clear hb hdk hmd hgd s0 s1 s2 hpl hcz hRB hRB2 hR
      go_upto_region 4 with fail
      clear t0
      refine wp_region_held_drew (S := fun x => Bk x w.heap.size 24 #[.slice (some ⟨g, 0, none⟩) n c]) (by kernel_rfl) (HH0.out) (fun hH0 => ?_)
      refine wpAnyH_take (i := 0) (v := ?_) rfl (by kernel_rfl) (by kernel_rfl) (by kernel_rfl) (fun _ _ _ h => h) (Or.inl ⟨by rfl, fun wS hS => ?_⟩) hH0 ?_
      rotate_left
      · have s0 := Bk.c1 hS; go_simp; try exact rfl
      simp only [Act.put, List.setIfInBounds_toArray, List.set_cons_zero, List.set_cons_succ, List.getElem_toArray, List.getElem_cons_zero]
      refine wpAnyH_take (i := 1) (v := ?_) rfl (by kernel_rfl) (by kernel_rfl) (by kernel_rfl) (fun _ _ _ h => h) (Or.inl ⟨by rfl, fun wS hS => ?_⟩) hH0 ?_
      rotate_left
      · have s0 := Bk.c1 hS; go_simp; try exact rfl
      simp only [Act.put, List.setIfInBounds_toArray, List.set_cons_zero, List.set_cons_succ, List.getElem_toArray, List.getElem_cons_zero, List.getElem_cons_succ]
      refine wpAnyH_take (i := 2) (v := ?_) rfl (by kernel_rfl) (by kernel_rfl) (by kernel_rfl) (fun _ _ _ h => h) (Or.inl ⟨by rfl, fun wS hS => ?_⟩) hH0 ?_
      rotate_left
      · have s0 := Bk.c1 hS; go_simp; try exact rfl
      simp only [Act.put, List.setIfInBounds_toArray, List.set_cons_zero, List.set_cons_succ, List.getElem_toArray, List.getElem_cons_zero, List.getElem_cons_succ]
      refine wpAnyH_take (i := 3) (v := ?_) rfl (by kernel_rfl) (by kernel_rfl) (by kernel_rfl) (fun _ _ _ h => h) (Or.inl ⟨by rfl, fun wS hS => ?_⟩) hH0 ?_
      rotate_left
      · have s0 := Bk.c1 hS; go_simp; try exact rfl
      simp only [Act.put, List.setIfInBounds_toArray, List.set_cons_zero, List.set_cons_succ, List.getElem_toArray, List.getElem_cons_zero, List.getElem_cons_succ]
      refine wpAnyH_take (i := 4) (v := ?_) rfl (by kernel_rfl) (by kernel_rfl) (by kernel_rfl) (fun _ _ _ h => h) (Or.inl ⟨by rfl, fun wS hS => ?_⟩) hH0 ?_
      rotate_left
      · have s0 := Bk.c1 hS; go_simp; try exact rfl
      simp only [Act.put, List.setIfInBounds_toArray, List.set_cons_zero, List.set_cons_succ, List.getElem_toArray, List.getElem_cons_zero, List.getElem_cons_succ]
      refine wpAnyH_take (i := 5) (v := ?_) rfl (by kernel_rfl) (by kernel_rfl) (by kernel_rfl) (fun _ _ _ h => h) (Or.inl ⟨by rfl, fun wS hS => ?_⟩) hH0 ?_
      rotate_left
      · have s0 := Bk.c1 hS; go_simp; try exact rfl
      simp only [Act.put, List.setIfInBounds_toArray, List.set_cons_zero, List.set_cons_succ, List.getElem_toArray, List.getElem_cons_zero, List.getElem_cons_succ]
      refine wpAnyH_take (i := 6) (v := ?_) rfl (by kernel_rfl) (by kernel_rfl) (by kernel_rfl) (fun _ _ _ h => h) (Or.inl ⟨by rfl, fun wS hS => ?_⟩) hH0 ?_
      rotate_left
      · have s0 := Bk.c1 hS; go_simp; try exact rfl
      simp only [Act.put, List.setIfInBounds_toArray, List.set_cons_zero, List.set_cons_succ, List.getElem_toArray, List.getElem_cons_zero, List.getElem_cons_succ]
      refine wpAnyH_ready (rs := [7]) (by kernel_rfl) (by simp) (AllReadyH.cons rfl (fun K hK => ?_) (AllReadyH.nil))
      obtain ⟨s0, s1, s2⟩ := HCC.out
      go_simp
      refine hK.out _ _ (hH0) (fun hH1 => ?_)
      clear hK K
      try simp only [Act.put]
      clear s0 s1 s2
      refine wpAnyH_ready (rs := [8]) (by kernel_rfl) (by simp) (AllReadyH.cons rfl (fun K hK => ?_) (AllReadyH.nil))
      go_simp
      go_at_call 69
      refine (l3FlushM d.b d.c1 d.b2 0 d.n2 d.c2 d.z1 R d.z2 false _ HR1.out HL1.out HR2.out HM2.out HNE.out HOK.out HSR.out).mono ?_; rintro r x1 ⟨e2, rfl, he2, hr1, hr2, hf⟩
      have K2 := hide (K2.out.fr hf HX1.out)
      have HGK := hide (HG0.out.1.fr hf HGN.out)
      have HFR := hide hf
      have HRN := hide hr1
      have HRW := hide hr2
      have HE2 := hide (show B ≤ e2 from Nat.le_trans HBS.out he2)
      refine hK.out _ _ (hH1.fr hf HX0.out) (fun hH2 => ?_)
      clear hK K
      try simp only [Act.put]
      clear hr1 hr2 he2 hf
      refine wpAnyH_take (i := 9) (v := ?_) rfl (by kernel_rfl) (by kernel_rfl) (by kernel_rfl) (fun _ _ _ h => h) (Or.inl ⟨by rfl, fun wS hS => ?_⟩) hH2 ?_
      rotate_left
      · have s0 := Bk.c1 hS; go_simp; try exact rfl
      simp only [Act.put, List.setIfInBounds_toArray, List.set_cons_zero, List.set_cons_succ, List.getElem_toArray, List.getElem_cons_zero, List.getElem_cons_succ]
      refine wpAnyH_ready (rs := [10]) (by kernel_rfl) (by simp) (AllReadyH.cons rfl (fun K hK => ?_) (AllReadyH.nil))
      have hcat : ∀ j, j < 3 → ∃ u, x1.cell? ⟨g, k * 3 + j, none⟩ = some u := fun j hj => ⟨cs[k * 3 + j]'(by have := HG0.out.2; omega), by rw [HGK.out.cell]; exact Array.getElem?_eq_getElem _⟩
      obtain ⟨u0, s0⟩ := hcat 0 (by omega)
      obtain ⟨u1, s1⟩ := hcat 1 (by omega)
      obtain ⟨u2, s2⟩ := hcat 2 (by omega)
      have s0 : x1.cell? ⟨g, k * 3, none⟩ = some u0 := s0
      have f0 := HGK.out.frozen (k * 3)
      have f1 := HGK.out.frozen (k * 3 + 1)
      have f2 := HGK.out.frozen (k * 3 + 2)
      go_simp
      refine hK.out _ _ (hH2.fr ((((Fr.refl (fun i => i = g) _).setCell (p := ⟨g, k * 3, none⟩) (.inl rfl) (.slice (some ⟨d.b, 0, none⟩) 64 d.c1)).setCell (p := ⟨g, k * 3 + 1, none⟩) (.inl rfl) (.slice (some ⟨e2, 0, none⟩) 0 0)).setCell (p := ⟨g, k * 3 + 2, none⟩) (.inl rfl) (.bool false)) HXG.out) (fun hH3 => ?_)
      clear hK K
      try simp only [Act.put]
      clear hcat s0 s1 s2 f0 f1 f2
      refine wpAnyH_done (by kernel_rfl) ?_ _
      have W3 := hide ((((Fr.refl (fun i => i = g) x1).setCell (p := ⟨g, k * 3, none⟩) (.inl rfl) (.slice (some ⟨d.b, 0, none⟩) 64 d.c1)).setCell (p := ⟨g, k * 3 + 1, none⟩) (.inl rfl) (.slice (some ⟨e2, 0, none⟩) 0 0)).setCell (p := ⟨g, k * 3 + 2, none⟩) (.inl rfl) (.bool false))
      have K0 := hide (hH3)
      have K2 := hide (K2.out.fr W3.out HXH.out)
      have HO := hide (show (⟨some ⟨d.b, 0, none⟩, 64, d.c1, some ⟨e2, 0, none⟩, 0, 0, false, R, []⟩ : DV).Made B x1 from ⟨rfl, rfl, HBB.out, HE2.out, HRL.out, rfl, by show (64 : Nat) ≤ 1048576; omega, Nat.zero_le _, HRN.out, (show Row _ e2 _ (waitCells []) from ⟨_, HRW.out, Nat.zero_le _, fun j hj => absurd hj (by simp [waitCells])⟩)⟩)
      have HN := hide (HGR.out.put (e := (⟨some ⟨d.b, 0, none⟩, 64, d.c1, some ⟨e2, 0, none⟩, 0, 0, false, R, []⟩ : DV)) (K' := K) hlt HDK.out HFR.out HO.out ⟨rfl, rfl, rfl, Nat.zero_le _⟩ (Nat.le_refl _) (HGR.out.same HDK.out rfl))
      have HFA := hide (show Fr (MB g es0) w (((x1.setCell ⟨g, k * 3, none⟩ (.slice (some ⟨d.b, 0, none⟩) 64 d.c1)).setCell ⟨g, k * 3 + 1, none⟩ (.slice (some ⟨e2, 0, none⟩) 0 0)).setCell ⟨g, k * 3 + 2, none⟩ (.bool false)) from (HFF.out.next HFR.out (fun i _ e => .inl (HMB.out i (.inr ⟨d, List.mem_of_getElem? HDK.out, e⟩)))).next W3.out (fun i _ e => .inl (.inl e)))
      have HMB := hide (fun i (hi : MB g (es.set k (⟨some ⟨d.b, 0, none⟩, 64, d.c1, some ⟨e2, 0, none⟩, 0, 0, false, R, []⟩ : DV)) i) => HMB.out i (MB.set (e := (⟨some ⟨d.b, 0, none⟩, 64, d.c1, some ⟨e2, 0, none⟩, 0, 0, false, R, []⟩ : DV)) HDK.out rfl hi))
      clear HO W3 HFR HRN HRW HE2 HGK
      go_wp2_with fail
      go_roundw
      case rel => exact ⟨k + 1, _, by omega, int_eq (by omega), K0, K2, HN, HFA, HMB⟩
      case measure => simp [intOf]; omega
    · have u2 := K2.out.cell 0
      have f2 := K2.out.frozen 0
      go_wp2_with fail
      have KF := K2.out.put 0 (.slice (some ⟨g, 0, none⟩) n c)
      have c0 : (wr.setCell ⟨w.heap.size + 1, 0, none⟩ (.slice (some ⟨g, 0, none⟩) n c)).cell? ⟨w.heap.size + 1, 0, none⟩ = some (.slice (some ⟨g, 0, none⟩) n c) := KF.cell 0
      refine bodyPost_ret (v := .agg #[.slice (some ⟨g, 0, none⟩) n c]) (by simp [results, Try.results43, go_sem, c0]) rfl ?_
      exact ⟨es, rfl, HGR.out.box K2.out, HFF.out.setCell (p := ⟨w.heap.size + 1, 0, none⟩) (.inr (Nat.le_succ _)) _, HMB.out⟩
end Go.Proofs.Ytcaoekaephnimaa
