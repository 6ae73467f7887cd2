/- settle, DiskFlush and DiskCrash of the program on a disk on which nothing waits. -/
import Derived.Test.YtcaoekaephnimaaDiskCrash
namespace Go.Proofs.Ytcaoekaephnimaa
open Go.RowKit
set_option linter.unusedVariables false
set_option maxRecDepth 100000


set_option maxHeartbeats 8000000 in
theorem settleFlush_nil  (b1 o1 c1 : Nat) (B2 : Option Addr) (z1 R : List ByteArray) (g : Bool) (w : World) (h1 : Rd w 1 (some ⟨b1, o1, none⟩) 64 (z1.map Value.string)) (h2 : Rd w 2 B2 0 (waitCells [])) (m2 : 0 ≤ 1048576) (hok : ([] : List (Int × ByteArray)).all waitB = true) (hR : settleT (fun (_ : Nat) (z : Int × ByteArray) (_ : ByteArray) => z.2) 0 ([] : List (Int × ByteArray)) z1 = R) :
    Calls Try.prog 55 #[.agg #[.slice (some ⟨b1, o1, none⟩) 64 c1, .slice B2 0 0, .bool g], .func (.func 71) #[] #[]] w (SetPost R g w) := by
  obtain ⟨W0, HW0⟩ : ∃ W : World, W = ((w.alloc (.cells #[.slice (some ⟨b1, o1, none⟩) 64 c1, .slice B2 0 0, .bool g] 49)).alloc (.cells #[.slice none 0 0, .slice none 0 0, .bool false] 49)) := ⟨_, rfl⟩
  have hb : Below w.heap.size w W0 := by rw [HW0]; exact (((Below.refl _ _).alloc (Nat.le_refl _) _).alloc (by simp) _)
  have z0 : W0.heap.size = w.heap.size + 1 + 1 := by rw [HW0]; simp
  have K1 := hide (show Bk W0 w.heap.size 49 #[.slice (some ⟨b1, o1, none⟩) 64 c1, .slice B2 0 0, .bool g] by rw [HW0]; exact ((Bk.fresh _ _ _).alloc _))
  have K2 := hide (show Bk W0 (w.heap.size + 1) 49 #[.slice none 0 0, .slice none 0 0, .bool false] by
    rw [HW0]
    have h := Bk.fresh (w.alloc (.cells #[.slice (some ⟨b1, o1, none⟩) 64 c1, .slice B2 0 0, .bool g] 49)) 49 #[.slice none 0 0, .slice none 0 0, .bool false]
    rw [show (w.alloc (.cells #[.slice (some ⟨b1, o1, none⟩) 64 c1, .slice B2 0 0, .bool g] 49)).heap.size = w.heap.size + 1 by simp] at h
    exact h)
  have hzl : ([] : List (Int × ByteArray)).length = 0 := by have := h2.len; rw [waitCells_len] at this; omega
  have hzl1 : z1.length = 64 := by have := h1.len; simpa using this
  have HZL := hide hzl
  have HZL1 := hide hzl1
  have H1 := hide (h1.after hb)
  have H2 := hide (h2.after hb)
  have HB := hide hb
  have HR := hide hR
  have HZ0 := hide z0
  have HOK := hide hok
  clear h1 h2 hb z0 hR hzl hok hzl1
  skip
  go_enter Try.func55, Try.ntmps55
  go_upto_region 1 with fail
  rw [← HW0]
  clear HW0
  go_cut [5] (fun c5 wx => ∃ g1 ca g5 : Nat, c5 = .pointer (some ⟨g5, 0, none⟩) ∧ W0.heap.size ≤ g5 ∧ W0.heap.size ≤ g1 ∧ g1 ≠ g5 ∧ Hid (Row wx g1 9 (z1.map Value.string)) ∧ Hid (Bk wx g5 49 #[.slice (some ⟨g1, 0, none⟩) 64 ca, .slice none 0 0, .bool g]) ∧ Hid (Below W0.heap.size W0 wx))
  case first =>
    skip
    refine wp_region_held_drew (S := fun x => Below W0.heap.size W0 x) (by kernel_rfl) ((Below.refl _ _).drew) (fun hH0 => ?_)
    refine wpAnyH_take (i := 0) (v := ?_) rfl (by kernel_rfl) (by kernel_rfl) (by kernel_rfl) (fun _ _ _ h => h) (Or.inl ⟨by rfl, fun wS hS => ?_⟩) hH0 ?_
    rotate_left
    · obtain ⟨t0, t1, t2⟩ := (K1.out.below hS K1.out.lt).c3; go_simp; try exact rfl
    simp only [Act.put, List.setIfInBounds_toArray, List.set_cons_zero, List.set_cons_succ, List.getElem_toArray, List.getElem_cons_zero]
    refine wpAnyH_take (i := 1) (v := ?_) rfl (by kernel_rfl) (by kernel_rfl) (by kernel_rfl) (fun _ _ _ h => h) (Or.inl ⟨by rfl, fun wS hS => ?_⟩) hH0 ?_
    rotate_left
    · obtain ⟨t0, t1, t2⟩ := (K1.out.below hS K1.out.lt).c3; go_simp; try exact rfl
    simp only [Act.put, List.setIfInBounds_toArray, List.set_cons_zero, List.set_cons_succ, List.getElem_toArray, List.getElem_cons_zero, List.getElem_cons_succ]
    refine wpAnyH_take (i := 3) (v := ?_) rfl (by kernel_rfl) (by kernel_rfl) (by kernel_rfl) (fun _ _ _ h => h) (Or.inl ⟨by rfl, fun wS hS => ?_⟩) hH0 ?_
    rotate_left
    · obtain ⟨t0, t1, t2⟩ := (K1.out.below hS K1.out.lt).c3; go_simp; try exact rfl
    simp only [Act.put, List.setIfInBounds_toArray, List.set_cons_zero, List.set_cons_succ, List.getElem_toArray, List.getElem_cons_zero, List.getElem_cons_succ]
    refine wpAnyH_take (i := 4) (v := ?_) rfl (by kernel_rfl) (by kernel_rfl) (by kernel_rfl) (fun _ _ _ h => h) (Or.inl ⟨by rfl, fun wS hS => ?_⟩) hH0 ?_
    rotate_left
    · obtain ⟨t0, t1, t2⟩ := (K1.out.below hS K1.out.lt).c3; go_simp; try exact rfl
    simp only [Act.put, List.setIfInBounds_toArray, List.set_cons_zero, List.set_cons_succ, List.getElem_toArray, List.getElem_cons_zero, List.getElem_cons_succ]
    refine wpAnyH_ready (rs := [2, 6]) (by kernel_rfl) (by simp) (AllReadyH.cons rfl (fun K hK => ?_) (AllReadyH.cons rfl (fun K hK => ?_) (AllReadyH.nil)))
    · go_simp
      go_at_call 81
      refine (cloneS_any b1 o1 64 c1 z1 _ (H1.out.keep hH0.size (fun p hp => hH0.cell hp)) (by decide)).mono ?_; rintro r xc ⟨g1, ca, rfl, hg1, hrow, hb5⟩
      have CROW := hide hrow
      have HG1 := hide (Nat.le_trans hH0.size hg1)
      have HB5 := hide hb5
      clear hrow hb5 hg1
      refine hK.out _ _ (hH0.trans (HB5.out.mono hH0.size)) (fun hH1 => ?_)
      clear hK K
      try simp only [Act.put, List.setIfInBounds_toArray, List.set_cons_zero, List.set_cons_succ]
      refine wpAnyH_take (i := 5) (v := ?_) rfl (by kernel_rfl) (by kernel_rfl) (by kernel_rfl) (fun _ _ _ h => h) (Or.inl ⟨by rfl, fun wS hS => ?_⟩) hH1 ?_
      rotate_left
      · obtain ⟨t0, t1, t2⟩ := (K1.out.below hS K1.out.lt).c3; go_simp; try exact rfl
      simp only [Act.put, List.setIfInBounds_toArray, List.set_cons_zero, List.set_cons_succ, List.getElem_toArray, List.getElem_cons_zero, List.getElem_cons_succ]
      refine wpAnyH_ready (rs := [6]) (by kernel_rfl) (by simp) (AllReadyH.cons rfl (fun K hK => ?_) (AllReadyH.nil))
      go_simp
      refine hK.out _ _ (hH1.alloc hH1.size (.cells #[.slice none 0 0, .slice none 0 0, .bool false] 49)) (fun hH2 => ?_)
      clear hK K
      try simp only [Act.put, List.setIfInBounds_toArray, List.set_cons_zero, List.set_cons_succ]
      have HG5 := hide hH1.size
      have K5 := hide ((fresh_bel hH1 49 #[.slice none 0 0, .slice none 0 0, .bool false]).at_ (g' := xc.heap.size) (by simp))
      have CROW0 := hide CROW.out
      have CROW := hide (CROW.out.alloc (.cells #[.slice none 0 0, .slice none 0 0, .bool false] 49))
      refine wpAnyH_ready (rs := [7]) (by kernel_rfl) (by simp) (AllReadyH.cons rfl (fun K hK => ?_) (AllReadyH.nil))
      have hg15 : g1 ≠ xc.heap.size := by obtain ⟨cs, hcs, _⟩ := CROW.out; exact hcs.ne_type K5.out (by decide)
      have P5 := hide (fresh_bel hH1 49 #[.slice (some ⟨g1, 0, none⟩) 64 ca, .slice none 0 0, .bool g])
      have PROW := hide (CROW0.out.alloc (.cells #[.slice (some ⟨g1, 0, none⟩) 64 ca, .slice none 0 0, .bool g] 49))
      go_simp
      refine hK.out _ _ (hH1.alloc hH1.size (.cells #[.slice (some ⟨g1, 0, none⟩) 64 ca, .slice none 0 0, .bool g] 49)) (fun hH3 => ?_)
      clear hK K
      try simp only [Act.put, List.setIfInBounds_toArray, List.set_cons_zero, List.set_cons_succ]
      refine wpAnyH_done (by kernel_rfl) ?_ _
      go_wp2_with fail
      go_meet
      exact ⟨g1, ca, _, rfl, HG5.out, HG1.out, hg15, PROW, P5, hide hH3⟩
    · go_simp
      refine hK.out _ _ (hH0.alloc hH0.size (.cells #[.slice none 0 0, .slice none 0 0, .bool false] 49)) (fun hH1 => ?_)
      clear hK K
      try simp only [Act.put, List.setIfInBounds_toArray, List.set_cons_zero, List.set_cons_succ]
      have HG5 := hide hH0.size
      have K5 := hide ((fresh_bel hH0 49 #[.slice none 0 0, .slice none 0 0, .bool false]).at_ (g' := W0.heap.size) (by simp))
      refine wpAnyH_ready (rs := [2]) (by kernel_rfl) (by simp) (AllReadyH.cons rfl (fun K hK => ?_) (AllReadyH.nil))
      go_simp
      go_at_call 81
      refine (cloneS_any b1 o1 64 c1 z1 _ (H1.out.keep hH1.size (fun p hp => hH1.cell hp)) (by decide)).mono ?_; rintro r xc ⟨g1, ca, rfl, hg1, hrow, hb5⟩
      have K5 := hide (K5.out.after hb5)
      have CROW := hide hrow
      have HG1 := hide (Nat.le_trans hH1.size hg1)
      have HB5 := hide hb5
      clear hrow hb5 hg1
      refine hK.out _ _ (hH1.trans (HB5.out.mono hH1.size)) (fun hH2 => ?_)
      clear hK K
      try simp only [Act.put, List.setIfInBounds_toArray, List.set_cons_zero, List.set_cons_succ]
      refine wpAnyH_take (i := 5) (v := ?_) rfl (by kernel_rfl) (by kernel_rfl) (by kernel_rfl) (fun _ _ _ h => h) (Or.inl ⟨by rfl, fun wS hS => ?_⟩) hH2 ?_
      rotate_left
      · obtain ⟨t0, t1, t2⟩ := (K1.out.below hS K1.out.lt).c3; go_simp; try exact rfl
      simp only [Act.put, List.setIfInBounds_toArray, List.set_cons_zero, List.set_cons_succ, List.getElem_toArray, List.getElem_cons_zero, List.getElem_cons_succ]
      refine wpAnyH_ready (rs := [7]) (by kernel_rfl) (by simp) (AllReadyH.cons rfl (fun K hK => ?_) (AllReadyH.nil))
      obtain ⟨s0, s1, s2⟩ := K5.out.c3
      have f0 := K5.out.frozen 0
      have f1 := K5.out.frozen 1
      have f2 := K5.out.frozen 2
      have P5 := hide (put3 K5.out (.slice (some ⟨g1, 0, none⟩) 64 ca) (.slice none 0 0) (.bool g))
      have hg15 : g1 ≠ W0.heap.size := by obtain ⟨cs, hcs, _⟩ := CROW.out; exact hcs.ne_type K5.out (by decide)
      have PROW := hide (CROW.out.fr (fr3 (Fr.refl (· = W0.heap.size) _) (.inl rfl) (.slice (some ⟨g1, 0, none⟩) 64 ca) (.slice none 0 0) (.bool g)) hg15)
      go_simp
      refine hK.out _ _ (((hH2.setCell (p := ⟨W0.heap.size, 0, none⟩) HG5.out _).setCell (p := ⟨W0.heap.size, 1, none⟩) HG5.out _).setCell (p := ⟨W0.heap.size, 2, none⟩) HG5.out _) (fun hH3 => ?_)
      clear hK K
      try simp only [Act.put, List.setIfInBounds_toArray, List.set_cons_zero, List.set_cons_succ]
      clear s0 s1 s2 f0 f1 f2
      refine wpAnyH_done (by kernel_rfl) ?_ _
      go_wp2_with fail
      go_meet
      exact ⟨g1, ca, _, rfl, HG5.out, HG1.out, hg15, PROW, P5, hide hH3⟩
  obtain ⟨g1, ca, g5, rfl, hg5, hg1, hne, HROW, K5, HBW⟩ := hcut
  have hz0 := HZ0.out
  obtain ⟨t0, t1, t2⟩ := (K1.out.below HBW.out K1.out.lt).c3
  go_wp2_with fail
  clear t0 t1 t2
  go_loopw [17] (fun i wr => ∃ (k : Nat) (cur : List ByteArray), k ≤ 0 ∧ cur.length = 64 ∧ Hid (Row wr g1 9 (cur.map Value.string)) ∧ Hid (settleT (fun (_ : Nat) (z : Int × ByteArray) (_ : ByteArray) => z.2) k (([] : List (Int × ByteArray)).drop k) cur = R) ∧ Hid (Bk wr g5 49 #[.slice (some ⟨g1, 0, none⟩) 64 ca, .slice none 0 0, .bool g]) ∧ Hid (Below W0.heap.size W0 wr) ∧ i = .int .i64 k) (fun i _ => 0 - (intOf i).toNat)
  case atStart => exact ⟨0, z1, by omega, HZL1.out, HROW, HR, K5, HBW, rfl⟩
  case round =>
    clear K5 HROW HBW
    obtain ⟨k, cur, hk, hcl, HROW, HS, K5, HBW, rfl⟩ := hrel
    by_cases hlt2 : k < 0
    · exact absurd hlt2 (by omega)
    · have hcr := hide (settle_end (by have := HZL.out; omega) HS.out)
      have kn : ¬ (k : Int) < (0 : Int) := by omega
      have KB2 := hide (K2.out.below HBW.out K2.out.lt)
      obtain ⟨s0, s1, s2⟩ := K5.out.c3
      obtain ⟨q0, q1, q2⟩ := KB2.out.c3
      have f0 := KB2.out.frozen 0
      have f1 := KB2.out.frozen 1
      have f2 := KB2.out.frozen 2
      have P3 := hide (put3 KB2.out (.slice (some ⟨g1, 0, none⟩) 64 ca) (.slice none 0 0) (.bool g))
      have PR := hide (HROW.out.fr (fr3 (Fr.refl (fun b => b = w.heap.size + 1) wr) (.inl rfl) (.slice (some ⟨g1, 0, none⟩) 64 ca) (.slice none 0 0) (.bool g)) (by omega))
      have PB := hide ((((HB.out.trans (HBW.out.mono HB.out.size)).setCell (p := ⟨w.heap.size + 1, 0, none⟩) (Nat.le_succ _) (.slice (some ⟨g1, 0, none⟩) 64 ca)).setCell (p := ⟨w.heap.size + 1, 1, none⟩) (Nat.le_succ _) (.slice none 0 0)).setCell (p := ⟨w.heap.size + 1, 2, none⟩) (Nat.le_succ _) (.bool g))
      go_wp2_with fail
      clear s0 s1 s2 q0 q1 q2 f0 f1 f2
      obtain ⟨Y, hY⟩ : ∃ Y : World, Y = ((wr.setCell ⟨w.heap.size + 1, 0, none⟩ (.slice (some ⟨g1, 0, none⟩) 64 ca)).setCell ⟨w.heap.size + 1, 1, none⟩ (.slice none 0 0)).setCell ⟨w.heap.size + 1, 2, none⟩ (.bool g) := ⟨_, rfl⟩
      rw [← hY] at P3 PR PB
      rw [← hY]
      clear hY
      obtain ⟨r0, r1, r2⟩ := P3.out.c3
      refine bodyPost_ret (v := .agg #[.slice (some ⟨g1, 0, none⟩) 64 ca, .slice none 0 0, .bool g]) (by simp [results, Try.results55, go_sem, r0, r1, r2]) rfl ?_
      exact ⟨g1, ca, none, rfl, by omega, by rw [← hcr.out]; exact PR.out, PB.out⟩
set_option maxHeartbeats 2000000 in
theorem implFlush_nil (b1 o1 n1 c1 : Nat) (B2 : Option Addr) (z1 R : List ByteArray) (g : Bool) (w : World) (h1 : Rd w 1 (some ⟨b1, o1, none⟩) n1 (z1.map Value.string)) (h2 : Rd w 2 B2 0 (waitCells [])) (m2 : 0 ≤ 1048576) (lb1 : b1 < w.heap.size) (hv : diskOk z1 ([] : List (Int × ByteArray)) g = true) (hR : settleT (fun _ z _ => z.2) 0 ([] : List (Int × ByteArray)) z1 = R) :
    Calls Try.prog 47 #[.agg #[.slice (some ⟨b1, o1, none⟩) n1 c1, .slice B2 0 0, .bool g]] w (SetPost R g w) := by
  have HL1 : Hid (z1.length = 64) := by unfold diskOk at hv; simp only [Bool.and_eq_true, decide_eq_true_eq] at hv; exact hide hv.1.1.1.1
  have HOK : Hid (([] : List (Int × ByteArray)).all waitB = true) := by unfold diskOk at hv; simp only [Bool.and_eq_true] at hv; exact hide hv.2
  have HL2 : Hid (([] : List (Int × ByteArray)).length = 0) := hide (by have := h2.len; rw [waitCells_len] at this; omega)
  obtain rfl : n1 = 64 := by have h := h1.len; have h2 := HL1.out; simp at h; omega
  have HV := hide hv
  have HR := hide hR
  clear hv hR
  have K1 := hide ((Bk.fresh w 49 #[.slice (some ⟨b1, o1, none⟩) 64 c1, .slice B2 0 0, .bool g]).alloc (.cells #[.slice none 0 0, .slice none 0 0, .bool false] 49))
  have K2 := hide (show Bk ((w.alloc (.cells #[.slice (some ⟨b1, o1, none⟩) 64 c1, .slice B2 0 0, .bool g] 49)).alloc (.cells #[.slice none 0 0, .slice none 0 0, .bool false] 49)) (w.heap.size + 1) 49 #[.slice none 0 0, .slice none 0 0, .bool false] by
    have h := Bk.fresh (w.alloc (.cells #[.slice (some ⟨b1, o1, none⟩) 64 c1, .slice B2 0 0, .bool g] 49)) 49 #[.slice none 0 0, .slice none 0 0, .bool false]
    rw [show (w.alloc (.cells #[.slice (some ⟨b1, o1, none⟩) 64 c1, .slice B2 0 0, .bool g] 49)).heap.size = w.heap.size + 1 by simp] at h
    exact h)
  have hb : Below w.heap.size w ((w.alloc (.cells #[.slice (some ⟨b1, o1, none⟩) 64 c1, .slice B2 0 0, .bool g] 49)).alloc (.cells #[.slice none 0 0, .slice none 0 0, .bool false] 49)) := ((Below.refl _ _).alloc (Nat.le_refl _) _).alloc (by simp) _
  have hsz : ((w.alloc (.cells #[.slice (some ⟨b1, o1, none⟩) 64 c1, .slice B2 0 0, .bool g] 49)).alloc (.cells #[.slice none 0 0, .slice none 0 0, .bool false] 49)).heap.size = w.heap.size + 1 + 1 := by simp
  have HSZ := hide hsz
  have H1 := hide (h1.after hb)
  have H2 := hide (h2.after hb)
  have HB := hide hb
  clear h1 h2 hb hsz
  go_enter Try.func47, Try.ntmps47
  go_wp2_with fail
  refine (implDiskOk_v HV.out _ H1.out H2.out (by decide) (by unfold maxLen; omega)).mono ?_; rintro r x1 ⟨rfl, hb1⟩
  have HX1 := hide hb1.size
  have K1 := hide (K1.out.after hb1)
  have K2 := hide (K2.out.after hb1)
  have H1 := hide (H1.out.after hb1)
  have H2 := hide (H2.out.after hb1)
  have HB := hide (HB.out.trans (hb1.mono HB.out.size))
  clear hb1
  obtain ⟨t0, t1, t2⟩ := K1.out.c3
  go_wp2_with fail
  refine (settleFlush_nil b1 o1 c1 B2 z1 R g _ H1.out H2.out m2 HOK.out HR.out).mono ?_; rintro r x2 ⟨g1, ca, B, rfl, hg1, hrow, hb1⟩
  have K2 := hide (K2.out.after hb1)
  have HROW := hide hrow
  have HG1 : Hid (w.heap.size + 1 + 1 ≤ g1) := hide (Nat.le_trans (Nat.le_of_eq HSZ.out.symm) (Nat.le_trans HX1.out hg1))
  have HB := hide (HB.out.trans (hb1.mono HB.out.size))
  clear hb1 hrow hg1
  obtain ⟨q0, q1, q2⟩ := K2.out.c3
  have f0 := K2.out.frozen 0
  have f1 := K2.out.frozen 1
  have f2 := K2.out.frozen 2
  have P3 := hide (put3 K2.out (.slice (some ⟨g1, 0, none⟩) 64 ca) (.slice B 0 0) (.bool g))
  have PB := hide (((HB.out.setCell (p := ⟨w.heap.size + 1, 0, none⟩) (Nat.le_succ _) (.slice (some ⟨g1, 0, none⟩) 64 ca)).setCell (p := ⟨w.heap.size + 1, 1, none⟩) (Nat.le_succ _) (.slice B 0 0)).setCell (p := ⟨w.heap.size + 1, 2, none⟩) (Nat.le_succ _) (.bool g))
  have PR := hide (HROW.out.fr (fr3 (Fr.refl (fun b => b = w.heap.size + 1) _) (.inl rfl) (.slice (some ⟨g1, 0, none⟩) 64 ca) (.slice B 0 0) (.bool g)) (by have := HG1.out; omega))
  clear t0 t1 t2
  go_wp2_with fail
  clear q0 q1 q2 f0 f1 f2
  obtain ⟨Y, hY⟩ : ∃ Y : World, Y = ((x2.setCell ⟨w.heap.size + 1, 0, none⟩ (.slice (some ⟨g1, 0, none⟩) 64 ca)).setCell ⟨w.heap.size + 1, 1, none⟩ (.slice B 0 0)).setCell ⟨w.heap.size + 1, 2, none⟩ (.bool g) := ⟨_, rfl⟩
  rw [← hY] at P3 PB PR
  rw [← hY]
  clear hY
  obtain ⟨r0, r1, r2⟩ := P3.out.c3
  refine bodyPost_ret (v := .agg #[.slice (some ⟨g1, 0, none⟩) 64 ca, .slice B 0 0, .bool g]) (by simp [results, Try.results47, go_sem, r0, r1, r2]) rfl ?_
  exact ⟨g1, ca, B, rfl, by have := HG1.out; omega, PR.out, PB.out⟩

set_option maxHeartbeats 8000000 in
theorem settleCrash_nil (m : Nat) (tear : Int) (g3 g4 : Nat) (b1 o1 c1 : Nat) (B2 : Option Addr) (z1 R : List ByteArray) (g : Bool) (w : World) (h1 : Rd w 1 (some ⟨b1, o1, none⟩) 64 (z1.map Value.string)) (h2 : Rd w 2 B2 0 (waitCells [])) (m2 : 0 ≤ 1048576) (hok : ([] : List (Int × ByteArray)).all waitB = true) (hR : settleT (crashF m tear) 0 ([] : List (Int × ByteArray)) z1 = R) (hsz : ∀ u ∈ z1, u.size ≤ 200) (k3 : Bk w g3 3 #[.int .i64 m]) (k4 : Bk w g4 3 #[.int .i64 tear]) (hm : m < 9223372036854775808):
    Calls Try.prog 55 #[.agg #[.slice (some ⟨b1, o1, none⟩) 64 c1, .slice B2 0 0, .bool g], .func (.func 56) #[] #[.pointer (some ⟨g3, 0, none⟩), .pointer (some ⟨g4, 0, none⟩)]] w (SetPost R g w) := by
  obtain ⟨W0, HW0⟩ : ∃ W : World, W = ((w.alloc (.cells #[.slice (some ⟨b1, o1, none⟩) 64 c1, .slice B2 0 0, .bool g] 49)).alloc (.cells #[.slice none 0 0, .slice none 0 0, .bool false] 49)) := ⟨_, rfl⟩
  have hb : Below w.heap.size w W0 := by rw [HW0]; exact (((Below.refl _ _).alloc (Nat.le_refl _) _).alloc (by simp) _)
  have z0 : W0.heap.size = w.heap.size + 1 + 1 := by rw [HW0]; simp
  have K1 := hide (show Bk W0 w.heap.size 49 #[.slice (some ⟨b1, o1, none⟩) 64 c1, .slice B2 0 0, .bool g] by rw [HW0]; exact ((Bk.fresh _ _ _).alloc _))
  have K2 := hide (show Bk W0 (w.heap.size + 1) 49 #[.slice none 0 0, .slice none 0 0, .bool false] by
    rw [HW0]
    have h := Bk.fresh (w.alloc (.cells #[.slice (some ⟨b1, o1, none⟩) 64 c1, .slice B2 0 0, .bool g] 49)) 49 #[.slice none 0 0, .slice none 0 0, .bool false]
    rw [show (w.alloc (.cells #[.slice (some ⟨b1, o1, none⟩) 64 c1, .slice B2 0 0, .bool g] 49)).heap.size = w.heap.size + 1 by simp] at h
    exact h)
  have hzl : ([] : List (Int × ByteArray)).length = 0 := by have := h2.len; rw [waitCells_len] at this; omega
  have hzl1 : z1.length = 64 := by have := h1.len; simpa using this
  have HZL := hide hzl
  have HZL1 := hide hzl1
  have H1 := hide (h1.after hb)
  have H2 := hide (h2.after hb)
  have HB := hide hb
  have HR := hide hR
  have HZ0 := hide z0
  have HOK := hide hok
  clear h1 h2 hb z0 hR hzl hok hzl1
  have HSZ := hide hsz
  have K3 := hide (k3.after HB.out)
  have K4 := hide (k4.after HB.out)
  have HM := hide hm
  clear hsz k3 k4
  skip
  go_enter Try.func55, Try.ntmps55
  go_upto_region 1 with fail
  rw [← HW0]
  clear HW0
  go_cut [5] (fun c5 wx => ∃ g1 ca g5 : Nat, c5 = .pointer (some ⟨g5, 0, none⟩) ∧ W0.heap.size ≤ g5 ∧ W0.heap.size ≤ g1 ∧ g1 ≠ g5 ∧ Hid (Row wx g1 9 (z1.map Value.string)) ∧ Hid (Bk wx g5 49 #[.slice (some ⟨g1, 0, none⟩) 64 ca, .slice none 0 0, .bool g]) ∧ Hid (Below W0.heap.size W0 wx))
  case first =>
    skip
    refine wp_region_held_drew (S := fun x => Below W0.heap.size W0 x) (by kernel_rfl) ((Below.refl _ _).drew) (fun hH0 => ?_)
    refine wpAnyH_take (i := 0) (v := ?_) rfl (by kernel_rfl) (by kernel_rfl) (by kernel_rfl) (fun _ _ _ h => h) (Or.inl ⟨by rfl, fun wS hS => ?_⟩) hH0 ?_
    rotate_left
    · obtain ⟨t0, t1, t2⟩ := (K1.out.below hS K1.out.lt).c3; go_simp; try exact rfl
    simp only [Act.put, List.setIfInBounds_toArray, List.set_cons_zero, List.set_cons_succ, List.getElem_toArray, List.getElem_cons_zero]
    refine wpAnyH_take (i := 1) (v := ?_) rfl (by kernel_rfl) (by kernel_rfl) (by kernel_rfl) (fun _ _ _ h => h) (Or.inl ⟨by rfl, fun wS hS => ?_⟩) hH0 ?_
    rotate_left
    · obtain ⟨t0, t1, t2⟩ := (K1.out.below hS K1.out.lt).c3; go_simp; try exact rfl
    simp only [Act.put, List.setIfInBounds_toArray, List.set_cons_zero, List.set_cons_succ, List.getElem_toArray, List.getElem_cons_zero, List.getElem_cons_succ]
    refine wpAnyH_take (i := 3) (v := ?_) rfl (by kernel_rfl) (by kernel_rfl) (by kernel_rfl) (fun _ _ _ h => h) (Or.inl ⟨by rfl, fun wS hS => ?_⟩) hH0 ?_
    rotate_left
    · obtain ⟨t0, t1, t2⟩ := (K1.out.below hS K1.out.lt).c3; go_simp; try exact rfl
    simp only [Act.put, List.setIfInBounds_toArray, List.set_cons_zero, List.set_cons_succ, List.getElem_toArray, List.getElem_cons_zero, List.getElem_cons_succ]
    refine wpAnyH_take (i := 4) (v := ?_) rfl (by kernel_rfl) (by kernel_rfl) (by kernel_rfl) (fun _ _ _ h => h) (Or.inl ⟨by rfl, fun wS hS => ?_⟩) hH0 ?_
    rotate_left
    · obtain ⟨t0, t1, t2⟩ := (K1.out.below hS K1.out.lt).c3; go_simp; try exact rfl
    simp only [Act.put, List.setIfInBounds_toArray, List.set_cons_zero, List.set_cons_succ, List.getElem_toArray, List.getElem_cons_zero, List.getElem_cons_succ]
    refine wpAnyH_ready (rs := [2, 6]) (by kernel_rfl) (by simp) (AllReadyH.cons rfl (fun K hK => ?_) (AllReadyH.cons rfl (fun K hK => ?_) (AllReadyH.nil)))
    · go_simp
      go_at_call 81
      refine (cloneS_any b1 o1 64 c1 z1 _ (H1.out.keep hH0.size (fun p hp => hH0.cell hp)) (by decide)).mono ?_; rintro r xc ⟨g1, ca, rfl, hg1, hrow, hb5⟩
      have CROW := hide hrow
      have HG1 := hide (Nat.le_trans hH0.size hg1)
      have HB5 := hide hb5
      clear hrow hb5 hg1
      refine hK.out _ _ (hH0.trans (HB5.out.mono hH0.size)) (fun hH1 => ?_)
      clear hK K
      try simp only [Act.put, List.setIfInBounds_toArray, List.set_cons_zero, List.set_cons_succ]
      refine wpAnyH_take (i := 5) (v := ?_) rfl (by kernel_rfl) (by kernel_rfl) (by kernel_rfl) (fun _ _ _ h => h) (Or.inl ⟨by rfl, fun wS hS => ?_⟩) hH1 ?_
      rotate_left
      · obtain ⟨t0, t1, t2⟩ := (K1.out.below hS K1.out.lt).c3; go_simp; try exact rfl
      simp only [Act.put, List.setIfInBounds_toArray, List.set_cons_zero, List.set_cons_succ, List.getElem_toArray, List.getElem_cons_zero, List.getElem_cons_succ]
      refine wpAnyH_ready (rs := [6]) (by kernel_rfl) (by simp) (AllReadyH.cons rfl (fun K hK => ?_) (AllReadyH.nil))
      go_simp
      refine hK.out _ _ (hH1.alloc hH1.size (.cells #[.slice none 0 0, .slice none 0 0, .bool false] 49)) (fun hH2 => ?_)
      clear hK K
      try simp only [Act.put, List.setIfInBounds_toArray, List.set_cons_zero, List.set_cons_succ]
      have HG5 := hide hH1.size
      have K5 := hide ((fresh_bel hH1 49 #[.slice none 0 0, .slice none 0 0, .bool false]).at_ (g' := xc.heap.size) (by simp))
      have CROW0 := hide CROW.out
      have CROW := hide (CROW.out.alloc (.cells #[.slice none 0 0, .slice none 0 0, .bool false] 49))
      refine wpAnyH_ready (rs := [7]) (by kernel_rfl) (by simp) (AllReadyH.cons rfl (fun K hK => ?_) (AllReadyH.nil))
      have hg15 : g1 ≠ xc.heap.size := by obtain ⟨cs, hcs, _⟩ := CROW.out; exact hcs.ne_type K5.out (by decide)
      have P5 := hide (fresh_bel hH1 49 #[.slice (some ⟨g1, 0, none⟩) 64 ca, .slice none 0 0, .bool g])
      have PROW := hide (CROW0.out.alloc (.cells #[.slice (some ⟨g1, 0, none⟩) 64 ca, .slice none 0 0, .bool g] 49))
      go_simp
      refine hK.out _ _ (hH1.alloc hH1.size (.cells #[.slice (some ⟨g1, 0, none⟩) 64 ca, .slice none 0 0, .bool g] 49)) (fun hH3 => ?_)
      clear hK K
      try simp only [Act.put, List.setIfInBounds_toArray, List.set_cons_zero, List.set_cons_succ]
      refine wpAnyH_done (by kernel_rfl) ?_ _
      go_wp2_with fail
      go_meet
      exact ⟨g1, ca, _, rfl, HG5.out, HG1.out, hg15, PROW, P5, hide hH3⟩
    · go_simp
      refine hK.out _ _ (hH0.alloc hH0.size (.cells #[.slice none 0 0, .slice none 0 0, .bool false] 49)) (fun hH1 => ?_)
      clear hK K
      try simp only [Act.put, List.setIfInBounds_toArray, List.set_cons_zero, List.set_cons_succ]
      have HG5 := hide hH0.size
      have K5 := hide ((fresh_bel hH0 49 #[.slice none 0 0, .slice none 0 0, .bool false]).at_ (g' := W0.heap.size) (by simp))
      refine wpAnyH_ready (rs := [2]) (by kernel_rfl) (by simp) (AllReadyH.cons rfl (fun K hK => ?_) (AllReadyH.nil))
      go_simp
      go_at_call 81
      refine (cloneS_any b1 o1 64 c1 z1 _ (H1.out.keep hH1.size (fun p hp => hH1.cell hp)) (by decide)).mono ?_; rintro r xc ⟨g1, ca, rfl, hg1, hrow, hb5⟩
      have K5 := hide (K5.out.after hb5)
      have CROW := hide hrow
      have HG1 := hide (Nat.le_trans hH1.size hg1)
      have HB5 := hide hb5
      clear hrow hb5 hg1
      refine hK.out _ _ (hH1.trans (HB5.out.mono hH1.size)) (fun hH2 => ?_)
      clear hK K
      try simp only [Act.put, List.setIfInBounds_toArray, List.set_cons_zero, List.set_cons_succ]
      refine wpAnyH_take (i := 5) (v := ?_) rfl (by kernel_rfl) (by kernel_rfl) (by kernel_rfl) (fun _ _ _ h => h) (Or.inl ⟨by rfl, fun wS hS => ?_⟩) hH2 ?_
      rotate_left
      · obtain ⟨t0, t1, t2⟩ := (K1.out.below hS K1.out.lt).c3; go_simp; try exact rfl
      simp only [Act.put, List.setIfInBounds_toArray, List.set_cons_zero, List.set_cons_succ, List.getElem_toArray, List.getElem_cons_zero, List.getElem_cons_succ]
      refine wpAnyH_ready (rs := [7]) (by kernel_rfl) (by simp) (AllReadyH.cons rfl (fun K hK => ?_) (AllReadyH.nil))
      obtain ⟨s0, s1, s2⟩ := K5.out.c3
      have f0 := K5.out.frozen 0
      have f1 := K5.out.frozen 1
      have f2 := K5.out.frozen 2
      have P5 := hide (put3 K5.out (.slice (some ⟨g1, 0, none⟩) 64 ca) (.slice none 0 0) (.bool g))
      have hg15 : g1 ≠ W0.heap.size := by obtain ⟨cs, hcs, _⟩ := CROW.out; exact hcs.ne_type K5.out (by decide)
      have PROW := hide (CROW.out.fr (fr3 (Fr.refl (· = W0.heap.size) _) (.inl rfl) (.slice (some ⟨g1, 0, none⟩) 64 ca) (.slice none 0 0) (.bool g)) hg15)
      go_simp
      refine hK.out _ _ (((hH2.setCell (p := ⟨W0.heap.size, 0, none⟩) HG5.out _).setCell (p := ⟨W0.heap.size, 1, none⟩) HG5.out _).setCell (p := ⟨W0.heap.size, 2, none⟩) HG5.out _) (fun hH3 => ?_)
      clear hK K
      try simp only [Act.put, List.setIfInBounds_toArray, List.set_cons_zero, List.set_cons_succ]
      clear s0 s1 s2 f0 f1 f2
      refine wpAnyH_done (by kernel_rfl) ?_ _
      go_wp2_with fail
      go_meet
      exact ⟨g1, ca, _, rfl, HG5.out, HG1.out, hg15, PROW, P5, hide hH3⟩
  obtain ⟨g1, ca, g5, rfl, hg5, hg1, hne, HROW, K5, HBW⟩ := hcut
  have hz0 := HZ0.out
  obtain ⟨t0, t1, t2⟩ := (K1.out.below HBW.out K1.out.lt).c3
  go_wp2_with fail
  clear t0 t1 t2
  go_loopw [17] (fun i wr => ∃ (k : Nat) (cur : List ByteArray), k ≤ 0 ∧ cur.length = 64 ∧ Hid (∀ u ∈ cur, u.size ≤ 200) ∧ Hid (Row wr g1 9 (cur.map Value.string)) ∧ Hid (settleT (crashF m tear) k (([] : List (Int × ByteArray)).drop k) cur = R) ∧ Hid (Bk wr g5 49 #[.slice (some ⟨g1, 0, none⟩) 64 ca, .slice none 0 0, .bool g]) ∧ Hid (Below W0.heap.size W0 wr) ∧ i = .int .i64 k) (fun i _ => 0 - (intOf i).toNat)
  case atStart => exact ⟨0, z1, by omega, HZL1.out, HSZ, HROW, HR, K5, HBW, rfl⟩
  case round =>
    clear K5 HROW HBW
    obtain ⟨k, cur, hk, hcl, HI, HROW, HS, K5, HBW, rfl⟩ := hrel
    by_cases hlt2 : k < 0
    · exact absurd hlt2 (by omega)
    · have hcr := hide (settle_end (by have := HZL.out; omega) HS.out)
      have kn : ¬ (k : Int) < (0 : Int) := by omega
      have KB2 := hide (K2.out.below HBW.out K2.out.lt)
      obtain ⟨s0, s1, s2⟩ := K5.out.c3
      obtain ⟨q0, q1, q2⟩ := KB2.out.c3
      have f0 := KB2.out.frozen 0
      have f1 := KB2.out.frozen 1
      have f2 := KB2.out.frozen 2
      have P3 := hide (put3 KB2.out (.slice (some ⟨g1, 0, none⟩) 64 ca) (.slice none 0 0) (.bool g))
      have PR := hide (HROW.out.fr (fr3 (Fr.refl (fun b => b = w.heap.size + 1) wr) (.inl rfl) (.slice (some ⟨g1, 0, none⟩) 64 ca) (.slice none 0 0) (.bool g)) (by omega))
      have PB := hide ((((HB.out.trans (HBW.out.mono HB.out.size)).setCell (p := ⟨w.heap.size + 1, 0, none⟩) (Nat.le_succ _) (.slice (some ⟨g1, 0, none⟩) 64 ca)).setCell (p := ⟨w.heap.size + 1, 1, none⟩) (Nat.le_succ _) (.slice none 0 0)).setCell (p := ⟨w.heap.size + 1, 2, none⟩) (Nat.le_succ _) (.bool g))
      go_wp2_with fail
      clear s0 s1 s2 q0 q1 q2 f0 f1 f2
      obtain ⟨Y, hY⟩ : ∃ Y : World, Y = ((wr.setCell ⟨w.heap.size + 1, 0, none⟩ (.slice (some ⟨g1, 0, none⟩) 64 ca)).setCell ⟨w.heap.size + 1, 1, none⟩ (.slice none 0 0)).setCell ⟨w.heap.size + 1, 2, none⟩ (.bool g) := ⟨_, rfl⟩
      rw [← hY] at P3 PR PB
      rw [← hY]
      clear hY
      obtain ⟨r0, r1, r2⟩ := P3.out.c3
      refine bodyPost_ret (v := .agg #[.slice (some ⟨g1, 0, none⟩) 64 ca, .slice none 0 0, .bool g]) (by simp [results, Try.results55, go_sem, r0, r1, r2]) rfl ?_
      exact ⟨g1, ca, none, rfl, by omega, by rw [← hcr.out]; exact PR.out, PB.out⟩
set_option maxHeartbeats 2000000 in
theorem implCrash_nil (b1 o1 n1 c1 : Nat) (B2 : Option Addr) (z1 R : List ByteArray) (g : Bool) (m : Nat) (tear : Int) (w : World) (h1 : Rd w 1 (some ⟨b1, o1, none⟩) n1 (z1.map Value.string)) (h2 : Rd w 2 B2 0 (waitCells [])) (m2 : 0 ≤ 1048576) (lb1 : b1 < w.heap.size) (hv : diskOk z1 ([] : List (Int × ByteArray)) g = true) (hm : m < 9223372036854775808) (hR : settleT (crashF m tear) 0 ([] : List (Int × ByteArray)) z1 = R) :
    Calls Try.prog 31 #[.agg #[.slice (some ⟨b1, o1, none⟩) n1 c1, .slice B2 0 0, .bool g], .int .i64 m, .int .i64 tear] w (SetPost R g w) := by
  have HL1 : Hid (z1.length = 64) := by unfold diskOk at hv; simp only [Bool.and_eq_true, decide_eq_true_eq] at hv; exact hide hv.1.1.1.1
  have HOK : Hid (([] : List (Int × ByteArray)).all waitB = true) := by unfold diskOk at hv; simp only [Bool.and_eq_true] at hv; exact hide hv.2
  have HSZ1 : Hid (∀ u ∈ z1, u.size ≤ 200) := by
    unfold diskOk at hv
    simp only [Bool.and_eq_true] at hv
    have h := hv.1.2
    rw [List.all_eq_true] at h
    refine hide (fun u hu => ?_)
    have h2 := h u hu
    unfold cellB at h2
    simp only [Bool.and_eq_true, decide_eq_true_eq] at h2
    exact h2.1
  have HL2 : Hid (([] : List (Int × ByteArray)).length = 0) := hide (by have := h2.len; rw [waitCells_len] at this; omega)
  obtain rfl : n1 = 64 := by have h := h1.len; have h2 := HL1.out; simp at h; omega
  have HV := hide hv
  have HR := hide hR
  clear hv hR
  obtain ⟨W0, hW0⟩ : ∃ X : World, X = ((((w.alloc (.cells #[.slice (some ⟨b1, o1, none⟩) 64 c1, .slice B2 0 0, .bool g] 49)).alloc (.cells #[.int .i64 m] 3)).alloc (.cells #[.int .i64 tear] 3)).alloc (.cells #[.slice none 0 0, .slice none 0 0, .bool false] 49)) := ⟨_, rfl⟩
  have hsz : W0.heap.size = w.heap.size + 1 + 1 + 1 + 1 := by rw [hW0]; simp
  have hb : Below w.heap.size w W0 := by
    rw [hW0]
    exact ((((Below.refl _ _).alloc (Nat.le_refl _) _).alloc (by simp) _).alloc (by simp; omega) _).alloc (by simp; omega) _
  have K1 := hide (show Bk W0 w.heap.size 49 #[.slice (some ⟨b1, o1, none⟩) 64 c1, .slice B2 0 0, .bool g] by rw [hW0]; exact (((Bk.fresh _ _ _).alloc _).alloc _).alloc _)
  have K2 := hide (show Bk W0 (w.heap.size + 1 + 1 + 1) 49 #[.slice none 0 0, .slice none 0 0, .bool false] by
    rw [hW0]
    exact (Bk.fresh _ 49 #[.slice none 0 0, .slice none 0 0, .bool false]).at_ (by simp))
  have K3 := hide (show Bk W0 (w.heap.size + 1) 3 #[.int .i64 m] by
    rw [hW0]
    exact (((Bk.fresh (w.alloc (.cells #[.slice (some ⟨b1, o1, none⟩) 64 c1, .slice B2 0 0, .bool g] 49)) 3 #[.int .i64 m]).alloc _).alloc _).at_ (by simp))
  have K4 := hide (show Bk W0 (w.heap.size + 1 + 1) 3 #[.int .i64 tear] by
    rw [hW0]
    exact ((Bk.fresh ((w.alloc (.cells #[.slice (some ⟨b1, o1, none⟩) 64 c1, .slice B2 0 0, .bool g] 49)).alloc (.cells #[.int .i64 m] 3)) 3 #[.int .i64 tear]).alloc _).at_ (by simp))
  have HSZ := hide hsz
  have H1 := hide (h1.after hb)
  have H2 := hide (h2.after hb)
  have HB := hide hb
  clear h1 h2 hb hsz
  go_enter Try.func31, Try.ntmps31
  go_wp2_with fail
  rw [← hW0]
  clear hW0
  refine (implDiskOk_v HV.out _ H1.out H2.out (by decide) (by unfold maxLen; omega)).mono ?_; rintro r x1 ⟨rfl, hb1⟩
  have HX1 := hide hb1.size
  have K1 := hide (K1.out.after hb1)
  have K2 := hide (K2.out.after hb1)
  have K3 := hide (K3.out.after hb1)
  have K4 := hide (K4.out.after hb1)
  have t3 := K3.out.c1
  have H1 := hide (H1.out.after hb1)
  have H2 := hide (H2.out.after hb1)
  have HB := hide (HB.out.trans (hb1.mono HB.out.size))
  clear hb1
  have hmn : ¬ (m : Int) < 0 := by omega
  obtain ⟨t0, t1, t2⟩ := K1.out.c3
  go_wp2_with fail
  refine (settleCrash_nil m tear (w.heap.size + 1) (w.heap.size + 1 + 1) b1 o1 c1 B2 z1 R g _ H1.out H2.out m2 HOK.out HR.out HSZ1.out K3.out K4.out hm).mono ?_; rintro r x2 ⟨g1, ca, B, rfl, hg1, hrow, hb1⟩
  have K2 := hide (K2.out.after hb1)
  have HROW := hide hrow
  have HG1 : Hid (w.heap.size + 1 + 1 + 1 + 1 ≤ g1) := hide (Nat.le_trans (Nat.le_of_eq HSZ.out.symm) (Nat.le_trans HX1.out hg1))
  have HB := hide (HB.out.trans (hb1.mono HB.out.size))
  clear hb1 hrow hg1
  obtain ⟨q0, q1, q2⟩ := K2.out.c3
  have f0 := K2.out.frozen 0
  have f1 := K2.out.frozen 1
  have f2 := K2.out.frozen 2
  have P3 := hide (put3 K2.out (.slice (some ⟨g1, 0, none⟩) 64 ca) (.slice B 0 0) (.bool g))
  have PB := hide (((HB.out.setCell (p := ⟨w.heap.size + 1 + 1 + 1, 0, none⟩) (show w.heap.size ≤ w.heap.size + 1 + 1 + 1 by omega) (.slice (some ⟨g1, 0, none⟩) 64 ca)).setCell (p := ⟨w.heap.size + 1 + 1 + 1, 1, none⟩) (show w.heap.size ≤ w.heap.size + 1 + 1 + 1 by omega) (.slice B 0 0)).setCell (p := ⟨w.heap.size + 1 + 1 + 1, 2, none⟩) (show w.heap.size ≤ w.heap.size + 1 + 1 + 1 by omega) (.bool g))
  have PR := hide (HROW.out.fr (fr3 (Fr.refl (fun b => b = w.heap.size + 1 + 1 + 1) _) (.inl rfl) (.slice (some ⟨g1, 0, none⟩) 64 ca) (.slice B 0 0) (.bool g)) (by have := HG1.out; omega))
  clear t0 t1 t2
  go_wp2_with fail
  clear q0 q1 q2 f0 f1 f2
  obtain ⟨Y, hY⟩ : ∃ Y : World, Y = ((x2.setCell ⟨w.heap.size + 1 + 1 + 1, 0, none⟩ (.slice (some ⟨g1, 0, none⟩) 64 ca)).setCell ⟨w.heap.size + 1 + 1 + 1, 1, none⟩ (.slice B 0 0)).setCell ⟨w.heap.size + 1 + 1 + 1, 2, none⟩ (.bool g) := ⟨_, rfl⟩
  rw [← hY] at P3 PB PR
  rw [← hY]
  clear hY
  obtain ⟨r0, r1, r2⟩ := P3.out.c3
  refine bodyPost_ret (v := .agg #[.slice (some ⟨g1, 0, none⟩) 64 ca, .slice B 0 0, .bool g]) (by simp [results, Try.results31, go_sem, r0, r1, r2]) rfl ?_
  exact ⟨g1, ca, B, rfl, by have := HG1.out; omega, PR.out, PB.out⟩

end Go.Proofs.Ytcaoekaephnimaa
