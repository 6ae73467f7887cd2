/- settle with the closure of DiskCrash. -/
import Derived.Test.YtcaoekaephnimaaDiskSet
import Derived.Test.YtcaoekaephnimaaQF
namespace Go.Proofs.Ytcaoekaephnimaa
open Go.RowKit
set_option linter.unusedVariables false
set_option maxRecDepth 100000


set_option maxHeartbeats 8000000 in
theorem settleCrash_any (m : Nat) (tear : Int) (g3 g4 : Nat) (b1 o1 c1 b2 o2 n2 c2 : Nat) (z1 R : List ByteArray) (z2 : List (Int × ByteArray)) (g : Bool) (w : World) (h1 : Rd w 1 (some ⟨b1, o1, none⟩) 64 (z1.map Value.string)) (h2 : Rd w 2 (some ⟨b2, o2, none⟩) n2 (waitCells z2)) (m2 : n2 ≤ 1048576) (hok : z2.all waitB = true) (hR : settleT (crashF m tear) 0 z2 z1 = R) (hsz : ∀ u ∈ z1, u.size ≤ 200) (k3 : Bk w g3 3 #[.int .i64 m]) (k4 : Bk w g4 3 #[.int .i64 tear]) (hm : m < 9223372036854775808):
    Calls Try.prog 55 #[.agg #[.slice (some ⟨b1, o1, none⟩) 64 c1, .slice (some ⟨b2, o2, none⟩) n2 c2, .bool g], .func (.func 56) #[] #[.pointer (some ⟨g3, 0, none⟩), .pointer (some ⟨g4, 0, none⟩)]] w (SetPost R g w) := by
  obtain ⟨W0, HW0⟩ : ∃ W : World, W = ((w.alloc (.cells #[.slice (some ⟨b1, o1, none⟩) 64 c1, .slice (some ⟨b2, o2, none⟩) n2 c2, .bool g] 49)).alloc (.cells #[.slice none 0 0, .slice none 0 0, .bool false] 49)) := ⟨_, rfl⟩
  have hb : Below w.heap.size w W0 := by rw [HW0]; exact (((Below.refl _ _).alloc (Nat.le_refl _) _).alloc (by simp) _)
  have z0 : W0.heap.size = w.heap.size + 1 + 1 := by rw [HW0]; simp
  have K1 := hide (show Bk W0 w.heap.size 49 #[.slice (some ⟨b1, o1, none⟩) 64 c1, .slice (some ⟨b2, o2, none⟩) n2 c2, .bool g] by rw [HW0]; exact ((Bk.fresh _ _ _).alloc _))
  have K2 := hide (show Bk W0 (w.heap.size + 1) 49 #[.slice none 0 0, .slice none 0 0, .bool false] by
    rw [HW0]
    have h := Bk.fresh (w.alloc (.cells #[.slice (some ⟨b1, o1, none⟩) 64 c1, .slice (some ⟨b2, o2, none⟩) n2 c2, .bool g] 49)) 49 #[.slice none 0 0, .slice none 0 0, .bool false]
    rw [show (w.alloc (.cells #[.slice (some ⟨b1, o1, none⟩) 64 c1, .slice (some ⟨b2, o2, none⟩) n2 c2, .bool g] 49)).heap.size = w.heap.size + 1 by simp] at h
    exact h)
  have hzl : z2.length = n2 := by have := h2.len; rw [waitCells_len] at this; omega
  have hzl1 : z1.length = 64 := by have := h1.len; simpa using this
  have HZL := hide hzl
  have HZL1 := hide hzl1
  have H1 := hide (h1.after hb)
  have H2 := hide (h2.after hb)
  have HB := hide hb
  have HR := hide hR
  have HZ0 := hide z0
  have HOK := hide hok
  clear h1 h2 hb z0 hR hzl hok hzl1
  have HSZ := hide hsz
  have K3 := hide (k3.after HB.out)
  have K4 := hide (k4.after HB.out)
  have HM := hide hm
  clear hsz k3 k4
  skip
  go_enter Try.func55, Try.ntmps55
  go_upto_region 1 with fail
  rw [← HW0]
  clear HW0
  go_cut [5] (fun c5 wx => ∃ g1 ca g5 : Nat, c5 = .pointer (some ⟨g5, 0, none⟩) ∧ W0.heap.size ≤ g5 ∧ W0.heap.size ≤ g1 ∧ g1 ≠ g5 ∧ Hid (Row wx g1 9 (z1.map Value.string)) ∧ Hid (Bk wx g5 49 #[.slice (some ⟨g1, 0, none⟩) 64 ca, .slice none 0 0, .bool g]) ∧ Hid (Below W0.heap.size W0 wx))
  case first =>
    skip
    refine wp_region_held_drew (S := fun x => Below W0.heap.size W0 x) (by kernel_rfl) ((Below.refl _ _).drew) (fun hH0 => ?_)
    refine wpAnyH_take (i := 0) (v := ?_) rfl (by kernel_rfl) (by kernel_rfl) (by kernel_rfl) (fun _ _ _ h => h) (Or.inl ⟨by rfl, fun wS hS => ?_⟩) hH0 ?_
    rotate_left
    · obtain ⟨t0, t1, t2⟩ := (K1.out.below hS K1.out.lt).c3; go_simp; try exact rfl
    simp only [Act.put, List.setIfInBounds_toArray, List.set_cons_zero, List.set_cons_succ, List.getElem_toArray, List.getElem_cons_zero]
    refine wpAnyH_take (i := 1) (v := ?_) rfl (by kernel_rfl) (by kernel_rfl) (by kernel_rfl) (fun _ _ _ h => h) (Or.inl ⟨by rfl, fun wS hS => ?_⟩) hH0 ?_
    rotate_left
    · obtain ⟨t0, t1, t2⟩ := (K1.out.below hS K1.out.lt).c3; go_simp; try exact rfl
    simp only [Act.put, List.setIfInBounds_toArray, List.set_cons_zero, List.set_cons_succ, List.getElem_toArray, List.getElem_cons_zero, List.getElem_cons_succ]
    refine wpAnyH_take (i := 3) (v := ?_) rfl (by kernel_rfl) (by kernel_rfl) (by kernel_rfl) (fun _ _ _ h => h) (Or.inl ⟨by rfl, fun wS hS => ?_⟩) hH0 ?_
    rotate_left
    · obtain ⟨t0, t1, t2⟩ := (K1.out.below hS K1.out.lt).c3; go_simp; try exact rfl
    simp only [Act.put, List.setIfInBounds_toArray, List.set_cons_zero, List.set_cons_succ, List.getElem_toArray, List.getElem_cons_zero, List.getElem_cons_succ]
    refine wpAnyH_take (i := 4) (v := ?_) rfl (by kernel_rfl) (by kernel_rfl) (by kernel_rfl) (fun _ _ _ h => h) (Or.inl ⟨by rfl, fun wS hS => ?_⟩) hH0 ?_
    rotate_left
    · obtain ⟨t0, t1, t2⟩ := (K1.out.below hS K1.out.lt).c3; go_simp; try exact rfl
    simp only [Act.put, List.setIfInBounds_toArray, List.set_cons_zero, List.set_cons_succ, List.getElem_toArray, List.getElem_cons_zero, List.getElem_cons_succ]
    refine wpAnyH_ready (rs := [2, 6]) (by kernel_rfl) (by simp) (AllReadyH.cons rfl (fun K hK => ?_) (AllReadyH.cons rfl (fun K hK => ?_) (AllReadyH.nil)))
    · go_simp
      go_at_call 81
      refine (cloneS_any b1 o1 64 c1 z1 _ (H1.out.keep hH0.size (fun p hp => hH0.cell hp)) (by decide)).mono ?_; rintro r xc ⟨g1, ca, rfl, hg1, hrow, hb5⟩
      have CROW := hide hrow
      have HG1 := hide (Nat.le_trans hH0.size hg1)
      have HB5 := hide hb5
      clear hrow hb5 hg1
      refine hK.out _ _ (hH0.trans (HB5.out.mono hH0.size)) (fun hH1 => ?_)
      clear hK K
      try simp only [Act.put, List.setIfInBounds_toArray, List.set_cons_zero, List.set_cons_succ]
      refine wpAnyH_take (i := 5) (v := ?_) rfl (by kernel_rfl) (by kernel_rfl) (by kernel_rfl) (fun _ _ _ h => h) (Or.inl ⟨by rfl, fun wS hS => ?_⟩) hH1 ?_
      rotate_left
      · obtain ⟨t0, t1, t2⟩ := (K1.out.below hS K1.out.lt).c3; go_simp; try exact rfl
      simp only [Act.put, List.setIfInBounds_toArray, List.set_cons_zero, List.set_cons_succ, List.getElem_toArray, List.getElem_cons_zero, List.getElem_cons_succ]
      refine wpAnyH_ready (rs := [6]) (by kernel_rfl) (by simp) (AllReadyH.cons rfl (fun K hK => ?_) (AllReadyH.nil))
      go_simp
      refine hK.out _ _ (hH1.alloc hH1.size (.cells #[.slice none 0 0, .slice none 0 0, .bool false] 49)) (fun hH2 => ?_)
      clear hK K
      try simp only [Act.put, List.setIfInBounds_toArray, List.set_cons_zero, List.set_cons_succ]
      have HG5 := hide hH1.size
      have K5 := hide ((fresh_bel hH1 49 #[.slice none 0 0, .slice none 0 0, .bool false]).at_ (g' := xc.heap.size) (by simp))
      have CROW0 := hide CROW.out
      have CROW := hide (CROW.out.alloc (.cells #[.slice none 0 0, .slice none 0 0, .bool false] 49))
      refine wpAnyH_ready (rs := [7]) (by kernel_rfl) (by simp) (AllReadyH.cons rfl (fun K hK => ?_) (AllReadyH.nil))
      have hg15 : g1 ≠ xc.heap.size := by obtain ⟨cs, hcs, _⟩ := CROW.out; exact hcs.ne_type K5.out (by decide)
      have P5 := hide (fresh_bel hH1 49 #[.slice (some ⟨g1, 0, none⟩) 64 ca, .slice none 0 0, .bool g])
      have PROW := hide (CROW0.out.alloc (.cells #[.slice (some ⟨g1, 0, none⟩) 64 ca, .slice none 0 0, .bool g] 49))
      go_simp
      refine hK.out _ _ (hH1.alloc hH1.size (.cells #[.slice (some ⟨g1, 0, none⟩) 64 ca, .slice none 0 0, .bool g] 49)) (fun hH3 => ?_)
      clear hK K
      try simp only [Act.put, List.setIfInBounds_toArray, List.set_cons_zero, List.set_cons_succ]
      refine wpAnyH_done (by kernel_rfl) ?_ _
      go_wp2_with fail
      go_meet
      exact ⟨g1, ca, _, rfl, HG5.out, HG1.out, hg15, PROW, P5, hide hH3⟩
    · go_simp
      refine hK.out _ _ (hH0.alloc hH0.size (.cells #[.slice none 0 0, .slice none 0 0, .bool false] 49)) (fun hH1 => ?_)
      clear hK K
      try simp only [Act.put, List.setIfInBounds_toArray, List.set_cons_zero, List.set_cons_succ]
      have HG5 := hide hH0.size
      have K5 := hide ((fresh_bel hH0 49 #[.slice none 0 0, .slice none 0 0, .bool false]).at_ (g' := W0.heap.size) (by simp))
      refine wpAnyH_ready (rs := [2]) (by kernel_rfl) (by simp) (AllReadyH.cons rfl (fun K hK => ?_) (AllReadyH.nil))
      go_simp
      go_at_call 81
      refine (cloneS_any b1 o1 64 c1 z1 _ (H1.out.keep hH1.size (fun p hp => hH1.cell hp)) (by decide)).mono ?_; rintro r xc ⟨g1, ca, rfl, hg1, hrow, hb5⟩
      have K5 := hide (K5.out.after hb5)
      have CROW := hide hrow
      have HG1 := hide (Nat.le_trans hH1.size hg1)
      have HB5 := hide hb5
      clear hrow hb5 hg1
      refine hK.out _ _ (hH1.trans (HB5.out.mono hH1.size)) (fun hH2 => ?_)
      clear hK K
      try simp only [Act.put, List.setIfInBounds_toArray, List.set_cons_zero, List.set_cons_succ]
      refine wpAnyH_take (i := 5) (v := ?_) rfl (by kernel_rfl) (by kernel_rfl) (by kernel_rfl) (fun _ _ _ h => h) (Or.inl ⟨by rfl, fun wS hS => ?_⟩) hH2 ?_
      rotate_left
      · obtain ⟨t0, t1, t2⟩ := (K1.out.below hS K1.out.lt).c3; go_simp; try exact rfl
      simp only [Act.put, List.setIfInBounds_toArray, List.set_cons_zero, List.set_cons_succ, List.getElem_toArray, List.getElem_cons_zero, List.getElem_cons_succ]
      refine wpAnyH_ready (rs := [7]) (by kernel_rfl) (by simp) (AllReadyH.cons rfl (fun K hK => ?_) (AllReadyH.nil))
      obtain ⟨s0, s1, s2⟩ := K5.out.c3
      have f0 := K5.out.frozen 0
      have f1 := K5.out.frozen 1
      have f2 := K5.out.frozen 2
      have P5 := hide (put3 K5.out (.slice (some ⟨g1, 0, none⟩) 64 ca) (.slice none 0 0) (.bool g))
      have hg15 : g1 ≠ W0.heap.size := by obtain ⟨cs, hcs, _⟩ := CROW.out; exact hcs.ne_type K5.out (by decide)
      have PROW := hide (CROW.out.fr (fr3 (Fr.refl (· = W0.heap.size) _) (.inl rfl) (.slice (some ⟨g1, 0, none⟩) 64 ca) (.slice none 0 0) (.bool g)) hg15)
      go_simp
      refine hK.out _ _ (((hH2.setCell (p := ⟨W0.heap.size, 0, none⟩) HG5.out _).setCell (p := ⟨W0.heap.size, 1, none⟩) HG5.out _).setCell (p := ⟨W0.heap.size, 2, none⟩) HG5.out _) (fun hH3 => ?_)
      clear hK K
      try simp only [Act.put, List.setIfInBounds_toArray, List.set_cons_zero, List.set_cons_succ]
      clear s0 s1 s2 f0 f1 f2
      refine wpAnyH_done (by kernel_rfl) ?_ _
      go_wp2_with fail
      go_meet
      exact ⟨g1, ca, _, rfl, HG5.out, HG1.out, hg15, PROW, P5, hide hH3⟩
  obtain ⟨g1, ca, g5, rfl, hg5, hg1, hne, HROW, K5, HBW⟩ := hcut
  have hz0 := HZ0.out
  obtain ⟨t0, t1, t2⟩ := (K1.out.below HBW.out K1.out.lt).c3
  go_wp2_with fail
  clear t0 t1 t2
  go_loopw [17] (fun i wr => ∃ (k : Nat) (cur : List ByteArray), k ≤ n2 ∧ cur.length = 64 ∧ Hid (∀ u ∈ cur, u.size ≤ 200) ∧ Hid (Row wr g1 9 (cur.map Value.string)) ∧ Hid (settleT (crashF m tear) k (z2.drop k) cur = R) ∧ Hid (Bk wr g5 49 #[.slice (some ⟨g1, 0, none⟩) 64 ca, .slice none 0 0, .bool g]) ∧ Hid (Below W0.heap.size W0 wr) ∧ i = .int .i64 k) (fun i _ => n2 - (intOf i).toNat)
  case atStart => exact ⟨0, z1, by omega, HZL1.out, HSZ, HROW, HR, K5, HBW, rfl⟩
  case round =>
    clear K5 HROW HBW
    obtain ⟨k, cur, hk, hcl, HI, HROW, HS, K5, HBW, rfl⟩ := hrel
    by_cases hlt2 : k < n2
    · obtain ⟨b, o, z, e, hb, hz, hc0, hc1⟩ := (H2.out.keep HBW.out.size (fun p hp => HBW.out.cell hp)).wait_at hlt2
      injection e with e
      injection e with e1 e2
      subst e1 e2
      have HZ := hide hz
      have hw : waitB z = true := by have h := HOK.out; rw [List.all_eq_true] at h; exact h z (List.mem_of_getElem? hz)
      have hin : 0 ≤ z.1 ∧ z.1 ≤ 63 ∧ z.2.size ≤ 200 := by unfold waitB at hw; simp only [inR, Bool.and_eq_true, decide_eq_true_eq] at hw; omega
      obtain ⟨a, ha⟩ : ∃ a : Nat, z.1 = (a : Int) := ⟨z.1.toNat, by omega⟩
      have HA := hide ha
      have HIN := hide hin
      have i0 : (0 : Int) ≤ (k : Int) := by omega
      have i1 : (k : Int) < (n2 : Int) := by omega
      have a0 : (0 : Int) ≤ (a : Int) := by omega
      have a1 : (a : Int) < 64 := by omega
      have c0 : wr.cell? ⟨b2, o2 + k * 2, none⟩ = some (.int .i64 a) := by rw [← HA.out]; exact hc0
      have c1 : wr.cell? ⟨b2, o2 + k * 2 + 1, none⟩ = some (.string z.2) := hc1
      obtain ⟨s, hs⟩ : ∃ s, s = z.2 := ⟨_, rfl⟩
      rw [← hs] at c1
      have HSS := hide hs
      clear hz hb hc0 hc1 hw hin ha hs
      go_upto_region 5 with fail
      clear c0 c1
      obtain ⟨wv, hwv⟩ : ∃ W : World, W = wr.alloc (.cells #[.int .i64 a, .string s] 74) := ⟨_, rfl⟩
      have K7 : Bk wv wr.heap.size 74 #[.int .i64 a, .string s] := by rw [hwv]; exact Bk.fresh _ _ _
      have K5v : Bk wv g5 49 #[.slice (some ⟨g1, 0, none⟩) 64 ca, .slice none 0 0, .bool g] := by rw [hwv]; exact K5.out.alloc _
      have ROWv : Row wv g1 9 (cur.map Value.string) := by rw [hwv]; exact HROW.out.alloc _
      have HBv : Below W0.heap.size W0 wv := by rw [hwv]; exact HBW.out.alloc HBW.out.size _
      have hg7 : ¬ wr.heap.size = g1 := by have := HROW.out.lt; omega
      rw [← hwv]
      clear hwv
      have KV7 := hide K7
      have KV5 := hide K5v
      have RV := hide ROWv
      have BV := hide HBv
      clear K7 K5v ROWv HBv
      obtain ⟨x7, hx7⟩ : ∃ x : Nat, x = wr.heap.size := ⟨_, rfl⟩
      rw [← hx7] at KV7 hg7
      rw [← hx7]
      clear hx7
      obtain ⟨hca, hfa⟩ := (show Row wv.drew g1 9 (cur.map Value.string) from RV.out).at_ (a := a) (by omega)
      obtain ⟨old, hold⟩ : ∃ old, old = cur.getD a ⟨#[]⟩ := ⟨_, rfl⟩
      rw [← hold] at hca
      have HOLD := hide hold
      clear hfa hold
      obtain ⟨u, hu⟩ : ∃ u, u = (crashF m tear) k (z.1, s) old := ⟨_, rfl⟩
      have HU := hide hu
      have hos : Hid (old.size ≤ 200) := hide (by
        rw [HOLD.out]
        have hal : a < cur.length := by omega
        rw [List.getD_eq_getElem?_getD, List.getElem?_eq_getElem hal]
        exact HI.out _ (List.getElem_mem hal))
      have hss : Hid (s.size ≤ 200) := hide (by rw [HSS.out]; exact HIN.out.2.2)
      have hus : Hid (u.size ≤ 200) := hide (by rw [hu]; exact crash_size m tear k (z.1, s) old hos.out hss.out)
      have HI1 := hide (show ∀ x ∈ cur.set a u, x.size ≤ 200 from fun x hx => by
        rcases List.mem_or_eq_of_mem_set hx with h | h
        · exact HI.out x h
        · rw [h]; exact hus.out)
      have C3 := hide (show Bk wv.drew g3 3 #[.int .i64 m] from (K3.out.below BV.out.drew K3.out.lt))
      have C4 := hide (show Bk wv.drew g4 3 #[.int .i64 tear] from (K4.out.below BV.out.drew K4.out.lt))
      have hk3 : k ≤ 2000000 := by omega
      clear hu
      have hne5 : ¬ g5 = g1 := fun e => hne e.symm
      refine wp_region_held_drew (S := fun x => Fr (· = g1) wv.drew x) (by kernel_rfl) (Fr.refl _ _) (fun hH => ?_)
      refine wpAnyH_take (i := 0) (v := ?_) rfl (by kernel_rfl) (by kernel_rfl) (by kernel_rfl) (fun _ _ _ h => h) (Or.inl ⟨by rfl, fun wS hS => ?_⟩) hH ?_
      rotate_left
      · obtain ⟨t0, t1, t2⟩ := ((show Bk wv.drew g5 _ _ from KV5.out).fr hS hne5).c3; obtain ⟨v0, v1⟩ := ((show Bk wv.drew x7 _ _ from KV7.out).fr hS hg7).c2; go_simp; try exact rfl
      simp only [Act.put, List.setIfInBounds_toArray, List.set_cons_zero, List.set_cons_succ, List.getElem_toArray, List.getElem_cons_zero]
      refine wpAnyH_take (i := 1) (v := ?_) rfl (by kernel_rfl) (by kernel_rfl) (by kernel_rfl) (fun _ _ _ h => h) (Or.inl ⟨by rfl, fun wS hS => ?_⟩) hH ?_
      rotate_left
      · obtain ⟨t0, t1, t2⟩ := ((show Bk wv.drew g5 _ _ from KV5.out).fr hS hne5).c3; obtain ⟨v0, v1⟩ := ((show Bk wv.drew x7 _ _ from KV7.out).fr hS hg7).c2; go_simp; try exact rfl
      simp only [Act.put, List.setIfInBounds_toArray, List.set_cons_zero, List.set_cons_succ, List.getElem_toArray, List.getElem_cons_zero, List.getElem_cons_succ]
      refine wpAnyH_take (i := 2) (v := ?_) rfl (by kernel_rfl) (by kernel_rfl) (by kernel_rfl) (fun _ _ _ h => h) (Or.inl ⟨by rfl, fun wS hS => ?_⟩) hH ?_
      rotate_left
      · obtain ⟨t0, t1, t2⟩ := ((show Bk wv.drew g5 _ _ from KV5.out).fr hS hne5).c3; obtain ⟨v0, v1⟩ := ((show Bk wv.drew x7 _ _ from KV7.out).fr hS hg7).c2; go_simp; try exact rfl
      simp only [Act.put, List.setIfInBounds_toArray, List.set_cons_zero, List.set_cons_succ, List.getElem_toArray, List.getElem_cons_zero, List.getElem_cons_succ]
      refine wpAnyH_take (i := 3) (v := ?_) rfl (by kernel_rfl) (by kernel_rfl) (by kernel_rfl) (fun _ _ _ h => h) (Or.inl ⟨by rfl, fun wS hS => ?_⟩) hH ?_
      rotate_left
      · obtain ⟨t0, t1, t2⟩ := ((show Bk wv.drew g5 _ _ from KV5.out).fr hS hne5).c3; obtain ⟨v0, v1⟩ := ((show Bk wv.drew x7 _ _ from KV7.out).fr hS hg7).c2; go_simp; try exact rfl
      simp only [Act.put, List.setIfInBounds_toArray, List.set_cons_zero, List.set_cons_succ, List.getElem_toArray, List.getElem_cons_zero, List.getElem_cons_succ]
      refine wpAnyH_take (i := 4) (v := ?_) rfl (by kernel_rfl) (by kernel_rfl) (by kernel_rfl) (fun _ _ _ h => h) (Or.inl ⟨by rfl, fun wS hS => ?_⟩) hH ?_
      rotate_left
      · obtain ⟨t0, t1, t2⟩ := ((show Bk wv.drew g5 _ _ from KV5.out).fr hS hne5).c3; obtain ⟨v0, v1⟩ := ((show Bk wv.drew x7 _ _ from KV7.out).fr hS hg7).c2; go_simp; try exact rfl
      simp only [Act.put, List.setIfInBounds_toArray, List.set_cons_zero, List.set_cons_succ, List.getElem_toArray, List.getElem_cons_zero, List.getElem_cons_succ]
      refine wpAnyH_take (i := 5) (v := ?_) rfl (by kernel_rfl) (by kernel_rfl) (by kernel_rfl) (fun _ _ _ h => h) (Or.inl ⟨by rfl, fun wS hS => ?_⟩) hH ?_
      rotate_left
      · obtain ⟨t0, t1, t2⟩ := ((show Bk wv.drew g5 _ _ from KV5.out).fr hS hne5).c3; obtain ⟨v0, v1⟩ := ((show Bk wv.drew x7 _ _ from KV7.out).fr hS hg7).c2; go_simp; try exact rfl
      simp only [Act.put, List.setIfInBounds_toArray, List.set_cons_zero, List.set_cons_succ, List.getElem_toArray, List.getElem_cons_zero, List.getElem_cons_succ]
      refine wpAnyH_take (i := 6) (v := ?_) rfl (by kernel_rfl) (by kernel_rfl) (by kernel_rfl) (fun _ _ _ h => h) (Or.inl ⟨by rfl, fun wS hS => ?_⟩) hH ?_
      rotate_left
      · obtain ⟨t0, t1, t2⟩ := ((show Bk wv.drew g5 _ _ from KV5.out).fr hS hne5).c3; obtain ⟨v0, v1⟩ := ((show Bk wv.drew x7 _ _ from KV7.out).fr hS hg7).c2; go_simp; try exact rfl
      simp only [Act.put, List.setIfInBounds_toArray, List.set_cons_zero, List.set_cons_succ, List.getElem_toArray, List.getElem_cons_zero, List.getElem_cons_succ]
      refine wpAnyH_take (i := 7) (v := ?_) rfl (by kernel_rfl) (by kernel_rfl) (by kernel_rfl) (fun _ _ _ h => h) (Or.inl ⟨by rfl, fun wS hS => ?_⟩) hH ?_
      rotate_left
      · obtain ⟨t0, t1, t2⟩ := ((show Bk wv.drew g5 _ _ from KV5.out).fr hS hne5).c3; obtain ⟨v0, v1⟩ := ((show Bk wv.drew x7 _ _ from KV7.out).fr hS hg7).c2; go_simp; try exact rfl
      simp only [Act.put, List.setIfInBounds_toArray, List.set_cons_zero, List.set_cons_succ, List.getElem_toArray, List.getElem_cons_zero, List.getElem_cons_succ]
      refine wpAnyH_take (i := 8) (v := ?_) rfl (by kernel_rfl) (by kernel_rfl) (by kernel_rfl) (fun _ _ _ h => h) (Or.inl ⟨by rfl, fun wS hS => ?_⟩) hH ?_
      rotate_left
      · obtain ⟨t0, t1, t2⟩ := ((show Bk wv.drew g5 _ _ from KV5.out).fr hS hne5).c3; obtain ⟨v0, v1⟩ := ((show Bk wv.drew x7 _ _ from KV7.out).fr hS hg7).c2; go_simp; try exact rfl
      simp only [Act.put, List.setIfInBounds_toArray, List.set_cons_zero, List.set_cons_succ, List.getElem_toArray, List.getElem_cons_zero, List.getElem_cons_succ]
      refine wpAnyH_take (i := 9) (v := ?_) rfl (by kernel_rfl) (by kernel_rfl) (by kernel_rfl) (fun _ _ _ h => h) (Or.inl ⟨by rfl, fun wS hS => ?_⟩) hH ?_
      rotate_left
      · obtain ⟨t0, t1, t2⟩ := ((show Bk wv.drew g5 _ _ from KV5.out).fr hS hne5).c3; obtain ⟨v0, v1⟩ := ((show Bk wv.drew x7 _ _ from KV7.out).fr hS hg7).c2; go_simp; try exact rfl
      simp only [Act.put, List.setIfInBounds_toArray, List.set_cons_zero, List.set_cons_succ, List.getElem_toArray, List.getElem_cons_zero, List.getElem_cons_succ]
      refine wpAnyH_take (i := 10) (v := ?_) rfl (by kernel_rfl) (by kernel_rfl) (by kernel_rfl) (fun _ _ _ h => h) (Or.inl ⟨by rfl, fun wS hS => ?_⟩) hH ?_
      rotate_left
      · obtain ⟨t0, t1, t2⟩ := ((show Bk wv.drew g5 _ _ from KV5.out).fr hS hne5).c3; obtain ⟨v0, v1⟩ := ((show Bk wv.drew x7 _ _ from KV7.out).fr hS hg7).c2; go_simp; try exact rfl
      simp only [Act.put, List.setIfInBounds_toArray, List.set_cons_zero, List.set_cons_succ, List.getElem_toArray, List.getElem_cons_zero, List.getElem_cons_succ]
      refine wpAnyH_take (i := 11) (v := ?_) rfl (by kernel_rfl) (by kernel_rfl) (by kernel_rfl) (fun _ _ _ h => h) (Or.inl ⟨by rfl, fun wS hS => ?_⟩) hH ?_
      rotate_left
      · obtain ⟨t0, t1, t2⟩ := ((show Bk wv.drew g5 _ _ from KV5.out).fr hS hne5).c3; obtain ⟨v0, v1⟩ := ((show Bk wv.drew x7 _ _ from KV7.out).fr hS hg7).c2; go_simp; try exact rfl
      simp only [Act.put, List.setIfInBounds_toArray, List.set_cons_zero, List.set_cons_succ, List.getElem_toArray, List.getElem_cons_zero, List.getElem_cons_succ]
      refine wpAnyH_ready (rs := [12]) (by kernel_rfl) (by simp) (AllReadyH.cons rfl (fun K hK => ?_) AllReadyH.nil)
      go_simp
      refine hK.out _ _ (hH) (fun hH1 => ?_)
      clear hK K
      try simp only [Act.put, List.setIfInBounds_toArray, List.set_cons_zero, List.set_cons_succ]
      refine wpAnyH_ready (rs := [13]) (by kernel_rfl) (by simp) (AllReadyH.cons rfl (fun K hK => ?_) AllReadyH.nil)
      go_simp
      go_at_call 56
      refine (crashOne_any k a s old m tear g3 g4 _ C3.out C4.out HM.out hss.out hos.out hk3).mono ?_; rintro r w5 ⟨rfl, hb5⟩; rw [show crashF m tear k ((a : Int), s) old = u by rw [HU.out, HA.out]]
      have HB5 := hide hb5
      obtain ⟨hcb, hfb⟩ := ((show Row wv.drew g1 9 (cur.map Value.string) from RV.out).after hb5).at_ (a := a) (by omega)
      clear hb5
      refine hK.out _ _ (hH1.trans (Fr.of_below _ HB5.out)) (fun hH5 => ?_)
      clear hK K
      try simp only [Act.put, List.setIfInBounds_toArray, List.set_cons_zero, List.set_cons_succ]
      refine wpAnyH_take (i := 14) (v := ?_) rfl (by kernel_rfl) (by kernel_rfl) (by kernel_rfl) (fun _ _ _ h => h) (Or.inl ⟨by rfl, fun wS hS => ?_⟩) hH5 ?_
      rotate_left
      · obtain ⟨t0, t1, t2⟩ := ((show Bk wv.drew g5 _ _ from KV5.out).fr hS hne5).c3; obtain ⟨v0, v1⟩ := ((show Bk wv.drew x7 _ _ from KV7.out).fr hS hg7).c2; go_simp; try exact rfl
      simp only [Act.put, List.setIfInBounds_toArray, List.set_cons_zero, List.set_cons_succ, List.getElem_toArray, List.getElem_cons_zero, List.getElem_cons_succ]
      refine wpAnyH_ready (rs := [15]) (by kernel_rfl) (by simp) (AllReadyH.cons rfl (fun K hK => ?_) AllReadyH.nil)
      go_simp
      refine hK.out _ _ (hH5.setCell (p := ⟨g1, a, none⟩) (.inl rfl) _) (fun hH6 => ?_)
      clear hK K
      try simp only [Act.put, List.setIfInBounds_toArray, List.set_cons_zero, List.set_cons_succ]
      refine wpAnyH_done (by kernel_rfl) ?_ _
      have ROWf := hide ((((show Row wv.drew g1 9 (cur.map Value.string) from RV.out).after HB5.out)).put (a := a) u)
      have K5f := hide ((((show Bk wv.drew g5 _ _ from KV5.out).after HB5.out)).far (p := ⟨g1, a, none⟩) hne5 (.string u))
      have HBf := hide ((BV.out.drew.trans (HB5.out.mono BV.out.size)).setCell (p := ⟨g1, a, none⟩) (show W0.heap.size ≤ g1 from hg1) (.string u))
      have HS1 := hide (settle_step HZ.out HA.out HS.out (show (crashF m tear) k z (cur.getD a ⟨#[]⟩) = u by rw [HU.out, HOLD.out, HSS.out]))
      clear hcb hfb
      go_wp2_with fail
      go_roundw
      case rel => exact ⟨k + 1, _, by omega, by rw [List.length_set]; exact hcl, HI1, ROWf, HS1, K5f, HBf, int_eq (by omega)⟩
      case measure => simp [intOf]; omega
    · have hcr := hide (settle_end (by have := HZL.out; omega) HS.out)
      have kn : ¬ (k : Int) < (n2 : Int) := by omega
      have KB2 := hide (K2.out.below HBW.out K2.out.lt)
      obtain ⟨s0, s1, s2⟩ := K5.out.c3
      obtain ⟨q0, q1, q2⟩ := KB2.out.c3
      have f0 := KB2.out.frozen 0
      have f1 := KB2.out.frozen 1
      have f2 := KB2.out.frozen 2
      have P3 := hide (put3 KB2.out (.slice (some ⟨g1, 0, none⟩) 64 ca) (.slice none 0 0) (.bool g))
      have PR := hide (HROW.out.fr (fr3 (Fr.refl (fun b => b = w.heap.size + 1) wr) (.inl rfl) (.slice (some ⟨g1, 0, none⟩) 64 ca) (.slice none 0 0) (.bool g)) (by omega))
      have PB := hide ((((HB.out.trans (HBW.out.mono HB.out.size)).setCell (p := ⟨w.heap.size + 1, 0, none⟩) (Nat.le_succ _) (.slice (some ⟨g1, 0, none⟩) 64 ca)).setCell (p := ⟨w.heap.size + 1, 1, none⟩) (Nat.le_succ _) (.slice none 0 0)).setCell (p := ⟨w.heap.size + 1, 2, none⟩) (Nat.le_succ _) (.bool g))
      go_wp2_with fail
      clear s0 s1 s2 q0 q1 q2 f0 f1 f2
      obtain ⟨Y, hY⟩ : ∃ Y : World, Y = ((wr.setCell ⟨w.heap.size + 1, 0, none⟩ (.slice (some ⟨g1, 0, none⟩) 64 ca)).setCell ⟨w.heap.size + 1, 1, none⟩ (.slice none 0 0)).setCell ⟨w.heap.size + 1, 2, none⟩ (.bool g) := ⟨_, rfl⟩
      rw [← hY] at P3 PR PB
      rw [← hY]
      clear hY
      obtain ⟨r0, r1, r2⟩ := P3.out.c3
      refine bodyPost_ret (v := .agg #[.slice (some ⟨g1, 0, none⟩) 64 ca, .slice none 0 0, .bool g]) (by simp [results, Try.results55, go_sem, r0, r1, r2]) rfl ?_
      exact ⟨g1, ca, none, rfl, by omega, by rw [← hcr.out]; exact PR.out, PB.out⟩
end Go.Proofs.Ytcaoekaephnimaa
