/- Waiting writes and a power failure: l3Crash. -/
import Derived.Test.YtcaoekaephnimaaQF
namespace Go.Proofs.Ytcaoekaephnimaa
open Go.RowKit
set_option linter.unusedVariables false
set_option maxRecDepth 100000

set_option maxHeartbeats 4000000 in
theorem l3Crash_any (g1 c1 b2 o2 n2 c2 : Nat) (z1 R : List ByteArray) (z2 : List (Int × ByteArray)) (g : Bool) (m : Nat) (tear : Int) (w : World) (h1 : Row w g1 9 (z1.map Value.string)) (hl : z1.length = 64) (h2 : Rd w 2 (some ⟨b2, o2, none⟩) n2 (waitCells z2)) (m2 : n2 ≤ 1048576) (hne : b2 ≠ g1) (hok : z2.all waitB = true) (hR : settleT (crashF m tear) 0 z2 z1 = R) (hsz : ∀ u ∈ z1, u.size ≤ 200) (hm : m < 9223372036854775808) :
    Calls Try.prog 48 #[.agg #[.slice (some ⟨g1, 0, none⟩) 64 c1, .slice (some ⟨b2, o2, none⟩) n2 c2, .bool g], .int .i64 m, .int .i64 tear] w (FlushPost R g1 c1 g w) := by
  obtain ⟨W0, HW0⟩ : ∃ W : World, W = ((w.alloc (.cells #[.slice (some ⟨g1, 0, none⟩) 64 c1, .slice (some ⟨b2, o2, none⟩) n2 c2, .bool g] 49)).alloc (.cells #[.slice none 0 0, .slice none 0 0, .bool false] 49)) := ⟨_, rfl⟩
  have hb : Below w.heap.size w W0 := by rw [HW0]; exact (((Below.refl _ _).alloc (Nat.le_refl _) _).alloc (by simp) _)
  have z0 : W0.heap.size = w.heap.size + 1 + 1 := by rw [HW0]; simp
  have K1 := hide (show Bk W0 w.heap.size 49 #[.slice (some ⟨g1, 0, none⟩) 64 c1, .slice (some ⟨b2, o2, none⟩) n2 c2, .bool g] by rw [HW0]; exact ((Bk.fresh _ _ _).alloc _))
  have K2 := hide (show Bk W0 (w.heap.size + 1) 49 #[.slice none 0 0, .slice none 0 0, .bool false] by
    rw [HW0]
    have h := Bk.fresh (w.alloc (.cells #[.slice (some ⟨g1, 0, none⟩) 64 c1, .slice (some ⟨b2, o2, none⟩) n2 c2, .bool g] 49)) 49 #[.slice none 0 0, .slice none 0 0, .bool false]
    rw [show (w.alloc (.cells #[.slice (some ⟨g1, 0, none⟩) 64 c1, .slice (some ⟨b2, o2, none⟩) n2 c2, .bool g] 49)).heap.size = w.heap.size + 1 by simp] at h
    exact h)
  have hlt := h1.lt
  have hzl : z2.length = n2 := by have := h2.len; rw [waitCells_len] at this; omega
  have HZL := hide hzl
  have H1 := hide (h1.after hb)
  have H2 := hide (h2.after hb)
  have HB := hide hb
  have HL := hide hl
  have HR := hide hR
  have HZ0 := hide z0
  have HOK := hide hok
  clear h1 h2 hb z0 hl hR hzl hok
  have HSZ := hide hsz
  clear hsz
  go_enter Try.func48, Try.ntmps48
  go_wp2_with fail
  rw [← HW0]
  clear HW0
  go_loopw [7] (fun i wr => ∃ (k : Nat) (cur : List ByteArray), k ≤ n2 ∧ cur.length = 64 ∧ Hid (∀ u ∈ cur, u.size ≤ 200) ∧ Hid (Row wr g1 9 (cur.map Value.string)) ∧ Hid (settleT (crashF m tear) k (z2.drop k) cur = R) ∧ Hid (Fr (· = g1) W0 wr) ∧ i = .int .i64 k) (fun i _ => n2 - (intOf i).toNat)
  case atStart => exact ⟨0, z1, by omega, HL.out, HSZ, H1, HR, hide (Fr.refl _ _), rfl⟩
  case round =>
    obtain ⟨k, cur, hk, hcl, HI, HROW, HS, HF, rfl⟩ := hrel
    have k1n : ¬ w.heap.size = g1 := by omega
    have KK := hide (K1.out.fr HF.out k1n)
    obtain ⟨t0, t1, t2⟩ := KK.out.c3
    by_cases hlt2 : k < n2
    · obtain ⟨b, o, z, e, hb, hz, hc0, hc1⟩ := (H2.out.fr1 HF.out hne).wait_at hlt2
      injection e with e
      injection e with e1 e2
      subst e1 e2
      have HZ := hide hz
      have HB2 := hide hb
      have C0 := hide hc0
      have C1 := hide hc1
      have hw : waitB z = true := by have h := HOK.out; rw [List.all_eq_true] at h; exact h z (List.mem_of_getElem? hz)
      have hin : 0 ≤ z.1 ∧ z.1 ≤ 63 ∧ z.2.size ≤ 200 := by unfold waitB at hw; simp only [inR, Bool.and_eq_true, decide_eq_true_eq] at hw; omega
      obtain ⟨a, ha⟩ : ∃ a : Nat, z.1 = (a : Int) := ⟨z.1.toNat, by omega⟩
      have HA := hide ha
      have HIN := hide hin
      have i0 : (0 : Int) ≤ (k : Int) := by omega
      have i1 : (k : Int) < (n2 : Int) := by omega
      have a0 : (0 : Int) ≤ (a : Int) := by omega
      have a1 : (a : Int) < 64 := by omega
      have c0 : wr.cell? ⟨b2, o2 + k * 2, none⟩ = some (.int .i64 a) := by rw [← HA.out]; exact hc0
      have c1' : wr.cell? ⟨b2, o2 + k * 2 + 1, none⟩ = some (.string z.2) := hc1
      obtain ⟨s, hs⟩ : ∃ s, s = z.2 := ⟨_, rfl⟩
      rw [← hs] at c1'
      have HSS := hide hs
      have hgr := HROW.out.lt
      obtain ⟨q, hq⟩ : ∃ q, q = m / 2 ^ (k % 60) := ⟨_, rfl⟩
      have hqi : (m : Int) / 2 ^ (k % 60) = (q : Int) := by rw [hq]; simp
      have HQ := hide hq
      obtain ⟨old, hold⟩ : ∃ old, old = cur.getD a ⟨#[]⟩ := ⟨_, rfl⟩
      have HOLD := hide hold
      have hos : Hid (old.size ≤ 200) := hide (by
        rw [hold]
        have hal : a < cur.length := by omega
        rw [List.getD_eq_getElem?_getD, List.getElem?_eq_getElem hal]
        exact HI.out _ (List.getElem_mem hal))
      have hss : Hid (s.size ≤ 200) := hide (by rw [hs]; exact hin.2.2)
      have HUZ : ∀ u, crashF m tear k z old = u → Hid (∀ x ∈ cur.set a u, x.size ≤ 200) := fun u e => hide (fun x hx => by
        rcases List.mem_or_eq_of_mem_set hx with h | h
        · exact HI.out x h
        · rw [h, ← e]; exact crash_size m tear k z old hos.out (by rw [← hs]; exact hss.out))
      have HST : ∀ u, crashF m tear k z old = u → Hid (settleT (crashF m tear) (k + 1) (z2.drop (k + 1)) (cur.set a u) = R) := fun u e => hide (settle_step HZ.out HA.out HS.out (by rw [← HOLD.out]; exact e))
      have HUZ := hide HUZ
      have HST := hide HST
      have hv7 : ¬ wr.heap.size = g1 := by omega
      have WV7 := hide (Bk.fresh wr 74 #[.int .i64 a, .string s])
      have WVR := hide (HROW.out.alloc (.cells #[.int .i64 a, .string s] 74))
      have WVF := hide (HF.out.alloc (.cells #[.int .i64 a, .string s] 74))
      have WVK := hide (KK.out.alloc (.cells #[.int .i64 a, .string s] 74))
      clear hz hb hc0 hc1 hw hin ha hs hq hold hgr
      go_upto_region 5 with fail
      clear c0 c1' t0 t1 t2
      obtain ⟨wv, hwv⟩ : ∃ W : World, W = wr.alloc (.cells #[.int .i64 a, .string s] 74) := ⟨_, rfl⟩
      rw [← hwv] at WV7 WVR WVF WVK
      rw [← hwv]
      clear hwv
      obtain ⟨x7, hx7⟩ : ∃ x : Nat, x = wr.heap.size := ⟨_, rfl⟩
      rw [← hx7] at WV7 hv7
      rw [← hx7]
      clear hx7
      obtain ⟨t0, t1, t2⟩ := WVK.out.c3
      obtain ⟨v0, v1⟩ := WV7.out.c2
      obtain ⟨hca, hfa⟩ := WVR.out.at_ (a := a) (by omega)
      rw [← HOLD.out] at hca
      by_cases hbit : q % 2 = 1
      · have hb1 : (q : Int) % 2 = 1 := by omega
        have HU := hide (show crashF m tear k z old = s by unfold crashF; rw [← HQ.out, if_pos hbit, HSS.out])
        have ROW1 := hide (WVR.out.put (a := a) s)
        have F1 := hide (WVF.out.setCell (p := ⟨g1, a, none⟩) (.inl rfl) (.string s))
        clear hbit
        go_wp2_with fail
        go_roundw
        case rel => exact ⟨k + 1, _, by omega, by rw [List.length_set]; exact hcl, HUZ.out _ HU.out, ROW1, HST.out _ HU.out, F1, int_eq (by omega)⟩
        case measure => simp [intOf]; omega
      · have hb1 : (q : Int) % 2 = 0 := by omega
        have HBIT := hide hbit
        clear hbit
        by_cases ht : (k : Int) = tear
        · have ht2 : ((k : Int) == tear) = true := by rw [beq_iff_eq]; exact ht
          obtain ⟨T, hT⟩ : ∃ T, T = tornT old s := ⟨_, rfl⟩
          have HT := hide hT
          have HU := hide (show crashF m tear k z old = T by unfold crashF; rw [← HQ.out, if_neg HBIT.out, if_pos ht, hT, HSS.out])
          clear ht hT hfa
          go_upto_region 8 with fail
          have hcd : wv.drew.cell? ⟨g1, a, none⟩ = some (.string old) := hca
          clear hca t0 t1 t2 v0 v1
          refine wp_region_held_drew (S := fun x => Fr (· = g1) wv.drew x) (by kernel_rfl) (Fr.refl _ _) (fun hH => ?_)
          refine wpAnyH_take (i := 0) (v := ?_) rfl (by kernel_rfl) (by kernel_rfl) (by kernel_rfl) (fun _ _ _ h => h) (Or.inl ⟨by rfl, fun wS hS => ?_⟩) hH ?_
          rotate_left
          · obtain ⟨t0, t1, t2⟩ := ((show Bk wv.drew w.heap.size _ _ from WVK.out).fr hS k1n).c3; obtain ⟨v0, v1⟩ := ((show Bk wv.drew x7 _ _ from WV7.out).fr hS hv7).c2; go_simp; try exact rfl
          simp only [Act.put, List.setIfInBounds_toArray, List.set_cons_zero, List.set_cons_succ, List.getElem_toArray, List.getElem_cons_zero]
          refine wpAnyH_take (i := 1) (v := ?_) rfl (by kernel_rfl) (by kernel_rfl) (by kernel_rfl) (fun _ _ _ h => h) (Or.inl ⟨by rfl, fun wS hS => ?_⟩) hH ?_
          rotate_left
          · obtain ⟨t0, t1, t2⟩ := ((show Bk wv.drew w.heap.size _ _ from WVK.out).fr hS k1n).c3; obtain ⟨v0, v1⟩ := ((show Bk wv.drew x7 _ _ from WV7.out).fr hS hv7).c2; go_simp; try exact rfl
          simp only [Act.put, List.setIfInBounds_toArray, List.set_cons_zero, List.set_cons_succ, List.getElem_toArray, List.getElem_cons_zero, List.getElem_cons_succ]
          refine wpAnyH_take (i := 2) (v := ?_) rfl (by kernel_rfl) (by kernel_rfl) (by kernel_rfl) (fun _ _ _ h => h) (Or.inl ⟨by rfl, fun wS hS => ?_⟩) hH ?_
          rotate_left
          · obtain ⟨t0, t1, t2⟩ := ((show Bk wv.drew w.heap.size _ _ from WVK.out).fr hS k1n).c3; obtain ⟨v0, v1⟩ := ((show Bk wv.drew x7 _ _ from WV7.out).fr hS hv7).c2; go_simp; try exact rfl
          simp only [Act.put, List.setIfInBounds_toArray, List.set_cons_zero, List.set_cons_succ, List.getElem_toArray, List.getElem_cons_zero, List.getElem_cons_succ]
          refine wpAnyH_take (i := 3) (v := ?_) rfl (by kernel_rfl) (by kernel_rfl) (by kernel_rfl) (fun _ _ _ h => h) (Or.inl ⟨by rfl, fun wS hS => ?_⟩) hH ?_
          rotate_left
          · obtain ⟨t0, t1, t2⟩ := ((show Bk wv.drew w.heap.size _ _ from WVK.out).fr hS k1n).c3; obtain ⟨v0, v1⟩ := ((show Bk wv.drew x7 _ _ from WV7.out).fr hS hv7).c2; go_simp; try exact rfl
          simp only [Act.put, List.setIfInBounds_toArray, List.set_cons_zero, List.set_cons_succ, List.getElem_toArray, List.getElem_cons_zero, List.getElem_cons_succ]
          refine wpAnyH_take (i := 4) (v := ?_) rfl (by kernel_rfl) (by kernel_rfl) (by kernel_rfl) (fun _ _ _ h => h) (Or.inl ⟨by rfl, fun wS hS => ?_⟩) hH ?_
          rotate_left
          · obtain ⟨t0, t1, t2⟩ := ((show Bk wv.drew w.heap.size _ _ from WVK.out).fr hS k1n).c3; obtain ⟨v0, v1⟩ := ((show Bk wv.drew x7 _ _ from WV7.out).fr hS hv7).c2; go_simp; try exact rfl
          simp only [Act.put, List.setIfInBounds_toArray, List.set_cons_zero, List.set_cons_succ, List.getElem_toArray, List.getElem_cons_zero, List.getElem_cons_succ]
          refine wpAnyH_take (i := 5) (v := ?_) rfl (by kernel_rfl) (by kernel_rfl) (by kernel_rfl) (fun _ _ _ h => h) (Or.inl ⟨by rfl, fun wS hS => ?_⟩) hH ?_
          rotate_left
          · obtain ⟨t0, t1, t2⟩ := ((show Bk wv.drew w.heap.size _ _ from WVK.out).fr hS k1n).c3; obtain ⟨v0, v1⟩ := ((show Bk wv.drew x7 _ _ from WV7.out).fr hS hv7).c2; go_simp; try exact rfl
          simp only [Act.put, List.setIfInBounds_toArray, List.set_cons_zero, List.set_cons_succ, List.getElem_toArray, List.getElem_cons_zero, List.getElem_cons_succ]
          refine wpAnyH_take (i := 6) (v := ?_) rfl (by kernel_rfl) (by kernel_rfl) (by kernel_rfl) (fun _ _ _ h => h) (Or.inl ⟨by rfl, fun wS hS => ?_⟩) hH ?_
          rotate_left
          · obtain ⟨t0, t1, t2⟩ := ((show Bk wv.drew w.heap.size _ _ from WVK.out).fr hS k1n).c3; obtain ⟨v0, v1⟩ := ((show Bk wv.drew x7 _ _ from WV7.out).fr hS hv7).c2; go_simp; try exact rfl
          simp only [Act.put, List.setIfInBounds_toArray, List.set_cons_zero, List.set_cons_succ, List.getElem_toArray, List.getElem_cons_zero, List.getElem_cons_succ]
          refine wpAnyH_take (i := 7) (v := ?_) rfl (by kernel_rfl) (by kernel_rfl) (by kernel_rfl) (fun _ _ _ h => h) (Or.inl ⟨by rfl, fun wS hS => ?_⟩) hH ?_
          rotate_left
          · obtain ⟨t0, t1, t2⟩ := ((show Bk wv.drew w.heap.size _ _ from WVK.out).fr hS k1n).c3; obtain ⟨v0, v1⟩ := ((show Bk wv.drew x7 _ _ from WV7.out).fr hS hv7).c2; go_simp; try exact rfl
          simp only [Act.put, List.setIfInBounds_toArray, List.set_cons_zero, List.set_cons_succ, List.getElem_toArray, List.getElem_cons_zero, List.getElem_cons_succ]
          refine wpAnyH_take (i := 8) (v := ?_) rfl (by kernel_rfl) (by kernel_rfl) (by kernel_rfl) (fun _ _ _ h => h) (Or.inl ⟨by rfl, fun wS hS => ?_⟩) hH ?_
          rotate_left
          · obtain ⟨t0, t1, t2⟩ := ((show Bk wv.drew w.heap.size _ _ from WVK.out).fr hS k1n).c3; obtain ⟨v0, v1⟩ := ((show Bk wv.drew x7 _ _ from WV7.out).fr hS hv7).c2; go_simp; try exact rfl
          simp only [Act.put, List.setIfInBounds_toArray, List.set_cons_zero, List.set_cons_succ, List.getElem_toArray, List.getElem_cons_zero, List.getElem_cons_succ]
          refine wpAnyH_take (i := 10) (v := ?_) rfl (by kernel_rfl) (by kernel_rfl) (by kernel_rfl) (fun _ _ _ h => h) (Or.inl ⟨by rfl, fun wS hS => ?_⟩) hH ?_
          rotate_left
          · obtain ⟨t0, t1, t2⟩ := ((show Bk wv.drew w.heap.size _ _ from WVK.out).fr hS k1n).c3; obtain ⟨v0, v1⟩ := ((show Bk wv.drew x7 _ _ from WV7.out).fr hS hv7).c2; go_simp; try exact rfl
          simp only [Act.put, List.setIfInBounds_toArray, List.set_cons_zero, List.set_cons_succ, List.getElem_toArray, List.getElem_cons_zero, List.getElem_cons_succ]
          refine wpAnyH_take (i := 11) (v := ?_) rfl (by kernel_rfl) (by kernel_rfl) (by kernel_rfl) (fun _ _ _ h => h) (Or.inl ⟨by rfl, fun wS hS => ?_⟩) hH ?_
          rotate_left
          · obtain ⟨t0, t1, t2⟩ := ((show Bk wv.drew w.heap.size _ _ from WVK.out).fr hS k1n).c3; obtain ⟨v0, v1⟩ := ((show Bk wv.drew x7 _ _ from WV7.out).fr hS hv7).c2; go_simp; try exact rfl
          simp only [Act.put, List.setIfInBounds_toArray, List.set_cons_zero, List.set_cons_succ, List.getElem_toArray, List.getElem_cons_zero, List.getElem_cons_succ]
          refine wpAnyH_ready (rs := [9]) (by kernel_rfl) (by simp) (AllReadyH.cons rfl (fun K hK => ?_) AllReadyH.nil)
          go_simp
          refine hK.out _ _ (hH) (fun hH1 => ?_)
          clear hK K
          try simp only [Act.put, List.setIfInBounds_toArray, List.set_cons_zero, List.set_cons_succ]
          refine wpAnyH_ready (rs := [12]) (by kernel_rfl) (by simp) (AllReadyH.cons rfl (fun K hK => ?_) AllReadyH.nil)
          go_simp
          go_at_call 72
          refine (l3Torn_any old s hss.out hos.out _).mono ?_; rintro r w5 ⟨rfl, hb5⟩
          rw [← HT.out]
          have HB5 := hide hb5
          obtain ⟨hcb, hfb⟩ := ((show Row wv.drew g1 9 (cur.map Value.string) from WVR.out).after hb5).at_ (a := a) (by omega)
          clear hb5
          refine hK.out _ _ (hH1.trans (Fr.of_below _ HB5.out)) (fun hH5 => ?_)
          clear hK K
          try simp only [Act.put, List.setIfInBounds_toArray, List.set_cons_zero, List.set_cons_succ]
          refine wpAnyH_take (i := 13) (v := ?_) rfl (by kernel_rfl) (by kernel_rfl) (by kernel_rfl) (fun _ _ _ h => h) (Or.inl ⟨by rfl, fun wS hS => ?_⟩) hH5 ?_
          rotate_left
          · obtain ⟨t0, t1, t2⟩ := ((show Bk wv.drew w.heap.size _ _ from WVK.out).fr hS k1n).c3; obtain ⟨v0, v1⟩ := ((show Bk wv.drew x7 _ _ from WV7.out).fr hS hv7).c2; go_simp; try exact rfl
          simp only [Act.put, List.setIfInBounds_toArray, List.set_cons_zero, List.set_cons_succ, List.getElem_toArray, List.getElem_cons_zero, List.getElem_cons_succ]
          refine wpAnyH_ready (rs := [14]) (by kernel_rfl) (by simp) (AllReadyH.cons rfl (fun K hK => ?_) AllReadyH.nil)
          go_simp
          refine hK.out _ _ (hH5.setCell (p := ⟨g1, a, none⟩) (.inl rfl) _) (fun hH6 => ?_)
          clear hK K
          try simp only [Act.put, List.setIfInBounds_toArray, List.set_cons_zero, List.set_cons_succ]
          refine wpAnyH_done (by kernel_rfl) ?_ _
          have ROW1 := hide (((show Row wv.drew g1 9 (cur.map Value.string) from WVR.out).after HB5.out).put (a := a) T)
          have F1 := hide ((WVF.out.drew.trans (Fr.of_below _ HB5.out)).setCell (p := ⟨g1, a, none⟩) (.inl rfl) (.string T))
          clear hcb hfb
          go_wp2_with fail
          go_roundw
          case rel => exact ⟨k + 1, _, by omega, by rw [List.length_set]; exact hcl, HUZ.out _ HU.out, ROW1, HST.out _ HU.out, F1, int_eq (by omega)⟩
          case measure => simp [intOf]; omega
        · have ht2 : ((k : Int) == tear) = false := by rw [beq_eq_false_iff_ne]; exact ht
          have HU := hide (show crashF m tear k z old = old by unfold crashF; rw [← HQ.out, if_neg HBIT.out, if_neg ht])
          have hset : cur.set a old = cur := by
            rw [HOLD.out]
            have hal : a < cur.length := by omega
            rw [List.getD_eq_getElem?_getD, List.getElem?_eq_getElem hal]
            exact List.set_getElem_self hal
          have HST1 := HST.out _ HU.out
          rw [hset] at HST1
          clear hset
          go_wp2_with fail
          go_roundw
          case rel => exact ⟨k + 1, _, by omega, hcl, HI, WVR, HST1, WVF, int_eq (by omega)⟩
          case measure => simp [intOf]; omega
    · have hcr := hide (settle_end (by have := HZL.out; omega) HS.out)
      have kn : ¬ (k : Int) < (n2 : Int) := by omega
      have k2n : ¬ w.heap.size + 1 = g1 := by omega
      have KA := hide (KK.out.alloc (.cells #[] 74))
      have KB := hide ((K2.out.fr HF.out k2n).alloc (.cells #[] 74))
      have RA := hide (HROW.out.alloc (.cells #[] 74))
      have FA := hide (HF.out.alloc (.cells #[] 74))
      obtain ⟨s0, s1, s2⟩ := KA.out.c3
      have f1 := KA.out.frozen 1
      go_upto_region 10 with fail
      clear s0 s1 s2 f1 t0 t1 t2
      obtain ⟨X, hX⟩ : ∃ X : World, X = (wr.alloc (.cells #[] 74)).setCell ⟨w.heap.size, 1, none⟩ (.slice (some ⟨wr.heap.size, 0, none⟩) 0 0) := ⟨_, rfl⟩
      have KA2 : Bk X w.heap.size 49 #[.slice (some ⟨g1, 0, none⟩) 64 c1, .slice (some ⟨wr.heap.size, 0, none⟩) 0 0, .bool g] := by rw [hX]; exact KA.out.put 1 _
      have KB2 : Bk X (w.heap.size + 1) 49 #[.slice none 0 0, .slice none 0 0, .bool false] := by rw [hX]; exact KB.out.far (p := ⟨w.heap.size, 1, none⟩) (show w.heap.size + 1 ≠ w.heap.size by omega) _
      have RA2 : Row X g1 9 (cur.map Value.string) := by rw [hX]; exact RA.out.fr ((Fr.refl (fun b => b = w.heap.size) _).setCell (p := ⟨w.heap.size, 1, none⟩) (.inl rfl) _) (by omega)
      have FA2 : Fr (· = g1) w X := by rw [hX]; exact (((Fr.of_below _ HB.out).trans FA.out)).setCell (p := ⟨w.heap.size, 1, none⟩) (.inr (Nat.le_refl _)) _
      rw [← hX]
      obtain ⟨B, hBB⟩ : ∃ B : Option Addr, B = some ⟨wr.heap.size, 0, none⟩ := ⟨_, rfl⟩
      rw [← hBB] at KA2
      rw [← hBB]
      clear hX hBB KA KB RA FA
      obtain ⟨s0, s1, s2⟩ := KA2.c3
      obtain ⟨q0, q1, q2⟩ := KB2.c3
      have f0 := KB2.frozen 0
      have f1 := KB2.frozen 1
      have f2 := KB2.frozen 2
      have P3 := hide (put3 KB2 (.slice (some ⟨g1, 0, none⟩) 64 c1) (.slice B 0 0) (.bool g))
      have PR := hide (RA2.fr (fr3 (Fr.refl (fun b => b = w.heap.size + 1) X) (.inl rfl) (.slice (some ⟨g1, 0, none⟩) 64 c1) (.slice B 0 0) (.bool g)) (by omega))
      have PF := hide (fr3 FA2 (.inr (Nat.le_succ _)) (.slice (some ⟨g1, 0, none⟩) 64 c1) (.slice B 0 0) (.bool g) (g := w.heap.size + 1))
      clear KA2 KB2 RA2 FA2
      go_wp2_with fail
      clear s0 s1 s2 q0 q1 q2 f0 f1 f2
      obtain ⟨Y, hY⟩ : ∃ Y : World, Y = ((X.setCell ⟨w.heap.size + 1, 0, none⟩ (.slice (some ⟨g1, 0, none⟩) 64 c1)).setCell ⟨w.heap.size + 1, 1, none⟩ (.slice B 0 0)).setCell ⟨w.heap.size + 1, 2, none⟩ (.bool g) := ⟨_, rfl⟩
      rw [← hY] at P3 PR PF
      rw [← hY]
      clear hY
      obtain ⟨r0, r1, r2⟩ := P3.out.c3
      refine bodyPost_ret (v := .agg #[.slice (some ⟨g1, 0, none⟩) 64 c1, .slice B 0 0, .bool g]) (by simp [results, Try.results48, go_sem, r0, r1, r2]) rfl ?_
      exact ⟨B, rfl, by rw [← hcr.out]; exact PR.out, PF.out⟩
end Go.Proofs.Ytcaoekaephnimaa
