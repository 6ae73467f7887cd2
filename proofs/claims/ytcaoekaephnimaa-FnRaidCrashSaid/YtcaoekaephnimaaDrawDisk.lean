/- l91Disk draws a disk. -/
import Derived.Test.YtcaoekaephnimaaDrawDiskA
namespace Go.Proofs.Ytcaoekaephnimaa
open Go.RowKit
set_option linter.unusedVariables false
set_option maxRecDepth 100000

set_option maxRecDepth 100000 in
set_option maxHeartbeats 8000000 in
theorem l91Disk_any (R p : Nat) (w : World) (hr : Rdr w R p) (hp : p ≤ 100000) :
    Calls Try.prog 79 #[.pointer (some ⟨R, 0, none⟩)] w (DiskPost R p 600 w) := by
  have hRlt := hr.lt
  have HR := hide (hr.after (bel1 w (.cells #[.slice none 0 0, .slice none 0 0, .bool false] 49)))
  have K0 := hide (Bk.fresh w 49 #[.slice none 0 0, .slice none 0 0, .bool false])
  have HF := hide ((Fr.refl (· = R) w).alloc (.cells #[.slice none 0 0, .slice none 0 0, .bool false] 49))
  clear hr
  go_enter Try.func79, Try.ntmps79
  go_wp2_with fail
  refine (pick_any R p 12 _ HR.out (by omega) (by omega) (by omega)).mono ?_; rintro r w1 ⟨v, rfl, v0, v1, _, hr1, hf1⟩
  have K0 := hide (K0.out.fr hf1 (by omega))
  have HR := hide hr1
  have HF := hide (HF.out.trans hf1)
  clear hr1 hf1 v1
  obtain ⟨g2, hg2⟩ : ∃ g2, g2 = w.heap.size := ⟨_, rfl⟩
  rw [← hg2] at K0
  have HG2 := hide hg2
  by_cases e0 : v = 0
  · subst e0
    rw [← hg2]
    clear hg2
    go_wp2_with fail
    refine (specDiskLoseS _).mono ?_; rintro r w2 ⟨g1, e, rfl, hg, hge, hB, hE, hb⟩
    have hlt := K0.out.lt
    have HSZ := HF.out.size
    have h02 := HG2.out
    have hn1 : g1 ≠ g2 := by omega
    have hn2 : e ≠ g2 := by omega
    have hb1 : w.heap.size ≤ g1 := by omega
    have hb2 : w.heap.size ≤ e := by omega
    have HBD := hide (show w.heap.size ≤ g1 ∧ w.heap.size ≤ e from ⟨hb1, hb2⟩)
    have K0 := hide (K0.out.after hb)
    have HF := hide (HF.out.trans (Fr.of_below _ hb))
    have HR := hide (HR.out.after hb)
    have KB := hide hB
    have KE := hide hE
    clear hB hE hb hg hge hlt HSZ h02 hb1 hb2
    obtain ⟨q0, q1, q2⟩ := K0.out.c3
    have f0 := K0.out.frozen 0
    have f1 := K0.out.frozen 1
    have f2 := K0.out.frozen 2
    have P3 := hide (put3 K0.out (.slice (some ⟨g1, 0, none⟩) 64 64) (.slice (some ⟨e, 0, none⟩) 0 0) (.bool true))
    have PF := hide (fr3 HF.out (.inr (Nat.le_of_eq HG2.out.symm)) (.slice (some ⟨g1, 0, none⟩) 64 64) (.slice (some ⟨e, 0, none⟩) 0 0) (.bool true))
    have PR := hide (HR.out.fr (fr3 (Fr.refl (fun b => b = g2) w2) (.inl rfl) (.slice (some ⟨g1, 0, none⟩) 64 64) (.slice (some ⟨e, 0, none⟩) 0 0) (.bool true)) (fun b hb => by have := HG2.out; omega))
    have P1 := hide (KB.out.fr (fr3 (Fr.refl (fun b => b = g2) w2) (.inl rfl) (.slice (some ⟨g1, 0, none⟩) 64 64) (.slice (some ⟨e, 0, none⟩) 0 0) (.bool true)) hn1)
    have P2 := hide (KE.out.fr (fr3 (Fr.refl (fun b => b = g2) w2) (.inl rfl) (.slice (some ⟨g1, 0, none⟩) 64 64) (.slice (some ⟨e, 0, none⟩) 0 0) (.bool true)) hn2)
    go_wp2_with fail
    clear q0 q1 q2 f0 f1 f2
    obtain ⟨X, hX⟩ : ∃ X : World, X = ((w2.setCell ⟨g2, 0, none⟩ (.slice (some ⟨g1, 0, none⟩) 64 64)).setCell ⟨g2, 1, none⟩ (.slice (some ⟨e, 0, none⟩) 0 0)).setCell ⟨g2, 2, none⟩ (.bool true) := ⟨_, rfl⟩
    rw [← hX] at P3 PF PR P1 P2
    rw [← hX]
    clear hX
    obtain ⟨r0, r1, r2⟩ := P3.out.c3
    refine bodyPost_ret (v := .agg #[.slice (some ⟨g1, 0, none⟩) 64 64, .slice (some ⟨e, 0, none⟩) 0 0, .bool true]) (by simp [results, Try.results79, go_sem, r0, r1, r2]) rfl ?_
    exact ⟨g1, 0, 64, 64, e, 0, 0, true, _, [], p + 1, rfl, by omega, by omega, HBD.out.1, HBD.out.2, P1.out.lt, P2.out.lt, es64_rd P1.out, P2.out.rd rfl (fun j u hu => by cases hu), by omega, PR.out, PF.out⟩
  · have z0 : (v == 0) = false := by rw [beq_eq_false_iff_ne]; exact e0
    rw [← hg2]
    clear hg2
    go_wp2_with fail
    refine (specDiskNewS _).mono ?_; rintro r w2 ⟨b1, e, rfl, hg, hge, hB, hE, hb⟩
    have HD : Hid (DkP w R g2 w2.heap.size b1 (.slice (some ⟨e, 0, none⟩) 0 0) (.slice (some ⟨e, 0, none⟩) 0 0) (p + 1) 0 (w2.alloc (.cells #[.slice (some ⟨b1, 0, none⟩) 64 64, .slice (some ⟨e, 0, none⟩) 0 0, .bool false] 49))) := by
      have hlt := K0.out.lt
      have HSZ := HF.out.size
      have h02 := HG2.out
      exact hide (DkP.mk_ (Bk.fresh _ _ _) ((K0.out.after hb).alloc _) (hB.alloc _) (hE.alloc _) ((HR.out.after hb).after (bel1 _ _)) ((HF.out.trans (Fr.of_below _ hb)).alloc _) hRlt (Nat.le_of_eq h02.symm) (Nat.lt_of_lt_of_le hlt hb.size) (Nat.le_trans HSZ hg) (Nat.le_trans HSZ hge))
    clear hB hE hb hg hge K0 HR HF
    obtain ⟨q, hq, hr⟩ := HD.out.rd
    have HR := hide hr
    clear hr
    go_wp2_with fail
    refine (pick_any R q 8 _ HR.out (by omega) (by omega) (by omega)).mono ?_; rintro r x0 ⟨k, rfl, ka, kb, _, hr, hf⟩
    have kc := kb (by omega)
    obtain ⟨k, rfl⟩ : ∃ j : Nat, k = (j : Int) := ⟨k.toNat, by omega⟩
    have HD := hide (HD.out.call hf hr)
    obtain ⟨g3, hg3⟩ : ∃ g3, g3 = w2.heap.size := ⟨_, rfl⟩
    rw [← hg3] at HD
    rw [← hg3]
    clear hr hf kb hg3 HR
    go_wp2_with fail
    go_loopw [4] (fun c wr => ∃ k : Nat, k ≤ 7 ∧ c = .int .i64 k ∧ Hid (DkI w R g2 g3 (p + 200 - 21 * k) 0 wr)) (fun c _ => (intOf c).toNat)
    case atStart => exact ⟨k, by omega, rfl, hide ⟨_, _, HD.out.more (by omega) (Nat.le_refl _)⟩⟩
    case round =>
      clear HD
      obtain ⟨k, hk, rfl, HI⟩ := hrel
      obtain ⟨b1, V, hD⟩ := HI.out
      by_cases hlt : 0 < k
      · have HD := hide hD.drew
        have hlt' : (0 : Int) < (k : Int) := by omega
        obtain ⟨q, hq, hr⟩ := HD.out.rd
        have HR := hide hr
        have KW := hide HD.out.k3
        have hn3 : ¬ (g3 = R ∨ g3 = b1) := by
          obtain ⟨z1, ⟨cs, hcs, _⟩, _⟩ := hD.row
          have h1 := hD.hR
          have h2 := hD.h2
          have h3 := hD.h3
          have h4 := hD.k3.ne_type hcs (by decide)
          omega
        clear hD HI hr
        go_upto_region 7 with fail
        refine wp_region_held_drew (S := fun x => Fr (fun i => i = R ∨ i = b1) wr.drew x) (by kernel_rfl) (Fr.refl _ _) (fun hH0 => ?_)
        refine wpAnyH_take (i := 0) (v := ?_) rfl (by kernel_rfl) (by kernel_rfl) (by kernel_rfl) (fun _ _ _ h => h) (Or.inl ⟨by rfl, fun wS hS => ?_⟩) hH0 ?_
        rotate_left
        · obtain ⟨t0, t1, t2⟩ := (KW.out.fr hS hn3).c3; go_simp; try exact rfl
        simp only [Act.put, List.setIfInBounds_toArray, List.set_cons_zero, List.set_cons_succ, List.getElem_toArray, List.getElem_cons_zero]
        refine wpAnyH_take (i := 1) (v := ?_) rfl (by kernel_rfl) (by kernel_rfl) (by kernel_rfl) (fun _ _ _ h => h) (Or.inl ⟨by rfl, fun wS hS => ?_⟩) hH0 ?_
        rotate_left
        · obtain ⟨t0, t1, t2⟩ := (KW.out.fr hS hn3).c3; go_simp; try exact rfl
        simp only [Act.put, List.setIfInBounds_toArray, List.set_cons_zero, List.set_cons_succ, List.getElem_toArray, List.getElem_cons_zero, List.getElem_cons_succ]
        refine wpAnyH_take (i := 2) (v := ?_) rfl (by kernel_rfl) (by kernel_rfl) (by kernel_rfl) (fun _ _ _ h => h) (Or.inl ⟨by rfl, fun wS hS => ?_⟩) hH0 ?_
        rotate_left
        · obtain ⟨t0, t1, t2⟩ := (KW.out.fr hS hn3).c3; go_simp; try exact rfl
        simp only [Act.put, List.setIfInBounds_toArray, List.set_cons_zero, List.set_cons_succ, List.getElem_toArray, List.getElem_cons_zero, List.getElem_cons_succ]
        refine wpAnyH_take (i := 4) (v := ?_) rfl (by kernel_rfl) (by kernel_rfl) (by kernel_rfl) (fun _ _ _ h => h) (Or.inl ⟨by rfl, fun wS hS => ?_⟩) hH0 ?_
        rotate_left
        · obtain ⟨t0, t1, t2⟩ := (KW.out.fr hS hn3).c3; go_simp; try exact rfl
        simp only [Act.put, List.setIfInBounds_toArray, List.set_cons_zero, List.set_cons_succ, List.getElem_toArray, List.getElem_cons_zero, List.getElem_cons_succ]
        refine wpAnyH_ready (rs := [3]) (by kernel_rfl) (by simp) (AllReadyH.cons rfl (fun K hK => ?_) (AllReadyH.nil))
        go_simp
        go_at_call 73
        refine (pick_any R (q) 64 _ HR.out (by omega) (by omega) (by omega)).mono ?_; rintro r x1 ⟨a, rfl, a0, a1, _, hr, hf⟩
        have a2 := a1 (by omega)
        obtain ⟨a, rfl⟩ : ∃ k : Nat, a = (k : Int) := ⟨a.toNat, by omega⟩
        clear a1
        have HD := hide (HD.out.call hf hr)
        have HR := hide hr
        have HF := hide hf
        clear hr hf
        refine hK.out _ _ (hH0.trans (HF.out.mono (fun _ _ e => .inl e))) (fun hH1 => ?_)
        clear hK K
        try simp only [Act.put]
        refine wpAnyH_ready (rs := [5]) (by kernel_rfl) (by simp) (AllReadyH.cons rfl (fun K hK => ?_) (AllReadyH.nil))
        go_simp
        go_at_call 74
        refine (l91Text_any R (q + 1) 9 _ HR.out (by omega) (by decide)).mono ?_; rintro r x2 ⟨out, q2, rfl, hlo, hq2, hr, hf⟩
        obtain ⟨T, hT⟩ : ∃ T : ByteArray, T = ⟨out.toArray⟩ := ⟨_, rfl⟩
        rw [← hT]
        clear hT
        have HD := hide (HD.out.call hf hr)
        have HR := hide hr
        have HF := hide hf
        clear hr hf
        refine hK.out _ _ (hH1.trans (HF.out.mono (fun _ _ e => .inl e))) (fun hH2 => ?_)
        clear hK K
        try simp only [Act.put]
        refine wpAnyH_take (i := 6) (v := ?_) rfl (by kernel_rfl) (by kernel_rfl) (by kernel_rfl) (fun _ _ _ h => h) (Or.inl ⟨by rfl, fun wS hS => ?_⟩) hH2 ?_
        rotate_left
        · obtain ⟨t0, t1, t2⟩ := (KW.out.fr hS hn3).c3; go_simp; try exact rfl
        simp only [Act.put, List.setIfInBounds_toArray, List.set_cons_zero, List.set_cons_succ, List.getElem_toArray, List.getElem_cons_zero, List.getElem_cons_succ]
        refine wpAnyH_ready (rs := [7]) (by kernel_rfl) (by simp) (AllReadyH.cons rfl (fun K hK => ?_) (AllReadyH.nil))
        obtain ⟨z1, hrow, hzl⟩ := HD.out.row
        obtain ⟨hca, hfa⟩ := hrow.at_ (a := a) (by omega)
        go_simp
        refine hK.out _ _ (hH2.setCell (p := ⟨b1, a, none⟩) (.inl (.inr rfl)) _) (fun hH3 => ?_)
        clear hK K
        try simp only [Act.put]
        have HD := hide (HD.out.put a T)
        clear hca hfa hrow hzl
        refine wpAnyH_done (by kernel_rfl) ?_ _
        go_wp2_with fail
        go_roundw
        case rel => exact ⟨k - 1, by omega, int_eq (by omega), hide ⟨_, _, HD.out.more (by omega) (by omega)⟩⟩
        case measure => simp [intOf]; omega
      · obtain rfl : k = 0 := by omega
        have HD := hide hD
        obtain ⟨q, hq, hr⟩ := HD.out.rd
        have HR := hide hr
        clear hD HI hr hlt
        go_wp2_with fail
        refine (pick_any R q 7 _ HR.out (by omega) (by omega) (by omega)).mono ?_; rintro r x0 ⟨k, rfl, ka, kb, _, hr, hf⟩
        have kc := kb (by omega)
        obtain ⟨k, rfl⟩ : ∃ j : Nat, k = (j : Int) := ⟨k.toNat, by omega⟩
        have HD := hide (HD.out.call hf hr)
        clear hr hf kb HR
        go_wp2_with fail
        go_loopw [5] (fun c wr => ∃ k : Nat, k ≤ 6 ∧ c = .int .i64 k ∧ Hid (DkI w R g2 g3 (p + 400 - 21 * k) (6 - k) wr)) (fun c _ => (intOf c).toNat)
        case atStart => exact ⟨k, by omega, rfl, hide ⟨_, _, HD.out.more (by omega) (Nat.zero_le _)⟩⟩
        case round =>
          clear HD
          obtain ⟨k, hk, rfl, HI⟩ := hrel
          obtain ⟨b1, V, hD⟩ := HI.out
          by_cases hlt : 0 < k
          · have HD := hide hD.drew
            have hlt' : (0 : Int) < (k : Int) := by omega
            obtain ⟨q, hq, hr⟩ := HD.out.rd
            have HR := hide hr
            clear hD HI hr
            go_upto_region 11 with fail
            refine wp_region_held_drew (S := fun _ => True) (by kernel_rfl) (trivial) (fun hH0 => ?_)
            refine wpAnyH_take (i := 0) (v := ?_) rfl (by kernel_rfl) (by kernel_rfl) (by kernel_rfl) (fun _ _ _ h => h) (Or.inl ⟨by rfl, fun wS hS => ?_⟩) hH0 ?_
            rotate_left
            · go_simp; try exact rfl
            simp only [Act.put, List.setIfInBounds_toArray, List.set_cons_zero, List.set_cons_succ, List.getElem_toArray, List.getElem_cons_zero]
            refine wpAnyH_take (i := 2) (v := ?_) rfl (by kernel_rfl) (by kernel_rfl) (by kernel_rfl) (fun _ _ _ h => h) (Or.inl ⟨by rfl, fun wS hS => ?_⟩) hH0 ?_
            rotate_left
            · go_simp; try exact rfl
            simp only [Act.put, List.setIfInBounds_toArray, List.set_cons_zero, List.set_cons_succ, List.getElem_toArray, List.getElem_cons_zero, List.getElem_cons_succ]
            refine wpAnyH_take (i := 4) (v := ?_) rfl (by kernel_rfl) (by kernel_rfl) (by kernel_rfl) (fun _ _ _ h => h) (Or.inl ⟨by rfl, fun wS hS => ?_⟩) hH0 ?_
            rotate_left
            · go_simp; try exact rfl
            simp only [Act.put, List.setIfInBounds_toArray, List.set_cons_zero, List.set_cons_succ, List.getElem_toArray, List.getElem_cons_zero, List.getElem_cons_succ]
            refine wpAnyH_ready (rs := [1, 3]) (by kernel_rfl) (by simp) (AllReadyH.cons rfl (fun K hK => ?_) (AllReadyH.cons rfl (fun K hK => ?_) (AllReadyH.nil)))
            · obtain ⟨t0, t1, t2⟩ := HD.out.k3.c3
              go_simp
              refine hK.out _ _ (trivial) (fun hH1 => ?_)
              clear hK K
              try simp only [Act.put]
              clear t0 t1 t2
              refine wpAnyH_ready (rs := [3]) (by kernel_rfl) (by simp) (AllReadyH.cons rfl (fun K hK => ?_) (AllReadyH.nil))
              go_simp
              go_at_call 73
              refine (pick_any R (q) 14 _ HR.out (by omega) (by omega) (by omega)).mono ?_; rintro r x1 ⟨a, rfl, a0, a1, _, hr, hf⟩
              have a2 := a1 (by omega)
              clear a1
              have HD := hide (HD.out.call hf hr)
              have HR := hide hr
              clear hr hf
              refine hK.out _ _ (trivial) (fun hH2 => ?_)
              clear hK K
              try simp only [Act.put]
              refine wpAnyH_ready (rs := [5]) (by kernel_rfl) (by simp) (AllReadyH.cons rfl (fun K hK => ?_) (AllReadyH.nil))
              go_simp
              go_at_call 74
              refine (l91Text_any R (q + 1) 9 _ HR.out (by omega) (by decide)).mono ?_; rintro r x2 ⟨out, q2, rfl, hlo, hq2, hr, hf⟩
              obtain ⟨T, hT⟩ : ∃ T : ByteArray, T = ⟨out.toArray⟩ := ⟨_, rfl⟩
              rw [← hT]
              clear hT
              have HD := hide (HD.out.call hf hr)
              have HR := hide hr
              clear hr hf
              refine hK.out _ _ (trivial) (fun hH3 => ?_)
              clear hK K
              try simp only [Act.put]
              refine wpAnyH_take (i := 6) (v := ?_) rfl (by kernel_rfl) (by kernel_rfl) (by kernel_rfl) (fun _ _ _ h => h) (Or.inl ⟨by rfl, fun wS hS => ?_⟩) hH3 ?_
              rotate_left
              · go_simp; try exact rfl
              simp only [Act.put, List.setIfInBounds_toArray, List.set_cons_zero, List.set_cons_succ, List.getElem_toArray, List.getElem_cons_zero, List.getElem_cons_succ]
              refine wpAnyH_ready (rs := [7]) (by kernel_rfl) (by simp) (AllReadyH.cons rfl (fun K hK => ?_) (AllReadyH.nil))
              go_simp
              refine hK.out _ _ (trivial) (fun hH4 => ?_)
              clear hK K
              try simp only [Act.put]
              have MK := hide (fresh_w HR.out 74 #[.int .i64 a, .string T])
              have HD := hide (HD.out.alloc (.cells #[.int .i64 a, .string T] 74))
              refine wpAnyH_ready (rs := [8]) (by kernel_rfl) (by simp) (AllReadyH.cons rfl (fun K hK => ?_) (AllReadyH.nil))
              obtain ⟨z2, _, ho, hn⟩ := HD.out.own
              have HO := hide ho
              have HN := hide hn
              clear ho
              rw [if_pos (by kernel_rfl)]
              refine wp_app_wait (base := w.heap.size) _ _ (by rfl) (by rfl) (by rfl) HO.out MK.out (by omega) HD.out.fr.size ?_; intro b2 c2 x3 ho' hf
              have HD := hide (HD.out.app HO.out HN.out rfl ho' hf)
              clear ho' hf hn
              refine hK.out _ _ (trivial) (fun hH5 => ?_)
              clear hK K
              try simp only [Act.put]
              refine wpAnyH_take (i := 9) (v := ?_) rfl (by kernel_rfl) (by kernel_rfl) (by kernel_rfl) (fun _ _ _ h => h) (Or.inl ⟨by rfl, fun wS hS => ?_⟩) hH5 ?_
              rotate_left
              · go_simp; try exact rfl
              simp only [Act.put, List.setIfInBounds_toArray, List.set_cons_zero, List.set_cons_succ, List.getElem_toArray, List.getElem_cons_zero, List.getElem_cons_succ]
              refine wpAnyH_ready (rs := [10]) (by kernel_rfl) (by simp) (AllReadyH.cons rfl (fun K hK => ?_) (AllReadyH.nil))
              obtain ⟨t0, t1, t2⟩ := HD.out.k3.c3
              have f1 := HD.out.k3.frozen 1
              go_simp
              refine hK.out _ _ (trivial) (fun hH6 => ?_)
              clear hK K
              try simp only [Act.put]
              have HD := hide HD.out.store
              clear t0 t1 t2 f1
              refine wpAnyH_done (by kernel_rfl) ?_ _
              go_wp2_with fail
              go_roundw
              case rel => exact ⟨k - 1, by omega, int_eq (by omega), hide ⟨_, _, HD.out.more (by omega) (by omega)⟩⟩
              case measure => simp [intOf]; omega
            · go_simp
              go_at_call 73
              refine (pick_any R (q) 14 _ HR.out (by omega) (by omega) (by omega)).mono ?_; rintro r x1 ⟨a, rfl, a0, a1, _, hr, hf⟩
              have a2 := a1 (by omega)
              clear a1
              have HD := hide (HD.out.call hf hr)
              have HR := hide hr
              clear hr hf
              refine hK.out _ _ (trivial) (fun hH1 => ?_)
              clear hK K
              try simp only [Act.put]
              refine wpAnyH_ready (rs := [1, 5]) (by kernel_rfl) (by simp) (AllReadyH.cons rfl (fun K hK => ?_) (AllReadyH.cons rfl (fun K hK => ?_) (AllReadyH.nil)))
              · obtain ⟨t0, t1, t2⟩ := HD.out.k3.c3
                go_simp
                refine hK.out _ _ (trivial) (fun hH2 => ?_)
                clear hK K
                try simp only [Act.put]
                clear t0 t1 t2
                refine wpAnyH_ready (rs := [5]) (by kernel_rfl) (by simp) (AllReadyH.cons rfl (fun K hK => ?_) (AllReadyH.nil))
                go_simp
                go_at_call 74
                refine (l91Text_any R (q + 1) 9 _ HR.out (by omega) (by decide)).mono ?_; rintro r x2 ⟨out, q2, rfl, hlo, hq2, hr, hf⟩
                obtain ⟨T, hT⟩ : ∃ T : ByteArray, T = ⟨out.toArray⟩ := ⟨_, rfl⟩
                rw [← hT]
                clear hT
                have HD := hide (HD.out.call hf hr)
                have HR := hide hr
                clear hr hf
                refine hK.out _ _ (trivial) (fun hH3 => ?_)
                clear hK K
                try simp only [Act.put]
                refine wpAnyH_take (i := 6) (v := ?_) rfl (by kernel_rfl) (by kernel_rfl) (by kernel_rfl) (fun _ _ _ h => h) (Or.inl ⟨by rfl, fun wS hS => ?_⟩) hH3 ?_
                rotate_left
                · go_simp; try exact rfl
                simp only [Act.put, List.setIfInBounds_toArray, List.set_cons_zero, List.set_cons_succ, List.getElem_toArray, List.getElem_cons_zero, List.getElem_cons_succ]
                refine wpAnyH_ready (rs := [7]) (by kernel_rfl) (by simp) (AllReadyH.cons rfl (fun K hK => ?_) (AllReadyH.nil))
                go_simp
                refine hK.out _ _ (trivial) (fun hH4 => ?_)
                clear hK K
                try simp only [Act.put]
                have MK := hide (fresh_w HR.out 74 #[.int .i64 a, .string T])
                have HD := hide (HD.out.alloc (.cells #[.int .i64 a, .string T] 74))
                refine wpAnyH_ready (rs := [8]) (by kernel_rfl) (by simp) (AllReadyH.cons rfl (fun K hK => ?_) (AllReadyH.nil))
                obtain ⟨z2, _, ho, hn⟩ := HD.out.own
                have HO := hide ho
                have HN := hide hn
                clear ho
                rw [if_pos (by kernel_rfl)]
                refine wp_app_wait (base := w.heap.size) _ _ (by rfl) (by rfl) (by rfl) HO.out MK.out (by omega) HD.out.fr.size ?_; intro b2 c2 x3 ho' hf
                have HD := hide (HD.out.app HO.out HN.out rfl ho' hf)
                clear ho' hf hn
                refine hK.out _ _ (trivial) (fun hH5 => ?_)
                clear hK K
                try simp only [Act.put]
                refine wpAnyH_take (i := 9) (v := ?_) rfl (by kernel_rfl) (by kernel_rfl) (by kernel_rfl) (fun _ _ _ h => h) (Or.inl ⟨by rfl, fun wS hS => ?_⟩) hH5 ?_
                rotate_left
                · go_simp; try exact rfl
                simp only [Act.put, List.setIfInBounds_toArray, List.set_cons_zero, List.set_cons_succ, List.getElem_toArray, List.getElem_cons_zero, List.getElem_cons_succ]
                refine wpAnyH_ready (rs := [10]) (by kernel_rfl) (by simp) (AllReadyH.cons rfl (fun K hK => ?_) (AllReadyH.nil))
                obtain ⟨t0, t1, t2⟩ := HD.out.k3.c3
                have f1 := HD.out.k3.frozen 1
                go_simp
                refine hK.out _ _ (trivial) (fun hH6 => ?_)
                clear hK K
                try simp only [Act.put]
                have HD := hide HD.out.store
                clear t0 t1 t2 f1
                refine wpAnyH_done (by kernel_rfl) ?_ _
                go_wp2_with fail
                go_roundw
                case rel => exact ⟨k - 1, by omega, int_eq (by omega), hide ⟨_, _, HD.out.more (by omega) (by omega)⟩⟩
                case measure => simp [intOf]; omega
              · go_simp
                go_at_call 74
                refine (l91Text_any R (q + 1) 9 _ HR.out (by omega) (by decide)).mono ?_; rintro r x2 ⟨out, q2, rfl, hlo, hq2, hr, hf⟩
                obtain ⟨T, hT⟩ : ∃ T : ByteArray, T = ⟨out.toArray⟩ := ⟨_, rfl⟩
                rw [← hT]
                clear hT
                have HD := hide (HD.out.call hf hr)
                have HR := hide hr
                clear hr hf
                refine hK.out _ _ (trivial) (fun hH2 => ?_)
                clear hK K
                try simp only [Act.put]
                refine wpAnyH_take (i := 6) (v := ?_) rfl (by kernel_rfl) (by kernel_rfl) (by kernel_rfl) (fun _ _ _ h => h) (Or.inl ⟨by rfl, fun wS hS => ?_⟩) hH2 ?_
                rotate_left
                · go_simp; try exact rfl
                simp only [Act.put, List.setIfInBounds_toArray, List.set_cons_zero, List.set_cons_succ, List.getElem_toArray, List.getElem_cons_zero, List.getElem_cons_succ]
                refine wpAnyH_ready (rs := [1, 7]) (by kernel_rfl) (by simp) (AllReadyH.cons rfl (fun K hK => ?_) (AllReadyH.cons rfl (fun K hK => ?_) (AllReadyH.nil)))
                · obtain ⟨t0, t1, t2⟩ := HD.out.k3.c3
                  go_simp
                  refine hK.out _ _ (trivial) (fun hH3 => ?_)
                  clear hK K
                  try simp only [Act.put]
                  clear t0 t1 t2
                  refine wpAnyH_ready (rs := [7]) (by kernel_rfl) (by simp) (AllReadyH.cons rfl (fun K hK => ?_) (AllReadyH.nil))
                  go_simp
                  refine hK.out _ _ (trivial) (fun hH4 => ?_)
                  clear hK K
                  try simp only [Act.put]
                  have MK := hide (fresh_w HR.out 74 #[.int .i64 a, .string T])
                  have HD := hide (HD.out.alloc (.cells #[.int .i64 a, .string T] 74))
                  refine wpAnyH_ready (rs := [8]) (by kernel_rfl) (by simp) (AllReadyH.cons rfl (fun K hK => ?_) (AllReadyH.nil))
                  obtain ⟨z2, _, ho, hn⟩ := HD.out.own
                  have HO := hide ho
                  have HN := hide hn
                  clear ho
                  rw [if_pos (by kernel_rfl)]
                  refine wp_app_wait (base := w.heap.size) _ _ (by rfl) (by rfl) (by rfl) HO.out MK.out (by omega) HD.out.fr.size ?_; intro b2 c2 x3 ho' hf
                  have HD := hide (HD.out.app HO.out HN.out rfl ho' hf)
                  clear ho' hf hn
                  refine hK.out _ _ (trivial) (fun hH5 => ?_)
                  clear hK K
                  try simp only [Act.put]
                  refine wpAnyH_take (i := 9) (v := ?_) rfl (by kernel_rfl) (by kernel_rfl) (by kernel_rfl) (fun _ _ _ h => h) (Or.inl ⟨by rfl, fun wS hS => ?_⟩) hH5 ?_
                  rotate_left
                  · go_simp; try exact rfl
                  simp only [Act.put, List.setIfInBounds_toArray, List.set_cons_zero, List.set_cons_succ, List.getElem_toArray, List.getElem_cons_zero, List.getElem_cons_succ]
                  refine wpAnyH_ready (rs := [10]) (by kernel_rfl) (by simp) (AllReadyH.cons rfl (fun K hK => ?_) (AllReadyH.nil))
                  obtain ⟨t0, t1, t2⟩ := HD.out.k3.c3
                  have f1 := HD.out.k3.frozen 1
                  go_simp
                  refine hK.out _ _ (trivial) (fun hH6 => ?_)
                  clear hK K
                  try simp only [Act.put]
                  have HD := hide HD.out.store
                  clear t0 t1 t2 f1
                  refine wpAnyH_done (by kernel_rfl) ?_ _
                  go_wp2_with fail
                  go_roundw
                  case rel => exact ⟨k - 1, by omega, int_eq (by omega), hide ⟨_, _, HD.out.more (by omega) (by omega)⟩⟩
                  case measure => simp [intOf]; omega
                · go_simp
                  refine hK.out _ _ (trivial) (fun hH3 => ?_)
                  clear hK K
                  try simp only [Act.put]
                  have MK := hide (fresh_w HR.out 74 #[.int .i64 a, .string T])
                  have HD := hide (HD.out.alloc (.cells #[.int .i64 a, .string T] 74))
                  refine wpAnyH_ready (rs := [1]) (by kernel_rfl) (by simp) (AllReadyH.cons rfl (fun K hK => ?_) (AllReadyH.nil))
                  obtain ⟨t0, t1, t2⟩ := HD.out.k3.c3
                  go_simp
                  refine hK.out _ _ (trivial) (fun hH4 => ?_)
                  clear hK K
                  try simp only [Act.put]
                  clear t0 t1 t2
                  refine wpAnyH_ready (rs := [8]) (by kernel_rfl) (by simp) (AllReadyH.cons rfl (fun K hK => ?_) (AllReadyH.nil))
                  obtain ⟨z2, _, ho, hn⟩ := HD.out.own
                  have HO := hide ho
                  have HN := hide hn
                  clear ho
                  rw [if_pos (by kernel_rfl)]
                  refine wp_app_wait (base := w.heap.size) _ _ (by rfl) (by rfl) (by rfl) HO.out MK.out (by omega) HD.out.fr.size ?_; intro b2 c2 x3 ho' hf
                  have HD := hide (HD.out.app HO.out HN.out rfl ho' hf)
                  clear ho' hf hn
                  refine hK.out _ _ (trivial) (fun hH5 => ?_)
                  clear hK K
                  try simp only [Act.put]
                  refine wpAnyH_take (i := 9) (v := ?_) rfl (by kernel_rfl) (by kernel_rfl) (by kernel_rfl) (fun _ _ _ h => h) (Or.inl ⟨by rfl, fun wS hS => ?_⟩) hH5 ?_
                  rotate_left
                  · go_simp; try exact rfl
                  simp only [Act.put, List.setIfInBounds_toArray, List.set_cons_zero, List.set_cons_succ, List.getElem_toArray, List.getElem_cons_zero, List.getElem_cons_succ]
                  refine wpAnyH_ready (rs := [10]) (by kernel_rfl) (by simp) (AllReadyH.cons rfl (fun K hK => ?_) (AllReadyH.nil))
                  obtain ⟨t0, t1, t2⟩ := HD.out.k3.c3
                  have f1 := HD.out.k3.frozen 1
                  go_simp
                  refine hK.out _ _ (trivial) (fun hH6 => ?_)
                  clear hK K
                  try simp only [Act.put]
                  have HD := hide HD.out.store
                  clear t0 t1 t2 f1
                  refine wpAnyH_done (by kernel_rfl) ?_ _
                  go_wp2_with fail
                  go_roundw
                  case rel => exact ⟨k - 1, by omega, int_eq (by omega), hide ⟨_, _, HD.out.more (by omega) (by omega)⟩⟩
                  case measure => simp [intOf]; omega
          · obtain rfl : k = 0 := by omega
            have HD := hide hD
            obtain ⟨q, hq, hr⟩ := HD.out.rd
            have HR := hide hr
            clear hD HI hr hlt
            go_wp2_with fail
            refine (pick_any R q 30 _ HR.out (by omega) (by omega) (by omega)).mono ?_; rintro r x0 ⟨v, rfl, va, vb, _, hr, hf⟩
            have HD := hide (HD.out.call hf hr)
            have HR := hide hr
            clear hr hf vb
            obtain ⟨q, hq'⟩ : ∃ q', q' = q + 1 := ⟨_, rfl⟩
            rw [← hq'] at HR HD
            go_upto_block 4 with fail
            go_cut [3] (fun c3 wx => c3 = .pointer (some ⟨g3, 0, none⟩) ∧ Hid (DkX w R g2 g3 (p + 590) wx))
            case first =>
              have hvv : v = 0 ∨ v = 1 ∨ v = 2 ∨ v = 3 ∨ v = 4 ∨ (¬ v = 0 ∧ ¬ v = 1 ∧ ¬ v = 2 ∧ ¬ v = 3 ∧ ¬ v = 4) := by omega
              rcases hvv with rfl | rfl | rfl | rfl | rfl | ⟨e0, e1, e2, e3, e4⟩
              · obtain ⟨t0, t1, t2⟩ := HD.out.k3.c3
                have f0 := HD.out.k3.frozen 0
                have PX := hide (HD.out.cut0 (qx := p + 590) (by omega) (by omega))
                go_wp2_with fail
                go_meet
                exact ⟨rfl, PX⟩
              · obtain ⟨t0, t1, t2⟩ := HD.out.k3.c3
                have f2 := HD.out.k3.frozen 2
                have PX := hide (HD.out.gone (qx := p + 590) (by omega) (by omega))
                go_wp2_with fail
                go_meet
                exact ⟨rfl, PX⟩
              · have HD := hide HD.out.drew
                have HR := hide (show Rdr x0.drew R q from HR.out.after (Below.refl _ x0).drew)
                go_upto_region 18 with fail
                refine wp_region_held_drew (S := fun _ => True) (by kernel_rfl) (trivial) (fun hH0 => ?_)
                refine wpAnyH_take (i := 0) (v := ?_) rfl (by kernel_rfl) (by kernel_rfl) (by kernel_rfl) (fun _ _ _ h => h) (Or.inl ⟨by rfl, fun wS hS => ?_⟩) hH0 ?_
                rotate_left
                · go_simp; try exact rfl
                simp only [Act.put, List.setIfInBounds_toArray, List.set_cons_zero, List.set_cons_succ, List.getElem_toArray, List.getElem_cons_zero]
                refine wpAnyH_take (i := 3) (v := ?_) rfl (by kernel_rfl) (by kernel_rfl) (by kernel_rfl) (fun _ _ _ h => h) (Or.inl ⟨by rfl, fun wS hS => ?_⟩) hH0 ?_
                rotate_left
                · go_simp; try exact rfl
                simp only [Act.put, List.setIfInBounds_toArray, List.set_cons_zero, List.set_cons_succ, List.getElem_toArray, List.getElem_cons_zero, List.getElem_cons_succ]
                refine wpAnyH_ready (rs := [1, 2, 4]) (by kernel_rfl) (by simp) (AllReadyH.cons rfl (fun K hK => ?_) (AllReadyH.cons rfl (fun K hK => ?_) (AllReadyH.cons rfl (fun K hK => ?_) (AllReadyH.nil))))
                · obtain ⟨t0, t1, t2⟩ := HD.out.k3.c3
                  go_simp
                  refine hK.out _ _ (trivial) (fun hH1 => ?_)
                  clear hK K
                  try simp only [Act.put]
                  clear t0 t1 t2
                  refine wpAnyH_ready (rs := [2, 4]) (by kernel_rfl) (by simp) (AllReadyH.cons rfl (fun K hK => ?_) (AllReadyH.cons rfl (fun K hK => ?_) (AllReadyH.nil)))
                  · have HNE := hide (Nat.ne_of_gt HR.out.lt)
                    go_simp
                    refine hK.out _ _ (trivial) (fun hH2 => ?_)
                    clear hK K
                    try simp only [Act.put]
                    have MI := hide (fresh_w HR.out 3 #[.int .i64 (-1), .int .i64 64])
                    have HD := hide (HD.out.alloc (.cells #[.int .i64 (-1), .int .i64 64] 3))
                    obtain ⟨qr, hqr, hr⟩ := HD.out.rd
                    have HR := hide (HR.out.after (bel1 _ (.cells #[.int .i64 (-1), .int .i64 64] 3)))
                    clear hr
                    refine wpAnyH_ready (rs := [4]) (by kernel_rfl) (by simp) (AllReadyH.cons rfl (fun K hK => ?_) (AllReadyH.nil))
                    go_simp
                    go_at_call 73
                    refine (pick_any R (q) 2 _ HR.out (by omega) (by omega) (by omega)).mono ?_; rintro r x1 ⟨j, rfl, j0, j1, _, hr, hf⟩
                    have j2 := j1 (by omega)
                    obtain ⟨j, rfl⟩ : ∃ k : Nat, j = (k : Int) := ⟨j.toNat, by omega⟩
                    clear j1
                    have HD := hide (HD.out.call hf hr)
                    have HR := hide hr
                    have MI := hide (MI.out.fr hf HNE.out)
                    clear hr hf
                    refine hK.out _ _ (trivial) (fun hH3 => ?_)
                    clear hK K
                    try simp only [Act.put]
                    refine wpAnyH_take (i := 5) (v := ?_) rfl (by kernel_rfl) (by kernel_rfl) (by kernel_rfl) (fun _ _ _ h => h) (Or.inl ⟨by rfl, fun wS hS => ?_⟩) hH3 ?_
                    rotate_left
                    · go_simp; try exact rfl
                    simp only [Act.put, List.setIfInBounds_toArray, List.set_cons_zero, List.set_cons_succ, List.getElem_toArray, List.getElem_cons_zero, List.getElem_cons_succ]
                    refine wpAnyH_ready (rs := [6]) (by kernel_rfl) (by simp) (AllReadyH.cons rfl (fun K hK => ?_) (AllReadyH.nil))
                    obtain ⟨y, hy, _⟩ := pickM (l := [-1, 64]) MI.out (show j < 2 by omega)
                    replace hy : x1.cell? ⟨x0.heap.size, j, none⟩ = some (.int .i64 y) := hy
                    go_simp
                    refine hK.out _ _ (trivial) (fun hH4 => ?_)
                    clear hK K
                    try simp only [Act.put]
                    clear hy
                    refine wpAnyH_take (i := 7) (v := ?_) rfl (by kernel_rfl) (by kernel_rfl) (by kernel_rfl) (fun _ _ _ h => h) (Or.inl ⟨by rfl, fun wS hS => ?_⟩) hH4 ?_
                    rotate_left
                    · go_simp; try exact rfl
                    simp only [Act.put, List.setIfInBounds_toArray, List.set_cons_zero, List.set_cons_succ, List.getElem_toArray, List.getElem_cons_zero, List.getElem_cons_succ]
                    refine wpAnyH_ready (rs := [8]) (by kernel_rfl) (by simp) (AllReadyH.cons rfl (fun K hK => ?_) (AllReadyH.nil))
                    go_simp
                    refine hK.out _ _ (trivial) (fun hH5 => ?_)
                    clear hK K
                    try simp only [Act.put]
                    have MK := hide ((fresh_w HR.out 74 #[.int .i64 y, .string ⟨#[119]⟩]))
                    have HD := hide (HD.out.alloc (.cells #[.int .i64 y, .string ⟨#[119]⟩] 74))
                    refine wpAnyH_ready (rs := [9]) (by kernel_rfl) (by simp) (AllReadyH.cons rfl (fun K hK => ?_) (AllReadyH.nil))
                    obtain ⟨z2, _, ho, hn⟩ := HD.out.own
                    have HO := hide ho
                    have HN := hide hn
                    clear ho
                    rw [if_pos (by kernel_rfl)]
                    refine wp_app_wait (base := w.heap.size) _ _ (by rfl) (by rfl) (by rfl) HO.out MK.out (by omega) HD.out.fr.size ?_; intro b2 c2 x3 ho' hf
                    have HD := hide (HD.out.app HO.out HN.out rfl ho' hf)
                    clear ho' hf hn
                    refine hK.out _ _ (trivial) (fun hH6 => ?_)
                    clear hK K
                    try simp only [Act.put]
                    refine wpAnyH_take (i := 10) (v := ?_) rfl (by kernel_rfl) (by kernel_rfl) (by kernel_rfl) (fun _ _ _ h => h) (Or.inl ⟨by rfl, fun wS hS => ?_⟩) hH6 ?_
                    rotate_left
                    · go_simp; try exact rfl
                    simp only [Act.put, List.setIfInBounds_toArray, List.set_cons_zero, List.set_cons_succ, List.getElem_toArray, List.getElem_cons_zero, List.getElem_cons_succ]
                    refine wpAnyH_ready (rs := [11]) (by kernel_rfl) (by simp) (AllReadyH.cons rfl (fun K hK => ?_) (AllReadyH.nil))
                    obtain ⟨t0, t1, t2⟩ := HD.out.k3.c3
                    have f1 := HD.out.k3.frozen 1
                    go_simp
                    refine hK.out _ _ (trivial) (fun hH7 => ?_)
                    clear hK K
                    try simp only [Act.put]
                    have HD := hide HD.out.store
                    clear t0 t1 t2 f1
                    refine wpAnyH_done (by kernel_rfl) ?_ _
                    go_wp2_with fail
                    go_meet
                    exact ⟨rfl, hide (HD.out.x (by omega) (by omega))⟩
                  · go_simp
                    go_at_call 73
                    refine (pick_any R (q) 2 _ HR.out (by omega) (by omega) (by omega)).mono ?_; rintro r x1 ⟨j, rfl, j0, j1, _, hr, hf⟩
                    have j2 := j1 (by omega)
                    obtain ⟨j, rfl⟩ : ∃ k : Nat, j = (k : Int) := ⟨j.toNat, by omega⟩
                    clear j1
                    have HD := hide (HD.out.call hf hr)
                    have HR := hide hr
                    clear hr hf
                    refine hK.out _ _ (trivial) (fun hH2 => ?_)
                    clear hK K
                    try simp only [Act.put]
                    refine wpAnyH_ready (rs := [2]) (by kernel_rfl) (by simp) (AllReadyH.cons rfl (fun K hK => ?_) (AllReadyH.nil))
                    have HNE := hide (Nat.ne_of_gt HR.out.lt)
                    go_simp
                    refine hK.out _ _ (trivial) (fun hH3 => ?_)
                    clear hK K
                    try simp only [Act.put]
                    have MI := hide (fresh_w HR.out 3 #[.int .i64 (-1), .int .i64 64])
                    have HD := hide (HD.out.alloc (.cells #[.int .i64 (-1), .int .i64 64] 3))
                    obtain ⟨qr, hqr, hr⟩ := HD.out.rd
                    have HR := hide (HR.out.after (bel1 _ (.cells #[.int .i64 (-1), .int .i64 64] 3)))
                    clear hr
                    refine wpAnyH_take (i := 5) (v := ?_) rfl (by kernel_rfl) (by kernel_rfl) (by kernel_rfl) (fun _ _ _ h => h) (Or.inl ⟨by rfl, fun wS hS => ?_⟩) hH3 ?_
                    rotate_left
                    · go_simp; try exact rfl
                    simp only [Act.put, List.setIfInBounds_toArray, List.set_cons_zero, List.set_cons_succ, List.getElem_toArray, List.getElem_cons_zero, List.getElem_cons_succ]
                    refine wpAnyH_ready (rs := [6]) (by kernel_rfl) (by simp) (AllReadyH.cons rfl (fun K hK => ?_) (AllReadyH.nil))
                    obtain ⟨y, hy⟩ := pickW (l := [-1, 64]) (show j < 2 by omega)
                    simp only [List.map_cons, List.map_nil] at hy
                    go_simp
                    refine hK.out _ _ (trivial) (fun hH4 => ?_)
                    clear hK K
                    try simp only [Act.put]
                    clear hy
                    refine wpAnyH_take (i := 7) (v := ?_) rfl (by kernel_rfl) (by kernel_rfl) (by kernel_rfl) (fun _ _ _ h => h) (Or.inl ⟨by rfl, fun wS hS => ?_⟩) hH4 ?_
                    rotate_left
                    · go_simp; try exact rfl
                    simp only [Act.put, List.setIfInBounds_toArray, List.set_cons_zero, List.set_cons_succ, List.getElem_toArray, List.getElem_cons_zero, List.getElem_cons_succ]
                    refine wpAnyH_ready (rs := [8]) (by kernel_rfl) (by simp) (AllReadyH.cons rfl (fun K hK => ?_) (AllReadyH.nil))
                    go_simp
                    refine hK.out _ _ (trivial) (fun hH5 => ?_)
                    clear hK K
                    try simp only [Act.put]
                    have MK := hide ((fresh_w HR.out 74 #[.int .i64 y, .string ⟨#[119]⟩]).at_ (g' := x1.heap.size + 1) (by simp))
                    have HD := hide (HD.out.alloc (.cells #[.int .i64 y, .string ⟨#[119]⟩] 74))
                    refine wpAnyH_ready (rs := [9]) (by kernel_rfl) (by simp) (AllReadyH.cons rfl (fun K hK => ?_) (AllReadyH.nil))
                    obtain ⟨z2, _, ho, hn⟩ := HD.out.own
                    have HO := hide ho
                    have HN := hide hn
                    clear ho
                    rw [if_pos (by kernel_rfl)]
                    refine wp_app_wait (base := w.heap.size) _ _ (by rfl) (by rfl) (by rfl) HO.out MK.out (by omega) HD.out.fr.size ?_; intro b2 c2 x3 ho' hf
                    have HD := hide (HD.out.app HO.out HN.out rfl ho' hf)
                    clear ho' hf hn
                    refine hK.out _ _ (trivial) (fun hH6 => ?_)
                    clear hK K
                    try simp only [Act.put]
                    refine wpAnyH_take (i := 10) (v := ?_) rfl (by kernel_rfl) (by kernel_rfl) (by kernel_rfl) (fun _ _ _ h => h) (Or.inl ⟨by rfl, fun wS hS => ?_⟩) hH6 ?_
                    rotate_left
                    · go_simp; try exact rfl
                    simp only [Act.put, List.setIfInBounds_toArray, List.set_cons_zero, List.set_cons_succ, List.getElem_toArray, List.getElem_cons_zero, List.getElem_cons_succ]
                    refine wpAnyH_ready (rs := [11]) (by kernel_rfl) (by simp) (AllReadyH.cons rfl (fun K hK => ?_) (AllReadyH.nil))
                    obtain ⟨t0, t1, t2⟩ := HD.out.k3.c3
                    have f1 := HD.out.k3.frozen 1
                    go_simp
                    refine hK.out _ _ (trivial) (fun hH7 => ?_)
                    clear hK K
                    try simp only [Act.put]
                    have HD := hide HD.out.store
                    clear t0 t1 t2 f1
                    refine wpAnyH_done (by kernel_rfl) ?_ _
                    go_wp2_with fail
                    go_meet
                    exact ⟨rfl, hide (HD.out.x (by omega) (by omega))⟩
                · have HNE := hide (Nat.ne_of_gt HR.out.lt)
                  go_simp
                  refine hK.out _ _ (trivial) (fun hH1 => ?_)
                  clear hK K
                  try simp only [Act.put]
                  have MI := hide (fresh_w HR.out 3 #[.int .i64 (-1), .int .i64 64])
                  have HD := hide (HD.out.alloc (.cells #[.int .i64 (-1), .int .i64 64] 3))
                  obtain ⟨qr, hqr, hr⟩ := HD.out.rd
                  have HR := hide (HR.out.after (bel1 _ (.cells #[.int .i64 (-1), .int .i64 64] 3)))
                  clear hr
                  refine wpAnyH_ready (rs := [1, 4]) (by kernel_rfl) (by simp) (AllReadyH.cons rfl (fun K hK => ?_) (AllReadyH.cons rfl (fun K hK => ?_) (AllReadyH.nil)))
                  · obtain ⟨t0, t1, t2⟩ := HD.out.k3.c3
                    replace t1 : (x0.alloc (.cells #[.int .i64 (-1), .int .i64 64] 3)).cell? ⟨g3, 1, none⟩ = some V := t1
                    go_simp
                    refine hK.out _ _ (trivial) (fun hH2 => ?_)
                    clear hK K
                    try simp only [Act.put]
                    clear t0 t1 t2
                    refine wpAnyH_ready (rs := [4]) (by kernel_rfl) (by simp) (AllReadyH.cons rfl (fun K hK => ?_) (AllReadyH.nil))
                    go_simp
                    go_at_call 73
                    refine (pick_any R (q) 2 _ HR.out (by omega) (by omega) (by omega)).mono ?_; rintro r x1 ⟨j, rfl, j0, j1, _, hr, hf⟩
                    have j2 := j1 (by omega)
                    obtain ⟨j, rfl⟩ : ∃ k : Nat, j = (k : Int) := ⟨j.toNat, by omega⟩
                    clear j1
                    have HD := hide (HD.out.call hf hr)
                    have HR := hide hr
                    have MI := hide (MI.out.fr hf HNE.out)
                    clear hr hf
                    refine hK.out _ _ (trivial) (fun hH3 => ?_)
                    clear hK K
                    try simp only [Act.put]
                    refine wpAnyH_take (i := 5) (v := ?_) rfl (by kernel_rfl) (by kernel_rfl) (by kernel_rfl) (fun _ _ _ h => h) (Or.inl ⟨by rfl, fun wS hS => ?_⟩) hH3 ?_
                    rotate_left
                    · go_simp; try exact rfl
                    simp only [Act.put, List.setIfInBounds_toArray, List.set_cons_zero, List.set_cons_succ, List.getElem_toArray, List.getElem_cons_zero, List.getElem_cons_succ]
                    refine wpAnyH_ready (rs := [6]) (by kernel_rfl) (by simp) (AllReadyH.cons rfl (fun K hK => ?_) (AllReadyH.nil))
                    obtain ⟨y, hy, _⟩ := pickM (l := [-1, 64]) MI.out (show j < 2 by omega)
                    replace hy : x1.cell? ⟨x0.heap.size, j, none⟩ = some (.int .i64 y) := hy
                    go_simp
                    refine hK.out _ _ (trivial) (fun hH4 => ?_)
                    clear hK K
                    try simp only [Act.put]
                    clear hy
                    refine wpAnyH_take (i := 7) (v := ?_) rfl (by kernel_rfl) (by kernel_rfl) (by kernel_rfl) (fun _ _ _ h => h) (Or.inl ⟨by rfl, fun wS hS => ?_⟩) hH4 ?_
                    rotate_left
                    · go_simp; try exact rfl
                    simp only [Act.put, List.setIfInBounds_toArray, List.set_cons_zero, List.set_cons_succ, List.getElem_toArray, List.getElem_cons_zero, List.getElem_cons_succ]
                    refine wpAnyH_ready (rs := [8]) (by kernel_rfl) (by simp) (AllReadyH.cons rfl (fun K hK => ?_) (AllReadyH.nil))
                    go_simp
                    refine hK.out _ _ (trivial) (fun hH5 => ?_)
                    clear hK K
                    try simp only [Act.put]
                    have MK := hide ((fresh_w HR.out 74 #[.int .i64 y, .string ⟨#[119]⟩]))
                    have HD := hide (HD.out.alloc (.cells #[.int .i64 y, .string ⟨#[119]⟩] 74))
                    refine wpAnyH_ready (rs := [9]) (by kernel_rfl) (by simp) (AllReadyH.cons rfl (fun K hK => ?_) (AllReadyH.nil))
                    obtain ⟨z2, _, ho, hn⟩ := HD.out.own
                    have HO := hide ho
                    have HN := hide hn
                    clear ho
                    rw [if_pos (by kernel_rfl)]
                    refine wp_app_wait (base := w.heap.size) _ _ (by rfl) (by rfl) (by rfl) HO.out MK.out (by omega) HD.out.fr.size ?_; intro b2 c2 x3 ho' hf
                    have HD := hide (HD.out.app HO.out HN.out rfl ho' hf)
                    clear ho' hf hn
                    refine hK.out _ _ (trivial) (fun hH6 => ?_)
                    clear hK K
                    try simp only [Act.put]
                    refine wpAnyH_take (i := 10) (v := ?_) rfl (by kernel_rfl) (by kernel_rfl) (by kernel_rfl) (fun _ _ _ h => h) (Or.inl ⟨by rfl, fun wS hS => ?_⟩) hH6 ?_
                    rotate_left
                    · go_simp; try exact rfl
                    simp only [Act.put, List.setIfInBounds_toArray, List.set_cons_zero, List.set_cons_succ, List.getElem_toArray, List.getElem_cons_zero, List.getElem_cons_succ]
                    refine wpAnyH_ready (rs := [11]) (by kernel_rfl) (by simp) (AllReadyH.cons rfl (fun K hK => ?_) (AllReadyH.nil))
                    obtain ⟨t0, t1, t2⟩ := HD.out.k3.c3
                    have f1 := HD.out.k3.frozen 1
                    go_simp
                    refine hK.out _ _ (trivial) (fun hH7 => ?_)
                    clear hK K
                    try simp only [Act.put]
                    have HD := hide HD.out.store
                    clear t0 t1 t2 f1
                    refine wpAnyH_done (by kernel_rfl) ?_ _
                    go_wp2_with fail
                    go_meet
                    exact ⟨rfl, hide (HD.out.x (by omega) (by omega))⟩
                  · go_simp
                    go_at_call 73
                    refine (pick_any R (q) 2 _ HR.out (by omega) (by omega) (by omega)).mono ?_; rintro r x1 ⟨j, rfl, j0, j1, _, hr, hf⟩
                    have j2 := j1 (by omega)
                    obtain ⟨j, rfl⟩ : ∃ k : Nat, j = (k : Int) := ⟨j.toNat, by omega⟩
                    clear j1
                    have HD := hide (HD.out.call hf hr)
                    have HR := hide hr
                    have MI := hide (MI.out.fr hf HNE.out)
                    clear hr hf
                    refine hK.out _ _ (trivial) (fun hH2 => ?_)
                    clear hK K
                    try simp only [Act.put]
                    refine wpAnyH_take (i := 5) (v := ?_) rfl (by kernel_rfl) (by kernel_rfl) (by kernel_rfl) (fun _ _ _ h => h) (Or.inl ⟨by rfl, fun wS hS => ?_⟩) hH2 ?_
                    rotate_left
                    · go_simp; try exact rfl
                    simp only [Act.put, List.setIfInBounds_toArray, List.set_cons_zero, List.set_cons_succ, List.getElem_toArray, List.getElem_cons_zero, List.getElem_cons_succ]
                    refine wpAnyH_ready (rs := [1, 6]) (by kernel_rfl) (by simp) (AllReadyH.cons rfl (fun K hK => ?_) (AllReadyH.cons rfl (fun K hK => ?_) (AllReadyH.nil)))
                    · obtain ⟨t0, t1, t2⟩ := HD.out.k3.c3
                      go_simp
                      refine hK.out _ _ (trivial) (fun hH3 => ?_)
                      clear hK K
                      try simp only [Act.put]
                      clear t0 t1 t2
                      refine wpAnyH_ready (rs := [6]) (by kernel_rfl) (by simp) (AllReadyH.cons rfl (fun K hK => ?_) (AllReadyH.nil))
                      obtain ⟨y, hy, _⟩ := pickM (l := [-1, 64]) MI.out (show j < 2 by omega)
                      replace hy : x1.cell? ⟨x0.heap.size, j, none⟩ = some (.int .i64 y) := hy
                      go_simp
                      refine hK.out _ _ (trivial) (fun hH4 => ?_)
                      clear hK K
                      try simp only [Act.put]
                      clear hy
                      refine wpAnyH_take (i := 7) (v := ?_) rfl (by kernel_rfl) (by kernel_rfl) (by kernel_rfl) (fun _ _ _ h => h) (Or.inl ⟨by rfl, fun wS hS => ?_⟩) hH4 ?_
                      rotate_left
                      · go_simp; try exact rfl
                      simp only [Act.put, List.setIfInBounds_toArray, List.set_cons_zero, List.set_cons_succ, List.getElem_toArray, List.getElem_cons_zero, List.getElem_cons_succ]
                      refine wpAnyH_ready (rs := [8]) (by kernel_rfl) (by simp) (AllReadyH.cons rfl (fun K hK => ?_) (AllReadyH.nil))
                      go_simp
                      refine hK.out _ _ (trivial) (fun hH5 => ?_)
                      clear hK K
                      try simp only [Act.put]
                      have MK := hide ((fresh_w HR.out 74 #[.int .i64 y, .string ⟨#[119]⟩]))
                      have HD := hide (HD.out.alloc (.cells #[.int .i64 y, .string ⟨#[119]⟩] 74))
                      refine wpAnyH_ready (rs := [9]) (by kernel_rfl) (by simp) (AllReadyH.cons rfl (fun K hK => ?_) (AllReadyH.nil))
                      obtain ⟨z2, _, ho, hn⟩ := HD.out.own
                      have HO := hide ho
                      have HN := hide hn
                      clear ho
                      rw [if_pos (by kernel_rfl)]
                      refine wp_app_wait (base := w.heap.size) _ _ (by rfl) (by rfl) (by rfl) HO.out MK.out (by omega) HD.out.fr.size ?_; intro b2 c2 x3 ho' hf
                      have HD := hide (HD.out.app HO.out HN.out rfl ho' hf)
                      clear ho' hf hn
                      refine hK.out _ _ (trivial) (fun hH6 => ?_)
                      clear hK K
                      try simp only [Act.put]
                      refine wpAnyH_take (i := 10) (v := ?_) rfl (by kernel_rfl) (by kernel_rfl) (by kernel_rfl) (fun _ _ _ h => h) (Or.inl ⟨by rfl, fun wS hS => ?_⟩) hH6 ?_
                      rotate_left
                      · go_simp; try exact rfl
                      simp only [Act.put, List.setIfInBounds_toArray, List.set_cons_zero, List.set_cons_succ, List.getElem_toArray, List.getElem_cons_zero, List.getElem_cons_succ]
                      refine wpAnyH_ready (rs := [11]) (by kernel_rfl) (by simp) (AllReadyH.cons rfl (fun K hK => ?_) (AllReadyH.nil))
                      obtain ⟨t0, t1, t2⟩ := HD.out.k3.c3
                      have f1 := HD.out.k3.frozen 1
                      go_simp
                      refine hK.out _ _ (trivial) (fun hH7 => ?_)
                      clear hK K
                      try simp only [Act.put]
                      have HD := hide HD.out.store
                      clear t0 t1 t2 f1
                      refine wpAnyH_done (by kernel_rfl) ?_ _
                      go_wp2_with fail
                      go_meet
                      exact ⟨rfl, hide (HD.out.x (by omega) (by omega))⟩
                    · obtain ⟨y, hy, _⟩ := pickM (l := [-1, 64]) MI.out (show j < 2 by omega)
                      replace hy : x1.cell? ⟨x0.heap.size, j, none⟩ = some (.int .i64 y) := hy
                      go_simp
                      refine hK.out _ _ (trivial) (fun hH3 => ?_)
                      clear hK K
                      try simp only [Act.put]
                      clear hy
                      refine wpAnyH_take (i := 7) (v := ?_) rfl (by kernel_rfl) (by kernel_rfl) (by kernel_rfl) (fun _ _ _ h => h) (Or.inl ⟨by rfl, fun wS hS => ?_⟩) hH3 ?_
                      rotate_left
                      · go_simp; try exact rfl
                      simp only [Act.put, List.setIfInBounds_toArray, List.set_cons_zero, List.set_cons_succ, List.getElem_toArray, List.getElem_cons_zero, List.getElem_cons_succ]
                      refine wpAnyH_ready (rs := [1, 8]) (by kernel_rfl) (by simp) (AllReadyH.cons rfl (fun K hK => ?_) (AllReadyH.cons rfl (fun K hK => ?_) (AllReadyH.nil)))
                      · obtain ⟨t0, t1, t2⟩ := HD.out.k3.c3
                        go_simp
                        refine hK.out _ _ (trivial) (fun hH4 => ?_)
                        clear hK K
                        try simp only [Act.put]
                        clear t0 t1 t2
                        refine wpAnyH_ready (rs := [8]) (by kernel_rfl) (by simp) (AllReadyH.cons rfl (fun K hK => ?_) (AllReadyH.nil))
                        go_simp
                        refine hK.out _ _ (trivial) (fun hH5 => ?_)
                        clear hK K
                        try simp only [Act.put]
                        have MK := hide ((fresh_w HR.out 74 #[.int .i64 y, .string ⟨#[119]⟩]))
                        have HD := hide (HD.out.alloc (.cells #[.int .i64 y, .string ⟨#[119]⟩] 74))
                        refine wpAnyH_ready (rs := [9]) (by kernel_rfl) (by simp) (AllReadyH.cons rfl (fun K hK => ?_) (AllReadyH.nil))
                        obtain ⟨z2, _, ho, hn⟩ := HD.out.own
                        have HO := hide ho
                        have HN := hide hn
                        clear ho
                        rw [if_pos (by kernel_rfl)]
                        refine wp_app_wait (base := w.heap.size) _ _ (by rfl) (by rfl) (by rfl) HO.out MK.out (by omega) HD.out.fr.size ?_; intro b2 c2 x3 ho' hf
                        have HD := hide (HD.out.app HO.out HN.out rfl ho' hf)
                        clear ho' hf hn
                        refine hK.out _ _ (trivial) (fun hH6 => ?_)
                        clear hK K
                        try simp only [Act.put]
                        refine wpAnyH_take (i := 10) (v := ?_) rfl (by kernel_rfl) (by kernel_rfl) (by kernel_rfl) (fun _ _ _ h => h) (Or.inl ⟨by rfl, fun wS hS => ?_⟩) hH6 ?_
                        rotate_left
                        · go_simp; try exact rfl
                        simp only [Act.put, List.setIfInBounds_toArray, List.set_cons_zero, List.set_cons_succ, List.getElem_toArray, List.getElem_cons_zero, List.getElem_cons_succ]
                        refine wpAnyH_ready (rs := [11]) (by kernel_rfl) (by simp) (AllReadyH.cons rfl (fun K hK => ?_) (AllReadyH.nil))
                        obtain ⟨t0, t1, t2⟩ := HD.out.k3.c3
                        have f1 := HD.out.k3.frozen 1
                        go_simp
                        refine hK.out _ _ (trivial) (fun hH7 => ?_)
                        clear hK K
                        try simp only [Act.put]
                        have HD := hide HD.out.store
                        clear t0 t1 t2 f1
                        refine wpAnyH_done (by kernel_rfl) ?_ _
                        go_wp2_with fail
                        go_meet
                        exact ⟨rfl, hide (HD.out.x (by omega) (by omega))⟩
                      · go_simp
                        refine hK.out _ _ (trivial) (fun hH4 => ?_)
                        clear hK K
                        try simp only [Act.put]
                        have MK := hide ((fresh_w HR.out 74 #[.int .i64 y, .string ⟨#[119]⟩]))
                        have HD := hide (HD.out.alloc (.cells #[.int .i64 y, .string ⟨#[119]⟩] 74))
                        refine wpAnyH_ready (rs := [1]) (by kernel_rfl) (by simp) (AllReadyH.cons rfl (fun K hK => ?_) (AllReadyH.nil))
                        obtain ⟨t0, t1, t2⟩ := HD.out.k3.c3
                        go_simp
                        refine hK.out _ _ (trivial) (fun hH5 => ?_)
                        clear hK K
                        try simp only [Act.put]
                        clear t0 t1 t2
                        refine wpAnyH_ready (rs := [9]) (by kernel_rfl) (by simp) (AllReadyH.cons rfl (fun K hK => ?_) (AllReadyH.nil))
                        obtain ⟨z2, _, ho, hn⟩ := HD.out.own
                        have HO := hide ho
                        have HN := hide hn
                        clear ho
                        rw [if_pos (by kernel_rfl)]
                        refine wp_app_wait (base := w.heap.size) _ _ (by rfl) (by rfl) (by rfl) HO.out MK.out (by omega) HD.out.fr.size ?_; intro b2 c2 x3 ho' hf
                        have HD := hide (HD.out.app HO.out HN.out rfl ho' hf)
                        clear ho' hf hn
                        refine hK.out _ _ (trivial) (fun hH6 => ?_)
                        clear hK K
                        try simp only [Act.put]
                        refine wpAnyH_take (i := 10) (v := ?_) rfl (by kernel_rfl) (by kernel_rfl) (by kernel_rfl) (fun _ _ _ h => h) (Or.inl ⟨by rfl, fun wS hS => ?_⟩) hH6 ?_
                        rotate_left
                        · go_simp; try exact rfl
                        simp only [Act.put, List.setIfInBounds_toArray, List.set_cons_zero, List.set_cons_succ, List.getElem_toArray, List.getElem_cons_zero, List.getElem_cons_succ]
                        refine wpAnyH_ready (rs := [11]) (by kernel_rfl) (by simp) (AllReadyH.cons rfl (fun K hK => ?_) (AllReadyH.nil))
                        obtain ⟨t0, t1, t2⟩ := HD.out.k3.c3
                        have f1 := HD.out.k3.frozen 1
                        go_simp
                        refine hK.out _ _ (trivial) (fun hH7 => ?_)
                        clear hK K
                        try simp only [Act.put]
                        have HD := hide HD.out.store
                        clear t0 t1 t2 f1
                        refine wpAnyH_done (by kernel_rfl) ?_ _
                        go_wp2_with fail
                        go_meet
                        exact ⟨rfl, hide (HD.out.x (by omega) (by omega))⟩
                · go_simp
                  go_at_call 73
                  refine (pick_any R (q) 2 _ HR.out (by omega) (by omega) (by omega)).mono ?_; rintro r x1 ⟨j, rfl, j0, j1, _, hr, hf⟩
                  have j2 := j1 (by omega)
                  obtain ⟨j, rfl⟩ : ∃ k : Nat, j = (k : Int) := ⟨j.toNat, by omega⟩
                  clear j1
                  have HD := hide (HD.out.call hf hr)
                  have HR := hide hr
                  clear hr hf
                  refine hK.out _ _ (trivial) (fun hH1 => ?_)
                  clear hK K
                  try simp only [Act.put]
                  refine wpAnyH_ready (rs := [1, 2]) (by kernel_rfl) (by simp) (AllReadyH.cons rfl (fun K hK => ?_) (AllReadyH.cons rfl (fun K hK => ?_) (AllReadyH.nil)))
                  · obtain ⟨t0, t1, t2⟩ := HD.out.k3.c3
                    go_simp
                    refine hK.out _ _ (trivial) (fun hH2 => ?_)
                    clear hK K
                    try simp only [Act.put]
                    clear t0 t1 t2
                    refine wpAnyH_ready (rs := [2]) (by kernel_rfl) (by simp) (AllReadyH.cons rfl (fun K hK => ?_) (AllReadyH.nil))
                    have HNE := hide (Nat.ne_of_gt HR.out.lt)
                    go_simp
                    refine hK.out _ _ (trivial) (fun hH3 => ?_)
                    clear hK K
                    try simp only [Act.put]
                    have MI := hide (fresh_w HR.out 3 #[.int .i64 (-1), .int .i64 64])
                    have HD := hide (HD.out.alloc (.cells #[.int .i64 (-1), .int .i64 64] 3))
                    obtain ⟨qr, hqr, hr⟩ := HD.out.rd
                    have HR := hide (HR.out.after (bel1 _ (.cells #[.int .i64 (-1), .int .i64 64] 3)))
                    clear hr
                    refine wpAnyH_take (i := 5) (v := ?_) rfl (by kernel_rfl) (by kernel_rfl) (by kernel_rfl) (fun _ _ _ h => h) (Or.inl ⟨by rfl, fun wS hS => ?_⟩) hH3 ?_
                    rotate_left
                    · go_simp; try exact rfl
                    simp only [Act.put, List.setIfInBounds_toArray, List.set_cons_zero, List.set_cons_succ, List.getElem_toArray, List.getElem_cons_zero, List.getElem_cons_succ]
                    refine wpAnyH_ready (rs := [6]) (by kernel_rfl) (by simp) (AllReadyH.cons rfl (fun K hK => ?_) (AllReadyH.nil))
                    obtain ⟨y, hy⟩ := pickW (l := [-1, 64]) (show j < 2 by omega)
                    simp only [List.map_cons, List.map_nil] at hy
                    go_simp
                    refine hK.out _ _ (trivial) (fun hH4 => ?_)
                    clear hK K
                    try simp only [Act.put]
                    clear hy
                    refine wpAnyH_take (i := 7) (v := ?_) rfl (by kernel_rfl) (by kernel_rfl) (by kernel_rfl) (fun _ _ _ h => h) (Or.inl ⟨by rfl, fun wS hS => ?_⟩) hH4 ?_
                    rotate_left
                    · go_simp; try exact rfl
                    simp only [Act.put, List.setIfInBounds_toArray, List.set_cons_zero, List.set_cons_succ, List.getElem_toArray, List.getElem_cons_zero, List.getElem_cons_succ]
                    refine wpAnyH_ready (rs := [8]) (by kernel_rfl) (by simp) (AllReadyH.cons rfl (fun K hK => ?_) (AllReadyH.nil))
                    go_simp
                    refine hK.out _ _ (trivial) (fun hH5 => ?_)
                    clear hK K
                    try simp only [Act.put]
                    have MK := hide ((fresh_w HR.out 74 #[.int .i64 y, .string ⟨#[119]⟩]).at_ (g' := x1.heap.size + 1) (by simp))
                    have HD := hide (HD.out.alloc (.cells #[.int .i64 y, .string ⟨#[119]⟩] 74))
                    refine wpAnyH_ready (rs := [9]) (by kernel_rfl) (by simp) (AllReadyH.cons rfl (fun K hK => ?_) (AllReadyH.nil))
                    obtain ⟨z2, _, ho, hn⟩ := HD.out.own
                    have HO := hide ho
                    have HN := hide hn
                    clear ho
                    rw [if_pos (by kernel_rfl)]
                    refine wp_app_wait (base := w.heap.size) _ _ (by rfl) (by rfl) (by rfl) HO.out MK.out (by omega) HD.out.fr.size ?_; intro b2 c2 x3 ho' hf
                    have HD := hide (HD.out.app HO.out HN.out rfl ho' hf)
                    clear ho' hf hn
                    refine hK.out _ _ (trivial) (fun hH6 => ?_)
                    clear hK K
                    try simp only [Act.put]
                    refine wpAnyH_take (i := 10) (v := ?_) rfl (by kernel_rfl) (by kernel_rfl) (by kernel_rfl) (fun _ _ _ h => h) (Or.inl ⟨by rfl, fun wS hS => ?_⟩) hH6 ?_
                    rotate_left
                    · go_simp; try exact rfl
                    simp only [Act.put, List.setIfInBounds_toArray, List.set_cons_zero, List.set_cons_succ, List.getElem_toArray, List.getElem_cons_zero, List.getElem_cons_succ]
                    refine wpAnyH_ready (rs := [11]) (by kernel_rfl) (by simp) (AllReadyH.cons rfl (fun K hK => ?_) (AllReadyH.nil))
                    obtain ⟨t0, t1, t2⟩ := HD.out.k3.c3
                    have f1 := HD.out.k3.frozen 1
                    go_simp
                    refine hK.out _ _ (trivial) (fun hH7 => ?_)
                    clear hK K
                    try simp only [Act.put]
                    have HD := hide HD.out.store
                    clear t0 t1 t2 f1
                    refine wpAnyH_done (by kernel_rfl) ?_ _
                    go_wp2_with fail
                    go_meet
                    exact ⟨rfl, hide (HD.out.x (by omega) (by omega))⟩
                  · have HNE := hide (Nat.ne_of_gt HR.out.lt)
                    go_simp
                    refine hK.out _ _ (trivial) (fun hH2 => ?_)
                    clear hK K
                    try simp only [Act.put]
                    have MI := hide (fresh_w HR.out 3 #[.int .i64 (-1), .int .i64 64])
                    have HD := hide (HD.out.alloc (.cells #[.int .i64 (-1), .int .i64 64] 3))
                    obtain ⟨qr, hqr, hr⟩ := HD.out.rd
                    have HR := hide (HR.out.after (bel1 _ (.cells #[.int .i64 (-1), .int .i64 64] 3)))
                    clear hr
                    refine wpAnyH_take (i := 5) (v := ?_) rfl (by kernel_rfl) (by kernel_rfl) (by kernel_rfl) (fun _ _ _ h => h) (Or.inl ⟨by rfl, fun wS hS => ?_⟩) hH2 ?_
                    rotate_left
                    · go_simp; try exact rfl
                    simp only [Act.put, List.setIfInBounds_toArray, List.set_cons_zero, List.set_cons_succ, List.getElem_toArray, List.getElem_cons_zero, List.getElem_cons_succ]
                    refine wpAnyH_ready (rs := [1, 6]) (by kernel_rfl) (by simp) (AllReadyH.cons rfl (fun K hK => ?_) (AllReadyH.cons rfl (fun K hK => ?_) (AllReadyH.nil)))
                    · obtain ⟨t0, t1, t2⟩ := HD.out.k3.c3
                      go_simp
                      refine hK.out _ _ (trivial) (fun hH3 => ?_)
                      clear hK K
                      try simp only [Act.put]
                      clear t0 t1 t2
                      refine wpAnyH_ready (rs := [6]) (by kernel_rfl) (by simp) (AllReadyH.cons rfl (fun K hK => ?_) (AllReadyH.nil))
                      obtain ⟨y, hy⟩ := pickW (l := [-1, 64]) (show j < 2 by omega)
                      simp only [List.map_cons, List.map_nil] at hy
                      go_simp
                      refine hK.out _ _ (trivial) (fun hH4 => ?_)
                      clear hK K
                      try simp only [Act.put]
                      clear hy
                      refine wpAnyH_take (i := 7) (v := ?_) rfl (by kernel_rfl) (by kernel_rfl) (by kernel_rfl) (fun _ _ _ h => h) (Or.inl ⟨by rfl, fun wS hS => ?_⟩) hH4 ?_
                      rotate_left
                      · go_simp; try exact rfl
                      simp only [Act.put, List.setIfInBounds_toArray, List.set_cons_zero, List.set_cons_succ, List.getElem_toArray, List.getElem_cons_zero, List.getElem_cons_succ]
                      refine wpAnyH_ready (rs := [8]) (by kernel_rfl) (by simp) (AllReadyH.cons rfl (fun K hK => ?_) (AllReadyH.nil))
                      go_simp
                      refine hK.out _ _ (trivial) (fun hH5 => ?_)
                      clear hK K
                      try simp only [Act.put]
                      have MK := hide ((fresh_w HR.out 74 #[.int .i64 y, .string ⟨#[119]⟩]).at_ (g' := x1.heap.size + 1) (by simp))
                      have HD := hide (HD.out.alloc (.cells #[.int .i64 y, .string ⟨#[119]⟩] 74))
                      refine wpAnyH_ready (rs := [9]) (by kernel_rfl) (by simp) (AllReadyH.cons rfl (fun K hK => ?_) (AllReadyH.nil))
                      obtain ⟨z2, _, ho, hn⟩ := HD.out.own
                      have HO := hide ho
                      have HN := hide hn
                      clear ho
                      rw [if_pos (by kernel_rfl)]
                      refine wp_app_wait (base := w.heap.size) _ _ (by rfl) (by rfl) (by rfl) HO.out MK.out (by omega) HD.out.fr.size ?_; intro b2 c2 x3 ho' hf
                      have HD := hide (HD.out.app HO.out HN.out rfl ho' hf)
                      clear ho' hf hn
                      refine hK.out _ _ (trivial) (fun hH6 => ?_)
                      clear hK K
                      try simp only [Act.put]
                      refine wpAnyH_take (i := 10) (v := ?_) rfl (by kernel_rfl) (by kernel_rfl) (by kernel_rfl) (fun _ _ _ h => h) (Or.inl ⟨by rfl, fun wS hS => ?_⟩) hH6 ?_
                      rotate_left
                      · go_simp; try exact rfl
                      simp only [Act.put, List.setIfInBounds_toArray, List.set_cons_zero, List.set_cons_succ, List.getElem_toArray, List.getElem_cons_zero, List.getElem_cons_succ]
                      refine wpAnyH_ready (rs := [11]) (by kernel_rfl) (by simp) (AllReadyH.cons rfl (fun K hK => ?_) (AllReadyH.nil))
                      obtain ⟨t0, t1, t2⟩ := HD.out.k3.c3
                      have f1 := HD.out.k3.frozen 1
                      go_simp
                      refine hK.out _ _ (trivial) (fun hH7 => ?_)
                      clear hK K
                      try simp only [Act.put]
                      have HD := hide HD.out.store
                      clear t0 t1 t2 f1
                      refine wpAnyH_done (by kernel_rfl) ?_ _
                      go_wp2_with fail
                      go_meet
                      exact ⟨rfl, hide (HD.out.x (by omega) (by omega))⟩
                    · obtain ⟨y, hy⟩ := pickW (l := [-1, 64]) (show j < 2 by omega)
                      simp only [List.map_cons, List.map_nil] at hy
                      go_simp
                      refine hK.out _ _ (trivial) (fun hH3 => ?_)
                      clear hK K
                      try simp only [Act.put]
                      clear hy
                      refine wpAnyH_take (i := 7) (v := ?_) rfl (by kernel_rfl) (by kernel_rfl) (by kernel_rfl) (fun _ _ _ h => h) (Or.inl ⟨by rfl, fun wS hS => ?_⟩) hH3 ?_
                      rotate_left
                      · go_simp; try exact rfl
                      simp only [Act.put, List.setIfInBounds_toArray, List.set_cons_zero, List.set_cons_succ, List.getElem_toArray, List.getElem_cons_zero, List.getElem_cons_succ]
                      refine wpAnyH_ready (rs := [1, 8]) (by kernel_rfl) (by simp) (AllReadyH.cons rfl (fun K hK => ?_) (AllReadyH.cons rfl (fun K hK => ?_) (AllReadyH.nil)))
                      · obtain ⟨t0, t1, t2⟩ := HD.out.k3.c3
                        go_simp
                        refine hK.out _ _ (trivial) (fun hH4 => ?_)
                        clear hK K
                        try simp only [Act.put]
                        clear t0 t1 t2
                        refine wpAnyH_ready (rs := [8]) (by kernel_rfl) (by simp) (AllReadyH.cons rfl (fun K hK => ?_) (AllReadyH.nil))
                        go_simp
                        refine hK.out _ _ (trivial) (fun hH5 => ?_)
                        clear hK K
                        try simp only [Act.put]
                        have MK := hide ((fresh_w HR.out 74 #[.int .i64 y, .string ⟨#[119]⟩]).at_ (g' := x1.heap.size + 1) (by simp))
                        have HD := hide (HD.out.alloc (.cells #[.int .i64 y, .string ⟨#[119]⟩] 74))
                        refine wpAnyH_ready (rs := [9]) (by kernel_rfl) (by simp) (AllReadyH.cons rfl (fun K hK => ?_) (AllReadyH.nil))
                        obtain ⟨z2, _, ho, hn⟩ := HD.out.own
                        have HO := hide ho
                        have HN := hide hn
                        clear ho
                        rw [if_pos (by kernel_rfl)]
                        refine wp_app_wait (base := w.heap.size) _ _ (by rfl) (by rfl) (by rfl) HO.out MK.out (by omega) HD.out.fr.size ?_; intro b2 c2 x3 ho' hf
                        have HD := hide (HD.out.app HO.out HN.out rfl ho' hf)
                        clear ho' hf hn
                        refine hK.out _ _ (trivial) (fun hH6 => ?_)
                        clear hK K
                        try simp only [Act.put]
                        refine wpAnyH_take (i := 10) (v := ?_) rfl (by kernel_rfl) (by kernel_rfl) (by kernel_rfl) (fun _ _ _ h => h) (Or.inl ⟨by rfl, fun wS hS => ?_⟩) hH6 ?_
                        rotate_left
                        · go_simp; try exact rfl
                        simp only [Act.put, List.setIfInBounds_toArray, List.set_cons_zero, List.set_cons_succ, List.getElem_toArray, List.getElem_cons_zero, List.getElem_cons_succ]
                        refine wpAnyH_ready (rs := [11]) (by kernel_rfl) (by simp) (AllReadyH.cons rfl (fun K hK => ?_) (AllReadyH.nil))
                        obtain ⟨t0, t1, t2⟩ := HD.out.k3.c3
                        have f1 := HD.out.k3.frozen 1
                        go_simp
                        refine hK.out _ _ (trivial) (fun hH7 => ?_)
                        clear hK K
                        try simp only [Act.put]
                        have HD := hide HD.out.store
                        clear t0 t1 t2 f1
                        refine wpAnyH_done (by kernel_rfl) ?_ _
                        go_wp2_with fail
                        go_meet
                        exact ⟨rfl, hide (HD.out.x (by omega) (by omega))⟩
                      · go_simp
                        refine hK.out _ _ (trivial) (fun hH4 => ?_)
                        clear hK K
                        try simp only [Act.put]
                        have MK := hide ((fresh_w HR.out 74 #[.int .i64 y, .string ⟨#[119]⟩]).at_ (g' := x1.heap.size + 1) (by simp))
                        have HD := hide (HD.out.alloc (.cells #[.int .i64 y, .string ⟨#[119]⟩] 74))
                        refine wpAnyH_ready (rs := [1]) (by kernel_rfl) (by simp) (AllReadyH.cons rfl (fun K hK => ?_) (AllReadyH.nil))
                        obtain ⟨t0, t1, t2⟩ := HD.out.k3.c3
                        go_simp
                        refine hK.out _ _ (trivial) (fun hH5 => ?_)
                        clear hK K
                        try simp only [Act.put]
                        clear t0 t1 t2
                        refine wpAnyH_ready (rs := [9]) (by kernel_rfl) (by simp) (AllReadyH.cons rfl (fun K hK => ?_) (AllReadyH.nil))
                        obtain ⟨z2, _, ho, hn⟩ := HD.out.own
                        have HO := hide ho
                        have HN := hide hn
                        clear ho
                        rw [if_pos (by kernel_rfl)]
                        refine wp_app_wait (base := w.heap.size) _ _ (by rfl) (by rfl) (by rfl) HO.out MK.out (by omega) HD.out.fr.size ?_; intro b2 c2 x3 ho' hf
                        have HD := hide (HD.out.app HO.out HN.out rfl ho' hf)
                        clear ho' hf hn
                        refine hK.out _ _ (trivial) (fun hH6 => ?_)
                        clear hK K
                        try simp only [Act.put]
                        refine wpAnyH_take (i := 10) (v := ?_) rfl (by kernel_rfl) (by kernel_rfl) (by kernel_rfl) (fun _ _ _ h => h) (Or.inl ⟨by rfl, fun wS hS => ?_⟩) hH6 ?_
                        rotate_left
                        · go_simp; try exact rfl
                        simp only [Act.put, List.setIfInBounds_toArray, List.set_cons_zero, List.set_cons_succ, List.getElem_toArray, List.getElem_cons_zero, List.getElem_cons_succ]
                        refine wpAnyH_ready (rs := [11]) (by kernel_rfl) (by simp) (AllReadyH.cons rfl (fun K hK => ?_) (AllReadyH.nil))
                        obtain ⟨t0, t1, t2⟩ := HD.out.k3.c3
                        have f1 := HD.out.k3.frozen 1
                        go_simp
                        refine hK.out _ _ (trivial) (fun hH7 => ?_)
                        clear hK K
                        try simp only [Act.put]
                        have HD := hide HD.out.store
                        clear t0 t1 t2 f1
                        refine wpAnyH_done (by kernel_rfl) ?_ _
                        go_wp2_with fail
                        go_meet
                        exact ⟨rfl, hide (HD.out.x (by omega) (by omega))⟩
              · have HD := hide HD.out.drew
                have HR := hide (show Rdr x0.drew R q from HR.out.after (Below.refl _ x0).drew)
                have KW := hide HD.out.k3
                have hn3 : ¬ (g3 = R ∨ g3 = b1) := by
                  have hD := HD.out
                  obtain ⟨z1, ⟨cs, hcs, _⟩, _⟩ := hD.row
                  have h1 := hD.hR
                  have h2 := hD.h2
                  have h3 := hD.h3
                  have h4 := hD.k3.ne_type hcs (by decide)
                  omega
                go_upto_region 20 with fail
                refine wp_region_held_drew (S := fun x => Fr (fun i => i = R ∨ i = b1) x0.drew x) (by kernel_rfl) (Fr.refl _ _) (fun hH0 => ?_)
                refine wpAnyH_take (i := 0) (v := ?_) rfl (by kernel_rfl) (by kernel_rfl) (by kernel_rfl) (fun _ _ _ h => h) (Or.inl ⟨by rfl, fun wS hS => ?_⟩) hH0 ?_
                rotate_left
                · obtain ⟨t0, t1, t2⟩ := (KW.out.fr hS hn3).c3; go_simp; try exact rfl
                simp only [Act.put, List.setIfInBounds_toArray, List.set_cons_zero, List.set_cons_succ, List.getElem_toArray, List.getElem_cons_zero]
                refine wpAnyH_take (i := 1) (v := ?_) rfl (by kernel_rfl) (by kernel_rfl) (by kernel_rfl) (fun _ _ _ h => h) (Or.inl ⟨by rfl, fun wS hS => ?_⟩) hH0 ?_
                rotate_left
                · obtain ⟨t0, t1, t2⟩ := (KW.out.fr hS hn3).c3; go_simp; try exact rfl
                simp only [Act.put, List.setIfInBounds_toArray, List.set_cons_zero, List.set_cons_succ, List.getElem_toArray, List.getElem_cons_zero, List.getElem_cons_succ]
                refine wpAnyH_take (i := 2) (v := ?_) rfl (by kernel_rfl) (by kernel_rfl) (by kernel_rfl) (fun _ _ _ h => h) (Or.inl ⟨by rfl, fun wS hS => ?_⟩) hH0 ?_
                rotate_left
                · obtain ⟨t0, t1, t2⟩ := (KW.out.fr hS hn3).c3; go_simp; try exact rfl
                simp only [Act.put, List.setIfInBounds_toArray, List.set_cons_zero, List.set_cons_succ, List.getElem_toArray, List.getElem_cons_zero, List.getElem_cons_succ]
                refine wpAnyH_ready (rs := [3]) (by kernel_rfl) (by simp) (AllReadyH.cons rfl (fun K hK => ?_) (AllReadyH.nil))
                go_simp
                go_at_call 73
                refine (pick_any R (q) 2 _ HR.out (by omega) (by omega) (by omega)).mono ?_; rintro r x1 ⟨a, rfl, a0, a1, _, hr, hf⟩
                have a2 := a1 (by omega)
                obtain ⟨a, rfl⟩ : ∃ k : Nat, a = (k : Int) := ⟨a.toNat, by omega⟩
                clear a1
                have HD := hide (HD.out.call hf hr)
                have HR := hide hr
                have aw : IntKind.i64.wrap (200 + (a : Int)) = 200 + (a : Int) := by rw [IntKind.wrap_i64]; omega
                have HF := hide hf
                clear hr hf
                refine hK.out _ _ (hH0.trans (HF.out.mono (fun _ _ e => .inl e))) (fun hH1 => ?_)
                clear hK K
                try simp only [Act.put]
                refine wpAnyH_take (i := 4) (v := ?_) rfl (by kernel_rfl) (by kernel_rfl) (by kernel_rfl) (fun _ _ _ h => h) (Or.inl ⟨by rfl, fun wS hS => ?_⟩) hH1 ?_
                rotate_left
                · obtain ⟨t0, t1, t2⟩ := (KW.out.fr hS hn3).c3; go_simp; try exact rfl
                simp only [Act.put, List.setIfInBounds_toArray, List.set_cons_zero, List.set_cons_succ, List.getElem_toArray, List.getElem_cons_zero, List.getElem_cons_succ]
                refine wpAnyH_ready (rs := [5]) (by kernel_rfl) (by simp) (AllReadyH.cons rfl (fun K hK => ?_) (AllReadyH.nil))
                go_simp
                go_at_call 97
                refine (l6Many_i (n := 200 + a) (by omega) (by decide) (by omega) _).mono ?_; rintro r x2 ⟨⟨T, rfl, _⟩, rfl⟩
                refine hK.out _ _ (hH1) (fun hH2 => ?_)
                clear hK K
                try simp only [Act.put]
                refine wpAnyH_take (i := 6) (v := ?_) rfl (by kernel_rfl) (by kernel_rfl) (by kernel_rfl) (fun _ _ _ h => h) (Or.inl ⟨by rfl, fun wS hS => ?_⟩) hH2 ?_
                rotate_left
                · obtain ⟨t0, t1, t2⟩ := (KW.out.fr hS hn3).c3; go_simp; try exact rfl
                simp only [Act.put, List.setIfInBounds_toArray, List.set_cons_zero, List.set_cons_succ, List.getElem_toArray, List.getElem_cons_zero, List.getElem_cons_succ]
                refine wpAnyH_ready (rs := [7]) (by kernel_rfl) (by simp) (AllReadyH.cons rfl (fun K hK => ?_) (AllReadyH.nil))
                obtain ⟨z1, hrow, hzl⟩ := HD.out.row
                obtain ⟨hca, hfa⟩ := hrow.at_ (a := 3) (by omega)
                go_simp
                refine hK.out _ _ (hH2.setCell (p := ⟨b1, 3, none⟩) (.inl (.inr rfl)) _) (fun hH3 => ?_)
                clear hK K
                try simp only [Act.put]
                have HD := hide (HD.out.put 3 T)
                clear hca hfa hrow hzl
                refine wpAnyH_done (by kernel_rfl) ?_ _
                go_wp2_with fail
                go_meet
                exact ⟨rfl, hide (HD.out.x (by omega) (by omega))⟩
              · obtain ⟨n0, hn0, HN⟩ := DkI.n ⟨_, _, HD.out⟩
                have HN := hide HN
                go_wp2_with fail
                go_loopw [81] (fun _ wr => ∃ n : Nat, n ≤ 121 ∧ Hid (DkN w R g2 g3 (p + 410 + n) n wr)) (fun _ wr => 122 - lenAt g3 wr)
                case atStart =>
                  obtain ⟨b1', b2, c, hN⟩ := HN.out
                  exact ⟨n0, by omega, hide ⟨b1', b2, c, hN.more (by omega) (Nat.le_refl _)⟩⟩
                case round =>
                  clear HD HR HN
                  obtain ⟨n, hn, HN⟩ := hrel
                  obtain ⟨b1, b2, c, hD⟩ := HN.out
                  have HLN := hide hD.len_
                  have HD := hide hD.drew
                  obtain ⟨q, hq, hr⟩ := HD.out.rd
                  have HR := hide hr
                  have KW := hide HD.out.k3
                  have hn3 : ¬ (g3 = R) := by
                    have h1 := hD.hR
                    have h2 := hD.h2
                    have h3 := hD.h3
                    omega
                  clear hD HN hr
                  go_upto_region 22 with fail
                  refine wp_region_held_drew (S := fun x => Fr (· = R) wr.drew x) (by kernel_rfl) (Fr.refl _ _) (fun hH0 => ?_)
                  refine wpAnyH_take (i := 0) (v := ?_) rfl (by kernel_rfl) (by kernel_rfl) (by kernel_rfl) (fun _ _ _ h => h) (Or.inl ⟨by rfl, fun wS hS => ?_⟩) hH0 ?_
                  rotate_left
                  · obtain ⟨t0, t1, t2⟩ := (KW.out.fr hS hn3).c3; go_simp; try exact rfl
                  simp only [Act.put, List.setIfInBounds_toArray, List.set_cons_zero, List.set_cons_succ, List.getElem_toArray, List.getElem_cons_zero]
                  refine wpAnyH_take (i := 1) (v := ?_) rfl (by kernel_rfl) (by kernel_rfl) (by kernel_rfl) (fun _ _ _ h => h) (Or.inl ⟨by rfl, fun wS hS => ?_⟩) hH0 ?_
                  rotate_left
                  · obtain ⟨t0, t1, t2⟩ := (KW.out.fr hS hn3).c3; go_simp; try exact rfl
                  simp only [Act.put, List.setIfInBounds_toArray, List.set_cons_zero, List.set_cons_succ, List.getElem_toArray, List.getElem_cons_zero, List.getElem_cons_succ]
                  refine wpAnyH_take (i := 2) (v := ?_) rfl (by kernel_rfl) (by kernel_rfl) (by kernel_rfl) (fun _ _ _ h => h) (Or.inl ⟨by rfl, fun wS hS => ?_⟩) hH0 ?_
                  rotate_left
                  · obtain ⟨t0, t1, t2⟩ := (KW.out.fr hS hn3).c3; go_simp; try exact rfl
                  simp only [Act.put, List.setIfInBounds_toArray, List.set_cons_zero, List.set_cons_succ, List.getElem_toArray, List.getElem_cons_zero, List.getElem_cons_succ]
                  refine wpAnyH_take (i := 3) (v := ?_) rfl (by kernel_rfl) (by kernel_rfl) (by kernel_rfl) (fun _ _ _ h => h) (Or.inl ⟨by rfl, fun wS hS => ?_⟩) hH0 ?_
                  rotate_left
                  · obtain ⟨t0, t1, t2⟩ := (KW.out.fr hS hn3).c3; go_simp; try exact rfl
                  simp only [Act.put, List.setIfInBounds_toArray, List.set_cons_zero, List.set_cons_succ, List.getElem_toArray, List.getElem_cons_zero, List.getElem_cons_succ]
                  refine wpAnyH_ready (rs := [4]) (by kernel_rfl) (by simp) (AllReadyH.cons rfl (fun K hK => ?_) (AllReadyH.nil))
                  go_simp
                  go_at_call 73
                  refine (pick_any R (q) 2 _ HR.out (by omega) (by omega) (by omega)).mono ?_; rintro r x1 ⟨a, rfl, a0, a1, _, hr, hf⟩
                  have a2 := a1 (by omega)
                  obtain ⟨a, rfl⟩ : ∃ k : Nat, a = (k : Int) := ⟨a.toNat, by omega⟩
                  clear a1
                  have HD := hide (HD.out.call hf hr)
                  have HR := hide hr
                  have aw : IntKind.i64.wrap (120 + (a : Int)) = 120 + (a : Int) := by rw [IntKind.wrap_i64]; omega
                  have HF := hide hf
                  clear hr hf
                  refine hK.out _ _ (hH0.trans HF.out) (fun hH1 => ?_)
                  clear hK K
                  try simp only [Act.put]
                  refine wpAnyH_take (i := 5) (v := ?_) rfl (by kernel_rfl) (by kernel_rfl) (by kernel_rfl) (fun _ _ _ h => h) (Or.inl ⟨by rfl, fun wS hS => ?_⟩) hH1 ?_
                  rotate_left
                  · obtain ⟨t0, t1, t2⟩ := (KW.out.fr hS hn3).c3; go_simp; try exact rfl
                  simp only [Act.put, List.setIfInBounds_toArray, List.set_cons_zero, List.set_cons_succ, List.getElem_toArray, List.getElem_cons_zero, List.getElem_cons_succ]
                  refine wpAnyH_take (i := 6) (v := ?_) rfl (by kernel_rfl) (by kernel_rfl) (by kernel_rfl) (fun _ _ _ h => h) (Or.inl ⟨by rfl, fun wS hS => ?_⟩) hH1 ?_
                  rotate_left
                  · obtain ⟨t0, t1, t2⟩ := (KW.out.fr hS hn3).c3; go_simp; try exact rfl
                  simp only [Act.put, List.setIfInBounds_toArray, List.set_cons_zero, List.set_cons_succ, List.getElem_toArray, List.getElem_cons_zero, List.getElem_cons_succ]
                  refine wpAnyH_done (by kernel_rfl) ?_ _
                  by_cases hl : (n : Int) < 120 + (a : Int)
                  · obtain ⟨z2, ⟨b2', c', hV⟩, ho, hnn⟩ := HD.out.own
                    simp only [Value.slice.injEq, Option.some.injEq, Addr.mk.injEq, and_true] at hV
                    obtain ⟨rfl, rfl, rfl⟩ := hV
                    have HO := hide ho
                    obtain ⟨t0, t1, t2⟩ := HD.out.k3.c3
                    clear ho
                    go_wp2_with (at_builtin; refine wpList_app_wait (base := w.heap.size) (by rfl) _ _ (by rfl) (by rfl) (by rfl) (HO.out.alloc _) (Bk.fresh _ _ _) (by omega) (by have := HD.out.fr.size; simp; omega) ?_; intro b2'' c'' x3 ho' hf; have HD2 := hide ((HD.out.alloc _).app (HO.out.alloc _) (Nat.le_refl _) rfl ho' hf); clear ho' hf; obtain ⟨s0, s1, s2⟩ := HD2.out.k3.c3; have f1 := HD2.out.k3.frozen 1)
                    go_roundw
                    case rel => exact ⟨z2.length + 1, by omega, hide ⟨_, _, _, HD2.out.store.more (by omega) (by omega)⟩⟩
                    case measure =>
                      have e1 := HD2.out.store.len_
                      have e2 := HLN.out
                      omega
                  · obtain ⟨t0, t1, t2⟩ := HD.out.k3.c3
                    go_wp2_with fail
                    go_meet
                    exact ⟨rfl, hide (HD.out.x (by omega) (by omega))⟩
              · have z0 : (v == 0) = false := by rw [beq_eq_false_iff_ne]; exact e0
                have z1 : (v == 1) = false := by rw [beq_eq_false_iff_ne]; exact e1
                have z2 : (v == 2) = false := by rw [beq_eq_false_iff_ne]; exact e2
                have z3 : (v == 3) = false := by rw [beq_eq_false_iff_ne]; exact e3
                have z4 : (v == 4) = false := by rw [beq_eq_false_iff_ne]; exact e4
                go_wp2_with fail
                go_meet
                exact ⟨rfl, hide (HD.out.x (by omega) (by omega))⟩
            clear HD HR
            obtain ⟨rfl, hcut⟩ := hcut
            obtain ⟨b1, o1, n1, c1, b2, n2, c2, g, hO⟩ := hcut.out
            have HO := hide hO
            clear hO hcut
            obtain ⟨s0, s1, s2⟩ := HO.out.k3.c3
            obtain ⟨q0, q1, q2⟩ := HO.out.k2.c3
            have f0 := HO.out.k2.frozen 0
            have f1 := HO.out.k2.frozen 1
            have f2 := HO.out.k2.frozen 2
            have P3 := hide (put3 HO.out.k2 (.slice (some ⟨b1, o1, none⟩) n1 c1) (.slice (some ⟨b2, 0, none⟩) n2 c2) (.bool g))
            have PF := hide (fr3 HO.out.fr (.inr HO.out.h2) (.slice (some ⟨b1, o1, none⟩) n1 c1) (.slice (some ⟨b2, 0, none⟩) n2 c2) (.bool g))
            have PG := hide (fr3 (Fr.refl (fun b => b = g2) wc) (.inl rfl) (.slice (some ⟨b1, o1, none⟩) n1 c1) (.slice (some ⟨b2, 0, none⟩) n2 c2) (.bool g))
            go_wp2_with fail
            clear q0 q1 q2 f0 f1 f2 s0 s1 s2
            obtain ⟨X, hX⟩ : ∃ X : World, X = ((wc.setCell ⟨g2, 0, none⟩ (.slice (some ⟨b1, o1, none⟩) n1 c1)).setCell ⟨g2, 1, none⟩ (.slice (some ⟨b2, 0, none⟩) n2 c2)).setCell ⟨g2, 2, none⟩ (.bool g) := ⟨_, rfl⟩
            rw [← hX] at P3 PF PG
            rw [← hX]
            clear hX
            obtain ⟨r0, r1, r2⟩ := P3.out.c3
            refine bodyPost_ret (v := .agg #[.slice (some ⟨b1, o1, none⟩) n1 c1, .slice (some ⟨b2, 0, none⟩) n2 c2, .bool g]) (by simp [results, Try.results79, go_sem, r0, r1, r2]) rfl ?_
            obtain ⟨z1, hz1⟩ := HO.out.row
            obtain ⟨z2, hz2⟩ := HO.out.own
            obtain ⟨q, hq, hr⟩ := HO.out.rd
            have hR2 := HO.out.hR
            have hg2 := HO.out.h2
            exact ⟨b1, o1, n1, c1, b2, n2, c2, g, z1, z2, q, rfl, HO.out.n1, HO.out.n2, HO.out.b1.1, HO.out.b2.1, Nat.lt_of_lt_of_le HO.out.b1.2.1 PG.out.size, Nat.lt_of_lt_of_le HO.out.b2.2.1 PG.out.size, hz1.fr1 PG.out HO.out.b1.2.2, hz2.fr1 PG.out HO.out.b2.2.2, by omega, hr.fr PG.out (fun b hb => by omega), PF.out⟩
end Go.Proofs.Ytcaoekaephnimaa
