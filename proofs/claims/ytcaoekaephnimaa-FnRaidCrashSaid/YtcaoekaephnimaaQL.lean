/- The draw of a raid. -/
import Derived.Test.YtcaoekaephnimaaQB
import Derived.Test.YtcaoekaephnimaaQS
import Derived.Test.YtcaoekaephnimaaQT
namespace Go.Proofs.Ytcaoekaephnimaa
open Go.RowKit
set_option linter.unusedVariables false
set_option maxRecDepth 100000

/-- a drawn raid -/
def RaidPost (R p : Nat) (w : World) (r : Ending) (w' : World) : Prop :=
  ∃ (A : Option Addr) (n c : Nat) (V5 : Value) (es : List DV) (q : Nat), r = .returned (.tuple #[.agg #[.slice A n c], V5]) ∧ RDn w.heap.size w' A n es ∧ q ≤ p + 2000 ∧ Rdr w' R q ∧ Fr (· = R) w w'
theorem CopR.gr {B : Nat} {w : World} {V : Value} {ds : List DV} (h : CopR B w V ds) (hl : ds.length = 3) (hg : ∀ d ∈ ds, d.Good 0) : ∃ g c, V = .slice (some ⟨g, 0, none⟩) 3 c ∧ GR B 0 w g c 3 ds := by
  obtain ⟨g, c, cs, rfl, h1, h2, h3, h4, h5⟩ := h.pl (by omega)
  rw [hl] at h1 h3 ⊢
  exact ⟨g, c, rfl, ⟨⟨cs, h1, h2⟩, h3, h4, h5, fun d hd => ⟨h.each d hd, hg d hd⟩, h.apart⟩⟩
theorem GR.low {B B' K : Nat} {w : World} {g c n : Nat} {es : List DV} (h : GR B K w g c n es) (hB : B' ≤ B) : GR B' K w g c n es :=
  ⟨h.pl, h.nc, h.cm, Nat.le_trans hB h.base, fun d hd => ⟨(h.each d hd).1.mono hB, (h.each d hd).2⟩, h.apart⟩
theorem GR.lt_ {B K : Nat} {w : World} {g c n i : Nat} {es : List DV} (h : GR B K w g c n es) (hi : MB g es i) : i < w.heap.size := by
  rcases hi with rfl | ⟨d, hd, rfl⟩
  · obtain ⟨x, hx, _⟩ := h.pl
    exact hx.1.lt
  · exact (h.each d hd).1.r1.lt
set_option maxHeartbeats 8000000 in
theorem l91Raid_any (R p : Nat) (w : World) (hr : Rdr w R p) (hp : p ≤ 90000) :
    Calls Try.prog 52 #[.pointer (some ⟨R, 0, none⟩)] w (RaidPost R p w) := by
  have hb0 := bel1 w (.cells #[.slice none 0 0] 24)
  have K2 := hide (Bk.fresh w 24 #[.slice none 0 0])
  have HR := hide (hr.after hb0)
  have HRL := hide hr.lt
  have HB := hide hb0
  clear hr hb0
  go_enter Try.func52, Try.ntmps52
  go_wp2_with fail
  refine (specRaidNewM _).mono ?_; rintro r w1 ⟨V, ds, rfl, hl, hcop, hgood, hb⟩
  obtain ⟨g, c, rfl, hgr⟩ := hcop.gr hl hgood
  have hb4 := bel1 w1 (.cells #[.slice (some ⟨g, 0, none⟩) 3 c] 24)
  have hb5 := bel1 (w1.alloc (.cells #[.slice (some ⟨g, 0, none⟩) 3 c] 24)) (.cells #[] 95)
  have HK0 := hide ((K2.out.after hb).after hb4)
  have HS1 := hide (show w.heap.size ≤ w1.heap.size from Nat.le_trans HB.out.size hb.size)
  have ho : ((w1.alloc (.cells #[.slice (some ⟨g, 0, none⟩) 3 c] 24)).alloc (.cells #[] 95)).ownsRow w.heap.size 95 5 (.slice (some ⟨w1.heap.size + 1, 0, none⟩) 0 0) 0 [] :=
    ⟨rfl, .inr ⟨w1.heap.size + 1, 0, #[], rfl, by have := HS1.out; omega, (Bk.fresh _ _ _).at_ (by simp), Nat.le_refl _, by simp [maxLen], rfl, rfl⟩⟩
  have RS0 := hide (show RS w R w.heap.size w1.heap.size g c 0 p 0 (.slice (some ⟨w1.heap.size + 1, 0, none⟩) 0 0) ds ((w1.alloc (.cells #[.slice (some ⟨g, 0, none⟩) 3 c] 24)).alloc (.cells #[] 95)) from
    ⟨(((hgr.low (by simp)).after hb4).after hb5), HK0.out.after hb5, (Bk.fresh _ _ _).after hb5, ⟨[], ho, fun h => absurd h (by omega)⟩, ((HR.out.after hb).after hb4).after hb5, HRL.out, (((Fr.of_below _ (HB.out.trans (hb.mono HB.out.size))).trans (Fr.of_below _ hb4)).trans (Fr.of_below _ hb5))⟩)
  clear hb hb4 hb5 ho hcop hgood hgr hl K2 HB HK0
  go_wp2_with fail
  refine (pick_any R p 5 _ RS0.out.rd (by omega) (by omega) (by omega)).mono ?_; rintro r w2 ⟨v, rfl, v0, v1, _, hr, hf⟩
  have v2 := v1 (by omega)
  have RS1 := hide (RS0.out.read hr hf (Nat.le_refl _) HS1.out)
  clear hr hf v1 RS0
  obtain ⟨T, hT⟩ : ∃ T : Nat, (1 : Int) + v = (T : Int) := ⟨(1 + v).toNat, by omega⟩
  have HT5 := hide (show T ≤ 5 ∧ 1 ≤ T by omega)
  obtain rfl : v = (T : Int) - 1 := by omega
  have e1 : (1 : Int) + ((T : Int) - 1) = (T : Int) := by omega
  have hT6 : T ≤ 5 := by omega
  clear hT v0 v2
  go_wp2_with fail
  go_loopw [5, 6] (fun V5 i wr => ∃ (K q m j : Nat) (es : List DV), i = .int .i64 j ∧ Hid (j + m = T ∧ K ≤ m ∧ q ≤ p + 1 + 100 * m) ∧ Hid (RS w R w.heap.size w1.heap.size g c K q m V5 es wr)) (fun _ i _ => (intOf i).toNat)
  case atStart => exact ⟨0, p + 1, 0, T, ds, by first | rfl | exact int_eq (by omega), hide ⟨rfl, Nat.le_refl _, by omega⟩, RS1⟩
  case round =>
    clear RS1
    obtain ⟨Kn, q, m, j, es, rfl, HJ, HS⟩ := hrel
    by_cases hj : 0 < j
    · have hj0 : decide (0 < j) = true := decide_eq_true hj
      have hjT : j ≤ 5 := by have := HJ.out; omega
      have hqb : q ≤ 110000 := by have := HJ.out; omega
      go_wp2_with fail
      refine (l91Text_any R q 20 _ HS.out.rd (by omega) (by decide)).mono ?_; rintro r w3 ⟨out, q2, rfl, hlo, hq2, hr, hf⟩
      have HS := hide (HS.out.read hr hf (Nat.le_refl _) HS1.out)
      obtain ⟨X, hX⟩ : ∃ X : ByteArray, X = ⟨out.toArray⟩ := ⟨_, rfl⟩
      have HXL := hide (show X.size ≤ 20 by rw [hX]; show out.toArray.size ≤ 20; rw [List.size_toArray]; exact hlo)
      have HQ2 := hide hq2
      rw [← hX]
      clear hX hlo hr hf hq2
      obtain ⟨Y, hY⟩ : ∃ Y : ByteArray, (⟨#[98]⟩ : ByteArray) ++ X = Y := ⟨_, rfl⟩
      have hYs : Y.size = 1 + X.size := by rw [← hY]; exact ByteArray.size_append
      have HYL := hide (show Y.size ≤ 21 by have := HXL.out; omega)
      have hc : ¬ 9223372036854775807 < (⟨#[98]⟩ : ByteArray).size + X.size := by have := HXL.out; show ¬ 9223372036854775807 < 1 + X.size; omega
      clear hYs
      go_wp2_with fail
      refine (pick_any R q2 9 _ HS.out.rd (by have := HQ2.out; omega) (by omega) (by omega)).mono ?_; rintro r w4 ⟨a, rfl, a0, a1, _, hr, hf⟩
      have HS := hide (HS.out.read hr hf (Nat.le_refl _) HS1.out)
      have a2 := a1 (by omega)
      clear hr hf a1 hc
      obtain ⟨n8, hn8⟩ : ∃ n8 : Nat, a = (n8 : Int) := ⟨a.toNat, by omega⟩
      subst hn8
      go_wp2_with fail
      refine (pick_any R (q2 + 1) 9 _ HS.out.rd (by have := HQ2.out; omega) (by omega) (by omega)).mono ?_; rintro r w5 ⟨b, rfl, b0, b1, _, hr, hf⟩
      have HS := hide (HS.out.read hr hf (Nat.le_refl _) HS1.out)
      have b2 := b1 (by omega)
      clear hr hf b1
      go_wp2_with fail
      refine (pick_any R (q2 + 1 + 1) 3 _ HS.out.rd (by have := HQ2.out; omega) (by omega) (by omega)).mono ?_; rintro r w6 ⟨d, rfl, d0, d1, _, hr, hf⟩
      have HS := hide (HS.out.read hr hf (Nat.le_refl _) HS1.out)
      have d2 := d1 (by omega)
      clear hr hf d1
      go_wp2_with fail
      refine (specPtrOf_any _ _ _ _ (by have := HYL.out; unfold maxLen; omega) _).mono ?_; rintro r w7 ⟨rfl, hb⟩
      have HS := hide (HS.out.after hb)
      obtain ⟨p1, p2, p3, p4, p5, hP, hp1⟩ : ∃ (p1 : Nat) (p2 p3 p4 p5 : Int), (if ofB (8 + (n8 : Int)) (1 + b) d Y = true then #[Value.int .i64 (8 + (n8 : Int)), .int .i64 (1 + b), .int .i64 (Y.size : Int), .int .i64 (sumOf Y.data.toList), .int .i64 d] else #[Value.int .i64 0, .int .i64 0, .int .i64 0, .int .i64 0, .int .i64 0]) = #[Value.int .i64 (p1 : Int), .int .i64 p2, .int .i64 p3, .int .i64 p4, .int .i64 p5] ∧ p1 < 64 := by
        split
        · exact ⟨8 + n8, _, _, _, _, by rw [show ((8 + n8 : Nat) : Int) = 8 + (n8 : Int) by omega], by omega⟩
        · exact ⟨0, 0, 0, 0, 0, rfl, by omega⟩
      rw [hP]
      have HP1 := hide hp1
      clear hP hp1 hb
      obtain ⟨u, hu⟩ : ∃ u, ofB (8 + (n8 : Int)) (1 + b) d Y = u := ⟨_, rfl⟩
      rw [hu]
      clear hu
      have hbp := bel1 w7 (.cells #[.int .i64 (p1 : Int), .int .i64 p2, .int .i64 p3, .int .i64 p4, .int .i64 p5] 95)
      have K9 := hide (Bk.fresh w7 95 #[.int .i64 (p1 : Int), .int .i64 p2, .int .i64 p3, .int .i64 p4, .int .i64 p5])
      have HS := hide (HS.out.after hbp)
      clear hbp
      have HN8 := hide (show inR (8 + (n8 : Int)) 0 63 = true by simp only [inR, Bool.and_eq_true, decide_eq_true_eq]; omega)
      have HKK := hide (show Kn < 120 by have := HJ.out; omega)
      go_upto_region 9 with fail
      obtain ⟨wz, hwz⟩ : ∃ wz, wz = w7.alloc (.cells #[.int .i64 (p1 : Int), .int .i64 p2, .int .i64 p3, .int .i64 p4, .int .i64 p5] 95) := ⟨_, rfl⟩
      rw [← hwz] at HS K9
      rw [← hwz]
      clear hwz
      have HS := hide (HS.out.after (Below.refl wz.heap.size wz).drew)
      have K9 := hide (K9.out.after (Below.refl wz.heap.size wz).drew)
      have HH0 := hide (show Bk wz.drew w1.heap.size 24 #[.slice (some ⟨g, 0, none⟩) 3 c] from HS.out.k4)
      refine wp_region_held_drew (S := fun x => Bk x w1.heap.size 24 #[.slice (some ⟨g, 0, none⟩) 3 c]) (by kernel_rfl) (HH0.out) (fun hH0 => ?_)
      refine wpAnyH_take (i := 0) (v := ?_) rfl (by kernel_rfl) (by kernel_rfl) (by kernel_rfl) (fun _ _ _ h => h) (Or.inl ⟨by rfl, fun wS hS => ?_⟩) hH0 ?_
      rotate_left
      · have s0 := Bk.c1 hS; go_simp; try exact rfl
      simp only [Act.put, List.setIfInBounds_toArray, List.set_cons_zero, List.set_cons_succ, List.getElem_toArray, List.getElem_cons_zero]
      refine wpAnyH_take (i := 1) (v := ?_) rfl (by kernel_rfl) (by kernel_rfl) (by kernel_rfl) (fun _ _ _ h => h) (Or.inl ⟨by rfl, fun wS hS => ?_⟩) hH0 ?_
      rotate_left
      · have s0 := Bk.c1 hS; go_simp; try exact rfl
      simp only [Act.put, List.setIfInBounds_toArray, List.set_cons_zero, List.set_cons_succ, List.getElem_toArray, List.getElem_cons_zero, List.getElem_cons_succ]
      refine wpAnyH_take (i := 2) (v := ?_) rfl (by kernel_rfl) (by kernel_rfl) (by kernel_rfl) (fun _ _ _ h => h) (Or.inl ⟨by rfl, fun wS hS => ?_⟩) hH0 ?_
      rotate_left
      · have s0 := Bk.c1 hS; go_simp; try exact rfl
      simp only [Act.put, List.setIfInBounds_toArray, List.set_cons_zero, List.set_cons_succ, List.getElem_toArray, List.getElem_cons_zero, List.getElem_cons_succ]
      refine wpAnyH_ready (rs := [3, 4]) (by kernel_rfl) (by simp) (AllReadyH.cons rfl (fun K hK => ?_) (AllReadyH.cons rfl (fun K hK => ?_) (AllReadyH.nil)))
      · go_simp
        go_at_call 77
        refine (l4Cut_any Y (by have := HYL.out; omega) _).mono ?_; rintro r xc ⟨AC, rfl, gq, rfl, hgq, hkq, hb⟩
        have HKQ := hide hkq
        have HGQ := hide (show ¬ MB g es gq from fun hm => Nat.lt_irrefl _ (Nat.lt_of_lt_of_le (HS.out.gr.lt_ hm) hgq))
        have HS := hide (HS.out.after hb)
        have K9 := hide (K9.out.after hb)
        refine hK.out _ _ (hH0.after hb) (fun hH1 => ?_)
        clear hK K
        try simp only [Act.put]
        clear hb hkq hgq
        refine wpAnyH_ready (rs := [4]) (by kernel_rfl) (by simp) (AllReadyH.cons rfl (fun K hK => ?_) (AllReadyH.nil))
        go_simp
        refine hK.out _ _ (hH1.after (bel1 _ (.cells #[.bool true, .bool true, .bool true] 4))) (fun hH2 => ?_)
        clear hK K
        try simp only [Act.put]
        have hb := bel1 xc (.cells #[.bool true, .bool true, .bool true] 4)
        have KB := hide ((Bk.fresh xc 4 #[.bool true, .bool true, .bool true]).at_ (g' := xc.heap.size) rfl)
        have HS := hide (HS.out.after hb)
        have K9 := hide (K9.out.after hb)
        have HKQ := hide (HKQ.out.after hb)
        clear hb
        refine wpAnyH_ready (rs := [5]) (by kernel_rfl) (by simp) (AllReadyH.cons rfl (fun K hK => ?_) (AllReadyH.nil))
        obtain ⟨X1, X2, eX, _, hx1, hx2, hx3, _⟩ := cut_parts Y
        have HCT := hide (show (cutT Y).length = 3 by rw [eX]; rfl)
        have HSS := hide (show ∀ s ∈ cutT Y, s.size ≤ 200 from fun s hs => by have := HYL.out; rw [eX] at hs; simp only [List.mem_cons, List.not_mem_nil, or_false] at hs; rcases hs with rfl | rfl | rfl <;> omega)
        have HRP := hide (show Rd _ 1 (some ⟨gq, 0, none⟩) 3 ((cutT Y).map Value.string) by have h := HKQ.out.rdT; rw [HCT.out] at h; exact h)
        have HRB := hide (show Rd _ 1 (some ⟨_, 0, none⟩) 3 ((List.replicate 3 true).map Value.bool) from KB.out.rd (by decide) (fun j u hu => by rw [List.getElem?_toArray]; exact hu))
        have HBN := hide (HS.out.gr.not KB.out (by decide) (by decide))
        clear eX hx1 hx2 hx3
        go_simp
        go_at_call 76
        rw [HCT.out]
        refine (l4PutM w.heap.size Kn g 3 c es (8 + (n8 : Int)) _ _ 3 3 3 3 (cutT Y) _ HS.out.gr HS.out.fr.size (by omega) HRP.out HSS.out (by omega) HRB.out (by omega) HN8.out HKK.out (fun s hs => by unfold waitB; simp only [HN8.out, hs, decide_true, Bool.and_self]) (fun b o e => by cases e; exact HGQ.out) (fun b o e => by cases e; exact HBN.out)).mono ?_; rintro r xp ⟨es2, rfl, hg2, hf2, hm2⟩
        have K9 := hide (K9.out.fr hf2 (HS.out.gr.not K9.out (by decide) (by decide)))
        have HS := hide (HS.out.step hg2 hf2)
        refine hK.out _ _ (HS.out.k4) (fun hH3 => ?_)
        clear hK K
        try simp only [Act.put]
        clear hg2 hf2 hm2 HKQ HGQ HCT HSS HRP HRB HBN KB
        refine wpAnyH_take (i := 6) (v := ?_) rfl (by kernel_rfl) (by kernel_rfl) (by kernel_rfl) (fun _ _ _ h => h) (Or.inl ⟨by rfl, fun wS hS => ?_⟩) hH3 ?_
        rotate_left
        · have s0 := Bk.c1 hS; go_simp; try exact rfl
        simp only [Act.put, List.setIfInBounds_toArray, List.set_cons_zero, List.set_cons_succ, List.getElem_toArray, List.getElem_cons_zero, List.getElem_cons_succ]
        refine wpAnyH_take (i := 7) (v := ?_) rfl (by kernel_rfl) (by kernel_rfl) (by kernel_rfl) (fun _ _ _ h => h) (Or.inl ⟨by rfl, fun wS hS => ?_⟩) hH3 ?_
        rotate_left
        · have s0 := Bk.c1 hS; go_simp; try exact rfl
        simp only [Act.put, List.setIfInBounds_toArray, List.set_cons_zero, List.set_cons_succ, List.getElem_toArray, List.getElem_cons_zero, List.getElem_cons_succ]
        refine wpAnyH_take (i := 8) (v := ?_) rfl (by kernel_rfl) (by kernel_rfl) (by kernel_rfl) (fun _ _ _ h => h) (Or.inl ⟨by rfl, fun wS hS => ?_⟩) hH3 ?_
        rotate_left
        · have s0 := Bk.c1 hS; go_simp; try exact rfl
        simp only [Act.put, List.setIfInBounds_toArray, List.set_cons_zero, List.set_cons_succ, List.getElem_toArray, List.getElem_cons_zero, List.getElem_cons_succ]
        refine wpAnyH_ready (rs := [9]) (by kernel_rfl) (by simp) (AllReadyH.cons rfl (fun K hK => ?_) (AllReadyH.nil))
        have s0 := HS.out.k4.c1
        have f0 := HS.out.k4.frozen 0
        go_simp
        refine hK.out _ _ (HS.out.k4.put 0 _) (fun hH4 => ?_)
        clear hK K
        try simp only [Act.put]
        have KN := hide (K9.out.ne_type HS.out.k4 (by decide))
        have K9 := hide (K9.out.far (p := ⟨w1.heap.size, 0, none⟩) KN.out (.slice (some ⟨g, 0, none⟩) 3 c))
        have HS := hide (HS.out.box HS1.out)
        clear s0 f0
        refine wpAnyH_done (by kernel_rfl) ?_ _
        obtain ⟨xw, hxw⟩ : ∃ xw, xw = xp.setCell ⟨w1.heap.size, 0, none⟩ (.slice (some ⟨g, 0, none⟩) 3 c) := ⟨_, rfl⟩
        rw [← hxw] at HS K9
        rw [← hxw]
        clear hxw hH4
        obtain ⟨a0, a1, a2, a3, a4⟩ := K9.out.c5
        have HM := hide (show m ≤ 1000 by have := HJ.out; omega)
        go_wp2_with (at_builtin; refine wpList_app_ptr5 (by rfl) _ _ (by rfl) (by rfl) (by rfl) (HS.out.r5.after (bel1 _ _)) (Bk.fresh _ _ _) HP1.out HM.out (by have := HS.out.fr.size; simp; omega) ?_; intro V' x9 hr5 hf5; have HS := hide ((HS.out.after (bel1 _ _)).app hr5 hf5); clear hr5 hf5 a0 a1 a2 a3 a4)
        refine (pick_any R (q2 + 1 + 1 + 1) 3 _ HS.out.rd (by have := HQ2.out; omega) (by omega) (by omega)).mono ?_; rintro r xe ⟨z, rfl, z0, z1, _, hr, hf⟩
        have HS := hide (HS.out.read hr hf (Nat.le_refl _) HS1.out)
        clear hr hf z1
        by_cases hz : z = 0
        · subst hz
          have s0 := HS.out.k4.c1
          have f0 := HS.out.k4.frozen 0
          go_wp2_with fail
          refine (l4FlushM w.heap.size (Kn + 1) g 3 c es2 _ HS.out.gr HS.out.fr.size (by omega)).mono ?_; rintro r xf ⟨es3, rfl, hg3, hf3, hm3⟩
          have HS := hide (HS.out.step hg3 hf3)
          clear hg3 hf3 hm3 s0 f0
          have s0 := HS.out.k4.c1
          have f0 := HS.out.k4.frozen 0
          have HS := hide (HS.out.box HS1.out)
          go_wp2_with fail
          refine ⟨⟨Kn + 1, _, m + 1, j - 1, es3, int_eq (by omega), hide (by have h1 := HJ.out; have h2 := HQ2.out; omega), HS⟩, ?_⟩
          simp [intOf]; omega
        · go_wp2_with fail
          refine ⟨⟨Kn + 1, _, m + 1, j - 1, es2, int_eq (by omega), hide (by have h1 := HJ.out; have h2 := HQ2.out; omega), HS⟩, ?_⟩
          simp [intOf]; omega
      · go_simp
        refine hK.out _ _ (hH0.after (bel1 _ (.cells #[.bool true, .bool true, .bool true] 4))) (fun hH1 => ?_)
        clear hK K
        try simp only [Act.put]
        have hb := bel1 wz.drew (.cells #[.bool true, .bool true, .bool true] 4)
        have KB := hide ((Bk.fresh wz.drew 4 #[.bool true, .bool true, .bool true]).at_ (g' := wz.heap.size) rfl)
        have HS := hide (HS.out.after hb)
        have K9 := hide (K9.out.after hb)
        clear hb
        refine wpAnyH_ready (rs := [3]) (by kernel_rfl) (by simp) (AllReadyH.cons rfl (fun K hK => ?_) (AllReadyH.nil))
        go_simp
        go_at_call 77
        refine (l4Cut_any Y (by have := HYL.out; omega) _).mono ?_; rintro r xc ⟨AC, rfl, gq, rfl, hgq, hkq, hb⟩
        have HKQ := hide hkq
        have HGQ := hide (show ¬ MB g es gq from fun hm => Nat.lt_irrefl _ (Nat.lt_of_lt_of_le (HS.out.gr.lt_ hm) hgq))
        have HS := hide (HS.out.after hb)
        have K9 := hide (K9.out.after hb)
        have KB := hide (KB.out.after hb)
        refine hK.out _ _ (hH1.after hb) (fun hH2 => ?_)
        clear hK K
        try simp only [Act.put]
        clear hb hkq hgq
        refine wpAnyH_ready (rs := [5]) (by kernel_rfl) (by simp) (AllReadyH.cons rfl (fun K hK => ?_) (AllReadyH.nil))
        obtain ⟨X1, X2, eX, _, hx1, hx2, hx3, _⟩ := cut_parts Y
        have HCT := hide (show (cutT Y).length = 3 by rw [eX]; rfl)
        have HSS := hide (show ∀ s ∈ cutT Y, s.size ≤ 200 from fun s hs => by have := HYL.out; rw [eX] at hs; simp only [List.mem_cons, List.not_mem_nil, or_false] at hs; rcases hs with rfl | rfl | rfl <;> omega)
        have HRP := hide (show Rd _ 1 (some ⟨gq, 0, none⟩) 3 ((cutT Y).map Value.string) by have h := HKQ.out.rdT; rw [HCT.out] at h; exact h)
        have HRB := hide (show Rd _ 1 (some ⟨_, 0, none⟩) 3 ((List.replicate 3 true).map Value.bool) from KB.out.rd (by decide) (fun j u hu => by rw [List.getElem?_toArray]; exact hu))
        have HBN := hide (HS.out.gr.not KB.out (by decide) (by decide))
        clear eX hx1 hx2 hx3
        go_simp
        go_at_call 76
        rw [HCT.out]
        refine (l4PutM w.heap.size Kn g 3 c es (8 + (n8 : Int)) _ _ 3 3 3 3 (cutT Y) _ HS.out.gr HS.out.fr.size (by omega) HRP.out HSS.out (by omega) HRB.out (by omega) HN8.out HKK.out (fun s hs => by unfold waitB; simp only [HN8.out, hs, decide_true, Bool.and_self]) (fun b o e => by cases e; exact HGQ.out) (fun b o e => by cases e; exact HBN.out)).mono ?_; rintro r xp ⟨es2, rfl, hg2, hf2, hm2⟩
        have K9 := hide (K9.out.fr hf2 (HS.out.gr.not K9.out (by decide) (by decide)))
        have HS := hide (HS.out.step hg2 hf2)
        refine hK.out _ _ (HS.out.k4) (fun hH3 => ?_)
        clear hK K
        try simp only [Act.put]
        clear hg2 hf2 hm2 HKQ HGQ HCT HSS HRP HRB HBN KB
        refine wpAnyH_take (i := 6) (v := ?_) rfl (by kernel_rfl) (by kernel_rfl) (by kernel_rfl) (fun _ _ _ h => h) (Or.inl ⟨by rfl, fun wS hS => ?_⟩) hH3 ?_
        rotate_left
        · have s0 := Bk.c1 hS; go_simp; try exact rfl
        simp only [Act.put, List.setIfInBounds_toArray, List.set_cons_zero, List.set_cons_succ, List.getElem_toArray, List.getElem_cons_zero, List.getElem_cons_succ]
        refine wpAnyH_take (i := 7) (v := ?_) rfl (by kernel_rfl) (by kernel_rfl) (by kernel_rfl) (fun _ _ _ h => h) (Or.inl ⟨by rfl, fun wS hS => ?_⟩) hH3 ?_
        rotate_left
        · have s0 := Bk.c1 hS; go_simp; try exact rfl
        simp only [Act.put, List.setIfInBounds_toArray, List.set_cons_zero, List.set_cons_succ, List.getElem_toArray, List.getElem_cons_zero, List.getElem_cons_succ]
        refine wpAnyH_take (i := 8) (v := ?_) rfl (by kernel_rfl) (by kernel_rfl) (by kernel_rfl) (fun _ _ _ h => h) (Or.inl ⟨by rfl, fun wS hS => ?_⟩) hH3 ?_
        rotate_left
        · have s0 := Bk.c1 hS; go_simp; try exact rfl
        simp only [Act.put, List.setIfInBounds_toArray, List.set_cons_zero, List.set_cons_succ, List.getElem_toArray, List.getElem_cons_zero, List.getElem_cons_succ]
        refine wpAnyH_ready (rs := [9]) (by kernel_rfl) (by simp) (AllReadyH.cons rfl (fun K hK => ?_) (AllReadyH.nil))
        have s0 := HS.out.k4.c1
        have f0 := HS.out.k4.frozen 0
        go_simp
        refine hK.out _ _ (HS.out.k4.put 0 _) (fun hH4 => ?_)
        clear hK K
        try simp only [Act.put]
        have KN := hide (K9.out.ne_type HS.out.k4 (by decide))
        have K9 := hide (K9.out.far (p := ⟨w1.heap.size, 0, none⟩) KN.out (.slice (some ⟨g, 0, none⟩) 3 c))
        have HS := hide (HS.out.box HS1.out)
        clear s0 f0
        refine wpAnyH_done (by kernel_rfl) ?_ _
        obtain ⟨xw, hxw⟩ : ∃ xw, xw = xp.setCell ⟨w1.heap.size, 0, none⟩ (.slice (some ⟨g, 0, none⟩) 3 c) := ⟨_, rfl⟩
        rw [← hxw] at HS K9
        rw [← hxw]
        clear hxw hH4
        obtain ⟨a0, a1, a2, a3, a4⟩ := K9.out.c5
        have HM := hide (show m ≤ 1000 by have := HJ.out; omega)
        go_wp2_with (at_builtin; refine wpList_app_ptr5 (by rfl) _ _ (by rfl) (by rfl) (by rfl) (HS.out.r5.after (bel1 _ _)) (Bk.fresh _ _ _) HP1.out HM.out (by have := HS.out.fr.size; simp; omega) ?_; intro V' x9 hr5 hf5; have HS := hide ((HS.out.after (bel1 _ _)).app hr5 hf5); clear hr5 hf5 a0 a1 a2 a3 a4)
        refine (pick_any R (q2 + 1 + 1 + 1) 3 _ HS.out.rd (by have := HQ2.out; omega) (by omega) (by omega)).mono ?_; rintro r xe ⟨z, rfl, z0, z1, _, hr, hf⟩
        have HS := hide (HS.out.read hr hf (Nat.le_refl _) HS1.out)
        clear hr hf z1
        by_cases hz : z = 0
        · subst hz
          have s0 := HS.out.k4.c1
          have f0 := HS.out.k4.frozen 0
          go_wp2_with fail
          refine (l4FlushM w.heap.size (Kn + 1) g 3 c es2 _ HS.out.gr HS.out.fr.size (by omega)).mono ?_; rintro r xf ⟨es3, rfl, hg3, hf3, hm3⟩
          have HS := hide (HS.out.step hg3 hf3)
          clear hg3 hf3 hm3 s0 f0
          have s0 := HS.out.k4.c1
          have f0 := HS.out.k4.frozen 0
          have HS := hide (HS.out.box HS1.out)
          go_wp2_with fail
          refine ⟨⟨Kn + 1, _, m + 1, j - 1, es3, int_eq (by omega), hide (by have h1 := HJ.out; have h2 := HQ2.out; omega), HS⟩, ?_⟩
          simp [intOf]; omega
        · go_wp2_with fail
          refine ⟨⟨Kn + 1, _, m + 1, j - 1, es2, int_eq (by omega), hide (by have h1 := HJ.out; have h2 := HQ2.out; omega), HS⟩, ?_⟩
          simp [intOf]; omega
    · obtain rfl : j = 0 := by omega
      have hm0 : 0 < m := by have := HJ.out; have := HT5.out; omega
      have hqb : q ≤ p + 501 := by have := HJ.out; omega
      have hKm : Kn ≤ 5 := by have := HJ.out; omega
      go_wp2_with fail
      refine (pick_any R q 4 _ HS.out.rd (by omega) (by omega) (by omega)).mono ?_; rintro r y0 ⟨v, rfl, v0, v1, _, hr, hf⟩
      have v2 := v1 (by omega)
      have HS := hide (HS.out.read hr hf (Nat.le_refl _) HS1.out)
      clear hr hf v1
      go_upto_block 2 with fail
      go_cut [5] (fun c5 wx => c5 = u5 ∧ Hid (∃ es q', q' ≤ q + 100 ∧ PS w R w.heap.size w1.heap.size g c q' es wx))
      case first =>
        have hvv : v = 0 ∨ v = 1 ∨ v = 2 ∨ (¬ v = 0 ∧ ¬ v = 1 ∧ ¬ v = 2) := by omega
        rcases hvv with rfl | rfl | rfl | ⟨e0, e1', e2⟩
        · go_wp2_with fail
          refine (pick_any R (q + 1) 3 _ HS.out.rd (by omega) (by omega) (by omega)).mono ?_; rintro r y1 ⟨k, rfl, k0, k1, _, hr, hf⟩
          have k2 := k1 (by omega)
          have HS := hide (HS.out.read hr hf (Nat.le_refl _) HS1.out)
          clear hr hf k1
          obtain ⟨k, rfl⟩ : ∃ k' : Nat, k = (k' : Int) := ⟨k.toNat, by omega⟩
          have i0 : (0 : Int) ≤ (k : Int) := by omega
          have i1 : (k : Int) < 3 := by omega
          have k2 : k < 3 := by omega
          have HP0 := hide ((HS.out.ps rfl).after (Below.refl _ _).drew (Nat.le_refl _) HS1.out)
          go_upto_region 16 with fail
          refine wp_region_held_drew (S := fun x => Bk x w1.heap.size 24 #[.slice (some ⟨g, 0, none⟩) 3 c]) (by kernel_rfl) (HP0.out.k4) (fun hH0 => ?_)
          refine wpAnyH_take (i := 0) (v := ?_) rfl (by kernel_rfl) (by kernel_rfl) (by kernel_rfl) (fun _ _ _ h => h) (Or.inl ⟨by rfl, fun wS hS => ?_⟩) hH0 ?_
          rotate_left
          · have s0 := Bk.c1 hS; go_simp; try exact rfl
          simp only [Act.put, List.setIfInBounds_toArray, List.set_cons_zero, List.set_cons_succ, List.getElem_toArray, List.getElem_cons_zero]
          refine wpAnyH_take (i := 1) (v := ?_) rfl (by kernel_rfl) (by kernel_rfl) (by kernel_rfl) (fun _ _ _ h => h) (Or.inl ⟨by rfl, fun wS hS => ?_⟩) hH0 ?_
          rotate_left
          · have s0 := Bk.c1 hS; go_simp; try exact rfl
          simp only [Act.put, List.setIfInBounds_toArray, List.set_cons_zero, List.set_cons_succ, List.getElem_toArray, List.getElem_cons_zero, List.getElem_cons_succ]
          refine wpAnyH_take (i := 2) (v := ?_) rfl (by kernel_rfl) (by kernel_rfl) (by kernel_rfl) (fun _ _ _ h => h) (Or.inl ⟨by rfl, fun wS hS => ?_⟩) hH0 ?_
          rotate_left
          · have s0 := Bk.c1 hS; go_simp; try exact rfl
          simp only [Act.put, List.setIfInBounds_toArray, List.set_cons_zero, List.set_cons_succ, List.getElem_toArray, List.getElem_cons_zero, List.getElem_cons_succ]
          refine wpAnyH_ready (rs := [3]) (by kernel_rfl) (by simp) (AllReadyH.cons rfl (fun K hK => ?_) (AllReadyH.nil))
          go_simp
          go_at_call 78
          refine (specDiskLoseS _).mono ?_; rintro r x1 ⟨g1, e1, rfl, hg1, he1, hk1, hke, hb⟩
          have HP := hide (HP0.out.after hb (Nat.le_refl _) HS1.out)
          have HSR := hide (lose_src hk1 hke)
          have HUP := hide (HP0.out.upn HS1.out (mkDV_new (o1 := 0) (n1 := 64) (c1 := 64) (n2 := 0) (c2 := 0) (g := true) (z1 := List.replicate 64 ⟨#[]⟩) (z2 := []) hg1 he1))
          refine hK.out _ _ (hH0.after hb) (fun hH1 => ?_)
          clear hK K
          try simp only [Act.put]
          clear hg1 he1 hk1 hke hb
          refine wpAnyH_take (i := 4) (v := ?_) rfl (by kernel_rfl) (by kernel_rfl) (by kernel_rfl) (fun _ _ _ h => h) (Or.inl ⟨by rfl, fun wS hS => ?_⟩) hH1 ?_
          rotate_left
          · have s0 := Bk.c1 hS; go_simp; try exact rfl
          simp only [Act.put, List.setIfInBounds_toArray, List.set_cons_zero, List.set_cons_succ, List.getElem_toArray, List.getElem_cons_zero, List.getElem_cons_succ]
          refine wpAnyH_ready (rs := [5]) (by kernel_rfl) (by simp) (AllReadyH.cons rfl (fun K hK => ?_) (AllReadyH.nil))
          obtain ⟨cs, hpl, hcz⟩ := HP.out.pl
          have HGK := hide hpl.1
          have HCS := hide hpl.2.1
          have HKG := hide (HP.out.k4.ne_type hpl.1 (by decide))
          clear hpl hcz
          have hcat : ∀ j, j < 3 → ∃ u, x1.cell? ⟨g, k * 3 + j, none⟩ = some u := fun j hj => ⟨cs[k * 3 + j]'(by have := HCS.out; omega), by rw [HGK.out.cell]; exact Array.getElem?_eq_getElem _⟩
          obtain ⟨o0', s0⟩ := hcat 0 (by omega)
          obtain ⟨o1', s1⟩ := hcat 1 (by omega)
          obtain ⟨o2', s2⟩ := hcat 2 (by omega)
          have s0 : x1.cell? ⟨g, k * 3, none⟩ = some o0' := s0
          have f0 := HGK.out.frozen (k * 3)
          have f1 := HGK.out.frozen (k * 3 + 1)
          have f2 := HGK.out.frozen (k * 3 + 2)
          go_simp
          refine hK.out _ _ (hH1.fr ((((Fr.refl (fun i => i = g) _).setCell (p := ⟨g, k * 3, none⟩) (.inl rfl) (.slice (some ⟨g1, 0, none⟩) 64 64)).setCell (p := ⟨g, k * 3 + 1, none⟩) (.inl rfl) (.slice (some ⟨e1, 0, none⟩) 0 0)).setCell (p := ⟨g, k * 3 + 2, none⟩) (.inl rfl) (.bool true)) HKG.out) (fun hH2 => ?_)
          clear hK K
          try simp only [Act.put]
          clear hcat s0 s1 s2 f0 f1 f2
          refine wpAnyH_done (by kernel_rfl) ?_ _
          have HP := hide (HP.out.put k2 HSR.out HUP.out)
          clear hH2 HGK HP0
          go_wp2_with fail
          go_meet
          exact ⟨rfl, hide ⟨_, _, by omega, HP.out⟩⟩
        · go_wp2_with fail
          refine (pick_any R (q + 1) 3 _ HS.out.rd (by omega) (by omega) (by omega)).mono ?_; rintro r y1 ⟨k, rfl, k0, k1, _, hr, hf⟩
          have k2 := k1 (by omega)
          have HS := hide (HS.out.read hr hf (Nat.le_refl _) HS1.out)
          clear hr hf k1
          obtain ⟨k, rfl⟩ : ∃ k' : Nat, k = (k' : Int) := ⟨k.toNat, by omega⟩
          have i0 : (0 : Int) ≤ (k : Int) := by omega
          have i1 : (k : Int) < 3 := by omega
          have k2 : k < 3 := by omega
          have HS := hide (HS.out.after (Below.refl _ _).drew)
          have HBS := hide HS.out.fr.size
          obtain ⟨d, hdk, hmd, hgd, s0, s1, s2⟩ := HS.out.gr.at_ k2
          obtain ⟨cs, hpl, hcz⟩ := HS.out.gr.pl
          have HDK := hide hdk
          have HCC := hide (And.intro s0 (And.intro s1 s2))
          have HL1 := hide (show d.z1.length = 64 by rw [hmd.l1, hgd.n1])
          have HR1 := hide hmd.r1
          have HR2 := hide (show Rd y1.drew 2 (some ⟨d.b2, 0, none⟩) d.n2 (waitCells d.z2) from hmd.r2.rd (by rw [waitCells_len, hmd.l2]))
          have HM2 := hide hmd.m2
          have HOK := hide hgd.ok
          have HBB := hide hmd.base
          obtain ⟨x1, hRB, _⟩ := hmd.r1
          obtain ⟨x2, hRB2, _⟩ := hmd.r2
          have HNE := hide (hRB2.ne_type hRB (by decide))
          have HG0 := hide (show Bk y1.drew g 49 cs ∧ 3 * 3 ≤ cs.size from ⟨hpl.1, hpl.2.1⟩)
          have HGN := hide (hpl.1.ne_type hRB (by decide))
          have HX0 := hide (HS.out.k4.ne_type hRB (by decide))
          have HXG := hide (HS.out.k4.ne_type hpl.1 (by decide))
          obtain ⟨Rz, hR⟩ : ∃ R, settleT (fun _ z _ => z.2) 0 d.z2 d.z1 = R := ⟨_, rfl⟩
          have HSR := hide hR
          have HRL := hide (show Rz.length = 64 by rw [← hR, settle_len]; exact HL1.out)
          clear hdk hmd hgd s0 s1 s2 hpl hcz hRB hRB2 hR
          go_upto_region 19 with fail
          refine wp_region_held_drew (S := fun x => Bk x w1.heap.size 24 #[.slice (some ⟨g, 0, none⟩) 3 c]) (by kernel_rfl) (HS.out.k4) (fun hH0 => ?_)
          refine wpAnyH_take (i := 0) (v := ?_) rfl (by kernel_rfl) (by kernel_rfl) (by kernel_rfl) (fun _ _ _ h => h) (Or.inl ⟨by rfl, fun wS hS => ?_⟩) hH0 ?_
          rotate_left
          · have s0 := Bk.c1 hS; go_simp; try exact rfl
          simp only [Act.put, List.setIfInBounds_toArray, List.set_cons_zero, List.set_cons_succ, List.getElem_toArray, List.getElem_cons_zero]
          refine wpAnyH_take (i := 1) (v := ?_) rfl (by kernel_rfl) (by kernel_rfl) (by kernel_rfl) (fun _ _ _ h => h) (Or.inl ⟨by rfl, fun wS hS => ?_⟩) hH0 ?_
          rotate_left
          · have s0 := Bk.c1 hS; go_simp; try exact rfl
          simp only [Act.put, List.setIfInBounds_toArray, List.set_cons_zero, List.set_cons_succ, List.getElem_toArray, List.getElem_cons_zero, List.getElem_cons_succ]
          refine wpAnyH_take (i := 2) (v := ?_) rfl (by kernel_rfl) (by kernel_rfl) (by kernel_rfl) (fun _ _ _ h => h) (Or.inl ⟨by rfl, fun wS hS => ?_⟩) hH0 ?_
          rotate_left
          · have s0 := Bk.c1 hS; go_simp; try exact rfl
          simp only [Act.put, List.setIfInBounds_toArray, List.set_cons_zero, List.set_cons_succ, List.getElem_toArray, List.getElem_cons_zero, List.getElem_cons_succ]
          refine wpAnyH_take (i := 3) (v := ?_) rfl (by kernel_rfl) (by kernel_rfl) (by kernel_rfl) (fun _ _ _ h => h) (Or.inl ⟨by rfl, fun wS hS => ?_⟩) hH0 ?_
          rotate_left
          · have s0 := Bk.c1 hS; go_simp; try exact rfl
          simp only [Act.put, List.setIfInBounds_toArray, List.set_cons_zero, List.set_cons_succ, List.getElem_toArray, List.getElem_cons_zero, List.getElem_cons_succ]
          refine wpAnyH_take (i := 4) (v := ?_) rfl (by kernel_rfl) (by kernel_rfl) (by kernel_rfl) (fun _ _ _ h => h) (Or.inl ⟨by rfl, fun wS hS => ?_⟩) hH0 ?_
          rotate_left
          · have s0 := Bk.c1 hS; go_simp; try exact rfl
          simp only [Act.put, List.setIfInBounds_toArray, List.set_cons_zero, List.set_cons_succ, List.getElem_toArray, List.getElem_cons_zero, List.getElem_cons_succ]
          refine wpAnyH_take (i := 5) (v := ?_) rfl (by kernel_rfl) (by kernel_rfl) (by kernel_rfl) (fun _ _ _ h => h) (Or.inl ⟨by rfl, fun wS hS => ?_⟩) hH0 ?_
          rotate_left
          · have s0 := Bk.c1 hS; go_simp; try exact rfl
          simp only [Act.put, List.setIfInBounds_toArray, List.set_cons_zero, List.set_cons_succ, List.getElem_toArray, List.getElem_cons_zero, List.getElem_cons_succ]
          refine wpAnyH_take (i := 6) (v := ?_) rfl (by kernel_rfl) (by kernel_rfl) (by kernel_rfl) (fun _ _ _ h => h) (Or.inl ⟨by rfl, fun wS hS => ?_⟩) hH0 ?_
          rotate_left
          · have s0 := Bk.c1 hS; go_simp; try exact rfl
          simp only [Act.put, List.setIfInBounds_toArray, List.set_cons_zero, List.set_cons_succ, List.getElem_toArray, List.getElem_cons_zero, List.getElem_cons_succ]
          refine wpAnyH_ready (rs := [7]) (by kernel_rfl) (by simp) (AllReadyH.cons rfl (fun K hK => ?_) (AllReadyH.nil))
          obtain ⟨s0, s1, s2⟩ := HCC.out
          go_simp
          refine hK.out _ _ (hH0) (fun hH1 => ?_)
          clear hK K
          try simp only [Act.put]
          clear s0 s1 s2
          refine wpAnyH_ready (rs := [8]) (by kernel_rfl) (by simp) (AllReadyH.cons rfl (fun K hK => ?_) (AllReadyH.nil))
          go_simp
          go_at_call 69
          refine (l3FlushM d.b d.c1 d.b2 0 d.n2 d.c2 d.z1 Rz d.z2 false _ HR1.out HL1.out HR2.out HM2.out HNE.out HOK.out HSR.out).mono ?_; rintro r x1 ⟨e2, rfl, he2, hr1, hr2, hf⟩
          have HGK := hide (HG0.out.1.fr hf HGN.out)
          have HFR := hide hf
          have HRN := hide hr1
          have HRW := hide hr2
          have HE2 := hide (show w.heap.size ≤ e2 from Nat.le_trans HBS.out he2)
          refine hK.out _ _ (hH1.fr hf HX0.out) (fun hH2 => ?_)
          clear hK K
          try simp only [Act.put]
          clear hr1 hr2 he2 hf
          refine wpAnyH_take (i := 9) (v := ?_) rfl (by kernel_rfl) (by kernel_rfl) (by kernel_rfl) (fun _ _ _ h => h) (Or.inl ⟨by rfl, fun wS hS => ?_⟩) hH2 ?_
          rotate_left
          · have s0 := Bk.c1 hS; go_simp; try exact rfl
          simp only [Act.put, List.setIfInBounds_toArray, List.set_cons_zero, List.set_cons_succ, List.getElem_toArray, List.getElem_cons_zero, List.getElem_cons_succ]
          refine wpAnyH_ready (rs := [10]) (by kernel_rfl) (by simp) (AllReadyH.cons rfl (fun K hK => ?_) (AllReadyH.nil))
          have HCS := hide HG0.out.2
          have hcat : ∀ j, j < 3 → ∃ u, x1.cell? ⟨g, k * 3 + j, none⟩ = some u := fun j hj => ⟨cs[k * 3 + j]'(by have := HCS.out; omega), by rw [HGK.out.cell]; exact Array.getElem?_eq_getElem _⟩
          obtain ⟨o0', s0⟩ := hcat 0 (by omega)
          obtain ⟨o1', s1⟩ := hcat 1 (by omega)
          obtain ⟨o2', s2⟩ := hcat 2 (by omega)
          have s0 : x1.cell? ⟨g, k * 3, none⟩ = some o0' := s0
          have f0 := HGK.out.frozen (k * 3)
          have f1 := HGK.out.frozen (k * 3 + 1)
          have f2 := HGK.out.frozen (k * 3 + 2)
          go_simp
          refine hK.out _ _ (hH2.fr ((((Fr.refl (fun i => i = g) _).setCell (p := ⟨g, k * 3, none⟩) (.inl rfl) (.slice (some ⟨d.b, 0, none⟩) 64 d.c1)).setCell (p := ⟨g, k * 3 + 1, none⟩) (.inl rfl) (.slice (some ⟨e2, 0, none⟩) 0 0)).setCell (p := ⟨g, k * 3 + 2, none⟩) (.inl rfl) (.bool false)) HXG.out) (fun hH3 => ?_)
          clear hK K
          try simp only [Act.put]
          clear hcat s0 s1 s2 f0 f1 f2
          refine wpAnyH_done (by kernel_rfl) ?_ _
          have W3 := hide ((((Fr.refl (fun i => i = g) x1).setCell (p := ⟨g, k * 3, none⟩) (.inl rfl) (.slice (some ⟨d.b, 0, none⟩) 64 d.c1)).setCell (p := ⟨g, k * 3 + 1, none⟩) (.inl rfl) (.slice (some ⟨e2, 0, none⟩) 0 0)).setCell (p := ⟨g, k * 3 + 2, none⟩) (.inl rfl) (.bool false))
          have HO := hide (show (⟨some ⟨d.b, 0, none⟩, 64, d.c1, some ⟨e2, 0, none⟩, 0, 0, false, Rz, []⟩ : DV).Made w.heap.size x1 from ⟨rfl, rfl, HBB.out, HE2.out, HRL.out, rfl, by show (64 : Nat) ≤ 1048576; omega, Nat.zero_le _, HRN.out, (show Row _ e2 _ (waitCells []) from ⟨_, HRW.out, Nat.zero_le _, fun j hj => absurd hj (by simp [waitCells])⟩)⟩)
          have HN := hide (HS.out.gr.put (e := (⟨some ⟨d.b, 0, none⟩, 64, d.c1, some ⟨e2, 0, none⟩, 0, 0, false, Rz, []⟩ : DV)) (K' := Kn) k2 HDK.out HFR.out HO.out ⟨rfl, rfl, rfl, Nat.zero_le _⟩ (Nat.le_refl _) (HS.out.gr.same HDK.out rfl))
          have HFA := hide (show Fr (MB g es) y1.drew _ from (((Fr.refl (MB g es) y1.drew).next HFR.out (fun i _ e => .inl (.inr ⟨d, List.mem_of_getElem? HDK.out, e⟩))).next W3.out (fun i _ e => .inl (.inl e))))
          have HS := hide (HS.out.step HN.out HFA.out)
          have HDK := hide (show (es.set k (⟨some ⟨d.b, 0, none⟩, 64, d.c1, some ⟨e2, 0, none⟩, 0, 0, false, Rz, []⟩ : DV))[k]? = some (⟨some ⟨d.b, 0, none⟩, 64, d.c1, some ⟨e2, 0, none⟩, 0, 0, false, Rz, []⟩ : DV) by rw [List.getElem?_set, if_pos rfl, if_pos (by have := (List.getElem?_eq_some_iff.1 HDK.out).1; omega)])
          have HRL := hide (show Rz.length = 64 from HRL.out)
          obtain ⟨y2, hy2⟩ : ∃ y2 : World, y2 = (((x1.setCell ⟨g, k * 3, none⟩ (.slice (some ⟨d.b, 0, none⟩) 64 d.c1)).setCell ⟨g, k * 3 + 1, none⟩ (.slice (some ⟨e2, 0, none⟩) 0 0)).setCell ⟨g, k * 3 + 2, none⟩ (.bool false)) := ⟨_, rfl⟩
          rw [← hy2] at HS
          rw [← hy2]
          clear hy2 HO HN HFA W3 HFR HRN HRW HGK HG0 HCC HR1 HR2 HL1 HM2 HNE HOK HSR HBS hH3
          have HS := hide (HS.out.after (Below.refl _ _).drew)
          obtain ⟨g5, cap, a, cur, hv, hk5, ha, ha64, hb5⟩ := HS.out.r5.shape hm0
          subst hv
          have C5 := hide ((hk5.cell 0).trans ha)
          have HL5 := hide hk5.lt
          have a0 : (0 : Int) ≤ (a : Int) := by omega
          have a1 : (a : Int) < 64 := by omega
          have j0 : (0 : Int) < (m : Int) := by omega
          have C4 := hide HS.out.k4.c1
          have HL4 := hide HS.out.k4.lt
          obtain ⟨cs, hpl, hcz⟩ := HS.out.gr.pl
          have C0 := hide (hpl.at_ HDK.out).1
          have HLG := hide hpl.1.lt
          obtain ⟨xr, hxr, _⟩ := (HS.out.gr.each _ (List.mem_of_getElem? HDK.out)).1.r1
          have HNG := hide (show ¬ (g = R ∨ g = d.b) by have h1 := HS.out.gr.base; have h2 := HS.out.lt; have h3 := hpl.1.ne_type hxr (by decide); intro h; rcases h with h | h; omega; exact h3 h)
          have HN4 := hide (show ¬ (w1.heap.size = R ∨ w1.heap.size = d.b) by have h1 := HS1.out; have h2 := HS.out.lt; have h3 := HS.out.k4.ne_type hxr (by decide); intro h; rcases h with h | h; omega; exact h3 h)
          have HN5 := hide (show ¬ (g5 = R ∨ g5 = d.b) by have h2 := HS.out.lt; have h3 := hk5.ne_type hxr (by decide); intro h; rcases h with h | h; omega; exact h3 h)
          clear hk5 ha ha64 hb5 hpl hcz hxr
          go_upto_region 20 with fail
          refine wp_region_held_drew (S := fun x => Fr (fun i => i = R ∨ i = d.b) y2.drew x) (by kernel_rfl) (Fr.refl _ _) (fun hH0 => ?_)
          refine wpAnyH_take (i := 0) (v := ?_) rfl (by kernel_rfl) (by kernel_rfl) (by kernel_rfl) (fun _ _ _ h => h) (Or.inl ⟨by rfl, fun wS hS => ?_⟩) hH0 ?_
          rotate_left
          · have s0 := (hS.cell_ (p := ⟨w1.heap.size, 0, none⟩) HL4.out HN4.out).trans C4.out; have c0 := (hS.cell_ (p := ⟨g, k * 3, none⟩) HLG.out HNG.out).trans C0.out; have q0 := (hS.cell_ (p := ⟨g5, 0, none⟩) HL5.out HN5.out).trans C5.out; go_simp; try exact rfl
          simp only [Act.put, List.setIfInBounds_toArray, List.set_cons_zero, List.set_cons_succ, List.getElem_toArray, List.getElem_cons_zero]
          refine wpAnyH_take (i := 1) (v := ?_) rfl (by kernel_rfl) (by kernel_rfl) (by kernel_rfl) (fun _ _ _ h => h) (Or.inl ⟨by rfl, fun wS hS => ?_⟩) hH0 ?_
          rotate_left
          · have s0 := (hS.cell_ (p := ⟨w1.heap.size, 0, none⟩) HL4.out HN4.out).trans C4.out; have c0 := (hS.cell_ (p := ⟨g, k * 3, none⟩) HLG.out HNG.out).trans C0.out; have q0 := (hS.cell_ (p := ⟨g5, 0, none⟩) HL5.out HN5.out).trans C5.out; go_simp; try exact rfl
          simp only [Act.put, List.setIfInBounds_toArray, List.set_cons_zero, List.set_cons_succ, List.getElem_toArray, List.getElem_cons_zero, List.getElem_cons_succ]
          refine wpAnyH_take (i := 2) (v := ?_) rfl (by kernel_rfl) (by kernel_rfl) (by kernel_rfl) (fun _ _ _ h => h) (Or.inl ⟨by rfl, fun wS hS => ?_⟩) hH0 ?_
          rotate_left
          · have s0 := (hS.cell_ (p := ⟨w1.heap.size, 0, none⟩) HL4.out HN4.out).trans C4.out; have c0 := (hS.cell_ (p := ⟨g, k * 3, none⟩) HLG.out HNG.out).trans C0.out; have q0 := (hS.cell_ (p := ⟨g5, 0, none⟩) HL5.out HN5.out).trans C5.out; go_simp; try exact rfl
          simp only [Act.put, List.setIfInBounds_toArray, List.set_cons_zero, List.set_cons_succ, List.getElem_toArray, List.getElem_cons_zero, List.getElem_cons_succ]
          refine wpAnyH_take (i := 3) (v := ?_) rfl (by kernel_rfl) (by kernel_rfl) (by kernel_rfl) (fun _ _ _ h => h) (Or.inl ⟨by rfl, fun wS hS => ?_⟩) hH0 ?_
          rotate_left
          · have s0 := (hS.cell_ (p := ⟨w1.heap.size, 0, none⟩) HL4.out HN4.out).trans C4.out; have c0 := (hS.cell_ (p := ⟨g, k * 3, none⟩) HLG.out HNG.out).trans C0.out; have q0 := (hS.cell_ (p := ⟨g5, 0, none⟩) HL5.out HN5.out).trans C5.out; go_simp; try exact rfl
          simp only [Act.put, List.setIfInBounds_toArray, List.set_cons_zero, List.set_cons_succ, List.getElem_toArray, List.getElem_cons_zero, List.getElem_cons_succ]
          refine wpAnyH_take (i := 4) (v := ?_) rfl (by kernel_rfl) (by kernel_rfl) (by kernel_rfl) (fun _ _ _ h => h) (Or.inl ⟨by rfl, fun wS hS => ?_⟩) hH0 ?_
          rotate_left
          · have s0 := (hS.cell_ (p := ⟨w1.heap.size, 0, none⟩) HL4.out HN4.out).trans C4.out; have c0 := (hS.cell_ (p := ⟨g, k * 3, none⟩) HLG.out HNG.out).trans C0.out; have q0 := (hS.cell_ (p := ⟨g5, 0, none⟩) HL5.out HN5.out).trans C5.out; go_simp; try exact rfl
          simp only [Act.put, List.setIfInBounds_toArray, List.set_cons_zero, List.set_cons_succ, List.getElem_toArray, List.getElem_cons_zero, List.getElem_cons_succ]
          refine wpAnyH_take (i := 5) (v := ?_) rfl (by kernel_rfl) (by kernel_rfl) (by kernel_rfl) (fun _ _ _ h => h) (Or.inl ⟨by rfl, fun wS hS => ?_⟩) hH0 ?_
          rotate_left
          · have s0 := (hS.cell_ (p := ⟨w1.heap.size, 0, none⟩) HL4.out HN4.out).trans C4.out; have c0 := (hS.cell_ (p := ⟨g, k * 3, none⟩) HLG.out HNG.out).trans C0.out; have q0 := (hS.cell_ (p := ⟨g5, 0, none⟩) HL5.out HN5.out).trans C5.out; go_simp; try exact rfl
          simp only [Act.put, List.setIfInBounds_toArray, List.set_cons_zero, List.set_cons_succ, List.getElem_toArray, List.getElem_cons_zero, List.getElem_cons_succ]
          refine wpAnyH_take (i := 6) (v := ?_) rfl (by kernel_rfl) (by kernel_rfl) (by kernel_rfl) (fun _ _ _ h => h) (Or.inl ⟨by rfl, fun wS hS => ?_⟩) hH0 ?_
          rotate_left
          · have s0 := (hS.cell_ (p := ⟨w1.heap.size, 0, none⟩) HL4.out HN4.out).trans C4.out; have c0 := (hS.cell_ (p := ⟨g, k * 3, none⟩) HLG.out HNG.out).trans C0.out; have q0 := (hS.cell_ (p := ⟨g5, 0, none⟩) HL5.out HN5.out).trans C5.out; go_simp; try exact rfl
          simp only [Act.put, List.setIfInBounds_toArray, List.set_cons_zero, List.set_cons_succ, List.getElem_toArray, List.getElem_cons_zero, List.getElem_cons_succ]
          refine wpAnyH_take (i := 7) (v := ?_) rfl (by kernel_rfl) (by kernel_rfl) (by kernel_rfl) (fun _ _ _ h => h) (Or.inl ⟨by rfl, fun wS hS => ?_⟩) hH0 ?_
          rotate_left
          · have s0 := (hS.cell_ (p := ⟨w1.heap.size, 0, none⟩) HL4.out HN4.out).trans C4.out; have c0 := (hS.cell_ (p := ⟨g, k * 3, none⟩) HLG.out HNG.out).trans C0.out; have q0 := (hS.cell_ (p := ⟨g5, 0, none⟩) HL5.out HN5.out).trans C5.out; go_simp; try exact rfl
          simp only [Act.put, List.setIfInBounds_toArray, List.set_cons_zero, List.set_cons_succ, List.getElem_toArray, List.getElem_cons_zero, List.getElem_cons_succ]
          refine wpAnyH_take (i := 8) (v := ?_) rfl (by kernel_rfl) (by kernel_rfl) (by kernel_rfl) (fun _ _ _ h => h) (Or.inl ⟨by rfl, fun wS hS => ?_⟩) hH0 ?_
          rotate_left
          · have s0 := (hS.cell_ (p := ⟨w1.heap.size, 0, none⟩) HL4.out HN4.out).trans C4.out; have c0 := (hS.cell_ (p := ⟨g, k * 3, none⟩) HLG.out HNG.out).trans C0.out; have q0 := (hS.cell_ (p := ⟨g5, 0, none⟩) HL5.out HN5.out).trans C5.out; go_simp; try exact rfl
          simp only [Act.put, List.setIfInBounds_toArray, List.set_cons_zero, List.set_cons_succ, List.getElem_toArray, List.getElem_cons_zero, List.getElem_cons_succ]
          refine wpAnyH_take (i := 9) (v := ?_) rfl (by kernel_rfl) (by kernel_rfl) (by kernel_rfl) (fun _ _ _ h => h) (Or.inl ⟨by rfl, fun wS hS => ?_⟩) hH0 ?_
          rotate_left
          · have s0 := (hS.cell_ (p := ⟨w1.heap.size, 0, none⟩) HL4.out HN4.out).trans C4.out; have c0 := (hS.cell_ (p := ⟨g, k * 3, none⟩) HLG.out HNG.out).trans C0.out; have q0 := (hS.cell_ (p := ⟨g5, 0, none⟩) HL5.out HN5.out).trans C5.out; go_simp; try exact rfl
          simp only [Act.put, List.setIfInBounds_toArray, List.set_cons_zero, List.set_cons_succ, List.getElem_toArray, List.getElem_cons_zero, List.getElem_cons_succ]
          refine wpAnyH_take (i := 10) (v := ?_) rfl (by kernel_rfl) (by kernel_rfl) (by kernel_rfl) (fun _ _ _ h => h) (Or.inl ⟨by rfl, fun wS hS => ?_⟩) hH0 ?_
          rotate_left
          · have s0 := (hS.cell_ (p := ⟨w1.heap.size, 0, none⟩) HL4.out HN4.out).trans C4.out; have c0 := (hS.cell_ (p := ⟨g, k * 3, none⟩) HLG.out HNG.out).trans C0.out; have q0 := (hS.cell_ (p := ⟨g5, 0, none⟩) HL5.out HN5.out).trans C5.out; go_simp; try exact rfl
          simp only [Act.put, List.setIfInBounds_toArray, List.set_cons_zero, List.set_cons_succ, List.getElem_toArray, List.getElem_cons_zero, List.getElem_cons_succ]
          refine wpAnyH_ready (rs := [11]) (by kernel_rfl) (by simp) (AllReadyH.cons rfl (fun K hK => ?_) (AllReadyH.nil))
          go_simp
          go_at_call 74
          refine (l91Text_any R (q + 1 + 1) 12 _ HS.out.rd (by omega) (by decide)).mono ?_; rintro r x3 ⟨out, q2, rfl, hlo, hq2, hr, hf⟩
          have HS := hide (HS.out.read hr hf (Nat.le_refl _) HS1.out)
          have HQ2 := hide hq2
          refine hK.out _ _ (hH0.next hf (fun i _ e => .inl (.inl e))) (fun hH1 => ?_)
          clear hK K
          try simp only [Act.put]
          clear hlo hr hf hq2
          refine wpAnyH_take (i := 12) (v := ?_) rfl (by kernel_rfl) (by kernel_rfl) (by kernel_rfl) (fun _ _ _ h => h) (Or.inl ⟨by rfl, fun wS hS => ?_⟩) hH1 ?_
          rotate_left
          · have s0 := (hS.cell_ (p := ⟨w1.heap.size, 0, none⟩) HL4.out HN4.out).trans C4.out; have c0 := (hS.cell_ (p := ⟨g, k * 3, none⟩) HLG.out HNG.out).trans C0.out; have q0 := (hS.cell_ (p := ⟨g5, 0, none⟩) HL5.out HN5.out).trans C5.out; go_simp; try exact rfl
          simp only [Act.put, List.setIfInBounds_toArray, List.set_cons_zero, List.set_cons_succ, List.getElem_toArray, List.getElem_cons_zero, List.getElem_cons_succ]
          refine wpAnyH_ready (rs := [13]) (by kernel_rfl) (by simp) (AllReadyH.cons rfl (fun K hK => ?_) (AllReadyH.nil))
          obtain ⟨s0, f0⟩ := (show Row x3 d.b 9 (Rz.map Value.string) from (HS.out.gr.each _ (List.mem_of_getElem? HDK.out)).1.r1).at_ (a := a) (by have := HRL.out; omega)
          go_simp
          refine hK.out _ _ (hH1.setCell (p := ⟨d.b, a, none⟩) (.inl (.inr rfl)) _) (fun hH2 => ?_)
          clear hK K
          try simp only [Act.put]
          clear s0 f0
          refine wpAnyH_done (by kernel_rfl) ?_ _
          have HS := hide (HS.out.step (HS.out.gr.cell (a := a) HDK.out ⟨out.toArray⟩) ((Fr.refl _ _).setCell (p := ⟨d.b, a, none⟩) (.inl (.inr ⟨_, List.mem_of_getElem? HDK.out, rfl⟩)) _))
          have HP := hide (HS.out.ps rfl)
          go_wp2_with fail
          go_meet
          exact ⟨rfl, hide ⟨_, _, by have := HQ2.out; omega, HP.out⟩⟩
        · have s0 := HS.out.k4.c1
          have f0 := HS.out.k4.frozen 0
          go_wp2_with fail
          refine (l4FlushM w.heap.size Kn g 3 c es _ HS.out.gr HS.out.fr.size (by omega)).mono ?_; rintro r xf ⟨es3, rfl, hg3, hf3, hm3⟩
          have HS := hide (HS.out.step hg3 hf3)
          clear hg3 hf3 hm3 s0 f0
          have s0 := HS.out.k4.c1
          have f0 := HS.out.k4.frozen 0
          have HS := hide (HS.out.box HS1.out)
          have HP := hide (HS.out.ps rfl)
          go_wp2_with fail
          go_meet
          exact ⟨rfl, hide ⟨_, _, by omega, HP.out⟩⟩
        · have HP := hide (HS.out.ps rfl)
          go_wp2_with fail
          go_meet
          exact ⟨rfl, hide ⟨_, _, by omega, HP.out⟩⟩
      obtain ⟨rfl, HPP⟩ := hcut
      obtain ⟨es, q', hq', hp⟩ := HPP.out
      have HP := hide hp
      clear hp HPP HS
      go_wp2_with fail
      refine (pick_any R q' 40 _ HP.out.rd (by omega) (by omega) (by omega)).mono ?_; rintro r z1 ⟨v, rfl, v0, v1, _, hr, hf⟩
      have v2 := v1 (by omega)
      have HP := hide (HP.out.read hr hf (Nat.le_refl _) HS1.out)
      clear hr hf v1
      have hc3 := HP.out.nc
      have hcm := HP.out.cm
      have hvv : v = 0 ∨ v = 1 ∨ (¬ v = 0 ∧ ¬ v = 1) := by omega
      rcases hvv with rfl | rfl | ⟨e0, e1'⟩
      · have s0 := HP.out.k4.c1
        have f0 := HP.out.k4.frozen 0
        have KX := HP.out.k2.far (p := ⟨w1.heap.size, 0, none⟩) HP.out.ne24 (.slice (some ⟨g, 3, none⟩) 2 (c - 1))
        have u0 := KX.c1
        have f2 := KX.frozen 0
        have KF := hide (KX.put 0 (.slice (some ⟨g, 3, none⟩) 2 (c - 1)))
        clear KX
        go_wp2_with fail
        have c0 : ((z1.setCell ⟨w1.heap.size, 0, none⟩ (.slice (some ⟨g, 3, none⟩) 2 (c - 1))).setCell ⟨w.heap.size, 0, none⟩ (.slice (some ⟨g, 3, none⟩) 2 (c - 1))).cell? ⟨w.heap.size, 0, none⟩ = some (.slice (some ⟨g, 3, none⟩) 2 (c - 1)) := KF.out.cell 0
        have HQF := hide (HP.out.fin rfl HS1.out (((Fr.refl (fun i => i = w.heap.size ∨ i = w1.heap.size) z1).setCell (p := ⟨w1.heap.size, 0, none⟩) (.inl (.inr rfl)) (.slice (some ⟨g, 3, none⟩) 2 (c - 1))).setCell (p := ⟨w.heap.size, 0, none⟩) (.inl (.inl rfl)) (.slice (some ⟨g, 3, none⟩) 2 (c - 1))))
        clear s0 f0 u0 f2 KF
        refine bodyPost_ret (v := .tuple #[.agg #[.slice (some ⟨g, 3, none⟩) 2 (c - 1)], u5]) (by simp [results, Try.results52, go_sem, c0]) rfl ?_
        exact ⟨_, 2, c - 1, u5, _, _, rfl, HQF.out.2.1, by omega, HQF.out.2.2.1, HQF.out.2.2.2⟩
      · have HP := hide (HP.out.after (Below.refl _ _).drew (Nat.le_refl _) HS1.out)
        go_upto_region 27 with fail
        refine wp_region_held_drew (S := fun x => Bk x w1.heap.size 24 #[.slice (some ⟨g, 0, none⟩) 3 c]) (by kernel_rfl) (HP.out.k4) (fun hH0 => ?_)
        refine wpAnyH_take (i := 0) (v := ?_) rfl (by kernel_rfl) (by kernel_rfl) (by kernel_rfl) (fun _ _ _ h => h) (Or.inl ⟨by rfl, fun wS hS => ?_⟩) hH0 ?_
        rotate_left
        · have s0 := Bk.c1 hS; go_simp; try exact rfl
        simp only [Act.put, List.setIfInBounds_toArray, List.set_cons_zero, List.set_cons_succ, List.getElem_toArray, List.getElem_cons_zero]
        refine wpAnyH_take (i := 1) (v := ?_) rfl (by kernel_rfl) (by kernel_rfl) (by kernel_rfl) (fun _ _ _ h => h) (Or.inl ⟨by rfl, fun wS hS => ?_⟩) hH0 ?_
        rotate_left
        · have s0 := Bk.c1 hS; go_simp; try exact rfl
        simp only [Act.put, List.setIfInBounds_toArray, List.set_cons_zero, List.set_cons_succ, List.getElem_toArray, List.getElem_cons_zero, List.getElem_cons_succ]
        refine wpAnyH_take (i := 2) (v := ?_) rfl (by kernel_rfl) (by kernel_rfl) (by kernel_rfl) (fun _ _ _ h => h) (Or.inl ⟨by rfl, fun wS hS => ?_⟩) hH0 ?_
        rotate_left
        · have s0 := Bk.c1 hS; go_simp; try exact rfl
        simp only [Act.put, List.setIfInBounds_toArray, List.set_cons_zero, List.set_cons_succ, List.getElem_toArray, List.getElem_cons_zero, List.getElem_cons_succ]
        refine wpAnyH_ready (rs := [3]) (by kernel_rfl) (by simp) (AllReadyH.cons rfl (fun K hK => ?_) (AllReadyH.nil))
        go_simp
        go_at_call 79
        refine (l91Disk_any R (q' + 1) _ HP.out.rd (by omega)).mono ?_; rintro r x1 ⟨b1, o1, n1, c1, b2, n2, c2, gg, z1, z2, q2, rfl, m1, m2, hb1, hb2, lb1, lb2, hr1, hr2, hq2, hr, hf⟩
        have HUP := hide (HP.out.upn HS1.out (mkDV_new (o1 := o1) (n1 := n1) (c1 := c1) (n2 := n2) (c2 := c2) (g := gg) (z1 := z1) (z2 := z2) hb1 hb2))
        have hx4 : ¬ w1.heap.size = R := by have := HS1.out; have := HP.out.lt; omega
        have HP := hide (HP.out.read hr hf (Nat.le_refl _) HS1.out)
        have HSR := hide (mkDV_src (c1 := c1) (c2 := c2) (g := gg) hr1 hr2 m1 m2 lb1 lb2)
        have HQ2 := hide hq2
        refine hK.out _ _ (hH0.fr hf hx4) (fun hH1 => ?_)
        clear hK K
        try simp only [Act.put]
        clear hx4 hb1 hb2 lb1 lb2 hr1 hr2 hr hf hq2 m1 m2
        refine wpAnyH_take (i := 4) (v := ?_) rfl (by kernel_rfl) (by kernel_rfl) (by kernel_rfl) (fun _ _ _ h => h) (Or.inl ⟨by rfl, fun wS hS => ?_⟩) hH1 ?_
        rotate_left
        · have s0 := Bk.c1 hS; go_simp; try exact rfl
        simp only [Act.put, List.setIfInBounds_toArray, List.set_cons_zero, List.set_cons_succ, List.getElem_toArray, List.getElem_cons_zero, List.getElem_cons_succ]
        refine wpAnyH_ready (rs := [5]) (by kernel_rfl) (by simp) (AllReadyH.cons rfl (fun K hK => ?_) (AllReadyH.nil))
        obtain ⟨cs, hpl, hcz⟩ := HP.out.pl
        have HGK := hide hpl.1
        have HCS := hide hpl.2.1
        have HKG := hide (HP.out.k4.ne_type hpl.1 (by decide))
        clear hpl hcz
        have hcat : ∀ j, j < 3 → ∃ u, x1.cell? ⟨g, 1 * 3 + j, none⟩ = some u := fun j hj => ⟨cs[1 * 3 + j]'(by have := HCS.out; omega), by rw [HGK.out.cell]; exact Array.getElem?_eq_getElem _⟩
        obtain ⟨o0', s0⟩ := hcat 0 (by omega)
        obtain ⟨o1', s1⟩ := hcat 1 (by omega)
        obtain ⟨o2', s2⟩ := hcat 2 (by omega)
        have s0 : x1.cell? ⟨g, 3, none⟩ = some o0' := s0
        have f0 := HGK.out.frozen (3)
        have f1 := HGK.out.frozen (4)
        have f2 := HGK.out.frozen (5)
        have s1 : x1.cell? ⟨g, 4, none⟩ = some o1' := s1
        have s2 : x1.cell? ⟨g, 5, none⟩ = some o2' := s2
        go_simp
        refine hK.out _ _ (hH1.fr ((((Fr.refl (fun i => i = g) _).setCell (p := ⟨g, 1 * 3, none⟩) (.inl rfl) (.slice (some ⟨b1, o1, none⟩) n1 c1)).setCell (p := ⟨g, 1 * 3 + 1, none⟩) (.inl rfl) (.slice (some ⟨b2, 0, none⟩) n2 c2)).setCell (p := ⟨g, 1 * 3 + 2, none⟩) (.inl rfl) (.bool gg)) HKG.out) (fun hH2 => ?_)
        clear hK K
        try simp only [Act.put]
        clear hcat s0 s1 s2 f0 f1 f2
        refine wpAnyH_done (by kernel_rfl) ?_ _
        have HP := hide (HP.out.put (k := 1) (by omega) HSR.out HUP.out)
        clear hH2 HGK HSR HUP
        obtain ⟨z3, hz3⟩ : ∃ z3 : World, z3 = (((x1.setCell ⟨g, 1 * 3, none⟩ (.slice (some ⟨b1, o1, none⟩) n1 c1)).setCell ⟨g, 1 * 3 + 1, none⟩ (.slice (some ⟨b2, 0, none⟩) n2 c2)).setCell ⟨g, 1 * 3 + 2, none⟩ (.bool gg)) := ⟨_, rfl⟩
        have HP : Hid (PS w R w.heap.size w1.heap.size g c q2 (es.set 1 (mkDV b1 o1 n1 c1 b2 n2 c2 gg z1 z2)) z3) := by rw [hz3]; exact HP
        have hz4 : z3 = (((x1.setCell ⟨g, 3, none⟩ (.slice (some ⟨b1, o1, none⟩) n1 c1)).setCell ⟨g, 4, none⟩ (.slice (some ⟨b2, 0, none⟩) n2 c2)).setCell ⟨g, 5, none⟩ (.bool gg)) := hz3
        rw [← hz4]
        clear hz3 hz4
        have s0 := HP.out.k4.c1
        have t0 := HP.out.k2.c1
        have f2 := HP.out.k2.frozen 0
        go_wp2_with fail
        have KF := HP.out.k2.put 0 (.slice (some ⟨g, 0, none⟩) 3 c)
        have c0 : (z3.setCell ⟨w.heap.size, 0, none⟩ (.slice (some ⟨g, 0, none⟩) 3 c)).cell? ⟨w.heap.size, 0, none⟩ = some (.slice (some ⟨g, 0, none⟩) 3 c) := KF.cell 0
        have HQF := hide (HP.out.fin rfl HS1.out ((Fr.refl (fun i => i = w.heap.size ∨ i = w1.heap.size) z3).setCell (p := ⟨w.heap.size, 0, none⟩) (.inl (.inl rfl)) (.slice (some ⟨g, 0, none⟩) 3 c)))
        clear s0 t0 f2 KF
        refine bodyPost_ret (v := .tuple #[.agg #[.slice (some ⟨g, 0, none⟩) 3 c], u5]) (by simp [results, Try.results52, go_sem, c0]) rfl ?_
        exact ⟨_, 3, c, u5, _, _, rfl, HQF.out.1, by first | omega | (have := HQ2.out; omega), HQF.out.2.2.1, HQF.out.2.2.2⟩
      · skip
        have s0 := HP.out.k4.c1
        have t0 := HP.out.k2.c1
        have f2 := HP.out.k2.frozen 0
        go_wp2_with fail
        have KF := HP.out.k2.put 0 (.slice (some ⟨g, 0, none⟩) 3 c)
        have c0 : (z1.setCell ⟨w.heap.size, 0, none⟩ (.slice (some ⟨g, 0, none⟩) 3 c)).cell? ⟨w.heap.size, 0, none⟩ = some (.slice (some ⟨g, 0, none⟩) 3 c) := KF.cell 0
        have HQF := hide (HP.out.fin rfl HS1.out ((Fr.refl (fun i => i = w.heap.size ∨ i = w1.heap.size) z1).setCell (p := ⟨w.heap.size, 0, none⟩) (.inl (.inl rfl)) (.slice (some ⟨g, 0, none⟩) 3 c)))
        clear s0 t0 f2 KF
        refine bodyPost_ret (v := .tuple #[.agg #[.slice (some ⟨g, 0, none⟩) 3 c], u5]) (by simp [results, Try.results52, go_sem, c0]) rfl ?_
        exact ⟨_, 3, c, u5, _, _, rfl, HQF.out.1, by first | omega | (have := HQ2.out; omega), HQF.out.2.2.1, HQF.out.2.2.2⟩
end Go.Proofs.Ytcaoekaephnimaa

/- What DrawRaidOk, DrawRaidFlush, DrawRaidCrash draw. -/
namespace Go.Proofs.Ytcaoekaephnimaa
open Go.RowKit
set_option linter.unusedVariables false
set_option maxRecDepth 100000

theorem RDn.low {B B' : Nat} {w : World} {A : Option Addr} {n : Nat} {es : List DV} (h : RDn B w A n es) (hB : B' ≤ B) : RDn B' w A n es := ⟨h.n3, h.rin, h.src, fun d hd b o e => Nat.lt_of_le_of_lt hB (h.up d hd b o e), fun b o e => Nat.lt_of_le_of_lt hB (h.upA b o e)⟩
theorem U8s.afterR {w w' : World} {A : Option Addr} {n c : Nat} {zs : List Int} (h : U8s w A n c zs) (hb : Below w.heap.size w w') : U8s w' A n c zs := by
  obtain ⟨h1, h2, h3, h4, h5⟩ := h
  exact ⟨h1, h2, h3, h4, h5.after hb⟩
/-- a raid is drawn -/
def DrawnR (w : World) (r : Ending) (w' : World) : Prop := ∃ (A : Option Addr) (n c : Nat) (es : List DV), r = .returned (.agg #[.slice A n c]) ∧ RDn w.heap.size w' A n es ∧ Below w.heap.size w w'

set_option maxHeartbeats 4000000 in
theorem drawRaidOk_any (A : Option Addr) (n c : Nat) (zs : List Int) (w : World) (h : U8s w A n c zs) :
    Calls Try.prog 26 #[.slice A n c] w (DrawnR w) := by
  skip
  have K0 := hide (Bk.fresh w 24 #[.slice none 0 0])
  have H1 := hide (h.afterR (bel1 w (.cells #[.slice none 0 0] 24)))
  have HB := hide (bel1 w (.cells #[.slice none 0 0] 24))
  obtain ⟨R, hR⟩ : ∃ R, R = (w.alloc (.cells #[.slice none 0 0] 24)).heap.size := ⟨_, rfl⟩
  have hR1 : R = w.heap.size + 1 := by rw [hR]; simp
  have HR1 := hide hR1
  clear h hR1
  go_enter Try.func26, Try.ntmps26
  go_wp2_with fail
  refine (l6Open_any _ _ _ _ _ H1.out).mono ?_; rintro r w1 ⟨rfl, hr, hb⟩
  rw [← hR] at hr
  rw [← hR]
  have HR := hide hr
  have HL1 := hide (show w.heap.size < w1.heap.size from Nat.lt_of_lt_of_le (by have := HR1.out; omega) (Nat.le_of_lt hr.lt))
  have K0 := hide (K0.out.after hb)
  have HB := hide (bnext HB.out (by simp) hb)
  clear hr hb hR H1
  go_wp2_with fail
  refine (l91Raid_any R 0 _ HR.out (by omega)).mono ?_; rintro r w2 ⟨A5, n5, c5, V5, es, q, rfl, hrd, hq, hr, hf⟩
  have hRg : ¬ w.heap.size = R := by have := HR1.out; omega
  have K0 := hide (K0.out.fr hf hRg)
  have HB := hide (HB.out.trans (hf.below (B := w.heap.size) (Nat.le_of_lt HL1.out) (fun k e => by have := HR1.out; omega)))
  have HR := hide hr
  have HD := hide (hrd.low (Nat.le_of_lt HL1.out))
  clear hr hf hrd
  have K0 := hide (K0.out.alloc (.cells #[.slice A5 n5 c5] 24))
  have HB := hide (HB.out.alloc HB.out.size (.cells #[.slice A5 n5 c5] 24))
  have HD := hide (HD.out.after (bel1 w2 (.cells #[.slice A5 n5 c5] 24)))
  have q0 := K0.out.c1
  have f0 := K0.out.frozen 0
  go_wp2_with fail
  clear q0 f0
  have KF := hide (K0.out.put 0 (.slice A5 n5 c5))
  have c0 : ((w2.alloc (.cells #[.slice A5 n5 c5] 24)).setCell ⟨w.heap.size, 0, none⟩ (.slice A5 n5 c5)).cell? ⟨w.heap.size, 0, none⟩ = some (.slice A5 n5 c5) := KF.out.cell 0
  refine bodyPost_ret (v := .agg #[.slice A5 n5 c5]) (by simp [results, Try.results26, go_sem, c0]) rfl ?_
  exact ⟨A5, n5, c5, es, rfl, HD.out.fr_ ((Fr.refl (fun i => i = w.heap.size) _).setCell (p := ⟨w.heap.size, 0, none⟩) (.inl rfl) _) (fun b hb e => by omega), HB.out.setCell (p := ⟨w.heap.size, 0, none⟩) (Nat.le_refl _) _⟩

set_option maxHeartbeats 4000000 in
theorem drawRaidFlush_any (A : Option Addr) (n c : Nat) (zs : List Int) (w : World) (h : U8s w A n c zs) :
    Calls Try.prog 27 #[.slice A n c] w (DrawnR w) := by
  skip
  have K0 := hide (Bk.fresh w 24 #[.slice none 0 0])
  have H1 := hide (h.afterR (bel1 w (.cells #[.slice none 0 0] 24)))
  have HB := hide (bel1 w (.cells #[.slice none 0 0] 24))
  obtain ⟨R, hR⟩ : ∃ R, R = (w.alloc (.cells #[.slice none 0 0] 24)).heap.size := ⟨_, rfl⟩
  have hR1 : R = w.heap.size + 1 := by rw [hR]; simp
  have HR1 := hide hR1
  clear h hR1
  go_enter Try.func27, Try.ntmps27
  go_wp2_with fail
  refine (l6Open_any _ _ _ _ _ H1.out).mono ?_; rintro r w1 ⟨rfl, hr, hb⟩
  rw [← hR] at hr
  rw [← hR]
  have HR := hide hr
  have HL1 := hide (show w.heap.size < w1.heap.size from Nat.lt_of_lt_of_le (by have := HR1.out; omega) (Nat.le_of_lt hr.lt))
  have K0 := hide (K0.out.after hb)
  have HB := hide (bnext HB.out (by simp) hb)
  clear hr hb hR H1
  go_wp2_with fail
  refine (l91Raid_any R 0 _ HR.out (by omega)).mono ?_; rintro r w2 ⟨A5, n5, c5, V5, es, q, rfl, hrd, hq, hr, hf⟩
  have hRg : ¬ w.heap.size = R := by have := HR1.out; omega
  have K0 := hide (K0.out.fr hf hRg)
  have HB := hide (HB.out.trans (hf.below (B := w.heap.size) (Nat.le_of_lt HL1.out) (fun k e => by have := HR1.out; omega)))
  have HR := hide hr
  have HD := hide (hrd.low (Nat.le_of_lt HL1.out))
  clear hr hf hrd
  have K0 := hide (K0.out.alloc (.cells #[.slice A5 n5 c5] 24))
  have HB := hide (HB.out.alloc HB.out.size (.cells #[.slice A5 n5 c5] 24))
  have HD := hide (HD.out.after (bel1 w2 (.cells #[.slice A5 n5 c5] 24)))
  have q0 := K0.out.c1
  have f0 := K0.out.frozen 0
  go_wp2_with fail
  clear q0 f0
  have KF := hide (K0.out.put 0 (.slice A5 n5 c5))
  have c0 : ((w2.alloc (.cells #[.slice A5 n5 c5] 24)).setCell ⟨w.heap.size, 0, none⟩ (.slice A5 n5 c5)).cell? ⟨w.heap.size, 0, none⟩ = some (.slice A5 n5 c5) := KF.out.cell 0
  refine bodyPost_ret (v := .agg #[.slice A5 n5 c5]) (by simp [results, Try.results27, go_sem, c0]) rfl ?_
  exact ⟨A5, n5, c5, es, rfl, HD.out.fr_ ((Fr.refl (fun i => i = w.heap.size) _).setCell (p := ⟨w.heap.size, 0, none⟩) (.inl rfl) _) (fun b hb e => by omega), HB.out.setCell (p := ⟨w.heap.size, 0, none⟩) (Nat.le_refl _) _⟩

end Go.Proofs.Ytcaoekaephnimaa
