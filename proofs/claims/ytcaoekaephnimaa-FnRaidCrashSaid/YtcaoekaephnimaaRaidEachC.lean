/- RaidCrash of a raid, disk by disk. -/
import Derived.Test.YtcaoekaephnimaaRaidFlS
import Derived.Test.YtcaoekaephnimaaDiskNil
import Derived.Test.YtcaoekaephnimaaRaidEachF
import Derived.Test.YtcaoekaephnimaaRaidCrS
namespace Go.Proofs.Ytcaoekaephnimaa
open Go.RowKit
set_option linter.unusedVariables false
set_option maxRecDepth 100000

set_option maxHeartbeats 2000000 in
theorem implCrash_v (d : DV) (R : List ByteArray) (m : Nat) (t : Int) (w : World) (h : d.Has w) (hok : d.ok = true) (hm : m < 9223372036854775808) (hR : settleT (crashF m t) 0 d.z2 d.z1 = R) :
    Calls Try.prog 31 #[.agg #[.slice d.A1 d.n1 d.c1, .slice d.A2 d.n2 d.c2, .bool d.g], .int .i64 m, .int .i64 t] w (SetPost R d.g w) := by
  obtain ⟨h, m2, h3⟩ := h
  obtain ⟨b1, o1, e1, l1⟩ := h.a1 hok
  have h1 := h.1
  have h2 := h.2.1
  rw [e1] at h1 ⊢
  rcases h3 with ⟨b2, o2, e2, l2⟩ | ⟨hn, hc⟩
  · rw [e2] at h2 ⊢
    exact implCrash_yes b1 o1 d.n1 d.c1 b2 o2 d.n2 d.c2 d.z1 R d.z2 d.g m t w h1 h2 m2 l1 l2 hok hm hR
  · have hz := h.z0 hn
    rw [hz] at hR
    rw [hn, hz] at h2
    rw [hn, hc]
    exact implCrash_nil b1 o1 d.n1 d.c1 d.A2 d.z1 R d.g m t w h1 h2 (by decide) l1 (by rw [← hz]; exact hok) hm hR
/-- what the region reads -/
structure KN (x : World) (b0 gm gt : Nat) (d : DV) (Am At : Option Addr) (nm cm nt ct : Nat) (pm pt : Addr) (m t : Int) : Prop where
  k : Bk x b0 49 #[.slice d.A1 d.n1 d.c1, .slice d.A2 d.n2 d.c2, .bool d.g]
  km : Bk x gm 37 #[.slice Am nm cm]
  kt : Bk x gt 37 #[.slice At nt ct]
  lm : pm.block < x.heap.size
  lt : pt.block < x.heap.size
  cm : x.cell? pm = some (.int .i64 m)
  ct : x.cell? pt = some (.int .i64 t)
theorem KN.fr {S : Nat → Prop} {x y : World} {b0 gm gt : Nat} {d : DV} {Am At : Option Addr} {nm cm nt ct : Nat} {pm pt : Addr} {m t : Int} (h : KN x b0 gm gt d Am At nm cm nt ct pm pt m t) (hf : Fr S x y) (h0 : ¬ S b0) (h1 : ¬ S gm) (h2 : ¬ S gt) (h3 : ¬ S pm.block) (h4 : ¬ S pt.block) : KN y b0 gm gt d Am At nm cm nt ct pm pt m t :=
  ⟨h.k.fr hf h0, h.km.fr hf h1, h.kt.fr hf h2, Nat.lt_of_lt_of_le h.lm hf.size, Nat.lt_of_lt_of_le h.lt hf.size, (hf.cell_ h.lm h3).trans h.cm, (hf.cell_ h.lt h4).trans h.ct⟩
set_option maxHeartbeats 4000000 in
theorem oneCrash_any (i : Nat) (d : DV) (R : List ByteArray) (gm gt : Nat) (Am At : Option Addr) (nm cm nt ct : Nat) (ms ts : List Int) (m : Nat) (t : Int) (w : World) (hm : Bk w gm 37 #[.slice Am nm cm]) (ht : Bk w gt 37 #[.slice At nt ct]) (hMM : Rd w 1 Am nm (ms.map (Value.int .i64))) (hTT : Rd w 1 At nt (ts.map (Value.int .i64))) (hmi : ms[i]? = some (m : Int)) (hti : ts[i]? = some t) (hml : m < 9223372036854775808) (h : d.Has w) (hok : d.ok = true) (hR : settleT (crashF m t) 0 d.z2 d.z1 = R) :
    Calls Try.prog 50 #[.int .i64 i, .agg #[.slice d.A1 d.n1 d.c1, .slice d.A2 d.n2 d.c2, .bool d.g], .pointer (some ⟨gm, 0, none⟩), .pointer (some ⟨gt, 0, none⟩)] w (OnePost R d.g w) := by
  obtain ⟨W0, HW0⟩ : ∃ W : World, W = ((w.alloc (.cells #[.slice d.A1 d.n1 d.c1, .slice d.A2 d.n2 d.c2, .bool d.g] 49)).alloc (.cells #[.slice none 0 0, .slice none 0 0, .bool false] 49)) := ⟨_, rfl⟩
  have hb : Below w.heap.size w W0 := by rw [HW0]; exact (((Below.refl _ _).alloc (Nat.le_refl _) _).alloc (by simp) _)
  have z0 : W0.heap.size = w.heap.size + 1 + 1 := by rw [HW0]; simp
  have K1 := (show Bk W0 w.heap.size 49 #[.slice d.A1 d.n1 d.c1, .slice d.A2 d.n2 d.c2, .bool d.g] by rw [HW0]; exact ((Bk.fresh _ _ _).alloc _))
  have K2 := (show Bk W0 (w.heap.size + 1) 49 #[.slice none 0 0, .slice none 0 0, .bool false] by
    rw [HW0]
    have h := Bk.fresh (w.alloc (.cells #[.slice d.A1 d.n1 d.c1, .slice d.A2 d.n2 d.c2, .bool d.g] 49)) 49 #[.slice none 0 0, .slice none 0 0, .bool false]
    rw [show (w.alloc (.cells #[.slice d.A1 d.n1 d.c1, .slice d.A2 d.n2 d.c2, .bool d.g] 49)).heap.size = w.heap.size + 1 by simp] at h
    exact h)
  have him : i < nm := by have h1 := hMM.len; have := (List.getElem?_eq_some_iff.1 hmi).1; simp at h1; omega
  have hit : i < nt := by have h1 := hTT.len; have := (List.getElem?_eq_some_iff.1 hti).1; simp at h1; omega
  obtain ⟨bm, om, z, hAm, lbm, hz, hcm⟩ := hMM.int_at him
  obtain rfl : z = (m : Int) := Option.some.inj (hz.symm.trans hmi)
  obtain ⟨bt, ot, z', hAt, lbt, hz', hct⟩ := hTT.int_at hit
  obtain rfl : z' = t := Option.some.inj (hz'.symm.trans hti)
  subst hAm
  subst hAt
  have HLM := hide (show gm < w.heap.size ∧ gt < w.heap.size ∧ bm < w.heap.size ∧ bt < w.heap.size from ⟨hm.lt, ht.lt, lbm, lbt⟩)
  have i0 : (0 : Int) ≤ (i : Int) := by omega
  have i1 : (i : Int) < (nm : Int) := by omega
  have i2 : (i : Int) < (nt : Int) := by omega
  have HK := hide (show KN W0.drew w.heap.size gm gt d (some ⟨bm, om, none⟩) (some ⟨bt, ot, none⟩) nm cm nt ct ⟨bm, om + i, none⟩ ⟨bt, ot + i, none⟩ m z' from ⟨K1, hm.after hb.drew, ht.after hb.drew, Nat.lt_of_lt_of_le lbm hb.size, Nat.lt_of_lt_of_le lbt hb.size, (hb.cell (p := ⟨bm, _, none⟩) lbm).trans hcm, (hb.cell (p := ⟨bt, _, none⟩) lbt).trans hct⟩)
  have K2 := hide (K2.after (Below.refl W0.heap.size W0).drew)
  have H := hide ((h.after hb).after (Below.refl W0.heap.size W0).drew)
  have HB := hide (hb.drew)
  have HZ := hide (show W0.drew.heap.size = w.heap.size + 1 + 1 from z0)
  have HOK := hide hok
  have HR := hide hR
  have HML := hide hml
  obtain ⟨t, ht0⟩ : ∃ t, t = z' := ⟨_, rfl⟩
  subst ht0
  clear h hb z0 hok hR hml hm ht hMM hTT hmi hti him hit lbm lbt hz hz' hcm hct K1
  go_enter Try.func50, Try.ntmps50
  go_upto_region 1 with fail
  rw [← HW0]
  clear HW0
  refine wp_region_held_drew (S := fun x => KN x w.heap.size gm gt d (some ⟨bm, om, none⟩) (some ⟨bt, ot, none⟩) nm cm nt ct ⟨bm, om + i, none⟩ ⟨bt, ot + i, none⟩ m t) (by kernel_rfl) (HK.out) (fun hH0 => ?_)
  refine wpAnyH_take (i := 0) (v := ?_) rfl (by kernel_rfl) (by kernel_rfl) (by kernel_rfl) (fun _ _ _ h => h) (Or.inl ⟨by rfl, fun wS hS => ?_⟩) hH0 ?_
  rotate_left
  · obtain ⟨a0, a1, a2⟩ := (KN.k hS).c3; have a3 := (KN.km hS).c1; have a4 := (KN.kt hS).c1; have a5 := KN.cm hS; have a6 := KN.ct hS; go_simp; try exact rfl
  simp only [Act.put, List.setIfInBounds_toArray, List.set_cons_zero, List.set_cons_succ, List.getElem_toArray, List.getElem_cons_zero]
  refine wpAnyH_take (i := 1) (v := ?_) rfl (by kernel_rfl) (by kernel_rfl) (by kernel_rfl) (fun _ _ _ h => h) (Or.inl ⟨by rfl, fun wS hS => ?_⟩) hH0 ?_
  rotate_left
  · obtain ⟨a0, a1, a2⟩ := (KN.k hS).c3; have a3 := (KN.km hS).c1; have a4 := (KN.kt hS).c1; have a5 := KN.cm hS; have a6 := KN.ct hS; go_simp; try exact rfl
  simp only [Act.put, List.setIfInBounds_toArray, List.set_cons_zero, List.set_cons_succ, List.getElem_toArray, List.getElem_cons_zero, List.getElem_cons_succ]
  refine wpAnyH_take (i := 2) (v := ?_) rfl (by kernel_rfl) (by kernel_rfl) (by kernel_rfl) (fun _ _ _ h => h) (Or.inl ⟨by rfl, fun wS hS => ?_⟩) hH0 ?_
  rotate_left
  · obtain ⟨a0, a1, a2⟩ := (KN.k hS).c3; have a3 := (KN.km hS).c1; have a4 := (KN.kt hS).c1; have a5 := KN.cm hS; have a6 := KN.ct hS; go_simp; try exact rfl
  simp only [Act.put, List.setIfInBounds_toArray, List.set_cons_zero, List.set_cons_succ, List.getElem_toArray, List.getElem_cons_zero, List.getElem_cons_succ]
  refine wpAnyH_take (i := 3) (v := ?_) rfl (by kernel_rfl) (by kernel_rfl) (by kernel_rfl) (fun _ _ _ h => h) (Or.inl ⟨by rfl, fun wS hS => ?_⟩) hH0 ?_
  rotate_left
  · obtain ⟨a0, a1, a2⟩ := (KN.k hS).c3; have a3 := (KN.km hS).c1; have a4 := (KN.kt hS).c1; have a5 := KN.cm hS; have a6 := KN.ct hS; go_simp; try exact rfl
  simp only [Act.put, List.setIfInBounds_toArray, List.set_cons_zero, List.set_cons_succ, List.getElem_toArray, List.getElem_cons_zero, List.getElem_cons_succ]
  refine wpAnyH_take (i := 4) (v := ?_) rfl (by kernel_rfl) (by kernel_rfl) (by kernel_rfl) (fun _ _ _ h => h) (Or.inl ⟨by rfl, fun wS hS => ?_⟩) hH0 ?_
  rotate_left
  · obtain ⟨a0, a1, a2⟩ := (KN.k hS).c3; have a3 := (KN.km hS).c1; have a4 := (KN.kt hS).c1; have a5 := KN.cm hS; have a6 := KN.ct hS; go_simp; try exact rfl
  simp only [Act.put, List.setIfInBounds_toArray, List.set_cons_zero, List.set_cons_succ, List.getElem_toArray, List.getElem_cons_zero, List.getElem_cons_succ]
  refine wpAnyH_take (i := 5) (v := ?_) rfl (by kernel_rfl) (by kernel_rfl) (by kernel_rfl) (fun _ _ _ h => h) (Or.inl ⟨by rfl, fun wS hS => ?_⟩) hH0 ?_
  rotate_left
  · obtain ⟨a0, a1, a2⟩ := (KN.k hS).c3; have a3 := (KN.km hS).c1; have a4 := (KN.kt hS).c1; have a5 := KN.cm hS; have a6 := KN.ct hS; go_simp; try exact rfl
  simp only [Act.put, List.setIfInBounds_toArray, List.set_cons_zero, List.set_cons_succ, List.getElem_toArray, List.getElem_cons_zero, List.getElem_cons_succ]
  refine wpAnyH_take (i := 6) (v := ?_) rfl (by kernel_rfl) (by kernel_rfl) (by kernel_rfl) (fun _ _ _ h => h) (Or.inl ⟨by rfl, fun wS hS => ?_⟩) hH0 ?_
  rotate_left
  · obtain ⟨a0, a1, a2⟩ := (KN.k hS).c3; have a3 := (KN.km hS).c1; have a4 := (KN.kt hS).c1; have a5 := KN.cm hS; have a6 := KN.ct hS; go_simp; try exact rfl
  simp only [Act.put, List.setIfInBounds_toArray, List.set_cons_zero, List.set_cons_succ, List.getElem_toArray, List.getElem_cons_zero, List.getElem_cons_succ]
  refine wpAnyH_take (i := 7) (v := ?_) rfl (by kernel_rfl) (by kernel_rfl) (by kernel_rfl) (fun _ _ _ h => h) (Or.inl ⟨by rfl, fun wS hS => ?_⟩) hH0 ?_
  rotate_left
  · obtain ⟨a0, a1, a2⟩ := (KN.k hS).c3; have a3 := (KN.km hS).c1; have a4 := (KN.kt hS).c1; have a5 := KN.cm hS; have a6 := KN.ct hS; go_simp; try exact rfl
  simp only [Act.put, List.setIfInBounds_toArray, List.set_cons_zero, List.set_cons_succ, List.getElem_toArray, List.getElem_cons_zero, List.getElem_cons_succ]
  refine wpAnyH_take (i := 8) (v := ?_) rfl (by kernel_rfl) (by kernel_rfl) (by kernel_rfl) (fun _ _ _ h => h) (Or.inl ⟨by rfl, fun wS hS => ?_⟩) hH0 ?_
  rotate_left
  · obtain ⟨a0, a1, a2⟩ := (KN.k hS).c3; have a3 := (KN.km hS).c1; have a4 := (KN.kt hS).c1; have a5 := KN.cm hS; have a6 := KN.ct hS; go_simp; try exact rfl
  simp only [Act.put, List.setIfInBounds_toArray, List.set_cons_zero, List.set_cons_succ, List.getElem_toArray, List.getElem_cons_zero, List.getElem_cons_succ]
  refine wpAnyH_ready (rs := [9]) (by kernel_rfl) (by simp) (AllReadyH.cons rfl (fun K hK => ?_) (AllReadyH.nil))
  go_simp
  go_at_call 31
  refine (implCrash_v d R m t _ H.out HOK.out HML.out HR.out).mono ?_; rintro r x1 ⟨g1, ca, B, rfl, hg1, hrow, hb1⟩
  have K2 := hide (K2.out.after hb1)
  have HB := hide (HB.out.trans (hb1.mono HB.out.size))
  have HG := hide (show w.heap.size + 1 + 1 ≤ g1 from Nat.le_trans (Nat.le_of_eq HZ.out.symm) hg1)
  have HRW := hide hrow
  refine hK.out _ _ (hH0.fr (Fr.of_below (fun _ => False) hb1) id id id id id) (fun hH1 => ?_)
  clear hK K
  try simp only [Act.put]
  clear hb1 hrow hg1
  refine wpAnyH_ready (rs := [10]) (by kernel_rfl) (by simp) (AllReadyH.cons rfl (fun K hK => ?_) (AllReadyH.nil))
  obtain ⟨q0, q1, q2⟩ := K2.out.c3
  have f0 := K2.out.frozen 0
  have f1 := K2.out.frozen 1
  have f2 := K2.out.frozen 2
  go_simp
  refine hK.out _ _ (hH1.fr ((((Fr.refl (fun b => b = w.heap.size + 1) _).setCell (p := ⟨w.heap.size + 1, 0, none⟩) (.inl rfl) (.slice (some ⟨g1, 0, none⟩) 64 ca)).setCell (p := ⟨w.heap.size + 1, 1, none⟩) (.inl rfl) (.slice B 0 0)).setCell (p := ⟨w.heap.size + 1, 2, none⟩) (.inl rfl) (.bool d.g)) (by omega) (by have := HLM.out.1; omega) (by have := HLM.out.2.1; omega) (by have := HLM.out.2.2.1; show ¬ bm = _; omega) (by have := HLM.out.2.2.2; show ¬ bt = _; omega)) (fun hH2 => ?_)
  clear hK K
  try simp only [Act.put]
  clear q0 q1 q2 f0 f1 f2
  refine wpAnyH_take (i := 11) (v := ?_) rfl (by kernel_rfl) (by kernel_rfl) (by kernel_rfl) (fun _ _ _ h => h) (Or.inl ⟨by rfl, fun wS hS => ?_⟩) hH2 ?_
  rotate_left
  · obtain ⟨a0, a1, a2⟩ := (KN.k hS).c3; have a3 := (KN.km hS).c1; have a4 := (KN.kt hS).c1; have a5 := KN.cm hS; have a6 := KN.ct hS; go_simp; try exact rfl
  simp only [Act.put, List.setIfInBounds_toArray, List.set_cons_zero, List.set_cons_succ, List.getElem_toArray, List.getElem_cons_zero, List.getElem_cons_succ]
  refine wpAnyH_done (by kernel_rfl) ?_ _
  have P3 := hide (put3 K2.out (.slice (some ⟨g1, 0, none⟩) 64 ca) (.slice B 0 0) (.bool d.g))
  have PB := hide (((HB.out.setCell (p := ⟨w.heap.size + 1, 0, none⟩) (Nat.le_succ _) (.slice (some ⟨g1, 0, none⟩) 64 ca)).setCell (p := ⟨w.heap.size + 1, 1, none⟩) (Nat.le_succ _) (.slice B 0 0)).setCell (p := ⟨w.heap.size + 1, 2, none⟩) (Nat.le_succ _) (.bool d.g))
  have PR := hide (HRW.out.fr (fr3 (Fr.refl (fun b => b = w.heap.size + 1) _) (.inl rfl) (.slice (some ⟨g1, 0, none⟩) 64 ca) (.slice B 0 0) (.bool d.g)) (by have := HG.out; omega))
  clear hH2
  obtain ⟨Y, hY⟩ : ∃ Y : World, Y = ((x1.setCell ⟨w.heap.size + 1, 0, none⟩ (.slice (some ⟨g1, 0, none⟩) 64 ca)).setCell ⟨w.heap.size + 1, 1, none⟩ (.slice B 0 0)).setCell ⟨w.heap.size + 1, 2, none⟩ (.bool d.g) := ⟨_, rfl⟩
  rw [← hY] at P3 PB PR
  rw [← hY]
  clear hY
  go_wp2_with fail
  obtain ⟨r0, r1, r2⟩ := P3.out.c3
  refine bodyPost_ret (v := .tuple #[.agg #[.slice (some ⟨g1, 0, none⟩) 64 ca, .slice B 0 0, .bool d.g], .bool true]) (by simp [results, Try.results50, go_sem, r0, r1, r2]) rfl ?_
  exact ⟨g1, ca, B, rfl, by have := HG.out; omega, PR.out, PB.out⟩
set_option maxHeartbeats 8000000 in
theorem eachCrash_any (A : Option Addr) (n c : Nat) (ds : List DV) (gm gt : Nat) (Am At : Option Addr) (nm cm nt ct : Nat) (ms ts : List Int) (w : World) (h : RIn w A n ds) (hok : ∀ d ∈ ds, d.ok = true ∧ d.Has w) (hgm : Bk w gm 37 #[.slice Am nm cm]) (hgt : Bk w gt 37 #[.slice At nt ct]) (hMM : Rd w 1 Am nm (ms.map (Value.int .i64))) (hTT : Rd w 1 At nt (ts.map (Value.int .i64))) (hmk : ∀ k, k < n → ∃ m : Nat, ms[k]? = some (m : Int) ∧ m < 9223372036854775808) (htk : ∀ k, k < n → ∃ t, ts[k]? = some t) (hn : n ≤ 1000) :
    Calls Try.prog 45 #[.agg #[.slice A n c], .func (.func 50) #[] #[.pointer (some ⟨gm, 0, none⟩), .pointer (some ⟨gt, 0, none⟩)]] w (EachP ((ds.map DV.val).mapIdx (crV ms ts)) w) := by
  obtain ⟨W1, hW1⟩ : ∃ W1, W1 = ((w.alloc (.cells #[.slice A n c] 24)).alloc (.cells #[.slice none 0 0] 24)).alloc (.cells #[.slice none 0 0] 24) := ⟨_, rfl⟩
  have hb : Below w.heap.size w W1 := by
    rw [hW1]
    exact ((((Below.refl w.heap.size w).alloc (Nat.le_refl _) _).alloc (by simp) _).alloc (by simp; omega) _)
  have k0 : Bk W1 w.heap.size 24 #[.slice A n c] := by rw [hW1]; exact ((Bk.fresh w 24 #[.slice A n c]).alloc _).alloc _
  have k1 : Bk W1 (w.heap.size + 1) 24 #[.slice none 0 0] := by
    rw [hW1]
    have h := Bk.fresh (w.alloc (.cells #[.slice A n c] 24)) 24 #[.slice none 0 0]
    rw [show (w.alloc (.cells #[.slice A n c] 24)).heap.size = w.heap.size + 1 by simp] at h
    exact h.alloc _
  have k2 : Bk W1 (w.heap.size + 1 + 1) 24 #[.slice none 0 0] := by
    rw [hW1]
    have h := Bk.fresh ((w.alloc (.cells #[.slice A n c] 24)).alloc (.cells #[.slice none 0 0] 24)) 24 #[.slice none 0 0]
    rw [show ((w.alloc (.cells #[.slice A n c] 24)).alloc (.cells #[.slice none 0 0] 24)).heap.size = w.heap.size + 1 + 1 by simp] at h
    exact h
  have K0 := hide k0
  have K1 := hide k1
  have K2 := hide k2
  have HC := hide (show OwnR w.heap.size W1 (.slice none 0 0) [] from ⟨⟨rfl, .inl ⟨rfl, rfl⟩⟩, (fun d hd => by cases hd), List.Pairwise.nil⟩)
  have HB := hide hb
  have H := hide h
  have HS := hide hok
  have HLN := hide h.len
  have HGM := hide hgm
  have HGT := hide hgt
  have HMM := hide hMM
  have HTT := hide hTT
  have HMK := hide hmk
  have HTK := hide htk
  clear hgm hgt hMM hTT hmk htk
  clear k0 k1 k2 hb h hok
  rw [hW1] at K0 K1 K2 HC HB
  clear hW1
  go_enter Try.func45, Try.ntmps45
  go_wp2_with fail
  go_loopw [14] (fun i wr => ∃ (k : Nat) (V : Value) (es : List DV), k ≤ n ∧ i = .int .i64 k ∧ Hid (es.length = k) ∧ Hid (Bk wr w.heap.size 24 #[.slice A n c]) ∧ Hid (Bk wr (w.heap.size + 1) 24 #[.slice none 0 0]) ∧ Hid (Bk wr (w.heap.size + 1 + 1) 24 #[V]) ∧ Hid (OwnR w.heap.size wr V es) ∧ Hid (es.map DV.val = ((ds.map DV.val).mapIdx (crV ms ts)).take k) ∧ Hid (Below w.heap.size w wr)) (fun i _ => n - (intOf i).toNat)
  case atStart => exact ⟨0, _, [], by omega, rfl, hide rfl, K0, K1, K2, HC, hide rfl, HB⟩
  case round =>
    clear K0 K1 K2 HC HB
    obtain ⟨k, V, es, hk, rfl, HL, K0, K1, K2, HC, HV, HB⟩ := hrel
    by_cases hlt : k < n
    · obtain ⟨b, o, d, hAe, hbl, hd, hc0, hc1, hc2⟩ := (H.out.1.after HB.out).disk_at hlt
      subst hAe
      have i0 : (0 : Int) ≤ (k : Int) := by omega
      have i1 : (k : Int) < (n : Int) := by omega
      have hmem := List.mem_of_getElem? hd
      obtain ⟨hdo, hhs⟩ := HS.out d hmem
      have hb := bel1 wr (.cells #[.slice d.A1 d.n1 d.c1, .slice d.A2 d.n2 d.c2, .bool d.g] 49)
      have HI := hide ((hhs.after HB.out).after hb)
      have HD := hide (show (ds.map DV.val)[k]? = some d.val by rw [List.getElem?_map, hd]; rfl)
      have HDO := hide hdo
      have HEL := hide (show es.length ≤ 1000 by rw [HL.out]; omega)
      have K0 := hide (K0.out.after hb)
      have K1 := hide (K1.out.after hb)
      have K2 := hide (K2.out.after hb)
      have HC := hide (HC.out.after hb)
      have HB := hide (HB.out.trans (hb.mono HB.out.size))
      obtain ⟨m, hm1, hm2⟩ := HMK.out k hlt
      obtain ⟨t, ht1⟩ := HTK.out k hlt
      have HM1 := hide hm1
      have HM2 := hide hm2
      have HT1 := hide ht1
      have HMV := hide (show (ms.getD k 0).toNat = m by rw [List.getD_eq_getElem?_getD, hm1]; simp)
      have HTV := hide (show ts.getD k 0 = t by rw [List.getD_eq_getElem?_getD, ht1]; simp)
      have HGMc := hide (HGM.out.after HB.out)
      have HGTc := hide (HGT.out.after HB.out)
      have HMMc := hide (HMM.out.after HB.out)
      have HTTc := hide (HTT.out.after HB.out)
      clear hm1 hm2 ht1
      obtain ⟨R, hR⟩ : ∃ R, settleT (crashF m t) 0 d.z2 d.z1 = R := ⟨_, rfl⟩
      have HSR := hide hR
      clear hb hd hbl hR hmem hdo hhs
      go_wp2_with fail
      refine (oneCrash_any k d R gm gt Am At nm cm nt ct ms ts m t _ HGMc.out HGTc.out HMMc.out HTTc.out HM1.out HT1.out HM2.out HI.out HDO.out HSR.out).mono ?_; rintro r x1 ⟨g1, ca1, B2, rfl, hg1, hrow, hb1⟩
      obtain ⟨E, hE⟩ : ∃ E : DV, E = ⟨some ⟨g1, 0, none⟩, 64, ca1, B2, 0, 0, d.g, R, []⟩ := ⟨_, rfl⟩
      have HRL := hide (show R.length = 64 by rw [← HSR.out, settle_len]; exact (ok_parts HDO.out).1)
      have HLT := hide (show ∀ e ∈ es, e.b ≠ g1 from fun e he q => by have h1 := (HC.out.each e he).row.lt; omega)
      have HO := hide (show E.Own w.heap.size x1 by rw [hE]; exact ⟨rfl, Nat.le_trans HB.out.size hg1, rfl, rfl, rfl, HRL.out, hrow, rfl⟩)
      have HG1 := hide hg1
      clear hg1 hrow
      have K0 := hide ((K0.out.after hb1).alloc (.cells #[.slice (some ⟨g1, 0, none⟩) 64 ca1, .slice B2 0 0, .bool d.g] 49))
      have K1 := hide ((K1.out.after hb1).alloc (.cells #[.slice (some ⟨g1, 0, none⟩) 64 ca1, .slice B2 0 0, .bool d.g] 49))
      have K2 := hide ((K2.out.after hb1).alloc (.cells #[.slice (some ⟨g1, 0, none⟩) 64 ca1, .slice B2 0 0, .bool d.g] 49))
      have hb2 := bel1 x1 (.cells #[.slice (some ⟨g1, 0, none⟩) 64 ca1, .slice B2 0 0, .bool d.g] 49)
      have HC := hide ((HC.out.after hb1).after hb2)
      have HB := hide ((HB.out.trans (hb1.mono HB.out.size)).alloc (Nat.le_trans HB.out.size hb1.size) (.cells #[.slice (some ⟨g1, 0, none⟩) 64 ca1, .slice B2 0 0, .bool d.g] 49))
      have HO := hide (HO.out.after hb2)
      clear hb1 hb2
      have HZ := hide (Nat.le_trans HB.out.size (Nat.le_refl _))
      have t2 := K2.out.c1
      have t2' := (K2.out.alloc (.cells #[.slice (some ⟨g1, 0, none⟩) 64 ca1, .slice B2 0 0, .bool d.g] 49)).c1
      have HSZ2 := hide (Nat.le_trans HB.out.size (bel1 _ (.cells #[.slice (some ⟨g1, 0, none⟩) 64 ca1, .slice B2 0 0, .bool d.g] 49)).size)
      have MK := hide ((Bk.fresh (x1.alloc (.cells #[.slice (some ⟨g1, 0, none⟩) 64 ca1, .slice B2 0 0, .bool d.g] 49)) 49 E.cells.toArray).at_ (g' := x1.heap.size + 1) (by simp))
      have K0 := hide (K0.out.alloc (.cells #[.slice (some ⟨g1, 0, none⟩) 64 ca1, .slice B2 0 0, .bool d.g] 49))
      have K1 := hide (K1.out.alloc (.cells #[.slice (some ⟨g1, 0, none⟩) 64 ca1, .slice B2 0 0, .bool d.g] 49))
      have K2 := hide (K2.out.alloc (.cells #[.slice (some ⟨g1, 0, none⟩) 64 ca1, .slice B2 0 0, .bool d.g] 49))
      have hb3 := bel1 (x1.alloc (.cells #[.slice (some ⟨g1, 0, none⟩) 64 ca1, .slice B2 0 0, .bool d.g] 49)) (.cells #[.slice (some ⟨g1, 0, none⟩) 64 ca1, .slice B2 0 0, .bool d.g] 49)
      have HC := hide (HC.out.after hb3)
      have HO := hide (HO.out.after hb3)
      have HB := hide (HB.out.trans (hb3.mono HB.out.size))
      have HEB := hide (show ∀ e ∈ es, e.b ≠ E.b from fun e he => by rw [hE]; exact HLT.out e he)
      clear hb3
      have HEE := hide hE
      rw [hE] at MK
      clear hE
      have V0 := hide (show E.val = (crV ms ts) k d.val by rw [HEE.out]; show (R, [], d.g) = _; rw [← HSR.out, ← HMV.out, ← HTV.out]; rfl)
      go_wp2_with (at_builtin; refine wpList_app_dv (d := E) (ds := es) (V := V) (by rfl) _ _ (by rfl) (by rfl) (by rfl) HC.out.own (by rw [HEE.out]; exact MK.out) HEL.out HSZ2.out ?_; intro b2 c2 x3 ho' hf; have K0 := hide (K0.out.fr hf (fun e => absurd (own_ty HC.out.own e K0.out) (by decide))); have K1 := hide (K1.out.fr hf (fun e => absurd (own_ty HC.out.own e K1.out) (by decide))); have K2 := hide (K2.out.fr hf (fun e => absurd (own_ty HC.out.own e K2.out) (by decide))); have HB := hide (HB.out.trans (hf.below HB.out.size (fun i e => (HC.out.own.lt i e.symm).1))); have HC := hide (HC.out.app ho' hf HO.out HEB.out); have t2 := K2.out.c1; have f2 := K2.out.frozen 0; clear ho' hf)
      have HC := hide (HC.out.set K2.out (v := .slice (some ⟨b2, 0, none⟩) (es.length + 1) c2))
      have W3 := hide ((Fr.refl (fun b => b = w.heap.size + 1 + 1) x3).setCell (p := ⟨w.heap.size + 1 + 1, 0, none⟩) (.inl rfl) (.slice (some ⟨b2, 0, none⟩) (es.length + 1) c2))
      have K0 := hide (K0.out.fr W3.out (by omega))
      have K1 := hide (K1.out.fr W3.out (by omega))
      have HB := hide (HB.out.setCell (p := ⟨w.heap.size + 1 + 1, 0, none⟩) (by show w.heap.size ≤ w.heap.size + 1 + 1; omega) (.slice (some ⟨b2, 0, none⟩) (es.length + 1) c2))
      have K2 := hide (show Bk (x3.setCell ⟨w.heap.size + 1 + 1, 0, none⟩ (.slice (some ⟨b2, 0, none⟩) (es.length + 1) c2)) (w.heap.size + 1 + 1) 24 #[.slice (some ⟨b2, 0, none⟩) (es.length + 1) c2] from K2.out.put 0 _)
      go_roundw
      case rel => exact ⟨k + 1, _, es ++ [E], by omega, int_eq (by omega), hide (by rw [List.length_append, List.length_singleton, HL.out]), K0, K1, K2, HC, hide (idx_more HD.out HV.out V0.out), HB⟩
      case measure => simp [intOf]; omega
    · have hkn : k = n := by omega
      obtain ⟨A2, c2, rfl⟩ := HC.out.shape
      have t2 := K2.out.cell 0
      have u1 := K1.out.cell 0
      have f1 := K1.out.frozen 0
      have HV := hide (show es.map DV.val = (ds.map DV.val).mapIdx (crV ms ts) by have := HV.out; rwa [List.take_of_length_le (by rw [List.length_mapIdx, List.length_map, HLN.out]; omega)] at this)
      clear hkn
      go_wp2_with fail
      have KF := K1.out.put 0 (.slice A2 es.length c2)
      have HF := HC.out.set K1.out (v := .slice A2 es.length c2)
      have HBF := HB.out.setCell (p := ⟨w.heap.size + 1, 0, none⟩) (by show w.heap.size ≤ w.heap.size + 1; omega) (.slice A2 es.length c2)
      have c0 : (wr.setCell ⟨w.heap.size + 1, 0, none⟩ (.slice A2 es.length c2)).cell? ⟨w.heap.size + 1, 0, none⟩ = some (.slice A2 es.length c2) := KF.cell 0
      refine bodyPost_ret (v := .tuple #[.agg #[.slice A2 es.length c2], .bool true]) (by simp [results, Try.results45, go_sem, c0]) rfl ?_
      exact ⟨_, es, rfl, HF, HV.out, HBF⟩
end Go.Proofs.Ytcaoekaephnimaa
