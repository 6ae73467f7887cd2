/- Both RaidOk; the walk of the law FnExactRaidOk. -/
import Derived.Test.YtcaoekaephnimaaRaidTo
import Derived.Test.YtcaoekaephnimaaQO
namespace Go.Proofs.Ytcaoekaephnimaa
open Go.RowKit
set_option linter.unusedVariables false
set_option maxRecDepth 100000

/-- a valid disk -/
def DV.ok (d : DV) : Bool := diskOk d.z1 d.z2 d.g
/-- valid disks, three of them -/
def raidOk (ds : List DV) : Bool := decide (ds.length = 3) && ds.all DV.ok
theorem rok_len {ds : List DV} (h : ds.length ≠ 3) : raidOk ds = false := by unfold raidOk; rw [decide_eq_false h]; rfl
theorem rok_bad {ds : List DV} {k : Nat} {d : DV} (hd : ds[k]? = some d) (h : d.ok = false) : raidOk ds = false := by
  unfold raidOk
  rw [show ds.all DV.ok = false from List.all_eq_false.2 ⟨d, List.mem_of_getElem? hd, by rw [h]; simp⟩]
  simp
theorem rok_all {ds : List DV} (h : ds.length = 3) (h2 : ds.all DV.ok = true) : raidOk ds = true := by unfold raidOk; rw [decide_eq_true h, h2]; rfl
theorem rok_iff (ds : List DV) : raidOk ds = true ↔ ds.length = 3 ∧ ds.all DV.ok = true := by simp [raidOk]
theorem rok_val {ds es : List DV} (h : ds.map DV.val = es.map DV.val) : raidOk ds = raidOk es := by
  have hl : ds.length = es.length := by have := congrArg List.length h; simpa using this
  have key : ∀ (xs : List DV), xs.all DV.ok = (xs.map DV.val).all (fun v => diskOk v.1 v.2.1 v.2.2) := by
    intro xs
    rw [List.all_map]
    rfl
  unfold raidOk
  rw [hl, key ds, key es, h]
theorem all_snocD {ds : List DV} {k : Nat} {d : DV} (hd : ds[k]? = some d) (h : (ds.take k).all DV.ok = true) (ho : d.ok = true) : (ds.take (k + 1)).all DV.ok = true := by
  rw [List.take_add_one, hd, List.all_append, h, Bool.true_and]
  show ([d].all DV.ok) = true
  simp [ho]
set_option maxHeartbeats 400000 in
theorem badDisk_v {d : DV} {v : Bool} (hv : d.ok = v) (w : World) (h : d.In w) :
    Calls Try.prog 41 #[.agg #[.slice d.A1 d.n1 d.c1, .slice d.A2 d.n2 d.c2, .bool d.g]] w fun r w' => r = .returned (.bool (!v)) ∧ Below w.heap.size w w' := by
  have hb0 := bel1 w (.cells #[.slice d.A1 d.n1 d.c1, .slice d.A2 d.n2 d.c2, .bool d.g] 49)
  have H := hide (h.after hb0)
  have HB := hide hb0
  have HV := hide hv
  clear h hb0 hv
  go_enter Try.func41, Try.ntmps41
  go_wp2_with fail
  refine (implDiskOk_v HV.out _ H.out.1 H.out.2.1 H.out.2.2.1 H.out.2.2.2).mono ?_; rintro r w1 ⟨rfl, hb1⟩
  go_wp2_with fail
  go_ret
  exact ⟨rfl, bnext HB.out (Nat.le_refl _) hb1⟩
set_option maxHeartbeats 2000000 in
theorem indexD_any (A : Option Addr) (n c : Nat) (ds : List DV) (w : World) (h : RIn w A n ds) (hm : n ≤ maxLen) :
    Calls Try.prog 65 #[.slice A n c, .func (.func 41) #[] #[]] w fun r w' => (∃ i : Int, r = .returned (.int .i64 i) ∧ (ds.all DV.ok = true → i = -1) ∧ (ds.all DV.ok = false → 0 ≤ i)) ∧ Below w.heap.size w w' := by
  unfold maxLen at hm
  have HZL := hide h.len
  have H := hide h
  clear h
  go_enter Try.func65, Try.ntmps65
  go_wp2_with fail
  go_loopw [8] (fun i wr => ∃ k : Nat, k ≤ n ∧ Hid (Below w.heap.size w wr) ∧ Hid ((ds.take k).all DV.ok = true) ∧ i = .int .i64 k) (fun i _ => n - (intOf i).toNat)
  case atStart => exact ⟨0, by omega, hide (Below.refl _ _), hide rfl, rfl⟩
  case round =>
    obtain ⟨k, hk, HW, HT, rfl⟩ := hrel
    by_cases hlt : k < n
    · obtain ⟨b, o, d, rfl, hb, hd, hc0, hc1, hc2⟩ := (H.out.1.after HW.out).disk_at hlt
      have HD := hide hd
      have HI := hide ((H.out.2 d (List.mem_of_getElem? hd)).after HW.out)
      have i0 : (0 : Int) ≤ (k : Int) := by omega
      have i1 : (k : Int) < (n : Int) := by omega
      clear hd hb
      cases e : d.ok
      · have E := hide e
        have HF := hide (show ds.all DV.ok = false from List.all_eq_false.2 ⟨d, List.mem_of_getElem? HD.out, by rw [e]; simp⟩)
        clear e
        go_wp2_with fail
        refine (badDisk_v E.out _ HI.out).mono ?_; rintro r w1 ⟨rfl, hb1⟩
        go_wp2_with fail
        go_ret
        exact ⟨⟨k, rfl, fun e => (by rw [HF.out] at e; cases e), fun _ => by omega⟩, HW.out.trans (hb1.mono HW.out.size)⟩
      · have E := hide e
        have HT1 := hide (all_snocD HD.out HT.out e)
        clear e
        go_wp2_with fail
        refine (badDisk_v E.out _ HI.out).mono ?_; rintro r w1 ⟨rfl, hb1⟩
        go_wp2_with fail
        go_roundw
        case rel => exact ⟨k + 1, by omega, hide (HW.out.trans (hb1.mono HW.out.size)), HT1, int_eq (by omega)⟩
        case measure => simp [intOf]; omega
    · have HF := hide (show ds.all DV.ok = true by have := HT.out; rwa [List.take_of_length_le (by have := HZL.out; omega)] at this)
      go_wp2_with fail
      go_ret
      exact ⟨⟨-1, rfl, fun _ => rfl, fun e => (by rw [HF.out] at e; cases e)⟩, HW.out⟩
theorem containsD_v {A : Option Addr} {n c : Nat} {ds : List DV} {v : Bool} (hv : ds.all DV.ok = v) (w : World) (h : RIn w A n ds) (hm : n ≤ maxLen) :
    Calls Try.prog 40 #[.slice A n c, .func (.func 41) #[] #[]] w fun r w' => r = .returned (.bool (!v)) ∧ Below w.heap.size w w' := by
  have H := hide h
  have E := hide hv
  clear h hv
  cases v
  · go_enter Try.func40, Try.ntmps40
    go_wp2_with fail
    refine (indexD_any _ _ _ ds _ H.out hm).mono ?_; rintro r w1 ⟨⟨i, rfl, _, hi⟩, hb1⟩
    have hi0 := hi E.out
    clear hi
    go_wp2_with fail
    go_ret
    exact ⟨ret_bool (by first | rfl | (simp; omega) | simp [hi0]), hb1⟩
  · go_enter Try.func40, Try.ntmps40
    go_wp2_with fail
    refine (indexD_any _ _ _ ds _ H.out hm).mono ?_; rintro r w1 ⟨⟨i, rfl, hi, _⟩, hb1⟩
    obtain rfl := hi E.out
    clear hi
    go_wp2_with fail
    go_ret
    exact ⟨rfl, hb1⟩
set_option maxHeartbeats 1000000 in
theorem implRaidOk_v {A : Option Addr} {n c : Nat} {ds : List DV} {v : Bool} (hv : raidOk ds = v) (w : World) (h : RIn w A n ds) (hm : n ≤ maxLen) :
    Calls Try.prog 18 #[.agg #[.slice A n c]] w fun r w' => r = .returned (.bool v) ∧ Below w.heap.size w w' := by
  subst hv
  have hb0 := bel1 w (.cells #[.slice A n c] 24)
  have hl := h.len
  have H := hide (h.after hb0)
  have HB := hide hb0
  have HM := hide hm
  have HL := hide hl
  clear h hb0 hm
  by_cases h3 : n = 3
  · subst h3
    have HR := hide (show raidOk ds = ds.all DV.ok by unfold raidOk; rw [decide_eq_true hl, Bool.true_and])
    cases e : ds.all DV.ok
    all_goals
      have E := hide e
      rw [e] at HR
      clear e hl
      go_enter Try.func18, Try.ntmps18
      go_wp2_with fail
      refine (containsD_v E.out _ H.out HM.out).mono ?_; rintro r w1 ⟨rfl, hb1⟩
      go_wp2_with fail
      go_ret
      exact ⟨ret_bool HR.out.symm, bnext HB.out (Nat.le_refl _) hb1⟩
  · have HR := hide (rok_len (ds := ds) (by rw [hl]; exact h3))
    have e3 : ((n : Int) == 3) = false := by rw [beq_eq_false_iff_ne]; omega
    clear hl h3
    go_enter Try.func18, Try.ntmps18
    go_wp2_with fail
    go_ret
    exact ⟨ret_bool HR.out.symm, HB.out⟩
set_option maxHeartbeats 2000000 in
theorem specRaidOk_v {A : Option Addr} {n c : Nat} {ds : List DV} {v : Bool} (hv : raidOk ds = v) (w : World) (h : RIn w A n ds) (hm : n ≤ maxLen) :
    Calls Try.prog 16 #[.agg #[.slice A n c]] w fun r w' => r = .returned (.bool v) ∧ Below w.heap.size w w' := by
  subst hv
  unfold maxLen at hm
  have hb0 := bel1 w (.cells #[.slice A n c] 24)
  have K0 := hide (Bk.fresh w 24 #[.slice A n c])
  have H := hide h
  have HB := hide hb0
  have HL := hide h.len
  clear h hb0
  go_enter Try.func16, Try.ntmps16
  go_wp2_with fail
  go_loopw [3] (fun i wr => ∃ k : Nat, k ≤ n ∧ Hid (Below w.heap.size w wr) ∧ Hid (Bk wr w.heap.size 24 #[.slice A n c]) ∧ Hid ((ds.take k).all DV.ok = true) ∧ i = .int .i64 k) (fun i _ => n - (intOf i).toNat)
  case atStart => exact ⟨0, by omega, HB, K0, hide rfl, rfl⟩
  case round =>
    clear K0
    obtain ⟨k, hk, HW, K0, HT, rfl⟩ := hrel
    have t0 := K0.out.c1
    by_cases hlt : k < n
    · obtain ⟨b, o, d, rfl, hb, hd, hc0, hc1, hc2⟩ := (H.out.1.after HW.out).disk_at hlt
      have HD := hide hd
      have HI := hide ((H.out.2 d (List.mem_of_getElem? hd)).after HW.out)
      have i0 : (0 : Int) ≤ (k : Int) := by omega
      have i1 : (k : Int) < (n : Int) := by omega
      clear hd hb
      cases e : d.ok
      · have E := hide e
        have HF := hide (rok_bad HD.out e)
        clear e
        go_wp2_with fail
        refine (specDiskOk_v E.out _ HI.out.1 HI.out.2.1 HI.out.2.2.1 HI.out.2.2.2).mono ?_; rintro r w1 ⟨rfl, hb1⟩
        go_wp2_with fail
        go_ret
        exact ⟨ret_bool HF.out.symm, HW.out.trans (hb1.mono HW.out.size)⟩
      · have E := hide e
        have HT1 := hide (all_snocD HD.out HT.out e)
        clear e
        go_wp2_with fail
        refine (specDiskOk_v E.out _ HI.out.1 HI.out.2.1 HI.out.2.2.1 HI.out.2.2.2).mono ?_; rintro r w1 ⟨rfl, hb1⟩
        have K1 := hide (K0.out.after hb1)
        go_wp2_with fail
        go_roundw
        case rel => exact ⟨k + 1, by omega, hide (HW.out.trans (hb1.mono HW.out.size)), K1, HT1, int_eq (by omega)⟩
        case measure => simp [intOf]; omega
    · have HF := hide (show raidOk ds = decide ((n : Int) = 3) by
        have := HT.out
        rw [List.take_of_length_le (by have := HL.out; omega)] at this
        unfold raidOk
        rw [this, HL.out, Bool.and_true]
        by_cases h3 : n = 3
        · rw [decide_eq_true h3, decide_eq_true (by omega)]
        · rw [decide_eq_false h3, decide_eq_false (by omega)])
      go_wp2_with fail
      go_ret
      exact ⟨ret_bool (by rw [HF.out]; first | rfl | simp | (simp; omega)), HW.out⟩
set_option maxHeartbeats 4000000 in
theorem fnExactRaidOk_walk (A : Option Addr) (n c : Nat) (ds : List DV) (w : World) (h : RaidS w A n c ds) :
    Calls Try.prog 4 #[.agg #[.slice A n c]] w fun r w' => r = .returned (.bool true) ∧ Below w.heap.size w w' := by
  have hb0 := bel1 w (.cells #[.slice A n c] 31)
  have K0 := hide (Bk.fresh w 31 #[.slice A n c])
  have HM := hide (show n ≤ maxLen from Nat.le_trans h.1 h.2.1)
  have H := hide (h.after hb0)
  have HB := hide hb0
  clear h hb0
  go_enter Try.func4, Try.ntmps4
  go_wp2_with fail
  refine (szRaid_any _ _ _ ds _ H.out).mono ?_; rintro r w1 ⟨⟨v, rfl, hv⟩, hb1⟩
  have K0 := hide (K0.out.after hb1)
  have HR := hide (H.out.rin.after hb1)
  have HB := hide (HB.out.trans (hb1.mono HB.out.size))
  have HV := hide hv
  clear hv hb1
  by_cases hvn : v < 0
  · go_wp2_with fail
    go_ret
    exact ⟨rfl, HB.out⟩
  · have hs : n + tot ds ≤ 1048576 := by
      rcases HV.out with h | ⟨_, h, _⟩
      · exact absurd h hvn
      · exact h
    have HS := hide hs
    have t0 := K0.out.c1
    clear hs
    go_wp2_with fail
    refine (toRaid_any _ _ _ ds _ HR.out HS.out).mono ?_; rintro r w2 ⟨g1, d1, rfl, hm, hvl, hb⟩
    have M1 := hide hm
    have V1 := hide hvl
    have K0 := hide (K0.out.after hb)
    have HR := hide (HR.out.after hb)
    have HB := hide (HB.out.trans (hb.mono HB.out.size))
    clear hb hm hvl t0
    go_wp2_with fail
    refine (specRaidOk_v (v := raidOk ds) (rok_val V1.out) _ M1.out.rin HM.out).mono ?_; rintro r w3 ⟨rfl, hb⟩
    have K0 := hide (K0.out.after hb)
    have HR := hide (HR.out.after hb)
    have HB := hide (HB.out.trans (hb.mono HB.out.size))
    clear hb
    have t0 := K0.out.c1
    go_wp2_with fail
    refine (toRaid_any _ _ _ ds _ HR.out HS.out).mono ?_; rintro r w4 ⟨g2, d2, rfl, hm, hvl, hb⟩
    have hb' := bel1 w4 (.cells #[.slice (some ⟨g2, 0, none⟩) n n] 24)
    have M2 := hide (hm.after hb')
    have V2 := hide hvl
    have K0 := hide ((K0.out.after hb).after hb')
    have K5 := hide (Bk.fresh w4 24 #[.slice (some ⟨g2, 0, none⟩) n n])
    have HR := hide ((HR.out.after hb).after hb')
    have HB := hide ((HB.out.trans (hb.mono HB.out.size)).trans (hb'.mono (HB.out.trans (hb.mono HB.out.size)).size))
    clear hb hm hvl t0 hb'
    go_wp2_with fail
    refine (implRaidOk_v (v := raidOk ds) (rok_val V2.out) _ M2.out.rin HM.out).mono ?_; rintro r w5 ⟨rfl, hb⟩
    have M2 := hide (M2.out.after hb)
    have K0 := hide (K0.out.after hb)
    have K5 := hide (K5.out.after hb)
    have HR := hide (HR.out.after hb)
    have HB := hide (HB.out.trans (hb.mono HB.out.size))
    obtain ⟨u, hu⟩ : ∃ u, u = raidOk ds := ⟨_, rfl⟩
    have huu : (u != u) = false := by cases u <;> rfl
    rw [← hu]
    clear hb hu
    go_wp2_with fail
    refine wp_region_held_drew (S := fun x => Bk x w4.heap.size 24 #[.slice (some ⟨g2, 0, none⟩) n n] ∧ Bk x w.heap.size 31 #[.slice A n c] ∧ Below w.heap.size w x) (by kernel_rfl) (⟨K5.out, K0.out, HB.out.drew⟩) (fun hH => ?_)
    refine wpAnyH_take (i := 0) (v := ?_) rfl (by kernel_rfl) (by kernel_rfl) (by kernel_rfl) (fun _ _ _ h => h) (Or.inl ⟨by rfl, fun w hS => ?_⟩) hH ?_
    rotate_left
    · have q0 := hS.1.c1; have q1 := hS.2.1.c1; go_simp; try exact rfl
    simp only [Act.put, List.setIfInBounds_toArray, List.set_cons_zero, List.set_cons_succ, List.getElem_toArray, List.getElem_cons_zero]
    refine wpAnyH_take (i := 1) (v := ?_) rfl (by kernel_rfl) (by kernel_rfl) (by kernel_rfl) (fun _ _ _ h => h) (Or.inl ⟨by rfl, fun w hS => ?_⟩) hH ?_
    rotate_left
    · have q0 := hS.1.c1; have q1 := hS.2.1.c1; go_simp; try exact rfl
    simp only [Act.put, List.setIfInBounds_toArray, List.set_cons_zero, List.set_cons_succ, List.getElem_toArray, List.getElem_cons_zero, List.getElem_cons_succ]
    refine wpAnyH_ready (rs := [2]) (by kernel_rfl) (by simp) (AllReadyH.cons rfl (fun K hK => ?_) AllReadyH.nil)
    go_simp
    go_at_call 17
    refine (toRaid_any _ _ _ ds _ (HR.out.after (Below.refl _ _).drew) HS.out).mono ?_; rintro r x1 ⟨g3, d3, rfl, hm, hvl, hb⟩
    have M3 := hide hm
    have V3 := hide hvl
    have M2 := hide ((M2.out.after (Below.refl _ _).drew).after hb)
    refine hK.out _ _ (⟨hH.1.after hb, hH.2.1.after hb, hH.2.2.trans (hb.mono hH.2.2.size)⟩) (fun hH5 => ?_)
    clear hK K
    try simp only [Act.put, List.setIfInBounds_toArray, List.set_cons_zero, List.set_cons_succ]
    refine wpAnyH_ready (rs := [3]) (by kernel_rfl) (by simp) (AllReadyH.cons rfl (fun K hK => ?_) AllReadyH.nil)
    go_simp
    go_at_call 12
    refine (eqRaid_v (v := true) (decide_eq_true (by rw [V2.out, V3.out])) _ M2.out.rin M3.out.rin HM.out).mono ?_; rintro r x2 ⟨rfl, hb2⟩
    refine hK.out _ _ (⟨hH5.1.after hb2, hH5.2.1.after hb2, hH5.2.2.trans (hb2.mono hH5.2.2.size)⟩) (fun hH6 => ?_)
    clear hK K
    try simp only [Act.put, List.setIfInBounds_toArray, List.set_cons_zero, List.set_cons_succ]
    refine wpAnyH_take (i := 4) (v := ?_) rfl (by kernel_rfl) (by kernel_rfl) (by kernel_rfl) (fun _ _ _ h => h) (Or.inl ⟨by rfl, fun w hS => ?_⟩) hH6 ?_
    rotate_left
    · have q0 := hS.1.c1; have q1 := hS.2.1.c1; go_simp; try exact rfl
    simp only [Act.put, List.setIfInBounds_toArray, List.set_cons_zero, List.set_cons_succ, List.getElem_toArray, List.getElem_cons_zero, List.getElem_cons_succ]
    refine wpAnyH_done (by kernel_rfl) ?_ _
    go_wp2_with fail
    go_ret
    exact ⟨rfl, hH6.2.2⟩
end Go.Proofs.Ytcaoekaephnimaa
