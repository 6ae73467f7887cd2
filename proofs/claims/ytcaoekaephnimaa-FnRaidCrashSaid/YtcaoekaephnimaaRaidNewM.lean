/- RaidNew of the reference, with what the draw of a raid needs. -/
import Derived.Test.YtcaoekaephnimaaRaidCopy
import Derived.Test.YtcaoekaephnimaaRaidLaw
import Derived.Test.YtcaoekaephnimaaDrawDiskA
namespace Go.Proofs.Ytcaoekaephnimaa
open Go.RowKit
set_option linter.unusedVariables false
set_option maxRecDepth 100000

/-- a disk that can be written -/
structure DV.Good (K : Nat) (d : DV) : Prop where
  n1 : d.n1 = 64
  g : d.g = false
  ok : d.z2.all waitB = true
  n2 : d.n2 ≤ K
/-- a raid that can be written -/
def NewR (w : World) (r : Ending) (w' : World) : Prop := ∃ V ds, r = .returned (.agg #[V]) ∧ ds.length = 3 ∧ CopR w.heap.size w' V ds ∧ (∀ d ∈ ds, d.Good 0) ∧ Below w.heap.size w w'
set_option maxHeartbeats 4000000 in
theorem specRaidNewM (w : World) : Calls Try.prog 10 #[] w (NewR w) := by
  obtain ⟨W1, hW1⟩ : ∃ W1, W1 = ((w.alloc (.cells #[.slice none 0 0] 24)).alloc (.cells #[] 49)).alloc (.cells #[(.slice (some ⟨w.heap.size + 1, 0, none⟩) 0 0)] 24) := ⟨_, rfl⟩
  have hz : W1.heap.size = w.heap.size + 1 + 1 + 1 := by rw [hW1]; simp
  have k0 : Bk W1 w.heap.size 24 #[.slice none 0 0] := by rw [hW1]; exact ((Bk.fresh w 24 #[.slice none 0 0]).alloc _).alloc _
  have ke : Bk W1 (w.heap.size + 1) 49 #[] := by
    rw [hW1]
    have h := Bk.fresh (w.alloc (.cells #[.slice none 0 0] 24)) 49 #[]
    rw [show (w.alloc (.cells #[.slice none 0 0] 24)).heap.size = w.heap.size + 1 by simp] at h
    exact h.alloc _
  have k1 : Bk W1 (w.heap.size + 1 + 1) 24 #[(.slice (some ⟨w.heap.size + 1, 0, none⟩) 0 0)] := by
    rw [hW1]
    have h := Bk.fresh ((w.alloc (.cells #[.slice none 0 0] 24)).alloc (.cells #[] 49)) 24 #[(.slice (some ⟨w.heap.size + 1, 0, none⟩) 0 0)]
    rw [show ((w.alloc (.cells #[.slice none 0 0] 24)).alloc (.cells #[] 49)).heap.size = w.heap.size + 1 + 1 by simp] at h
    exact h
  have hb : Below w.heap.size w W1 := by
    rw [hW1]
    exact (((Below.refl w.heap.size w).alloc (Nat.le_refl _) _).alloc (by simp) _).alloc (by simp; omega) _
  have ho : W1.ownsRow w.heap.size 49 3 (.slice (some ⟨w.heap.size + 1, 0, none⟩) 0 0) 0 [] := ⟨rfl, .inr ⟨w.heap.size + 1, 0, #[], rfl, by omega, ke, Nat.le_refl _, by simp [maxLen], rfl, rfl⟩⟩
  have K1 := hide k1
  have K0 := hide k0
  have HC := hide (show CopR w.heap.size W1 (.slice (some ⟨w.heap.size + 1, 0, none⟩) 0 0) [] from ⟨ho, (fun d hd => by cases hd), List.Pairwise.nil⟩)
  have HB := hide hb
  clear k0 k1 ke hb ho hz
  rw [hW1] at K0 K1 HC HB
  clear hW1
  go_enter Try.func10, Try.ntmps10
  go_wp2_with fail
  go_loopw [2] (fun i wr => ∃ (k : Nat) (V : Value) (es : List DV), k ≤ 3 ∧ i = .int .i64 k ∧ es.length = k ∧ Hid (Bk wr w.heap.size 24 #[.slice none 0 0]) ∧ Hid (Bk wr (w.heap.size + 1 + 1) 24 #[V]) ∧ Hid (CopR w.heap.size wr V es) ∧ Hid (∀ e ∈ es, e.Good 0) ∧ Hid (Below w.heap.size w wr)) (fun i _ => 3 - (intOf i).toNat)
  case atStart => exact ⟨0, _, [], by omega, rfl, rfl, K0, K1, HC, hide (fun e he => by cases he), HB⟩
  case round =>
    clear K0 K1 HC HB
    obtain ⟨k, V, es, hk, rfl, hl, K0, K1, HC, HG, HB⟩ := hrel
    by_cases hlt : k < 3
    · have hlt' : (k : Int) < 3 := by omega
      have hgl : es.length ≤ 1000 := by omega
      have HL := hide hl
      clear hl
      have hb := (Below.refl wr.heap.size wr).drew
      have K0 := hide (K0.out.after hb)
      have K1 := hide (K1.out.after hb)
      have HC := hide (HC.out.after hb)
      have HB := hide (HB.out.trans (hb.mono HB.out.size))
      clear hb
      go_upto_region 5 with fail
      refine wp_region_held_drew (S := fun _ => True) (by kernel_rfl) (trivial) (fun hH0 => ?_)
      refine wpAnyH_take (i := 0) (v := ?_) rfl (by kernel_rfl) (by kernel_rfl) (by kernel_rfl) (fun _ _ _ h => h) (Or.inl ⟨by rfl, fun wS hS => ?_⟩) hH0 ?_
      rotate_left
      · go_simp; try exact rfl
      simp only [Act.put, List.setIfInBounds_toArray, List.set_cons_zero, List.set_cons_succ, List.getElem_toArray, List.getElem_cons_zero]
      refine wpAnyH_ready (rs := [1, 2]) (by kernel_rfl) (by simp) (AllReadyH.cons rfl (fun K hK => ?_) (AllReadyH.cons rfl (fun K hK => ?_) (AllReadyH.nil)))
      · have t0 := K1.out.cell 0
        go_simp
        refine hK.out _ _ (trivial) (fun hH1 => ?_)
        clear hK K
        try simp only [Act.put]
        clear t0
        refine wpAnyH_ready (rs := [2]) (by kernel_rfl) (by simp) (AllReadyH.cons rfl (fun K hK => ?_) (AllReadyH.nil))
        go_simp
        go_at_call 32
        refine (specDiskNewS _).mono ?_; rintro r x1 ⟨g1, e1, rfl, hg1, he1, hr1, hr2, hb⟩
        have HMD := hide (show (⟨some ⟨g1, 0, none⟩, 64, 64, some ⟨e1, 0, none⟩, 0, 0, false, List.replicate 64 ⟨#[]⟩, []⟩ : DV).Made w.heap.size x1 from ⟨rfl, rfl, Nat.le_trans HB.out.size hg1, Nat.le_trans HB.out.size he1, by simp, rfl, by show (64 : Nat) ≤ 1048576; omega, Nat.zero_le _, es64_row hr1, ⟨_, hr2, Nat.zero_le _, fun j hj => absurd hj (by simp [waitCells])⟩⟩)
        have HLT := hide (show ∀ e ∈ es, e.b ≠ g1 from fun e he q => by have h1 := (HC.out.each e he).r1.lt; omega)
        have K0 := hide (K0.out.after hb)
        have K1 := hide (K1.out.after hb)
        have HC := hide (HC.out.after hb)
        have HB := hide (HB.out.trans ((hb).mono HB.out.size))
        refine hK.out _ _ (trivial) (fun hH2 => ?_)
        clear hK K
        try simp only [Act.put]
        clear hb hr1 hr2 hg1 he1
        refine wpAnyH_ready (rs := [3]) (by kernel_rfl) (by simp) (AllReadyH.cons rfl (fun K hK => ?_) (AllReadyH.nil))
        go_simp
        refine hK.out _ _ (trivial) (fun hH3 => ?_)
        clear hK K
        try simp only [Act.put]
        have MK := hide (Bk.fresh x1 49 ((⟨some ⟨g1, 0, none⟩, 64, 64, some ⟨e1, 0, none⟩, 0, 0, false, List.replicate 64 ⟨#[]⟩, []⟩ : DV)).cells.toArray)
        have hb := bel1 x1 (.cells #[.slice (some ⟨g1, 0, none⟩) 64 64, .slice (some ⟨e1, 0, none⟩) 0 0, .bool false] 49)
        have HMD := hide (HMD.out.after hb)
        have K0 := hide (K0.out.after hb)
        have K1 := hide (K1.out.after hb)
        have HC := hide (HC.out.after hb)
        have HB := hide (HB.out.trans ((hb).mono HB.out.size))
        clear hb
        refine wpAnyH_ready (rs := [4]) (by kernel_rfl) (by simp) (AllReadyH.cons rfl (fun K hK => ?_) (AllReadyH.nil))
        rw [if_pos (by kernel_rfl)]
        refine wp_app_dv (base := w.heap.size) (d := (⟨some ⟨g1, 0, none⟩, 64, 64, some ⟨e1, 0, none⟩, 0, 0, false, List.replicate 64 ⟨#[]⟩, []⟩ : DV)) _ _ (by rfl) (by rfl) (by rfl) HC.out.own MK.out (by omega) HB.out.size ?_; intro b2 c2 x3 ho' hf
        have K0n := K0.out.fr hf (fun e => absurd (own_ty HC.out.own e K0.out) (by decide))
        have K1n := K1.out.fr hf (fun e => absurd (own_ty HC.out.own e K1.out) (by decide))
        have HB := hide (HB.out.trans (hf.below HB.out.size (fun i e => (HC.out.own.lt i e.symm).1)))
        have HC := hide (HC.out.app ho' hf HMD.out HLT.out)
        have K0 := hide K0n
        have K1 := hide K1n
        refine hK.out _ _ (trivial) (fun hH4 => ?_)
        clear hK K
        try simp only [Act.put]
        clear hf ho' K0n K1n
        refine wpAnyH_take (i := 5) (v := ?_) rfl (by kernel_rfl) (by kernel_rfl) (by kernel_rfl) (fun _ _ _ h => h) (Or.inl ⟨by rfl, fun wS hS => ?_⟩) hH4 ?_
        rotate_left
        · go_simp; try exact rfl
        simp only [Act.put, List.setIfInBounds_toArray, List.set_cons_zero, List.set_cons_succ, List.getElem_toArray, List.getElem_cons_zero, List.getElem_cons_succ]
        refine wpAnyH_ready (rs := [6]) (by kernel_rfl) (by simp) (AllReadyH.cons rfl (fun K hK => ?_) (AllReadyH.nil))
        have t0 := K1.out.cell 0
        have f0 := K1.out.frozen 0
        go_simp
        refine hK.out _ _ (trivial) (fun hH5 => ?_)
        clear hK K
        try simp only [Act.put]
        clear t0 f0
        refine wpAnyH_done (by kernel_rfl) ?_ _
        have HC := hide (HC.out.set K1.out (v := (.slice (some ⟨b2, 0, none⟩) (es.length + 1) c2)))
        have K0 := hide (K0.out.fr ((Fr.refl (fun b => b = w.heap.size + 1 + 1) x3).setCell (p := ⟨w.heap.size + 1 + 1, 0, none⟩) (.inl rfl) (.slice (some ⟨b2, 0, none⟩) (es.length + 1) c2)) (by omega))
        have HB := hide (HB.out.setCell (p := ⟨w.heap.size + 1 + 1, 0, none⟩) (by show w.heap.size ≤ w.heap.size + 1 + 1; omega) (.slice (some ⟨b2, 0, none⟩) (es.length + 1) c2))
        have K1 := hide (show Bk (x3.setCell ⟨w.heap.size + 1 + 1, 0, none⟩ (.slice (some ⟨b2, 0, none⟩) (es.length + 1) c2)) (w.heap.size + 1 + 1) 24 #[(.slice (some ⟨b2, 0, none⟩) (es.length + 1) c2)] from K1.out.put 0 (.slice (some ⟨b2, 0, none⟩) (es.length + 1) c2))
        go_wp2_with fail
        go_roundw
        case rel => exact ⟨k + 1, _, es ++ [(⟨some ⟨g1, 0, none⟩, 64, 64, some ⟨e1, 0, none⟩, 0, 0, false, List.replicate 64 ⟨#[]⟩, []⟩ : DV)], by omega, int_eq (by omega), by rw [List.length_append, List.length_singleton, HL.out], K0, K1, HC, hide (fun e he => by rcases List.mem_append.1 he with h1 | h1; exact HG.out e h1; rw [List.mem_singleton] at h1; rw [h1]; exact ⟨rfl, rfl, rfl, Nat.le_refl _⟩), HB⟩
        case measure => simp [intOf]; omega
      · go_simp
        go_at_call 32
        refine (specDiskNewS _).mono ?_; rintro r x1 ⟨g1, e1, rfl, hg1, he1, hr1, hr2, hb⟩
        have HMD := hide (show (⟨some ⟨g1, 0, none⟩, 64, 64, some ⟨e1, 0, none⟩, 0, 0, false, List.replicate 64 ⟨#[]⟩, []⟩ : DV).Made w.heap.size x1 from ⟨rfl, rfl, Nat.le_trans HB.out.size hg1, Nat.le_trans HB.out.size he1, by simp, rfl, by show (64 : Nat) ≤ 1048576; omega, Nat.zero_le _, es64_row hr1, ⟨_, hr2, Nat.zero_le _, fun j hj => absurd hj (by simp [waitCells])⟩⟩)
        have HLT := hide (show ∀ e ∈ es, e.b ≠ g1 from fun e he q => by have h1 := (HC.out.each e he).r1.lt; omega)
        have K0 := hide (K0.out.after hb)
        have K1 := hide (K1.out.after hb)
        have HC := hide (HC.out.after hb)
        have HB := hide (HB.out.trans ((hb).mono HB.out.size))
        refine hK.out _ _ (trivial) (fun hH1 => ?_)
        clear hK K
        try simp only [Act.put]
        clear hb hr1 hr2 hg1 he1
        refine wpAnyH_ready (rs := [1, 3]) (by kernel_rfl) (by simp) (AllReadyH.cons rfl (fun K hK => ?_) (AllReadyH.cons rfl (fun K hK => ?_) (AllReadyH.nil)))
        · have t0 := K1.out.cell 0
          go_simp
          refine hK.out _ _ (trivial) (fun hH2 => ?_)
          clear hK K
          try simp only [Act.put]
          clear t0
          refine wpAnyH_ready (rs := [3]) (by kernel_rfl) (by simp) (AllReadyH.cons rfl (fun K hK => ?_) (AllReadyH.nil))
          go_simp
          refine hK.out _ _ (trivial) (fun hH3 => ?_)
          clear hK K
          try simp only [Act.put]
          have MK := hide (Bk.fresh x1 49 ((⟨some ⟨g1, 0, none⟩, 64, 64, some ⟨e1, 0, none⟩, 0, 0, false, List.replicate 64 ⟨#[]⟩, []⟩ : DV)).cells.toArray)
          have hb := bel1 x1 (.cells #[.slice (some ⟨g1, 0, none⟩) 64 64, .slice (some ⟨e1, 0, none⟩) 0 0, .bool false] 49)
          have HMD := hide (HMD.out.after hb)
          have K0 := hide (K0.out.after hb)
          have K1 := hide (K1.out.after hb)
          have HC := hide (HC.out.after hb)
          have HB := hide (HB.out.trans ((hb).mono HB.out.size))
          clear hb
          refine wpAnyH_ready (rs := [4]) (by kernel_rfl) (by simp) (AllReadyH.cons rfl (fun K hK => ?_) (AllReadyH.nil))
          rw [if_pos (by kernel_rfl)]
          refine wp_app_dv (base := w.heap.size) (d := (⟨some ⟨g1, 0, none⟩, 64, 64, some ⟨e1, 0, none⟩, 0, 0, false, List.replicate 64 ⟨#[]⟩, []⟩ : DV)) _ _ (by rfl) (by rfl) (by rfl) HC.out.own MK.out (by omega) HB.out.size ?_; intro b2 c2 x3 ho' hf
          have K0n := K0.out.fr hf (fun e => absurd (own_ty HC.out.own e K0.out) (by decide))
          have K1n := K1.out.fr hf (fun e => absurd (own_ty HC.out.own e K1.out) (by decide))
          have HB := hide (HB.out.trans (hf.below HB.out.size (fun i e => (HC.out.own.lt i e.symm).1)))
          have HC := hide (HC.out.app ho' hf HMD.out HLT.out)
          have K0 := hide K0n
          have K1 := hide K1n
          refine hK.out _ _ (trivial) (fun hH4 => ?_)
          clear hK K
          try simp only [Act.put]
          clear hf ho' K0n K1n
          refine wpAnyH_take (i := 5) (v := ?_) rfl (by kernel_rfl) (by kernel_rfl) (by kernel_rfl) (fun _ _ _ h => h) (Or.inl ⟨by rfl, fun wS hS => ?_⟩) hH4 ?_
          rotate_left
          · go_simp; try exact rfl
          simp only [Act.put, List.setIfInBounds_toArray, List.set_cons_zero, List.set_cons_succ, List.getElem_toArray, List.getElem_cons_zero, List.getElem_cons_succ]
          refine wpAnyH_ready (rs := [6]) (by kernel_rfl) (by simp) (AllReadyH.cons rfl (fun K hK => ?_) (AllReadyH.nil))
          have t0 := K1.out.cell 0
          have f0 := K1.out.frozen 0
          go_simp
          refine hK.out _ _ (trivial) (fun hH5 => ?_)
          clear hK K
          try simp only [Act.put]
          clear t0 f0
          refine wpAnyH_done (by kernel_rfl) ?_ _
          have HC := hide (HC.out.set K1.out (v := (.slice (some ⟨b2, 0, none⟩) (es.length + 1) c2)))
          have K0 := hide (K0.out.fr ((Fr.refl (fun b => b = w.heap.size + 1 + 1) x3).setCell (p := ⟨w.heap.size + 1 + 1, 0, none⟩) (.inl rfl) (.slice (some ⟨b2, 0, none⟩) (es.length + 1) c2)) (by omega))
          have HB := hide (HB.out.setCell (p := ⟨w.heap.size + 1 + 1, 0, none⟩) (by show w.heap.size ≤ w.heap.size + 1 + 1; omega) (.slice (some ⟨b2, 0, none⟩) (es.length + 1) c2))
          have K1 := hide (show Bk (x3.setCell ⟨w.heap.size + 1 + 1, 0, none⟩ (.slice (some ⟨b2, 0, none⟩) (es.length + 1) c2)) (w.heap.size + 1 + 1) 24 #[(.slice (some ⟨b2, 0, none⟩) (es.length + 1) c2)] from K1.out.put 0 (.slice (some ⟨b2, 0, none⟩) (es.length + 1) c2))
          go_wp2_with fail
          go_roundw
          case rel => exact ⟨k + 1, _, es ++ [(⟨some ⟨g1, 0, none⟩, 64, 64, some ⟨e1, 0, none⟩, 0, 0, false, List.replicate 64 ⟨#[]⟩, []⟩ : DV)], by omega, int_eq (by omega), by rw [List.length_append, List.length_singleton, HL.out], K0, K1, HC, hide (fun e he => by rcases List.mem_append.1 he with h1 | h1; exact HG.out e h1; rw [List.mem_singleton] at h1; rw [h1]; exact ⟨rfl, rfl, rfl, Nat.le_refl _⟩), HB⟩
          case measure => simp [intOf]; omega
        · go_simp
          refine hK.out _ _ (trivial) (fun hH2 => ?_)
          clear hK K
          try simp only [Act.put]
          have MK := hide (Bk.fresh x1 49 ((⟨some ⟨g1, 0, none⟩, 64, 64, some ⟨e1, 0, none⟩, 0, 0, false, List.replicate 64 ⟨#[]⟩, []⟩ : DV)).cells.toArray)
          have hb := bel1 x1 (.cells #[.slice (some ⟨g1, 0, none⟩) 64 64, .slice (some ⟨e1, 0, none⟩) 0 0, .bool false] 49)
          have HMD := hide (HMD.out.after hb)
          have K0 := hide (K0.out.after hb)
          have K1 := hide (K1.out.after hb)
          have HC := hide (HC.out.after hb)
          have HB := hide (HB.out.trans ((hb).mono HB.out.size))
          clear hb
          refine wpAnyH_ready (rs := [1]) (by kernel_rfl) (by simp) (AllReadyH.cons rfl (fun K hK => ?_) (AllReadyH.nil))
          have t0 := K1.out.cell 0
          go_simp
          refine hK.out _ _ (trivial) (fun hH3 => ?_)
          clear hK K
          try simp only [Act.put]
          clear t0
          refine wpAnyH_ready (rs := [4]) (by kernel_rfl) (by simp) (AllReadyH.cons rfl (fun K hK => ?_) (AllReadyH.nil))
          rw [if_pos (by kernel_rfl)]
          refine wp_app_dv (base := w.heap.size) (d := (⟨some ⟨g1, 0, none⟩, 64, 64, some ⟨e1, 0, none⟩, 0, 0, false, List.replicate 64 ⟨#[]⟩, []⟩ : DV)) _ _ (by rfl) (by rfl) (by rfl) HC.out.own MK.out (by omega) HB.out.size ?_; intro b2 c2 x3 ho' hf
          have K0n := K0.out.fr hf (fun e => absurd (own_ty HC.out.own e K0.out) (by decide))
          have K1n := K1.out.fr hf (fun e => absurd (own_ty HC.out.own e K1.out) (by decide))
          have HB := hide (HB.out.trans (hf.below HB.out.size (fun i e => (HC.out.own.lt i e.symm).1)))
          have HC := hide (HC.out.app ho' hf HMD.out HLT.out)
          have K0 := hide K0n
          have K1 := hide K1n
          refine hK.out _ _ (trivial) (fun hH4 => ?_)
          clear hK K
          try simp only [Act.put]
          clear hf ho' K0n K1n
          refine wpAnyH_take (i := 5) (v := ?_) rfl (by kernel_rfl) (by kernel_rfl) (by kernel_rfl) (fun _ _ _ h => h) (Or.inl ⟨by rfl, fun wS hS => ?_⟩) hH4 ?_
          rotate_left
          · go_simp; try exact rfl
          simp only [Act.put, List.setIfInBounds_toArray, List.set_cons_zero, List.set_cons_succ, List.getElem_toArray, List.getElem_cons_zero, List.getElem_cons_succ]
          refine wpAnyH_ready (rs := [6]) (by kernel_rfl) (by simp) (AllReadyH.cons rfl (fun K hK => ?_) (AllReadyH.nil))
          have t0 := K1.out.cell 0
          have f0 := K1.out.frozen 0
          go_simp
          refine hK.out _ _ (trivial) (fun hH5 => ?_)
          clear hK K
          try simp only [Act.put]
          clear t0 f0
          refine wpAnyH_done (by kernel_rfl) ?_ _
          have HC := hide (HC.out.set K1.out (v := (.slice (some ⟨b2, 0, none⟩) (es.length + 1) c2)))
          have K0 := hide (K0.out.fr ((Fr.refl (fun b => b = w.heap.size + 1 + 1) x3).setCell (p := ⟨w.heap.size + 1 + 1, 0, none⟩) (.inl rfl) (.slice (some ⟨b2, 0, none⟩) (es.length + 1) c2)) (by omega))
          have HB := hide (HB.out.setCell (p := ⟨w.heap.size + 1 + 1, 0, none⟩) (by show w.heap.size ≤ w.heap.size + 1 + 1; omega) (.slice (some ⟨b2, 0, none⟩) (es.length + 1) c2))
          have K1 := hide (show Bk (x3.setCell ⟨w.heap.size + 1 + 1, 0, none⟩ (.slice (some ⟨b2, 0, none⟩) (es.length + 1) c2)) (w.heap.size + 1 + 1) 24 #[(.slice (some ⟨b2, 0, none⟩) (es.length + 1) c2)] from K1.out.put 0 (.slice (some ⟨b2, 0, none⟩) (es.length + 1) c2))
          go_wp2_with fail
          go_roundw
          case rel => exact ⟨k + 1, _, es ++ [(⟨some ⟨g1, 0, none⟩, 64, 64, some ⟨e1, 0, none⟩, 0, 0, false, List.replicate 64 ⟨#[]⟩, []⟩ : DV)], by omega, int_eq (by omega), by rw [List.length_append, List.length_singleton, HL.out], K0, K1, HC, hide (fun e he => by rcases List.mem_append.1 he with h1 | h1; exact HG.out e h1; rw [List.mem_singleton] at h1; rw [h1]; exact ⟨rfl, rfl, rfl, Nat.le_refl _⟩), HB⟩
          case measure => simp [intOf]; omega
    · obtain rfl : k = 3 := by omega
      have t0 := K1.out.cell 0
      have u0 := K0.out.cell 0
      have f0 := K0.out.frozen 0
      have HL := hide hl
      clear hl
      obtain ⟨A2, c2, rfl⟩ := HC.out.shape
      go_wp2_with fail
      have KF := K0.out.put 0 (.slice A2 es.length c2)
      have HF := HC.out.set K0.out (v := .slice A2 es.length c2)
      have HBF := HB.out.setCell (p := ⟨w.heap.size, 0, none⟩) (Nat.le_refl _) (.slice A2 es.length c2)
      have c0 : (wr.setCell ⟨w.heap.size, 0, none⟩ (.slice A2 es.length c2)).cell? ⟨w.heap.size, 0, none⟩ = some (.slice A2 es.length c2) := KF.cell 0
      refine bodyPost_ret (v := .agg #[.slice A2 es.length c2]) (by simp [results, Try.results10, go_sem, c0]) rfl ?_
      exact ⟨_, es, rfl, HL.out, HF, HG.out, HBF⟩
end Go.Proofs.Ytcaoekaephnimaa
