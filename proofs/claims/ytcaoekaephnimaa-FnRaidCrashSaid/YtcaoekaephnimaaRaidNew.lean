/- Both RaidNew. -/
import Derived.Test.YtcaoekaephnimaaQD
import Derived.Deep.DeepCutAuto
import Derived.Deep.CutBlock
import Derived.Deep.RegionHeld
import Derived.Deep.AppendLies
namespace Go.Proofs.Ytcaoekaephnimaa
open Go.RowKit
set_option linter.unusedVariables false

/-- the cells of a new disk in a row -/
def dC (p : Nat × Option Addr) : List Value := [.slice (some ⟨p.1, 0, none⟩) 64 64, .slice p.2 0 0, .bool false]
def dCells (gs : List (Nat × Option Addr)) : List Value := gs.flatMap dC
theorem dCells_snoc (gs : List (Nat × Option Addr)) (p : Nat × Option Addr) : dCells (gs ++ [p]) = dCells gs ++ dC p := by simp [dCells]
theorem info_disk : (Try.prog.info? 49).map (fun i => (i.zero, i.size, i.bytes)) = some (some (.agg #[.slice none 0 0, .slice none 0 0, .bool false]), 3, 56) := by kernel_rfl
/-- append(disks, one disk) -/
theorem wp_app_disk {op : Oper} {a : Act} {w : World} {K : Act → World → Prop} {Q : Exit → Act → World → Prop} {base g : Nat} {V : Value} {gs : List (Nat × Option Addr)} {p : Nat × Option Addr} (so xo : Operand) (ho : op.op = .call { callee := .builtin .append, args := #[so, xo], argTypes := #[22, 22] }) (hs : a.eval so = V) (hx : a.eval xo = .slice (some ⟨g, 0, none⟩) 1 1)
    (hown : w.ownsRow base 49 3 V gs.length (dCells gs)) (hg : Bk w g 49 (dC p).toArray) (hn : gs.length ≤ 1000) (hb : base ≤ w.heap.size)
    (k : ∀ b2 c w', w'.ownsRow base 49 3 (.slice (some ⟨b2, 0, none⟩) (gs.length + 1) c) (gs.length + 1) (dCells (gs ++ [p])) → Fr (fun i => some i = V.ownBlock) w w' → K (a.put op.dst (.slice (some ⟨b2, 0, none⟩) (gs.length + 1) c)) w') : op.wp Try.prog a w K Q := by
  obtain ⟨i, hi, hz, hsz, hby⟩ := info_parts info_disk
  refine wp_append_own w so xo 22 ho base 49 i _ 3 56 Try.underlying22 hi hz hsz hby rfl (by decide) _ _ _ hs hown ⟨g, 0, none⟩ 1 1 (dC p) hx rfl (fun j u hj => ?_) (fun u hu => ?_) (by unfold maxLen; omega) (by omega) hb ?_
  · rw [Addr.add_lit, Nat.zero_add, hg.cell, List.getElem?_toArray]; exact hj
  · simp only [dC, List.mem_cons, List.not_mem_nil, or_false] at hu
    rcases hu with rfl | rfl | rfl <;> rfl
  · intro v' w' hown' hg' hv
    have hne : v' ≠ .slice none 0 0 := fun e => by have := (hv.1 e).2; cases this
    rw [← dCells_snoc] at hown'
    rcases hown'.2 with ⟨e, _⟩ | ⟨b2, c, cur, e, _⟩
    · exact absurd e hne
    · subst e
      exact k b2 c w' hown' ⟨hg'.os, hg'.tape, hg'.output, hg'.size, fun k hk hn => hg'.block k hk (fun e => hn e)⟩
theorem own_ty {w : World} {base n k i : Nat} {e t : TypeId} {V : Value} {xs : List Value} {cs : Array Value} (h : w.ownsRow base e k V n xs) (hi : some i = V.ownBlock) (hb : Bk w i t cs) : t = e := by
  rcases h.2 with ⟨rfl, _⟩ | ⟨g, cap, cur, rfl, _, hg, _⟩
  · cases hi
  · injection hi with hi
    subst hi
    have hy := hg.symm.trans hb
    injection hy with hy
    injection hy with _ h2
    exact h2.symm
/-- a new raid -/
def NewRaid (w : World) (r : Ending) (w' : World) : Prop :=
  ∃ (V : Value) (gs : List (Nat × Option Addr)), r = .returned (.agg #[V]) ∧ gs.length = 3 ∧ V ≠ .slice none 0 0 ∧ w'.ownsRow w.heap.size 49 3 V gs.length (dCells gs) ∧
    (∀ p ∈ gs, w.heap.size ≤ p.1 ∧ p.1 < w'.heap.size ∧ Bk w' p.1 9 (es64 ())) ∧ gs.Pairwise (fun p q => p.1 ≠ q.1) ∧ Below w.heap.size w w'
/-- the disks so far -/
def NewDs (B : Nat) (gs : List (Nat × Option Addr)) (w : World) : Prop := (∀ p ∈ gs, B ≤ p.1 ∧ p.1 < w.heap.size ∧ Bk w p.1 9 (es64 ())) ∧ gs.Pairwise (fun p q => p.1 ≠ q.1)
theorem NewDs.after {B : Nat} {gs : List (Nat × Option Addr)} {w w' : World} (h : NewDs B gs w) (hb : Below w.heap.size w w') : NewDs B gs w' :=
  ⟨fun p hp => by obtain ⟨a, b, c⟩ := h.1 p hp; exact ⟨a, Nat.lt_of_lt_of_le b hb.size, c.after hb⟩, h.2⟩
theorem NewDs.more {B : Nat} {gs : List (Nat × Option Addr)} {w w' : World} {g : Nat} {A : Option Addr} (h : NewDs B gs w) (hb : Below w.heap.size w w') (hB : B ≤ w.heap.size) (hg : w.heap.size ≤ g) (hk : Bk w' g 9 (es64 ())) : NewDs B (gs ++ [(g, A)]) w' := by
  refine ⟨fun p hp => ?_, ?_⟩
  · rcases List.mem_append.1 hp with h1 | h1
    · exact (h.after hb).1 p h1
    · rw [List.mem_singleton] at h1; subst h1; exact ⟨by show B ≤ g; omega, hk.lt, hk⟩
  · rw [List.pairwise_append]
    refine ⟨h.2, List.pairwise_singleton _ _, fun p hp q hq => ?_⟩
    rw [List.mem_singleton] at hq; subst hq
    have := (h.1 p hp).2.1
    show p.1 ≠ g
    omega
theorem NewDs.fr {B : Nat} {gs : List (Nat × Option Addr)} {S : Nat → Prop} {w w' : World} (h : NewDs B gs w) (hf : Fr S w w') (hn : ∀ p ∈ gs, ¬ S p.1) : NewDs B gs w' :=
  ⟨fun p hp => by obtain ⟨a, b, c⟩ := h.1 p hp; exact ⟨a, Nat.lt_of_lt_of_le b hf.size, c.fr hf (hn p hp)⟩, h.2⟩
theorem own_aft {w w' : World} {base : Nat} {e : TypeId} {k n : Nat} {v : Value} {xs : List Value} (h : w.ownsRow base e k v n xs) (hb : Below w.heap.size w w') : w'.ownsRow base e k v n xs := by
  refine ⟨h.1, ?_⟩
  rcases h.2 with h2 | ⟨g, cap, cur, hv, hg, hh, r⟩
  · exact .inl h2
  · refine .inr ⟨g, cap, cur, hv, hg, ?_, r⟩
    rw [hb.block g (Array.getElem?_eq_some_iff.1 hh).1]
    exact hh
theorem own_set {w : World} {base n : Nat} {V v : Value} {xs : List Value} {b : Nat} {cs : Array Value} (h : w.ownsRow base 49 3 V n xs) (hb : Bk w b 24 cs) : (w.setCell ⟨b, 0, none⟩ v).ownsRow base 49 3 V n xs := by
  refine ⟨h.1, ?_⟩
  rcases h.2 with h2 | ⟨g, cap, cur, hv, hg, hh, r⟩
  · exact .inl h2
  · refine .inr ⟨g, cap, cur, hv, hg, ?_, r⟩
    have hne : g ≠ b := fun e => by
      have := own_ty h (i := g) (by rw [hv]; rfl) (by rw [e]; exact hb)
      exact absurd this (by decide)
    rw [((Fr.refl (fun i => i = b) w).setCell (p := ⟨b, 0, none⟩) (.inl rfl) v).block g (Array.getElem?_eq_some_iff.1 hh).1 hne]
    exact hh
theorem NewDs.set {B : Nat} {gs : List (Nat × Option Addr)} {w : World} {b : Nat} {cs : Array Value} {v : Value} (h : NewDs B gs w) (hb : Bk w b 24 cs) : NewDs B gs (w.setCell ⟨b, 0, none⟩ v) :=
  h.fr ((Fr.refl (fun i => i = b) w).setCell (p := ⟨b, 0, none⟩) (.inl rfl) v) (fun p hp e => by
    obtain ⟨_, _, hk⟩ := h.1 p hp
    have hk2 : Bk w b 9 (es64 ()) := by rw [← e]; exact hk
    have hx := hk2.symm.trans hb
    injection hx with hx
    injection hx with _ h2
    exact absurd h2 (by decide))
set_option maxHeartbeats 4000000 in
theorem implRaidNew_any (w : World) : Calls Try.prog 11 #[] w (NewRaid w) := by
  have K0 := hide ((Bk.fresh w 24 #[.slice none 0 0]).alloc (.cells #[.slice none 0 0] 24))
  have K1 := hide (show Bk ((w.alloc (.cells #[.slice none 0 0] 24)).alloc (.cells #[.slice none 0 0] 24)) (w.heap.size + 1) 24 #[.slice none 0 0] by
    have h := Bk.fresh (w.alloc (.cells #[.slice none 0 0] 24)) 24 #[.slice none 0 0]
    rw [show (w.alloc (.cells #[.slice none 0 0] 24)).heap.size = w.heap.size + 1 by simp] at h
    exact h)
  have HB := hide (((Below.refl w.heap.size w).alloc (Nat.le_refl _) (.cells #[.slice none 0 0] 24)).alloc (by simp) (.cells #[.slice none 0 0] 24))
  go_enter Try.func11, Try.ntmps11
  go_wp2_with fail
  go_loopw [2] (fun i wr => ∃ (k : Nat) (V : Value) (gs : List (Nat × Option Addr)), k ≤ 3 ∧ i = .int .i64 k ∧ gs.length = k ∧ Hid (Bk wr w.heap.size 24 #[.slice none 0 0]) ∧ Hid (Bk wr (w.heap.size + 1) 24 #[V]) ∧ Hid (wr.ownsRow w.heap.size 49 3 V gs.length (dCells gs)) ∧ Hid (NewDs w.heap.size gs wr) ∧ Hid (Below w.heap.size w wr) ∧ (k = 0 ∨ Hid (V ≠ .slice none 0 0))) (fun i _ => 3 - (intOf i).toNat)
  case atStart => exact ⟨0, _, [], by omega, rfl, rfl, K0, K1, hide ⟨rfl, .inl ⟨rfl, rfl⟩⟩, hide ⟨(fun p hp => by cases hp), List.Pairwise.nil⟩, HB, .inl rfl⟩
  case round =>
    clear K0 K1 HB
    obtain ⟨k, V, gs, hk, rfl, hl, K0, K1, HO, HD, HB, hne⟩ := hrel
    by_cases hlt : k < 3
    · have hlt' : (k : Int) < 3 := by omega
      have hgl : gs.length ≤ 1000 := by omega
      have HL := hide hl
      clear hne hl
      have hb := (Below.refl wr.heap.size wr).drew
      have HD := hide (HD.out.after hb)
      have K0 := hide (K0.out.after hb)
      have K1 := hide (K1.out.after hb)
      have HO := hide (own_aft HO.out hb)
      have HB := hide (HB.out.trans (hb.mono HB.out.size))
      clear hb
      go_upto_region 4 with fail
      refine wp_region_held_drew (S := fun _ => True) (by kernel_rfl) (trivial) (fun hH0 => ?_)
      refine wpAnyH_take (i := 0) (v := ?_) rfl (by kernel_rfl) (by kernel_rfl) (by kernel_rfl) (fun _ _ _ h => h) (Or.inl ⟨by rfl, fun wS hS => ?_⟩) hH0 ?_
      rotate_left
      · go_simp; try exact rfl
      simp only [Act.put, List.setIfInBounds_toArray, List.set_cons_zero, List.set_cons_succ, List.getElem_toArray, List.getElem_cons_zero]
      refine wpAnyH_ready (rs := [1, 2]) (by kernel_rfl) (by simp) (AllReadyH.cons rfl (fun K hK => ?_) (AllReadyH.cons rfl (fun K hK => ?_) (AllReadyH.nil)))
      · have t0 := K1.out.cell 0
        go_simp
        refine hK.out _ _ (trivial) (fun hH1 => ?_)
        clear hK K
        try simp only [Act.put]
        clear t0
        refine wpAnyH_ready (rs := [2]) (by kernel_rfl) (by simp) (AllReadyH.cons rfl (fun K hK => ?_) (AllReadyH.nil))
        go_simp
        go_at_call 33
        refine (implDiskNew_any _).mono ?_; rintro r x1 ⟨g1, B, rfl, hg, hk, hb⟩
        have HD := hide (HD.out.more (A := B) hb HB.out.size hg hk)
        have K0 := hide (K0.out.after hb)
        have K1 := hide (K1.out.after hb)
        have HO := hide (own_aft HO.out hb)
        have HB := hide (HB.out.trans (hb.mono HB.out.size))
        clear hb hg hk
        refine hK.out _ _ (trivial) (fun hH2 => ?_)
        clear hK K
        try simp only [Act.put]
        refine wpAnyH_ready (rs := [3]) (by kernel_rfl) (by simp) (AllReadyH.cons rfl (fun K hK => ?_) (AllReadyH.nil))
        go_simp
        refine hK.out _ _ (trivial) (fun hH3 => ?_)
        clear hK K
        try simp only [Act.put]
        have MK := hide (Bk.fresh x1 49 (dC (g1, B)).toArray)
        have hb := bel1 x1 (.cells #[.slice (some ⟨g1, 0, none⟩) 64 64, .slice B 0 0, .bool false] 49)
        have HD := hide (HD.out.after hb)
        have K0 := hide (K0.out.after hb)
        have K1 := hide (K1.out.after hb)
        have HO := hide (own_aft HO.out hb)
        have HB := hide (HB.out.trans (hb.mono HB.out.size))
        clear hb
        refine wpAnyH_ready (rs := [4]) (by kernel_rfl) (by simp) (AllReadyH.cons rfl (fun K hK => ?_) (AllReadyH.nil))
        rw [if_pos (by kernel_rfl)]
        refine wp_app_disk (base := w.heap.size) _ _ (by rfl) (by rfl) (by rfl) HO.out MK.out (by omega) HB.out.size ?_; intro b2 c2 x3 ho' hf
        have HD := hide (HD.out.fr hf (fun p hp e => by obtain ⟨_, _, hk⟩ := HD.out.1 p hp; exact absurd (own_ty HO.out e hk) (by decide)))
        have K0 := hide (K0.out.fr hf (fun e => absurd (own_ty HO.out e K0.out) (by decide)))
        have K1 := hide (K1.out.fr hf (fun e => absurd (own_ty HO.out e K1.out) (by decide)))
        have HB := hide (HB.out.trans (hf.below HB.out.size (fun i e => (HO.out.lt i e.symm).1)))
        have HO := hide ho'
        clear hf ho'
        refine hK.out _ _ (trivial) (fun hH4 => ?_)
        clear hK K
        try simp only [Act.put]
        refine wpAnyH_take (i := 5) (v := ?_) rfl (by kernel_rfl) (by kernel_rfl) (by kernel_rfl) (fun _ _ _ h => h) (Or.inl ⟨by rfl, fun wS hS => ?_⟩) hH4 ?_
        rotate_left
        · go_simp; try exact rfl
        simp only [Act.put, List.setIfInBounds_toArray, List.set_cons_zero, List.set_cons_succ, List.getElem_toArray, List.getElem_cons_zero, List.getElem_cons_succ]
        refine wpAnyH_ready (rs := [6]) (by kernel_rfl) (by simp) (AllReadyH.cons rfl (fun K hK => ?_) (AllReadyH.nil))
        have t0 := K1.out.cell 0
        have f0 := K1.out.frozen 0
        go_simp
        refine hK.out _ _ (trivial) (fun hH5 => ?_)
        clear hK K
        try simp only [Act.put]
        clear t0 f0
        refine wpAnyH_done (by kernel_rfl) ?_ _
        have HO := hide (own_set HO.out K1.out (v := (.slice (some ⟨b2, 0, none⟩) (gs.length + 1) c2)))
        have HD := hide (HD.out.set K1.out (v := (.slice (some ⟨b2, 0, none⟩) (gs.length + 1) c2)))
        have K0 := hide (K0.out.fr ((Fr.refl (fun b => b = w.heap.size + 1) x3).setCell (p := ⟨w.heap.size + 1, 0, none⟩) (.inl rfl) (.slice (some ⟨b2, 0, none⟩) (gs.length + 1) c2)) (by omega))
        have HB := hide (HB.out.setCell (p := ⟨w.heap.size + 1, 0, none⟩) (by show w.heap.size ≤ w.heap.size + 1; omega) (.slice (some ⟨b2, 0, none⟩) (gs.length + 1) c2))
        have K1 := hide (show Bk (x3.setCell ⟨w.heap.size + 1, 0, none⟩ (.slice (some ⟨b2, 0, none⟩) (gs.length + 1) c2)) (w.heap.size + 1) 24 #[(.slice (some ⟨b2, 0, none⟩) (gs.length + 1) c2)] from K1.out.put 0 (.slice (some ⟨b2, 0, none⟩) (gs.length + 1) c2))
        go_wp2_with fail
        go_roundw
        case rel => exact ⟨k + 1, _, gs ++ [(g1, B)], by omega, int_eq (by omega), by rw [List.length_append, List.length_singleton, HL.out], K0, K1, (by rw [List.length_append, List.length_singleton]; exact HO), HD, HB, (.inr (hide (by intro e; cases e)))⟩
        case measure => simp [intOf]; omega
      · go_simp
        go_at_call 33
        refine (implDiskNew_any _).mono ?_; rintro r x1 ⟨g1, B, rfl, hg, hk, hb⟩
        have HD := hide (HD.out.more (A := B) hb HB.out.size hg hk)
        have K0 := hide (K0.out.after hb)
        have K1 := hide (K1.out.after hb)
        have HO := hide (own_aft HO.out hb)
        have HB := hide (HB.out.trans (hb.mono HB.out.size))
        clear hb hg hk
        refine hK.out _ _ (trivial) (fun hH1 => ?_)
        clear hK K
        try simp only [Act.put]
        refine wpAnyH_ready (rs := [1, 3]) (by kernel_rfl) (by simp) (AllReadyH.cons rfl (fun K hK => ?_) (AllReadyH.cons rfl (fun K hK => ?_) (AllReadyH.nil)))
        · have t0 := K1.out.cell 0
          go_simp
          refine hK.out _ _ (trivial) (fun hH2 => ?_)
          clear hK K
          try simp only [Act.put]
          clear t0
          refine wpAnyH_ready (rs := [3]) (by kernel_rfl) (by simp) (AllReadyH.cons rfl (fun K hK => ?_) (AllReadyH.nil))
          go_simp
          refine hK.out _ _ (trivial) (fun hH3 => ?_)
          clear hK K
          try simp only [Act.put]
          have MK := hide (Bk.fresh x1 49 (dC (g1, B)).toArray)
          have hb := bel1 x1 (.cells #[.slice (some ⟨g1, 0, none⟩) 64 64, .slice B 0 0, .bool false] 49)
          have HD := hide (HD.out.after hb)
          have K0 := hide (K0.out.after hb)
          have K1 := hide (K1.out.after hb)
          have HO := hide (own_aft HO.out hb)
          have HB := hide (HB.out.trans (hb.mono HB.out.size))
          clear hb
          refine wpAnyH_ready (rs := [4]) (by kernel_rfl) (by simp) (AllReadyH.cons rfl (fun K hK => ?_) (AllReadyH.nil))
          rw [if_pos (by kernel_rfl)]
          refine wp_app_disk (base := w.heap.size) _ _ (by rfl) (by rfl) (by rfl) HO.out MK.out (by omega) HB.out.size ?_; intro b2 c2 x3 ho' hf
          have HD := hide (HD.out.fr hf (fun p hp e => by obtain ⟨_, _, hk⟩ := HD.out.1 p hp; exact absurd (own_ty HO.out e hk) (by decide)))
          have K0 := hide (K0.out.fr hf (fun e => absurd (own_ty HO.out e K0.out) (by decide)))
          have K1 := hide (K1.out.fr hf (fun e => absurd (own_ty HO.out e K1.out) (by decide)))
          have HB := hide (HB.out.trans (hf.below HB.out.size (fun i e => (HO.out.lt i e.symm).1)))
          have HO := hide ho'
          clear hf ho'
          refine hK.out _ _ (trivial) (fun hH4 => ?_)
          clear hK K
          try simp only [Act.put]
          refine wpAnyH_take (i := 5) (v := ?_) rfl (by kernel_rfl) (by kernel_rfl) (by kernel_rfl) (fun _ _ _ h => h) (Or.inl ⟨by rfl, fun wS hS => ?_⟩) hH4 ?_
          rotate_left
          · go_simp; try exact rfl
          simp only [Act.put, List.setIfInBounds_toArray, List.set_cons_zero, List.set_cons_succ, List.getElem_toArray, List.getElem_cons_zero, List.getElem_cons_succ]
          refine wpAnyH_ready (rs := [6]) (by kernel_rfl) (by simp) (AllReadyH.cons rfl (fun K hK => ?_) (AllReadyH.nil))
          have t0 := K1.out.cell 0
          have f0 := K1.out.frozen 0
          go_simp
          refine hK.out _ _ (trivial) (fun hH5 => ?_)
          clear hK K
          try simp only [Act.put]
          clear t0 f0
          refine wpAnyH_done (by kernel_rfl) ?_ _
          have HO := hide (own_set HO.out K1.out (v := (.slice (some ⟨b2, 0, none⟩) (gs.length + 1) c2)))
          have HD := hide (HD.out.set K1.out (v := (.slice (some ⟨b2, 0, none⟩) (gs.length + 1) c2)))
          have K0 := hide (K0.out.fr ((Fr.refl (fun b => b = w.heap.size + 1) x3).setCell (p := ⟨w.heap.size + 1, 0, none⟩) (.inl rfl) (.slice (some ⟨b2, 0, none⟩) (gs.length + 1) c2)) (by omega))
          have HB := hide (HB.out.setCell (p := ⟨w.heap.size + 1, 0, none⟩) (by show w.heap.size ≤ w.heap.size + 1; omega) (.slice (some ⟨b2, 0, none⟩) (gs.length + 1) c2))
          have K1 := hide (show Bk (x3.setCell ⟨w.heap.size + 1, 0, none⟩ (.slice (some ⟨b2, 0, none⟩) (gs.length + 1) c2)) (w.heap.size + 1) 24 #[(.slice (some ⟨b2, 0, none⟩) (gs.length + 1) c2)] from K1.out.put 0 (.slice (some ⟨b2, 0, none⟩) (gs.length + 1) c2))
          go_wp2_with fail
          go_roundw
          case rel => exact ⟨k + 1, _, gs ++ [(g1, B)], by omega, int_eq (by omega), by rw [List.length_append, List.length_singleton, HL.out], K0, K1, (by rw [List.length_append, List.length_singleton]; exact HO), HD, HB, (.inr (hide (by intro e; cases e)))⟩
          case measure => simp [intOf]; omega
        · go_simp
          refine hK.out _ _ (trivial) (fun hH2 => ?_)
          clear hK K
          try simp only [Act.put]
          have MK := hide (Bk.fresh x1 49 (dC (g1, B)).toArray)
          have hb := bel1 x1 (.cells #[.slice (some ⟨g1, 0, none⟩) 64 64, .slice B 0 0, .bool false] 49)
          have HD := hide (HD.out.after hb)
          have K0 := hide (K0.out.after hb)
          have K1 := hide (K1.out.after hb)
          have HO := hide (own_aft HO.out hb)
          have HB := hide (HB.out.trans (hb.mono HB.out.size))
          clear hb
          refine wpAnyH_ready (rs := [1]) (by kernel_rfl) (by simp) (AllReadyH.cons rfl (fun K hK => ?_) (AllReadyH.nil))
          have t0 := K1.out.cell 0
          go_simp
          refine hK.out _ _ (trivial) (fun hH3 => ?_)
          clear hK K
          try simp only [Act.put]
          clear t0
          refine wpAnyH_ready (rs := [4]) (by kernel_rfl) (by simp) (AllReadyH.cons rfl (fun K hK => ?_) (AllReadyH.nil))
          rw [if_pos (by kernel_rfl)]
          refine wp_app_disk (base := w.heap.size) _ _ (by rfl) (by rfl) (by rfl) HO.out MK.out (by omega) HB.out.size ?_; intro b2 c2 x3 ho' hf
          have HD := hide (HD.out.fr hf (fun p hp e => by obtain ⟨_, _, hk⟩ := HD.out.1 p hp; exact absurd (own_ty HO.out e hk) (by decide)))
          have K0 := hide (K0.out.fr hf (fun e => absurd (own_ty HO.out e K0.out) (by decide)))
          have K1 := hide (K1.out.fr hf (fun e => absurd (own_ty HO.out e K1.out) (by decide)))
          have HB := hide (HB.out.trans (hf.below HB.out.size (fun i e => (HO.out.lt i e.symm).1)))
          have HO := hide ho'
          clear hf ho'
          refine hK.out _ _ (trivial) (fun hH4 => ?_)
          clear hK K
          try simp only [Act.put]
          refine wpAnyH_take (i := 5) (v := ?_) rfl (by kernel_rfl) (by kernel_rfl) (by kernel_rfl) (fun _ _ _ h => h) (Or.inl ⟨by rfl, fun wS hS => ?_⟩) hH4 ?_
          rotate_left
          · go_simp; try exact rfl
          simp only [Act.put, List.setIfInBounds_toArray, List.set_cons_zero, List.set_cons_succ, List.getElem_toArray, List.getElem_cons_zero, List.getElem_cons_succ]
          refine wpAnyH_ready (rs := [6]) (by kernel_rfl) (by simp) (AllReadyH.cons rfl (fun K hK => ?_) (AllReadyH.nil))
          have t0 := K1.out.cell 0
          have f0 := K1.out.frozen 0
          go_simp
          refine hK.out _ _ (trivial) (fun hH5 => ?_)
          clear hK K
          try simp only [Act.put]
          clear t0 f0
          refine wpAnyH_done (by kernel_rfl) ?_ _
          have HO := hide (own_set HO.out K1.out (v := (.slice (some ⟨b2, 0, none⟩) (gs.length + 1) c2)))
          have HD := hide (HD.out.set K1.out (v := (.slice (some ⟨b2, 0, none⟩) (gs.length + 1) c2)))
          have K0 := hide (K0.out.fr ((Fr.refl (fun b => b = w.heap.size + 1) x3).setCell (p := ⟨w.heap.size + 1, 0, none⟩) (.inl rfl) (.slice (some ⟨b2, 0, none⟩) (gs.length + 1) c2)) (by omega))
          have HB := hide (HB.out.setCell (p := ⟨w.heap.size + 1, 0, none⟩) (by show w.heap.size ≤ w.heap.size + 1; omega) (.slice (some ⟨b2, 0, none⟩) (gs.length + 1) c2))
          have K1 := hide (show Bk (x3.setCell ⟨w.heap.size + 1, 0, none⟩ (.slice (some ⟨b2, 0, none⟩) (gs.length + 1) c2)) (w.heap.size + 1) 24 #[(.slice (some ⟨b2, 0, none⟩) (gs.length + 1) c2)] from K1.out.put 0 (.slice (some ⟨b2, 0, none⟩) (gs.length + 1) c2))
          go_wp2_with fail
          go_roundw
          case rel => exact ⟨k + 1, _, gs ++ [(g1, B)], by omega, int_eq (by omega), by rw [List.length_append, List.length_singleton, HL.out], K0, K1, (by rw [List.length_append, List.length_singleton]; exact HO), HD, HB, (.inr (hide (by intro e; cases e)))⟩
          case measure => simp [intOf]; omega
    · obtain rfl : k = 3 := by omega
      have t0 := K1.out.cell 0
      have u0 := K0.out.cell 0
      have f0 := K0.out.frozen 0
      have hn3 : V ≠ .slice none 0 0 := by
        rcases hne with h | h
        · cases h
        · exact h.out
      have HN := hide hn3
      clear hne
      obtain ⟨b2, c2, rfl⟩ : ∃ b2 c2, V = .slice (some ⟨b2, 0, none⟩) gs.length c2 := by
        rcases HO.out.2 with ⟨e, _⟩ | ⟨b2, c, cur, e, _⟩
        · exact absurd e hn3
        · exact ⟨b2, c, e⟩
      have HL := hide hl
      clear hn3 hl
      go_wp2_with fail
      have KF := K0.out.put 0 (.slice (some ⟨b2, 0, none⟩) gs.length c2)
      have HF := own_set HO.out K0.out (v := (.slice (some ⟨b2, 0, none⟩) gs.length c2))
      have HDF := HD.out.set K0.out (v := (.slice (some ⟨b2, 0, none⟩) gs.length c2))
      have HBF := HB.out.setCell (p := ⟨w.heap.size, 0, none⟩) (Nat.le_refl _) (.slice (some ⟨b2, 0, none⟩) gs.length c2)
      have c0 : (wr.setCell ⟨w.heap.size, 0, none⟩ (.slice (some ⟨b2, 0, none⟩) gs.length c2)).cell? ⟨w.heap.size, 0, none⟩ = some (.slice (some ⟨b2, 0, none⟩) gs.length c2) := KF.cell 0
      refine bodyPost_ret (v := .agg #[(.slice (some ⟨b2, 0, none⟩) gs.length c2)]) (by simp [results, Try.results11, go_sem, c0]) rfl ?_
      exact ⟨_, gs, rfl, HL.out, HN.out, HF, HDF.1, HDF.2, HBF⟩
set_option maxHeartbeats 4000000 in
theorem specRaidNew_any (w : World) : Calls Try.prog 10 #[] w (NewRaid w) := by
  obtain ⟨W1, hW1⟩ : ∃ W1, W1 = ((w.alloc (.cells #[.slice none 0 0] 24)).alloc (.cells #[] 49)).alloc (.cells #[(.slice (some ⟨w.heap.size + 1, 0, none⟩) 0 0)] 24) := ⟨_, rfl⟩
  have hz : W1.heap.size = w.heap.size + 1 + 1 + 1 := by rw [hW1]; simp
  have k0 : Bk W1 w.heap.size 24 #[.slice none 0 0] := by rw [hW1]; exact ((Bk.fresh w 24 #[.slice none 0 0]).alloc _).alloc _
  have ke : Bk W1 (w.heap.size + 1) 49 #[] := by
    rw [hW1]
    have h := Bk.fresh (w.alloc (.cells #[.slice none 0 0] 24)) 49 #[]
    rw [show (w.alloc (.cells #[.slice none 0 0] 24)).heap.size = w.heap.size + 1 by simp] at h
    exact h.alloc _
  have k1 : Bk W1 (w.heap.size + 1 + 1) 24 #[(.slice (some ⟨w.heap.size + 1, 0, none⟩) 0 0)] := by
    rw [hW1]
    have h := Bk.fresh ((w.alloc (.cells #[.slice none 0 0] 24)).alloc (.cells #[] 49)) 24 #[(.slice (some ⟨w.heap.size + 1, 0, none⟩) 0 0)]
    rw [show ((w.alloc (.cells #[.slice none 0 0] 24)).alloc (.cells #[] 49)).heap.size = w.heap.size + 1 + 1 by simp] at h
    exact h
  have hb : Below w.heap.size w W1 := by
    rw [hW1]
    exact (((Below.refl w.heap.size w).alloc (Nat.le_refl _) _).alloc (by simp) _).alloc (by simp; omega) _
  have ho : W1.ownsRow w.heap.size 49 3 (.slice (some ⟨w.heap.size + 1, 0, none⟩) 0 0) 0 [] := ⟨rfl, .inr ⟨w.heap.size + 1, 0, #[], rfl, by omega, ke, Nat.le_refl _, by simp [maxLen], rfl, rfl⟩⟩
  have K1 := hide k1
  have K0 := hide k0
  have HO := hide ho
  have HB := hide hb
  clear k0 k1 ke hb ho hz
  rw [hW1] at K0 K1 HO HB
  clear hW1
  go_enter Try.func10, Try.ntmps10
  go_wp2_with fail
  go_loopw [2] (fun i wr => ∃ (k : Nat) (V : Value) (gs : List (Nat × Option Addr)), k ≤ 3 ∧ i = .int .i64 k ∧ gs.length = k ∧ Hid (Bk wr w.heap.size 24 #[.slice none 0 0]) ∧ Hid (Bk wr (w.heap.size + 1 + 1) 24 #[V]) ∧ Hid (wr.ownsRow w.heap.size 49 3 V gs.length (dCells gs)) ∧ Hid (NewDs w.heap.size gs wr) ∧ Hid (Below w.heap.size w wr) ∧ (k = 0 ∨ Hid (V ≠ .slice none 0 0))) (fun i _ => 3 - (intOf i).toNat)
  case atStart => exact ⟨0, _, [], by omega, rfl, rfl, K0, K1, HO, hide ⟨(fun p hp => by cases hp), List.Pairwise.nil⟩, HB, .inl rfl⟩
  case round =>
    clear K0 K1 HB
    obtain ⟨k, V, gs, hk, rfl, hl, K0, K1, HO, HD, HB, hne⟩ := hrel
    by_cases hlt : k < 3
    · have hlt' : (k : Int) < 3 := by omega
      have hgl : gs.length ≤ 1000 := by omega
      have HL := hide hl
      clear hne hl
      have hb := (Below.refl wr.heap.size wr).drew
      have HD := hide (HD.out.after hb)
      have K0 := hide (K0.out.after hb)
      have K1 := hide (K1.out.after hb)
      have HO := hide (own_aft HO.out hb)
      have HB := hide (HB.out.trans (hb.mono HB.out.size))
      clear hb
      go_upto_region 5 with fail
      refine wp_region_held_drew (S := fun _ => True) (by kernel_rfl) (trivial) (fun hH0 => ?_)
      refine wpAnyH_take (i := 0) (v := ?_) rfl (by kernel_rfl) (by kernel_rfl) (by kernel_rfl) (fun _ _ _ h => h) (Or.inl ⟨by rfl, fun wS hS => ?_⟩) hH0 ?_
      rotate_left
      · go_simp; try exact rfl
      simp only [Act.put, List.setIfInBounds_toArray, List.set_cons_zero, List.set_cons_succ, List.getElem_toArray, List.getElem_cons_zero]
      refine wpAnyH_ready (rs := [1, 2]) (by kernel_rfl) (by simp) (AllReadyH.cons rfl (fun K hK => ?_) (AllReadyH.cons rfl (fun K hK => ?_) (AllReadyH.nil)))
      · have t0 := K1.out.cell 0
        go_simp
        refine hK.out _ _ (trivial) (fun hH1 => ?_)
        clear hK K
        try simp only [Act.put]
        clear t0
        refine wpAnyH_ready (rs := [2]) (by kernel_rfl) (by simp) (AllReadyH.cons rfl (fun K hK => ?_) (AllReadyH.nil))
        go_simp
        go_at_call 32
        refine (specDiskNew_any _).mono ?_; rintro r x1 ⟨g1, B, rfl, hg, hk, hb⟩
        have HD := hide (HD.out.more (A := B) hb HB.out.size hg hk)
        have K0 := hide (K0.out.after hb)
        have K1 := hide (K1.out.after hb)
        have HO := hide (own_aft HO.out hb)
        have HB := hide (HB.out.trans (hb.mono HB.out.size))
        clear hb hg hk
        refine hK.out _ _ (trivial) (fun hH2 => ?_)
        clear hK K
        try simp only [Act.put]
        refine wpAnyH_ready (rs := [3]) (by kernel_rfl) (by simp) (AllReadyH.cons rfl (fun K hK => ?_) (AllReadyH.nil))
        go_simp
        refine hK.out _ _ (trivial) (fun hH3 => ?_)
        clear hK K
        try simp only [Act.put]
        have MK := hide (Bk.fresh x1 49 (dC (g1, B)).toArray)
        have hb := bel1 x1 (.cells #[.slice (some ⟨g1, 0, none⟩) 64 64, .slice B 0 0, .bool false] 49)
        have HD := hide (HD.out.after hb)
        have K0 := hide (K0.out.after hb)
        have K1 := hide (K1.out.after hb)
        have HO := hide (own_aft HO.out hb)
        have HB := hide (HB.out.trans (hb.mono HB.out.size))
        clear hb
        refine wpAnyH_ready (rs := [4]) (by kernel_rfl) (by simp) (AllReadyH.cons rfl (fun K hK => ?_) (AllReadyH.nil))
        rw [if_pos (by kernel_rfl)]
        refine wp_app_disk (base := w.heap.size) _ _ (by rfl) (by rfl) (by rfl) HO.out MK.out (by omega) HB.out.size ?_; intro b2 c2 x3 ho' hf
        have HD := hide (HD.out.fr hf (fun p hp e => by obtain ⟨_, _, hk⟩ := HD.out.1 p hp; exact absurd (own_ty HO.out e hk) (by decide)))
        have K0 := hide (K0.out.fr hf (fun e => absurd (own_ty HO.out e K0.out) (by decide)))
        have K1 := hide (K1.out.fr hf (fun e => absurd (own_ty HO.out e K1.out) (by decide)))
        have HB := hide (HB.out.trans (hf.below HB.out.size (fun i e => (HO.out.lt i e.symm).1)))
        have HO := hide ho'
        clear hf ho'
        refine hK.out _ _ (trivial) (fun hH4 => ?_)
        clear hK K
        try simp only [Act.put]
        refine wpAnyH_take (i := 5) (v := ?_) rfl (by kernel_rfl) (by kernel_rfl) (by kernel_rfl) (fun _ _ _ h => h) (Or.inl ⟨by rfl, fun wS hS => ?_⟩) hH4 ?_
        rotate_left
        · go_simp; try exact rfl
        simp only [Act.put, List.setIfInBounds_toArray, List.set_cons_zero, List.set_cons_succ, List.getElem_toArray, List.getElem_cons_zero, List.getElem_cons_succ]
        refine wpAnyH_ready (rs := [6]) (by kernel_rfl) (by simp) (AllReadyH.cons rfl (fun K hK => ?_) (AllReadyH.nil))
        have t0 := K1.out.cell 0
        have f0 := K1.out.frozen 0
        go_simp
        refine hK.out _ _ (trivial) (fun hH5 => ?_)
        clear hK K
        try simp only [Act.put]
        clear t0 f0
        refine wpAnyH_done (by kernel_rfl) ?_ _
        have HO := hide (own_set HO.out K1.out (v := (.slice (some ⟨b2, 0, none⟩) (gs.length + 1) c2)))
        have HD := hide (HD.out.set K1.out (v := (.slice (some ⟨b2, 0, none⟩) (gs.length + 1) c2)))
        have K0 := hide (K0.out.fr ((Fr.refl (fun b => b = w.heap.size + 1 + 1) x3).setCell (p := ⟨w.heap.size + 1 + 1, 0, none⟩) (.inl rfl) (.slice (some ⟨b2, 0, none⟩) (gs.length + 1) c2)) (by omega))
        have HB := hide (HB.out.setCell (p := ⟨w.heap.size + 1 + 1, 0, none⟩) (by show w.heap.size ≤ w.heap.size + 1 + 1; omega) (.slice (some ⟨b2, 0, none⟩) (gs.length + 1) c2))
        have K1 := hide (show Bk (x3.setCell ⟨w.heap.size + 1 + 1, 0, none⟩ (.slice (some ⟨b2, 0, none⟩) (gs.length + 1) c2)) (w.heap.size + 1 + 1) 24 #[(.slice (some ⟨b2, 0, none⟩) (gs.length + 1) c2)] from K1.out.put 0 (.slice (some ⟨b2, 0, none⟩) (gs.length + 1) c2))
        go_wp2_with fail
        go_roundw
        case rel => exact ⟨k + 1, _, gs ++ [(g1, B)], by omega, int_eq (by omega), by rw [List.length_append, List.length_singleton, HL.out], K0, K1, (by rw [List.length_append, List.length_singleton]; exact HO), HD, HB, (.inr (hide (by intro e; cases e)))⟩
        case measure => simp [intOf]; omega
      · go_simp
        go_at_call 32
        refine (specDiskNew_any _).mono ?_; rintro r x1 ⟨g1, B, rfl, hg, hk, hb⟩
        have HD := hide (HD.out.more (A := B) hb HB.out.size hg hk)
        have K0 := hide (K0.out.after hb)
        have K1 := hide (K1.out.after hb)
        have HO := hide (own_aft HO.out hb)
        have HB := hide (HB.out.trans (hb.mono HB.out.size))
        clear hb hg hk
        refine hK.out _ _ (trivial) (fun hH1 => ?_)
        clear hK K
        try simp only [Act.put]
        refine wpAnyH_ready (rs := [1, 3]) (by kernel_rfl) (by simp) (AllReadyH.cons rfl (fun K hK => ?_) (AllReadyH.cons rfl (fun K hK => ?_) (AllReadyH.nil)))
        · have t0 := K1.out.cell 0
          go_simp
          refine hK.out _ _ (trivial) (fun hH2 => ?_)
          clear hK K
          try simp only [Act.put]
          clear t0
          refine wpAnyH_ready (rs := [3]) (by kernel_rfl) (by simp) (AllReadyH.cons rfl (fun K hK => ?_) (AllReadyH.nil))
          go_simp
          refine hK.out _ _ (trivial) (fun hH3 => ?_)
          clear hK K
          try simp only [Act.put]
          have MK := hide (Bk.fresh x1 49 (dC (g1, B)).toArray)
          have hb := bel1 x1 (.cells #[.slice (some ⟨g1, 0, none⟩) 64 64, .slice B 0 0, .bool false] 49)
          have HD := hide (HD.out.after hb)
          have K0 := hide (K0.out.after hb)
          have K1 := hide (K1.out.after hb)
          have HO := hide (own_aft HO.out hb)
          have HB := hide (HB.out.trans (hb.mono HB.out.size))
          clear hb
          refine wpAnyH_ready (rs := [4]) (by kernel_rfl) (by simp) (AllReadyH.cons rfl (fun K hK => ?_) (AllReadyH.nil))
          rw [if_pos (by kernel_rfl)]
          refine wp_app_disk (base := w.heap.size) _ _ (by rfl) (by rfl) (by rfl) HO.out MK.out (by omega) HB.out.size ?_; intro b2 c2 x3 ho' hf
          have HD := hide (HD.out.fr hf (fun p hp e => by obtain ⟨_, _, hk⟩ := HD.out.1 p hp; exact absurd (own_ty HO.out e hk) (by decide)))
          have K0 := hide (K0.out.fr hf (fun e => absurd (own_ty HO.out e K0.out) (by decide)))
          have K1 := hide (K1.out.fr hf (fun e => absurd (own_ty HO.out e K1.out) (by decide)))
          have HB := hide (HB.out.trans (hf.below HB.out.size (fun i e => (HO.out.lt i e.symm).1)))
          have HO := hide ho'
          clear hf ho'
          refine hK.out _ _ (trivial) (fun hH4 => ?_)
          clear hK K
          try simp only [Act.put]
          refine wpAnyH_take (i := 5) (v := ?_) rfl (by kernel_rfl) (by kernel_rfl) (by kernel_rfl) (fun _ _ _ h => h) (Or.inl ⟨by rfl, fun wS hS => ?_⟩) hH4 ?_
          rotate_left
          · go_simp; try exact rfl
          simp only [Act.put, List.setIfInBounds_toArray, List.set_cons_zero, List.set_cons_succ, List.getElem_toArray, List.getElem_cons_zero, List.getElem_cons_succ]
          refine wpAnyH_ready (rs := [6]) (by kernel_rfl) (by simp) (AllReadyH.cons rfl (fun K hK => ?_) (AllReadyH.nil))
          have t0 := K1.out.cell 0
          have f0 := K1.out.frozen 0
          go_simp
          refine hK.out _ _ (trivial) (fun hH5 => ?_)
          clear hK K
          try simp only [Act.put]
          clear t0 f0
          refine wpAnyH_done (by kernel_rfl) ?_ _
          have HO := hide (own_set HO.out K1.out (v := (.slice (some ⟨b2, 0, none⟩) (gs.length + 1) c2)))
          have HD := hide (HD.out.set K1.out (v := (.slice (some ⟨b2, 0, none⟩) (gs.length + 1) c2)))
          have K0 := hide (K0.out.fr ((Fr.refl (fun b => b = w.heap.size + 1 + 1) x3).setCell (p := ⟨w.heap.size + 1 + 1, 0, none⟩) (.inl rfl) (.slice (some ⟨b2, 0, none⟩) (gs.length + 1) c2)) (by omega))
          have HB := hide (HB.out.setCell (p := ⟨w.heap.size + 1 + 1, 0, none⟩) (by show w.heap.size ≤ w.heap.size + 1 + 1; omega) (.slice (some ⟨b2, 0, none⟩) (gs.length + 1) c2))
          have K1 := hide (show Bk (x3.setCell ⟨w.heap.size + 1 + 1, 0, none⟩ (.slice (some ⟨b2, 0, none⟩) (gs.length + 1) c2)) (w.heap.size + 1 + 1) 24 #[(.slice (some ⟨b2, 0, none⟩) (gs.length + 1) c2)] from K1.out.put 0 (.slice (some ⟨b2, 0, none⟩) (gs.length + 1) c2))
          go_wp2_with fail
          go_roundw
          case rel => exact ⟨k + 1, _, gs ++ [(g1, B)], by omega, int_eq (by omega), by rw [List.length_append, List.length_singleton, HL.out], K0, K1, (by rw [List.length_append, List.length_singleton]; exact HO), HD, HB, (.inr (hide (by intro e; cases e)))⟩
          case measure => simp [intOf]; omega
        · go_simp
          refine hK.out _ _ (trivial) (fun hH2 => ?_)
          clear hK K
          try simp only [Act.put]
          have MK := hide (Bk.fresh x1 49 (dC (g1, B)).toArray)
          have hb := bel1 x1 (.cells #[.slice (some ⟨g1, 0, none⟩) 64 64, .slice B 0 0, .bool false] 49)
          have HD := hide (HD.out.after hb)
          have K0 := hide (K0.out.after hb)
          have K1 := hide (K1.out.after hb)
          have HO := hide (own_aft HO.out hb)
          have HB := hide (HB.out.trans (hb.mono HB.out.size))
          clear hb
          refine wpAnyH_ready (rs := [1]) (by kernel_rfl) (by simp) (AllReadyH.cons rfl (fun K hK => ?_) (AllReadyH.nil))
          have t0 := K1.out.cell 0
          go_simp
          refine hK.out _ _ (trivial) (fun hH3 => ?_)
          clear hK K
          try simp only [Act.put]
          clear t0
          refine wpAnyH_ready (rs := [4]) (by kernel_rfl) (by simp) (AllReadyH.cons rfl (fun K hK => ?_) (AllReadyH.nil))
          rw [if_pos (by kernel_rfl)]
          refine wp_app_disk (base := w.heap.size) _ _ (by rfl) (by rfl) (by rfl) HO.out MK.out (by omega) HB.out.size ?_; intro b2 c2 x3 ho' hf
          have HD := hide (HD.out.fr hf (fun p hp e => by obtain ⟨_, _, hk⟩ := HD.out.1 p hp; exact absurd (own_ty HO.out e hk) (by decide)))
          have K0 := hide (K0.out.fr hf (fun e => absurd (own_ty HO.out e K0.out) (by decide)))
          have K1 := hide (K1.out.fr hf (fun e => absurd (own_ty HO.out e K1.out) (by decide)))
          have HB := hide (HB.out.trans (hf.below HB.out.size (fun i e => (HO.out.lt i e.symm).1)))
          have HO := hide ho'
          clear hf ho'
          refine hK.out _ _ (trivial) (fun hH4 => ?_)
          clear hK K
          try simp only [Act.put]
          refine wpAnyH_take (i := 5) (v := ?_) rfl (by kernel_rfl) (by kernel_rfl) (by kernel_rfl) (fun _ _ _ h => h) (Or.inl ⟨by rfl, fun wS hS => ?_⟩) hH4 ?_
          rotate_left
          · go_simp; try exact rfl
          simp only [Act.put, List.setIfInBounds_toArray, List.set_cons_zero, List.set_cons_succ, List.getElem_toArray, List.getElem_cons_zero, List.getElem_cons_succ]
          refine wpAnyH_ready (rs := [6]) (by kernel_rfl) (by simp) (AllReadyH.cons rfl (fun K hK => ?_) (AllReadyH.nil))
          have t0 := K1.out.cell 0
          have f0 := K1.out.frozen 0
          go_simp
          refine hK.out _ _ (trivial) (fun hH5 => ?_)
          clear hK K
          try simp only [Act.put]
          clear t0 f0
          refine wpAnyH_done (by kernel_rfl) ?_ _
          have HO := hide (own_set HO.out K1.out (v := (.slice (some ⟨b2, 0, none⟩) (gs.length + 1) c2)))
          have HD := hide (HD.out.set K1.out (v := (.slice (some ⟨b2, 0, none⟩) (gs.length + 1) c2)))
          have K0 := hide (K0.out.fr ((Fr.refl (fun b => b = w.heap.size + 1 + 1) x3).setCell (p := ⟨w.heap.size + 1 + 1, 0, none⟩) (.inl rfl) (.slice (some ⟨b2, 0, none⟩) (gs.length + 1) c2)) (by omega))
          have HB := hide (HB.out.setCell (p := ⟨w.heap.size + 1 + 1, 0, none⟩) (by show w.heap.size ≤ w.heap.size + 1 + 1; omega) (.slice (some ⟨b2, 0, none⟩) (gs.length + 1) c2))
          have K1 := hide (show Bk (x3.setCell ⟨w.heap.size + 1 + 1, 0, none⟩ (.slice (some ⟨b2, 0, none⟩) (gs.length + 1) c2)) (w.heap.size + 1 + 1) 24 #[(.slice (some ⟨b2, 0, none⟩) (gs.length + 1) c2)] from K1.out.put 0 (.slice (some ⟨b2, 0, none⟩) (gs.length + 1) c2))
          go_wp2_with fail
          go_roundw
          case rel => exact ⟨k + 1, _, gs ++ [(g1, B)], by omega, int_eq (by omega), by rw [List.length_append, List.length_singleton, HL.out], K0, K1, (by rw [List.length_append, List.length_singleton]; exact HO), HD, HB, (.inr (hide (by intro e; cases e)))⟩
          case measure => simp [intOf]; omega
    · obtain rfl : k = 3 := by omega
      have t0 := K1.out.cell 0
      have u0 := K0.out.cell 0
      have f0 := K0.out.frozen 0
      have hn3 : V ≠ .slice none 0 0 := by
        rcases hne with h | h
        · cases h
        · exact h.out
      have HN := hide hn3
      clear hne
      obtain ⟨b2, c2, rfl⟩ : ∃ b2 c2, V = .slice (some ⟨b2, 0, none⟩) gs.length c2 := by
        rcases HO.out.2 with ⟨e, _⟩ | ⟨b2, c, cur, e, _⟩
        · exact absurd e hn3
        · exact ⟨b2, c, e⟩
      have HL := hide hl
      clear hn3 hl
      go_wp2_with fail
      have KF := K0.out.put 0 (.slice (some ⟨b2, 0, none⟩) gs.length c2)
      have HF := own_set HO.out K0.out (v := (.slice (some ⟨b2, 0, none⟩) gs.length c2))
      have HDF := HD.out.set K0.out (v := (.slice (some ⟨b2, 0, none⟩) gs.length c2))
      have HBF := HB.out.setCell (p := ⟨w.heap.size, 0, none⟩) (Nat.le_refl _) (.slice (some ⟨b2, 0, none⟩) gs.length c2)
      have c0 : (wr.setCell ⟨w.heap.size, 0, none⟩ (.slice (some ⟨b2, 0, none⟩) gs.length c2)).cell? ⟨w.heap.size, 0, none⟩ = some (.slice (some ⟨b2, 0, none⟩) gs.length c2) := KF.cell 0
      refine bodyPost_ret (v := .agg #[(.slice (some ⟨b2, 0, none⟩) gs.length c2)]) (by simp [results, Try.results10, go_sem, c0]) rfl ?_
      exact ⟨_, gs, rfl, HL.out, HN.out, HF, HDF.1, HDF.2, HBF⟩
end Go.Proofs.Ytcaoekaephnimaa
