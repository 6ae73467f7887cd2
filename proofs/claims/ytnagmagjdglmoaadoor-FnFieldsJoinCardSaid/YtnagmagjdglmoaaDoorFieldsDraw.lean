/- The draws of records. -/
import Derived.Test.YtnagmagjdglmoaaDoorFieldsGetS
import Derived.Test.YtnagmagjdglmoaaDoorSpoil
namespace Go.Proofs.YtnagmagjdglmoaaDoor
open Go.RowKit
set_option linter.unusedVariables false

theorem own_frS {S : Nat → Prop} {w w' : World} {base : Nat} {e : TypeId} {k n : Nat} {v : Value} {xs : List Value} (h : w.ownsRow base e k v n xs) (hf : Fr S w w') (hS : ∀ i, S i → i < base) : w'.ownsRow base e k v n xs := own_fr h hf hS
/-- drawn texts -/
def DrawnL (w : World) (r : Ending) (w' : World) : Prop :=
  ∃ (v : Value) (zs : List ByteArray), r = .returned v ∧ v ≠ .slice none 0 0 ∧ w'.ownsRow w.heap.size 9 1 v zs.length (zs.map Value.string) ∧ zs.length ≤ 62 ∧ (∀ z ∈ zs, z.size ≤ 4096) ∧ Below w.heap.size w w'
theorem mem_more {zs : List ByteArray} {z : ByteArray} {b : Nat} (h : ∀ z ∈ zs, z.size ≤ b) (hz : z.size ≤ b) : ∀ y ∈ zs ++ [z], y.size ≤ b := by
  intro y hy
  rcases List.mem_append.1 hy with h1 | h1
  · exact h y h1
  · rw [List.mem_singleton] at h1; rw [h1]; exact hz
/-- a reader behind an append -/
theorem rdr_app {w1 w2 : World} {R p base n : Nat} {v : Value} {xs : List Value} {o : Obj} (hr : Rdr w1 R p) (ho : w1.ownsRow base 9 1 v n xs) (hR : R < base) (hg : (w1.alloc o).grownBy w2 v.ownBlock) : Rdr w2 R p := by
  have ha := ho.alloc o
  have hf3 : Fr (fun i => some i = v.ownBlock) (w1.alloc o) w2 := ⟨hg.os, hg.tape, hg.output, hg.size, fun i hi hn => hg.block i hi (fun e => hn e)⟩
  exact (hr.after (bel1 _ _)).fr hf3 (fun b hb e => by have := (ha.lt b e.symm).1; omega)
theorem bel_grown2 {w wr w1 : World} {base : Nat} {v : Value} {e : TypeId} {k n : Nat} {xs : List Value} (hb : Below w.heap.size w wr) (hB : w.heap.size ≤ base) (ho : wr.ownsRow base e k v n xs) (hg : wr.grownBy w1 v.ownBlock) : Below w.heap.size w w1 := hb.grown hg hb.size (fun i hi => Nat.le_trans hB (ho.lt i hi).1)

theorem ownsRow_le' {w : World} {base base' size n : Nat} {e : TypeId} {v : Value} {xs : List Value} (h : w.ownsRow base e size v n xs) (hb : base' ≤ base) : w.ownsRow base' e size v n xs :=
  ⟨h.1, h.2.elim Or.inl (fun ⟨g, cap, cur, hv, hg, r⟩ => Or.inr ⟨g, cap, cur, hv, Nat.le_trans hb hg, r⟩)⟩
set_option maxHeartbeats 8000000 in
set_option maxRecDepth 100000 in
theorem drawFieldsPut_any (A : Option Addr) (n c : Nat) (z0 : List Int) (w : World) (h : U8s w A n c z0) :
    Calls Tryd.prog 28 #[.slice A n c] w (DrawnL w) := by
  obtain ⟨i0, hi, hz0, hz1, hz2⟩ := info_parts info_str
  go_enter Tryd.func28, Tryd.ntmps28
  go_wp2_with fail
  refine (l6Open_any _ _ _ _ _ h).mono ?_; rintro r w1 ⟨rfl, hr, hb⟩
  obtain ⟨R, hR⟩ : ∃ R, R = w.heap.size := ⟨_, rfl⟩
  rw [← hR] at hr
  rw [← hR]
  have hRB := hide (show w.heap.size ≤ R + 1 by omega)
  have HO := hide (owns_lit w1 (R + 1) hr.lt)
  have HR := hide (hr.after (bel1 w1 (.cells #[] 9)))
  have HB := hide (hb.alloc hb.size (.cells #[] 9))
  have hR' := hide hR
  clear hr hb hR h
  go_wp2_with fail
  refine (pick_any R 0 8 _ HR.out (by omega) (by omega) (by omega)).mono ?_; rintro r w2 ⟨k0, rfl, k1, k2, _, hr, hf⟩
  have k3 := k2 (by omega)
  have HO := hide (own_frS HO.out hf (fun i e => by omega))
  have HR := hide hr
  have HB := hide (fr_new HB.out (Nat.le_of_eq hR'.out.symm) hf)
  obtain ⟨k0, rfl⟩ : ∃ k : Nat, k0 = (k : Int) := ⟨k0.toNat, by omega⟩
  clear hr hf k1 k2
  go_wp2_with fail
  go_loopw [4, 5] (fun v i wr => ∃ (zs : List ByteArray) (q k : Nat), zs.length + k ≤ 7 ∧ q ≤ 1 + 30 * (7 - k) ∧ Hid (wr.ownsRow (R + 1) 9 1 v zs.length (zs.map Value.string)) ∧ Hid (v ≠ .slice none 0 0) ∧ Hid (∀ z ∈ zs, z.size ≤ 4096) ∧ Hid (Rdr wr R q) ∧ Hid (Below w.heap.size w wr) ∧ i = .int .i64 k) (fun _ i _ => (intOf i).toNat)
  case atStart => exact ⟨[], 1, k0, by simp; omega, by omega, HO, hide (by intro e; cases e), hide (by intro z hz; cases hz), HR, HB, rfl⟩
  case round =>
    obtain ⟨zs, q, k, hzk, hq, HO, HN, HZ, HR, HB, rfl⟩ := hrel
    obtain ⟨A2, c2, rfl⟩ := own_shape HO.out
    by_cases hk : 0 < k
    · have j0 : decide ((0 : Int) < (k : Int)) = true := decide_eq_true (by omega)
      go_wp2_with fail
      refine (l91Text_any R q 12 _ HR.out (by omega) (by decide)).mono ?_; rintro r x1 ⟨out, q1, rfl, ho, hq1, hr, hf⟩
      have HO := hide (own_frS HO.out hf (fun i e => by omega))
      have HR := hide hr
      have HB := hide (fr_new HB.out (Nat.le_of_eq hR'.out.symm) hf)
      clear hr hf
      obtain ⟨z, hz⟩ : ∃ z : ByteArray, z = ⟨out.toArray⟩ := ⟨_, rfl⟩
      have hzs : z.size ≤ 4096 := by rw [hz, bsz]; omega
      rw [← hz]
      clear hz
      go_wp2_with (at_builtin; refine wpList_append_own _ (by rfl) _ _ 31 (by rfl) (R + 1) 9 i0 (.string ⟨#[]⟩) 1 16 Tryd.underlying31 hi hz0 hz1 hz2 rfl (by decide) _ zs.length (zs.map Value.string) (by rfl) (HO.out.alloc (.cells #[.string z] 9)) ⟨x1.heap.size, 0, none⟩ 1 1 [.string z] (by rfl) rfl (World.news_of_block (heap_alloc_new _ _)) (fun u hu => by simp only [List.mem_singleton] at hu; subst hu; rfl) (by unfold maxLen; omega) (by omega) (by have := HR.out.lt; simp; omega) ?_; intro v' w2 hown' hgrow hnn; have HN4 := hide (show v' ≠ .slice none 0 0 from fun e => by have := (hnn.1 e).2; omega); have HB4 := hide (bel_grown2 (HB.out.alloc HB.out.size (.cells #[.string z] 9)) hRB.out (HO.out.alloc (.cells #[.string z] 9)) hgrow); have HR4 := hide (rdr_app HR.out HO.out (Nat.lt_succ_self R) hgrow); have HO4 := hide (own_more_s hown'); clear hown' hgrow hnn)
      go_wp2_with fail
      go_roundw
      case rel => exact ⟨zs ++ [z], q1, k - 1, by simp; omega, by omega, HO4, HN4, hide (mem_more HZ.out hzs), HR4, HB4, int_eq (by omega)⟩
      case measure => simp [intOf]; omega
    · have j0 : decide ((0 : Int) < (k : Int)) = false := decide_eq_false (by omega)
      go_wp2_with fail
      refine (pick_any R q 20 _ HR.out (by omega) (by omega) (by omega)).mono ?_; rintro r x3 ⟨a, rfl, _, _, _, hr, hf⟩
      have HO := hide (own_frS HO.out hf (fun i e => by omega))
      have HR := hide hr
      have HB := hide (fr_new HB.out (Nat.le_of_eq hR'.out.symm) hf)
      clear hr hf
      have hq2 : q + 1 ≤ 300 := by omega
      have hz7 : zs.length ≤ 7 := by omega
      clear hq hzk
      obtain ⟨q, hqq⟩ : ∃ q', q + 1 = q' := ⟨_, rfl⟩
      rw [hqq] at HR hq2
      clear hqq
      by_cases e0 : a = 0
      · subst e0
        obtain ⟨w9, hw9⟩ : ∃ w9, w9 = x3 := ⟨_, rfl⟩
        go_wp2_with fail
        go_loopw [4] (fun v wr => ∃ (zs : List ByteArray) (q : Nat), zs.length ≤ 61 ∧ q ≤ 300 + zs.length ∧ Hid (wr.ownsRow (R + 1) 9 1 v zs.length (zs.map Value.string)) ∧ Hid (v ≠ .slice none 0 0) ∧ Hid (∀ z ∈ zs, z.size ≤ 4096) ∧ Hid (Rdr wr R q) ∧ Hid (Below w.heap.size w wr)) (fun v _ => 62 - lenOf v)
        case atStart => exact ⟨zs, q, by omega, by omega, HO, HN, HZ, HR, HB⟩
        case round =>
          clear HO HN HZ HR HB hq2 hz7 hw9 w9
          obtain ⟨zs, q, h61, hq, HO, HN, HZ, HR, HB⟩ := hrel
          obtain ⟨A2, c2, rfl⟩ := own_shape HO.out
          go_wp2_with fail
          refine (pick_any R q 2 _ HR.out (by omega) (by omega) (by omega)).mono ?_; rintro r x4 ⟨b, rfl, b0, b1, _, hr, hf⟩
          have HO := hide (own_frS HO.out hf (fun i e => by omega))
          have HR := hide hr
          have HB := hide (fr_new HB.out (Nat.le_of_eq hR'.out.symm) hf)
          have b2 := b1 (by omega)
          clear hr hf b1
          have bw : IntKind.i64.wrap (60 + b) = 60 + b := by rw [IntKind.wrap_i64]; omega
          by_cases hlt : (zs.length : Int) < 60 + b
          · have j1 : decide ((zs.length : Int) < 60 + b) = true := decide_eq_true hlt
            go_wp2_with (at_builtin; refine wpList_append_own _ (by rfl) _ _ 31 (by rfl) (R + 1) 9 i0 (.string ⟨#[]⟩) 1 16 Tryd.underlying31 hi hz0 hz1 hz2 rfl (by decide) _ zs.length (zs.map Value.string) (by rfl) (HO.out.alloc (.cells #[.string ⟨#[102]⟩] 9)) ⟨x4.heap.size, 0, none⟩ 1 1 [.string ⟨#[102]⟩] (by rfl) rfl (World.news_of_block (heap_alloc_new _ _)) (fun u hu => by simp only [List.mem_singleton] at hu; subst hu; rfl) (by unfold maxLen; omega) (by omega) (by have := HR.out.lt; simp; omega) ?_; intro v' w2 hown' hgrow hnn; have HN4 := hide (show v' ≠ .slice none 0 0 from fun e => by have := (hnn.1 e).2; omega); have HB4 := hide (bel_grown2 (HB.out.alloc HB.out.size (.cells #[.string ⟨#[102]⟩] 9)) hRB.out (HO.out.alloc (.cells #[.string ⟨#[102]⟩] 9)) hgrow); have HR4 := hide (rdr_app HR.out HO.out (Nat.lt_succ_self R) hgrow); have HO4 := hide (own_more_s hown'); clear hown' hgrow hnn)
            go_roundw
            case rel => exact ⟨zs ++ [⟨#[102]⟩], q + 1, by simp; omega, by simp; omega, HO4, HN4, hide (mem_more HZ.out (by decide)), HR4, HB4⟩
            case measure => (have hl := lenOf_own HO4.out; rw [List.length_append, List.length_singleton] at hl; show 62 - lenOf v' < 62 - zs.length; omega)
          · have j1 : decide ((zs.length : Int) < 60 + b) = false := decide_eq_false hlt
            have hq3 : q + 1 ≤ 400 := by omega
            obtain ⟨q, hqq⟩ : ∃ q', q + 1 = q' := ⟨_, rfl⟩
            rw [hqq] at HR hq3
            clear hqq hq
            go_wp2_with fail
            refine (pick_any R q 20 _ HR.out (by omega) (by omega) (by omega)).mono ?_; rintro r x5 ⟨a, rfl, _, _, _, hr, hf⟩
            have HO := hide (own_frS HO.out hf (fun i e => by omega))
            have HR := hide hr
            have HB := hide (fr_new HB.out (Nat.le_of_eq hR'.out.symm) hf)
            clear hr hf
            by_cases e1 : a = 0
            · subst e1
              go_wp2_with fail
              refine (pick_any R (q + 1) 3 _ HR.out (by omega) (by omega) (by omega)).mono ?_; rintro r x6 ⟨d, rfl, d0, d1, _, hr, hf⟩
              have HO := hide (own_frS HO.out hf (fun i e => by omega))
              have HR := hide hr
              have HB := hide (fr_new HB.out (Nat.le_of_eq hR'.out.symm) hf)
              have d3 := d1 (by omega)
              clear hr hf d1
              obtain ⟨d, rfl⟩ : ∃ k : Nat, d = (k : Int) := ⟨d.toNat, by omega⟩
              have dw : IntKind.i64.wrap (2044 - (d : Int)) = 2044 - (d : Int) := by rw [IntKind.wrap_i64]; omega
              go_wp2_with fail
              refine (l6Many_i (n := 2044 - d) (by omega) (by decide) (by omega) _).mono ?_; rintro r x7 ⟨⟨z, rfl, hz⟩, rfl⟩
              have hzs : z.size ≤ 4096 := by rw [hz]; show (2044 - d) * 1 ≤ 4096; omega
              clear hz
              go_wp2_with (at_builtin; refine wpList_append_own _ (by rfl) _ _ 31 (by rfl) (R + 1) 9 i0 (.string ⟨#[]⟩) 1 16 Tryd.underlying31 hi hz0 hz1 hz2 rfl (by decide) _ zs.length (zs.map Value.string) (by rfl) (HO.out.alloc (.cells #[.string z] 9)) ⟨x6.heap.size, 0, none⟩ 1 1 [.string z] (by rfl) rfl (World.news_of_block (heap_alloc_new _ _)) (fun u hu => by simp only [List.mem_singleton] at hu; subst hu; rfl) (by unfold maxLen; omega) (by omega) (by have := HR.out.lt; simp; omega) ?_; intro v' w2 hown' hgrow hnn; have HN4 := hide (show v' ≠ .slice none 0 0 from fun e => by have := (hnn.1 e).2; omega); have HB4 := hide (bel_grown2 (HB.out.alloc HB.out.size (.cells #[.string z] 9)) hRB.out (HO.out.alloc (.cells #[.string z] 9)) hgrow); have HR4 := hide (rdr_app HR.out HO.out (Nat.lt_succ_self R) hgrow); have HO4 := hide (own_more_s hown'); clear hown' hgrow hnn)
              go_wp2_with fail
              go_ret
              exact ⟨v', zs ++ [z], rfl, HN4.out, ownsRow_le' HO4.out hRB.out, by simp; omega, mem_more HZ.out hzs, HB4.out⟩
            · have e2 : (a == 0) = false := by rw [beq_eq_false_iff_ne]; exact e1
              go_wp2_with fail
              go_ret
              exact ⟨_, zs, rfl, HN.out, ownsRow_le' HO.out hRB.out, by omega, HZ.out, HB.out⟩
      · have e2 : (a == 0) = false := by rw [beq_eq_false_iff_ne]; exact e0
        have hq3 : q ≤ 400 := by omega
        go_wp2_with fail
        refine (pick_any R q 20 _ HR.out (by omega) (by omega) (by omega)).mono ?_; rintro r x5 ⟨a, rfl, _, _, _, hr, hf⟩
        have HO := hide (own_frS HO.out hf (fun i e => by omega))
        have HR := hide hr
        have HB := hide (fr_new HB.out (Nat.le_of_eq hR'.out.symm) hf)
        clear hr hf
        by_cases e1 : a = 0
        · subst e1
          go_wp2_with fail
          refine (pick_any R (q + 1) 3 _ HR.out (by omega) (by omega) (by omega)).mono ?_; rintro r x6 ⟨d, rfl, d0, d1, _, hr, hf⟩
          have HO := hide (own_frS HO.out hf (fun i e => by omega))
          have HR := hide hr
          have HB := hide (fr_new HB.out (Nat.le_of_eq hR'.out.symm) hf)
          have d3 := d1 (by omega)
          clear hr hf d1
          obtain ⟨d, rfl⟩ : ∃ k : Nat, d = (k : Int) := ⟨d.toNat, by omega⟩
          have dw : IntKind.i64.wrap (2044 - (d : Int)) = 2044 - (d : Int) := by rw [IntKind.wrap_i64]; omega
          go_wp2_with fail
          refine (l6Many_i (n := 2044 - d) (by omega) (by decide) (by omega) _).mono ?_; rintro r x7 ⟨⟨z, rfl, hz⟩, rfl⟩
          have hzs : z.size ≤ 4096 := by rw [hz]; show (2044 - d) * 1 ≤ 4096; omega
          clear hz
          go_wp2_with (at_builtin; refine wpList_append_own _ (by rfl) _ _ 31 (by rfl) (R + 1) 9 i0 (.string ⟨#[]⟩) 1 16 Tryd.underlying31 hi hz0 hz1 hz2 rfl (by decide) _ zs.length (zs.map Value.string) (by rfl) (HO.out.alloc (.cells #[.string z] 9)) ⟨x6.heap.size, 0, none⟩ 1 1 [.string z] (by rfl) rfl (World.news_of_block (heap_alloc_new _ _)) (fun u hu => by simp only [List.mem_singleton] at hu; subst hu; rfl) (by unfold maxLen; omega) (by omega) (by have := HR.out.lt; simp; omega) ?_; intro v' w2 hown' hgrow hnn; have HN4 := hide (show v' ≠ .slice none 0 0 from fun e => by have := (hnn.1 e).2; omega); have HB4 := hide (bel_grown2 (HB.out.alloc HB.out.size (.cells #[.string z] 9)) hRB.out (HO.out.alloc (.cells #[.string z] 9)) hgrow); have HR4 := hide (rdr_app HR.out HO.out (Nat.lt_succ_self R) hgrow); have HO4 := hide (own_more_s hown'); clear hown' hgrow hnn)
          go_wp2_with fail
          go_ret
          exact ⟨v', zs ++ [z], rfl, HN4.out, ownsRow_le' HO4.out hRB.out, by simp; omega, mem_more HZ.out hzs, HB4.out⟩
        · have e2 : (a == 0) = false := by rw [beq_eq_false_iff_ne]; exact e1
          go_wp2_with fail
          go_ret
          exact ⟨_, zs, rfl, HN.out, ownsRow_le' HO.out hRB.out, by omega, HZ.out, HB.out⟩
end Go.Proofs.YtnagmagjdglmoaaDoor
