/- The laws FnDiskOk and FnDiskFlush, walked. -/
import Derived.Test.YtadeifimhoaanaaDrawDiskL
import Derived.Test.YtadeifimhoaanaaDiskPlain
import Derived.Test.YtadeifimhoaanaaDiskPf
import Derived.Test.YtadeifimhoaanaaDiskNil
namespace Go.Proofs.Ytadeifimhoaanaa
open Go.RowKit
set_option linter.unusedVariables false

theorem rd_none (w : World) (B : Option Addr) (k : Nat) : Rd w k B 0 [] := ⟨(Nat.zero_mul k).symm, fun h => absurd h (by omega)⟩
theorem flush_small : ∀ (i : Nat) (z : Int × ByteArray) (old : ByteArray), z.2.size ≤ 200 → old.size ≤ 200 → ((fun (_ : Nat) (z : Int × ByteArray) (_ : ByteArray) => z.2) i z old).size ≤ 200 := fun _ _ _ h _ => h
theorem row_rd64 {w : World} {g : Nat} {R : List ByteArray} (h : Row w g 9 (R.map Value.string)) (hl : R.length = 64) : Rd w 1 (some ⟨g, 0, none⟩) 64 (R.map Value.string) := h.rd (by rw [List.length_map, hl])
set_option maxHeartbeats 400000 in
/-- a failure behind the last write is the flush -/
theorem implCrash_all (b1 o1 n1 c1 b2 o2 n2 c2 : Nat) (z1 R : List ByteArray) (z2 : List (Int × ByteArray)) (g : Bool) (w : World) (h1 : Rd w 1 (some ⟨b1, o1, none⟩) n1 (z1.map Value.string)) (h2 : Rd w 2 (some ⟨b2, o2, none⟩) n2 (waitCells z2)) (m2 : n2 ≤ 1048576) (lb1 : b1 < w.heap.size) (lb2 : b2 < w.heap.size) (hv : diskOk z1 z2 g = true) (hR : settleT (fun _ z _ => z.2) 0 z2 z1 = R) :
    Calls Try.prog 30 #[.agg #[.slice (some ⟨b1, o1, none⟩) n1 c1, .slice (some ⟨b2, o2, none⟩) n2 c2, .bool g], .int .i64 1152921504606846975, .int .i64 (-1)] w (SetPost R g w) := by
  have h := implCrash_yes b1 o1 n1 c1 b2 o2 n2 c2 z1 R z2 g 1152921504606846975 (-1) w h1 h2 m2 lb1 lb2 hv (by decide) (by rw [crash_all]; exact hR)
  exact h

set_option maxHeartbeats 2000000 in
theorem fnDiskOk_walk (A1 : Option Addr) (n1 c1 : Nat) (z1 : List Int) (w : World) (h1 : U8s w A1 n1 c1 z1) :
    Calls Try.prog 10 #[.slice A1 n1 c1] w fun r w' => r = .returned (.bool true) ∧ Below w.heap.size w w' := by
  skip
  have m1 : n1 ≤ maxLen := Nat.le_trans h1.1 h1.2.1
  have H1 := hide h1
  clear h1
  unfold maxLen at m1
  by_cases g1 : (1048576 : Int) < (n1 : Int)
  · go_enter Try.func10, Try.ntmps10
    go_wp2_with fail
    go_ret
    exact ⟨rfl, Below.refl _ _⟩
  · go_enter Try.func10, Try.ntmps10
    go_wp2_with fail
    refine (drawDiskOk_any _ _ _ _ _ H1.out).mono ?_; rintro r w1 ⟨b1, o1, n3, c3, b2, n2, c2, g, y1, y2, rfl, hIn⟩
    have K := hide (Bk.fresh w1 25 #[.slice (some ⟨b1, o1, none⟩) n3 c3, .slice (some ⟨b2, 0, none⟩) n2 c2, .bool g])
    have HI := hide (hIn.after (bel1 w1 (.cells #[.slice (some ⟨b1, o1, none⟩) n3 c3, .slice (some ⟨b2, 0, none⟩) n2 c2, .bool g] 25)))
    clear hIn H1
    obtain ⟨q0, q1, q2⟩ := K.out.c3
    have hmx : Hid (n3 ≤ maxLen ∧ n2 ≤ maxLen) := hide (by have h1 := HI.out.m1; have h2 := HI.out.m2; unfold maxLen; omega)

    cases hv : diskOk y1 y2 g
    · have HV := hide hv
      clear hv
      go_wp2_with fail
      refine (implDiskOk_v HV.out _ HI.out.r1 HI.out.r2 hmx.out.1 hmx.out.2).mono ?_; rintro r w2 ⟨rfl, hb⟩
      have HI := hide (HI.out.after hb)
      have K := hide (K.out.after hb)
      clear hb q0 q1 q2
      obtain ⟨q0, q1, q2⟩ := K.out.c3
      go_wp2_with fail
      refine (specDiskOk_v HV.out _ HI.out.r1 HI.out.r2 hmx.out.1 hmx.out.2).mono ?_; rintro r w3 ⟨rfl, hb⟩
      have HI := hide (HI.out.after hb)
      have K := hide (K.out.after hb)
      clear hb q0 q1 q2
      obtain ⟨q0, q1, q2⟩ := K.out.c3

      go_wp2_with fail
      refine (implFlush_no b1 o1 n3 c3 b2 0 n2 c2 y1 y2 g _ HI.out.r1 HI.out.r2 HI.out.m1 HI.out.m2 HV.out).mono ?_; rintro r w4 ⟨rfl, hb⟩
      have HB := hide ((HI.out.after hb).be.alloc (HI.out.after hb).be.size (.cells #[.slice none 0 0, .slice none 0 0, .bool false] 25))
      obtain ⟨p0, p1, p2⟩ := (Bk.fresh w4 25 #[.slice none 0 0, .slice none 0 0, .bool false]).c3
      clear q0 q1 q2 hb
      go_wp2_with fail
      go_ret
      exact ⟨rfl, HB.out⟩
    · have HV := hide hv
      clear hv
      obtain ⟨R, hR⟩ : ∃ R, settleT (fun _ z _ => z.2) 0 y2 y1 = R := ⟨_, rfl⟩
      have HOK := hide (show diskOk R [] g = true by rw [← hR]; exact settle_ok flush_small HV.out)
      have HL := hide (show R.length = 64 by rw [← hR, settle_len]; exact (diskOk_parts HV.out).1)
      have HR := hide hR
      clear hR
      go_wp2_with fail
      refine (implDiskOk_v HV.out _ HI.out.r1 HI.out.r2 hmx.out.1 hmx.out.2).mono ?_; rintro r w2 ⟨rfl, hb⟩
      have HI := hide (HI.out.after hb)
      have K := hide (K.out.after hb)
      clear hb q0 q1 q2
      obtain ⟨q0, q1, q2⟩ := K.out.c3
      go_wp2_with fail
      refine (specDiskOk_v HV.out _ HI.out.r1 HI.out.r2 hmx.out.1 hmx.out.2).mono ?_; rintro r w3 ⟨rfl, hb⟩
      have HI := hide (HI.out.after hb)
      have K := hide (K.out.after hb)
      clear hb q0 q1 q2
      obtain ⟨q0, q1, q2⟩ := K.out.c3

      go_wp2_with fail
      refine (implFlush_yes b1 o1 n3 c3 b2 0 n2 c2 y1 R y2 g _ HI.out.r1 HI.out.r2 HI.out.m2 HI.out.l1 HI.out.l2 HV.out HR.out).mono ?_; rintro r w4 ⟨g1, ca, B, rfl, hg1, hrow, hb⟩
      have HB := hide ((HI.out.after hb).be.alloc (HI.out.after hb).be.size (.cells #[.slice (some ⟨g1, 0, none⟩) 64 ca, .slice B 0 0, .bool g] 25))
      have HROW := hide (hrow.alloc (.cells #[.slice (some ⟨g1, 0, none⟩) 64 ca, .slice B 0 0, .bool g] 25))
      obtain ⟨p0, p1, p2⟩ := (Bk.fresh w4 25 #[.slice (some ⟨g1, 0, none⟩) 64 ca, .slice B 0 0, .bool g]).c3
      clear q0 q1 q2 hb hrow hg1
      go_wp2_with fail
      refine (implDiskOk_v HOK.out _ (row_rd64 HROW.out HL.out) (rd_none _ B 2) (by decide) (by decide)).mono ?_; rintro r w5 ⟨rfl, hb⟩
      go_wp2_with fail
      go_ret
      exact ⟨rfl, bnext HB.out (Nat.le_refl _) hb⟩

set_option maxHeartbeats 4000000 in
theorem fnDiskFlush_walk (A1 : Option Addr) (n1 c1 : Nat) (z1 : List Int) (w : World) (h1 : U8s w A1 n1 c1 z1) :
    Calls Try.prog 12 #[.slice A1 n1 c1] w fun r w' => r = .returned (.bool true) ∧ Below w.heap.size w w' := by
  skip
  have m1 : n1 ≤ maxLen := Nat.le_trans h1.1 h1.2.1
  have H1 := hide h1
  clear h1
  unfold maxLen at m1
  by_cases g1 : (1048576 : Int) < (n1 : Int)
  · go_enter Try.func12, Try.ntmps12
    go_wp2_with fail
    go_ret
    exact ⟨rfl, Below.refl _ _⟩
  · go_enter Try.func12, Try.ntmps12
    go_wp2_with fail
    refine (drawDiskFlush_any _ _ _ _ _ H1.out).mono ?_; rintro r w1 ⟨b1, o1, n3, c3, b2, n2, c2, g, y1, y2, rfl, hIn⟩
    have K := hide (Bk.fresh w1 25 #[.slice (some ⟨b1, o1, none⟩) n3 c3, .slice (some ⟨b2, 0, none⟩) n2 c2, .bool g])
    have HI := hide (hIn.after (bel1 w1 (.cells #[.slice (some ⟨b1, o1, none⟩) n3 c3, .slice (some ⟨b2, 0, none⟩) n2 c2, .bool g] 25)))
    clear hIn H1
    obtain ⟨q0, q1, q2⟩ := K.out.c3
    have hmx : Hid (n3 ≤ maxLen ∧ n2 ≤ maxLen) := hide (by have h1 := HI.out.m1; have h2 := HI.out.m2; unfold maxLen; omega)

    cases hv : diskOk y1 y2 g
    · have HV := hide hv
      clear hv
      go_wp2_with fail
      refine (implFlush_no b1 o1 n3 c3 b2 0 n2 c2 y1 y2 g _ HI.out.r1 HI.out.r2 HI.out.m1 HI.out.m2 HV.out).mono ?_; rintro r w2 ⟨rfl, hb⟩
      have K := hide ((K.out.after hb).alloc (.cells #[.slice none 0 0, .slice none 0 0, .bool false] 25))
      have HI := hide ((HI.out.after hb).after (bel1 _ (.cells #[.slice none 0 0, .slice none 0 0, .bool false] 25)))
      have K4 := hide (Bk.fresh w2 25 #[.slice none 0 0, .slice none 0 0, .bool false])
      clear hb q0 q1 q2
      obtain ⟨q0, q1, q2⟩ := K.out.c3
      go_wp2_with fail
      refine (specFlush_no b1 o1 n3 c3 b2 0 n2 c2 y1 y2 g _ HI.out.r1 HI.out.r2 HI.out.m1 HI.out.m2 HV.out).mono ?_; rintro r w3 ⟨rfl, hb⟩
      have K4 := hide ((K4.out.after hb).alloc (.cells #[.slice none 0 0, .slice none 0 0, .bool false] 25))
      have HI := hide ((HI.out.after hb).after (bel1 _ (.cells #[.slice none 0 0, .slice none 0 0, .bool false] 25)))
      obtain ⟨t0, t1, t2⟩ := (Bk.fresh w3 25 #[.slice none 0 0, .slice none 0 0, .bool false]).c3
      obtain ⟨p0, p1, p2⟩ := K4.out.c3
      clear hb q0 q1 q2
      go_wp2_with fail
      refine (pfDisk_0 none none none none 0 0 0 0 0 [] false _ (rd_none _ none 1) (rd_none _ none 1) (by decide)).mono ?_; rintro r w4 ⟨rfl, hb⟩
      have HI := hide (HI.out.after hb)
      have K4 := hide (K4.out.after hb)
      clear hb t0 t1 t2 p0 p1 p2
      obtain ⟨p0, p1, p2⟩ := K4.out.c3
      go_wp2_with fail
      go_ret
      exact ⟨rfl, HI.out.be⟩
    · have HV := hide hv
      clear hv
      obtain ⟨R, hR⟩ : ∃ R, settleT (fun _ z _ => z.2) 0 y2 y1 = R := ⟨_, rfl⟩
      have HOK := hide (show diskOk R [] g = true by rw [← hR]; exact settle_ok flush_small HV.out)
      have HL := hide (show R.length = 64 by rw [← hR, settle_len]; exact (diskOk_parts HV.out).1)
      have HR := hide hR
      clear hR
      go_wp2_with fail
      refine (implFlush_yes b1 o1 n3 c3 b2 0 n2 c2 y1 R y2 g _ HI.out.r1 HI.out.r2 HI.out.m2 HI.out.l1 HI.out.l2 HV.out HR.out).mono ?_; rintro r w2 ⟨g1, ca, B, rfl, hg1, hrow, hb⟩
      have K := hide ((K.out.after hb).alloc (.cells #[.slice (some ⟨g1, 0, none⟩) 64 ca, .slice B 0 0, .bool g] 25))
      have HI := hide ((HI.out.after hb).after (bel1 _ (.cells #[.slice (some ⟨g1, 0, none⟩) 64 ca, .slice B 0 0, .bool g] 25)))
      have K4 := hide (Bk.fresh w2 25 #[.slice (some ⟨g1, 0, none⟩) 64 ca, .slice B 0 0, .bool g])
      have ROW1 := hide (hrow.alloc (.cells #[.slice (some ⟨g1, 0, none⟩) 64 ca, .slice B 0 0, .bool g] 25))
      clear hb q0 q1 q2 hrow hg1
      obtain ⟨q0, q1, q2⟩ := K.out.c3
      go_wp2_with fail
      refine (specFlush_yes b1 o1 n3 c3 b2 0 n2 c2 y1 R y2 g _ HI.out.r1 HI.out.r2 HI.out.m2 HI.out.l1 HI.out.l2 HV.out HR.out).mono ?_; rintro r w3 ⟨g2, cb, B2, rfl, hg2, hrow, hb⟩
      have K := hide ((K.out.after hb).alloc (.cells #[.slice (some ⟨g2, 0, none⟩) 64 cb, .slice B2 0 0, .bool g] 25))
      have K4 := hide ((K4.out.after hb).alloc (.cells #[.slice (some ⟨g2, 0, none⟩) 64 cb, .slice B2 0 0, .bool g] 25))
      have ROW1 := hide ((ROW1.out.after hb).alloc (.cells #[.slice (some ⟨g2, 0, none⟩) 64 cb, .slice B2 0 0, .bool g] 25))
      have ROW2 := hide (hrow.alloc (.cells #[.slice (some ⟨g2, 0, none⟩) 64 cb, .slice B2 0 0, .bool g] 25))
      have HI := hide ((HI.out.after hb).after (bel1 _ (.cells #[.slice (some ⟨g2, 0, none⟩) 64 cb, .slice B2 0 0, .bool g] 25)))
      obtain ⟨t0, t1, t2⟩ := (Bk.fresh w3 25 #[.slice (some ⟨g2, 0, none⟩) 64 cb, .slice B2 0 0, .bool g]).c3
      obtain ⟨p0, p1, p2⟩ := K4.out.c3
      clear hb q0 q1 q2 hrow hg2
      go_wp2_with fail
      refine (pfDisk_0 (some ⟨g1, 0, none⟩) B (some ⟨g2, 0, none⟩) B2 64 ca cb 0 0 R g _ (row_rd64 ROW1.out HL.out) (row_rd64 ROW2.out HL.out) (by decide)).mono ?_; rintro r w4 ⟨rfl, hb⟩
      have HI := hide (HI.out.after hb)
      have K := hide (K.out.after hb)
      have K4 := hide (K4.out.after hb)
      have ROW1 := hide (ROW1.out.after hb)
      clear hb t0 t1 t2 p0 p1 p2 ROW2
      obtain ⟨p0, p1, p2⟩ := K4.out.c3
      have HL1 := hide K.out.lt
      have HL4 := hide K4.out.lt
      have HG1 := hide ROW1.out.lt
      go_upto_region 9 with fail
      clear p0 p1 p2
      have K := hide (show Bk w4.drew w1.heap.size _ _ from K.out)
      have K4 := hide (show Bk w4.drew w2.heap.size _ _ from K4.out)
      have ROW1 := hide (show Row w4.drew g1 9 (R.map Value.string) from ROW1.out)
      have HI := hide (show DiskIn w w4.drew b1 o1 n3 c3 b2 n2 c2 g y1 y2 from HI.out.after (Below.refl _ _).drew)
      refine wp_region_held_drew (S := fun x => Below w4.drew.heap.size w4.drew x) (by kernel_rfl) (Below.refl _ _) (fun hH => ?_)
      refine wpAnyH_take (i := 0) (v := ?_) rfl (by kernel_rfl) (by kernel_rfl) (by kernel_rfl) (fun _ _ _ h => h) (Or.inl ⟨by rfl, fun wS hS => ?_⟩) hH ?_
      rotate_left
      · obtain ⟨t0, t1, t2⟩ := (K.out.after hS).c3; obtain ⟨p0, p1, p2⟩ := (K4.out.after hS).c3; go_simp; try exact rfl
      simp only [Act.put, List.setIfInBounds_toArray, List.set_cons_zero, List.set_cons_succ, List.getElem_toArray, List.getElem_cons_zero]
      refine wpAnyH_take (i := 2) (v := ?_) rfl (by kernel_rfl) (by kernel_rfl) (by kernel_rfl) (fun _ _ _ h => h) (Or.inl ⟨by rfl, fun wS hS => ?_⟩) hH ?_
      rotate_left
      · obtain ⟨t0, t1, t2⟩ := (K.out.after hS).c3; obtain ⟨p0, p1, p2⟩ := (K4.out.after hS).c3; go_simp; try exact rfl
      simp only [Act.put, List.setIfInBounds_toArray, List.set_cons_zero, List.set_cons_succ, List.getElem_toArray, List.getElem_cons_zero, List.getElem_cons_succ]
      refine wpAnyH_ready (rs := [1]) (by kernel_rfl) (by simp) (AllReadyH.cons rfl (fun K hK => ?_) AllReadyH.nil)
      go_simp
      go_at_call 30
      refine (implCrash_all b1 o1 n3 c3 b2 0 n2 c2 y1 R y2 g _ (HI.out.r1.after hH) (HI.out.r2.after hH) HI.out.m2 (Nat.lt_of_lt_of_le HI.out.l1 hH.size) (Nat.lt_of_lt_of_le HI.out.l2 hH.size) HV.out HR.out).mono ?_; rintro r x1 ⟨g5, c5, B5, rfl, hg5, hrow, hb⟩
      have HX1 := hide (hH.trans (hb.mono hH.size))
      have ROW5 := hide hrow
      clear hrow hb hg5
      refine hK.out _ _ (HX1.out) (fun hH1 => ?_)
      clear hK K
      try simp only [Act.put, List.setIfInBounds_toArray, List.set_cons_zero, List.set_cons_succ]
      refine wpAnyH_ready (rs := [3]) (by kernel_rfl) (by simp) (AllReadyH.cons rfl (fun K hK => ?_) AllReadyH.nil)
      go_simp
      go_at_call 31
      refine (pfDisk_0 (some ⟨g5, 0, none⟩) B5 (some ⟨g1, 0, none⟩) B 64 c5 ca 0 0 R g _ (row_rd64 ROW5.out HL.out) (row_rd64 (ROW1.out.after hH1) HL.out) (by decide)).mono ?_; rintro r x2 ⟨rfl, hb⟩
      have HX2 := hide (hH1.trans (hb.mono hH1.size))
      clear hb
      refine hK.out _ _ (HX2.out) (fun hH2 => ?_)
      clear hK K
      try simp only [Act.put, List.setIfInBounds_toArray, List.set_cons_zero, List.set_cons_succ]
      refine wpAnyH_take (i := 4) (v := ?_) rfl (by kernel_rfl) (by kernel_rfl) (by kernel_rfl) (fun _ _ _ h => h) (Or.inl ⟨by rfl, fun wS hS => ?_⟩) hH2 ?_
      rotate_left
      · obtain ⟨t0, t1, t2⟩ := (K.out.after hS).c3; obtain ⟨p0, p1, p2⟩ := (K4.out.after hS).c3; go_simp; try exact rfl
      simp only [Act.put, List.setIfInBounds_toArray, List.set_cons_zero, List.set_cons_succ, List.getElem_toArray, List.getElem_cons_zero, List.getElem_cons_succ]
      refine wpAnyH_take (i := 5) (v := ?_) rfl (by kernel_rfl) (by kernel_rfl) (by kernel_rfl) (fun _ _ _ h => h) (Or.inl ⟨by rfl, fun wS hS => ?_⟩) hH2 ?_
      rotate_left
      · obtain ⟨t0, t1, t2⟩ := (K.out.after hS).c3; obtain ⟨p0, p1, p2⟩ := (K4.out.after hS).c3; go_simp; try exact rfl
      simp only [Act.put, List.setIfInBounds_toArray, List.set_cons_zero, List.set_cons_succ, List.getElem_toArray, List.getElem_cons_zero, List.getElem_cons_succ]
      refine wpAnyH_take (i := 7) (v := ?_) rfl (by kernel_rfl) (by kernel_rfl) (by kernel_rfl) (fun _ _ _ h => h) (Or.inl ⟨by rfl, fun wS hS => ?_⟩) hH2 ?_
      rotate_left
      · obtain ⟨t0, t1, t2⟩ := (K.out.after hS).c3; obtain ⟨p0, p1, p2⟩ := (K4.out.after hS).c3; go_simp; try exact rfl
      simp only [Act.put, List.setIfInBounds_toArray, List.set_cons_zero, List.set_cons_succ, List.getElem_toArray, List.getElem_cons_zero, List.getElem_cons_succ]
      refine wpAnyH_ready (rs := [6]) (by kernel_rfl) (by simp) (AllReadyH.cons rfl (fun K hK => ?_) AllReadyH.nil)
      go_simp
      go_at_call 28
      refine (implFlush_nil g1 0 64 ca B R R g _ (row_rd64 (ROW1.out.after hH2) HL.out) (rd_none _ B 2) (by decide) (ROW1.out.after hH2).lt HOK.out rfl).mono ?_; rintro r x3 ⟨g6, c6, B6, rfl, hg6, hrow, hb⟩
      have HX3 := hide (hH2.trans (hb.mono hH2.size))
      have ROW6 := hide hrow
      clear hrow hb hg6
      refine hK.out _ _ (HX3.out) (fun hH3 => ?_)
      clear hK K
      try simp only [Act.put, List.setIfInBounds_toArray, List.set_cons_zero, List.set_cons_succ]
      refine wpAnyH_ready (rs := [8]) (by kernel_rfl) (by simp) (AllReadyH.cons rfl (fun K hK => ?_) AllReadyH.nil)
      go_simp
      go_at_call 31
      refine (pfDisk_0 (some ⟨g6, 0, none⟩) B6 (some ⟨g1, 0, none⟩) B 64 c6 ca 0 0 R g _ (row_rd64 ROW6.out HL.out) (row_rd64 (ROW1.out.after hH3) HL.out) (by decide)).mono ?_; rintro r x4 ⟨rfl, hb⟩
      have HX4 := hide (hH3.trans (hb.mono hH3.size))
      clear hb
      refine hK.out _ _ (HX4.out) (fun hH4 => ?_)
      clear hK K
      try simp only [Act.put, List.setIfInBounds_toArray, List.set_cons_zero, List.set_cons_succ]
      refine wpAnyH_take (i := 9) (v := ?_) rfl (by kernel_rfl) (by kernel_rfl) (by kernel_rfl) (fun _ _ _ h => h) (Or.inl ⟨by rfl, fun wS hS => ?_⟩) hH4 ?_
      rotate_left
      · obtain ⟨t0, t1, t2⟩ := (K.out.after hS).c3; obtain ⟨p0, p1, p2⟩ := (K4.out.after hS).c3; go_simp; try exact rfl
      simp only [Act.put, List.setIfInBounds_toArray, List.set_cons_zero, List.set_cons_succ, List.getElem_toArray, List.getElem_cons_zero, List.getElem_cons_succ]
      refine wpAnyH_take (i := 10) (v := ?_) rfl (by kernel_rfl) (by kernel_rfl) (by kernel_rfl) (fun _ _ _ h => h) (Or.inl ⟨by rfl, fun wS hS => ?_⟩) hH4 ?_
      rotate_left
      · obtain ⟨t0, t1, t2⟩ := (K.out.after hS).c3; obtain ⟨p0, p1, p2⟩ := (K4.out.after hS).c3; go_simp; try exact rfl
      simp only [Act.put, List.setIfInBounds_toArray, List.set_cons_zero, List.set_cons_succ, List.getElem_toArray, List.getElem_cons_zero, List.getElem_cons_succ]
      refine wpAnyH_take (i := 11) (v := ?_) rfl (by kernel_rfl) (by kernel_rfl) (by kernel_rfl) (fun _ _ _ h => h) (Or.inl ⟨by rfl, fun wS hS => ?_⟩) hH4 ?_
      rotate_left
      · obtain ⟨t0, t1, t2⟩ := (K.out.after hS).c3; obtain ⟨p0, p1, p2⟩ := (K4.out.after hS).c3; go_simp; try exact rfl
      simp only [Act.put, List.setIfInBounds_toArray, List.set_cons_zero, List.set_cons_succ, List.getElem_toArray, List.getElem_cons_zero, List.getElem_cons_succ]
      refine wpAnyH_take (i := 12) (v := ?_) rfl (by kernel_rfl) (by kernel_rfl) (by kernel_rfl) (fun _ _ _ h => h) (Or.inl ⟨by rfl, fun wS hS => ?_⟩) hH4 ?_
      rotate_left
      · obtain ⟨t0, t1, t2⟩ := (K.out.after hS).c3; obtain ⟨p0, p1, p2⟩ := (K4.out.after hS).c3; go_simp; try exact rfl
      simp only [Act.put, List.setIfInBounds_toArray, List.set_cons_zero, List.set_cons_succ, List.getElem_toArray, List.getElem_cons_zero, List.getElem_cons_succ]
      refine wpAnyH_take (i := 13) (v := ?_) rfl (by kernel_rfl) (by kernel_rfl) (by kernel_rfl) (fun _ _ _ h => h) (Or.inl ⟨by rfl, fun wS hS => ?_⟩) hH4 ?_
      rotate_left
      · obtain ⟨t0, t1, t2⟩ := (K.out.after hS).c3; obtain ⟨p0, p1, p2⟩ := (K4.out.after hS).c3; go_simp; try exact rfl
      simp only [Act.put, List.setIfInBounds_toArray, List.set_cons_zero, List.set_cons_succ, List.getElem_toArray, List.getElem_cons_zero, List.getElem_cons_succ]
      refine wpAnyH_take (i := 14) (v := ?_) rfl (by kernel_rfl) (by kernel_rfl) (by kernel_rfl) (fun _ _ _ h => h) (Or.inl ⟨by rfl, fun wS hS => ?_⟩) hH4 ?_
      rotate_left
      · obtain ⟨t0, t1, t2⟩ := (K.out.after hS).c3; obtain ⟨p0, p1, p2⟩ := (K4.out.after hS).c3; go_simp; try exact rfl
      simp only [Act.put, List.setIfInBounds_toArray, List.set_cons_zero, List.set_cons_succ, List.getElem_toArray, List.getElem_cons_zero, List.getElem_cons_succ]
      refine wpAnyH_take (i := 15) (v := ?_) rfl (by kernel_rfl) (by kernel_rfl) (by kernel_rfl) (fun _ _ _ h => h) (Or.inl ⟨by rfl, fun wS hS => ?_⟩) hH4 ?_
      rotate_left
      · obtain ⟨t0, t1, t2⟩ := (K.out.after hS).c3; obtain ⟨p0, p1, p2⟩ := (K4.out.after hS).c3; go_simp; try exact rfl
      simp only [Act.put, List.setIfInBounds_toArray, List.set_cons_zero, List.set_cons_succ, List.getElem_toArray, List.getElem_cons_zero, List.getElem_cons_succ]
      refine wpAnyH_take (i := 16) (v := ?_) rfl (by kernel_rfl) (by kernel_rfl) (by kernel_rfl) (fun _ _ _ h => h) (Or.inl ⟨by rfl, fun wS hS => ?_⟩) hH4 ?_
      rotate_left
      · obtain ⟨t0, t1, t2⟩ := (K.out.after hS).c3; obtain ⟨p0, p1, p2⟩ := (K4.out.after hS).c3; go_simp; try exact rfl
      simp only [Act.put, List.setIfInBounds_toArray, List.set_cons_zero, List.set_cons_succ, List.getElem_toArray, List.getElem_cons_zero, List.getElem_cons_succ]
      refine wpAnyH_done (by kernel_rfl) ?_ _
      go_wp2_with fail
      go_ret
      exact ⟨rfl, HI.out.be.trans (hH4.mono HI.out.be.size)⟩
end Go.Proofs.Ytadeifimhoaanaa
