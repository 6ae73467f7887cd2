/- The law FnDiskCrash, walked. -/
import Derived.Test.YtadeifimhoaanaaDiskSeen
namespace Go.Proofs.Ytadeifimhoaanaa
open Go.RowKit
set_option linter.unusedVariables false

/-- what was not written to stays -/
theorem settle_stays {f : Nat → Int × ByteArray → ByteArray → ByteArray} {j : Nat} : ∀ (z2 : List (Int × ByteArray)) (i : Nat) (cs : List ByteArray), (∀ z ∈ z2, 0 ≤ z.1 ∧ z.1 ≠ (j : Int)) → (settleT f i z2 cs)[j]? = cs[j]? := by
  intro z2
  induction z2 with
  | nil => intro i cs _; rfl
  | cons z zs ih =>
    intro i cs h
    obtain ⟨h0, h1⟩ := h z (List.mem_cons_self ..)
    rw [settleT, ih (i + 1) _ (fun y hy => h y (List.mem_cons_of_mem _ hy)), List.getElem?_set_ne (by omega)]
/-- no bit, no torn write: all stays -/
theorem crash_none (z2 : List (Int × ByteArray)) : ∀ (i : Nat) (cs : List ByteArray), settleT (crashF 0 (-1)) i z2 cs = cs := by
  induction z2 with
  | nil => intro i cs; rfl
  | cons z zs ih =>
    intro i cs
    rw [settleT, ih]
    have e : crashF 0 (-1) i z (cs.getD z.1.toNat ⟨#[]⟩) = cs.getD z.1.toNat ⟨#[]⟩ := by
      unfold crashF
      rw [if_neg (by rw [Nat.zero_div]; decide), if_neg (by omega)]
    rw [e]
    apply List.ext_getElem?
    intro j
    rw [List.getElem?_set]
    by_cases hj : z.1.toNat = j
    · subst hj
      rw [if_pos rfl]
      by_cases hl : z.1.toNat < cs.length
      · rw [if_pos hl, List.getD_eq_getElem?_getD, List.getElem?_eq_getElem hl]; rfl
      · rw [if_neg hl, List.getElem?_eq_none (by omega)]
    · rw [if_neg hj]
theorem crash_ok {m : Nat} {t : Int} {z1 : List ByteArray} {z2 : List (Int × ByteArray)} {g : Bool} (h : diskOk z1 z2 g = true) : diskOk (settleT (crashF m t) 0 z2 z1) [] g = true :=
  settle_ok (fun i z old hz ho => crash_size m t i z old ho hz) h
/-- is there a wait to cell i among the first k? -/
def waitedB (z2 : List (Int × ByteArray)) (k i : Nat) : Bool := (z2.take k).any fun z => z.1 == (i : Int)
theorem waited_snoc {z2 : List (Int × ByteArray)} {k i : Nat} {z : Int × ByteArray} (hz : z2[k]? = some z) : waitedB z2 (k + 1) i = (waitedB z2 k i || z.1 == (i : Int)) := by
  unfold waitedB
  rw [List.take_add_one, hz]
  simp [List.any_append]
theorem waited_none {z2 : List (Int × ByteArray)} {i : Nat} (h : waitedB z2 z2.length i = false) : ∀ z ∈ z2, z.1 ≠ (i : Int) := by
  unfold waitedB at h
  rw [List.take_length, List.any_eq_false] at h
  intro z hz e
  exact h z hz (by simp [e])
theorem cell_same {m i : Nat} {t : Int} {z1 R : List ByteArray} {z2 : List (Int × ByteArray)} {g : Bool} (h : diskOk z1 z2 g = true) (hR : settleT (crashF m t) 0 z2 z1 = R) (hw : waitedB z2 z2.length i = false) : R[i]? = z1[i]? := by
  rw [← hR]
  refine settle_stays z2 0 z1 (fun z hz => ⟨?_, waited_none hw z hz⟩)
  have h5 := (diskOk_parts h).2.2.2.2
  rw [List.all_eq_true] at h5
  have h6 := h5 z hz
  unfold waitB at h6
  simp only [inR, Bool.and_eq_true, decide_eq_true_eq] at h6
  omega
set_option maxHeartbeats 400000 in
theorem implCrash_zero (b1 o1 n1 c1 b2 o2 n2 c2 : Nat) (z1 : List ByteArray) (z2 : List (Int × ByteArray)) (g : Bool) (w : World) (h1 : Rd w 1 (some ⟨b1, o1, none⟩) n1 (z1.map Value.string)) (h2 : Rd w 2 (some ⟨b2, o2, none⟩) n2 (waitCells z2)) (m2 : n2 ≤ 1048576) (lb1 : b1 < w.heap.size) (lb2 : b2 < w.heap.size) (hv : diskOk z1 z2 g = true) :
    Calls Try.prog 30 #[.agg #[.slice (some ⟨b1, o1, none⟩) n1 c1, .slice (some ⟨b2, o2, none⟩) n2 c2, .bool g], .int .i64 0, .int .i64 (-1)] w (SetPost z1 g w) :=
  implCrash_yes b1 o1 n1 c1 b2 o2 n2 c2 z1 z1 z2 g 0 (-1) w h1 h2 m2 lb1 lb2 hv (by decide) (crash_none z2 0 z1)

set_option maxHeartbeats 8000000 in
theorem fnDiskCrash_walk (A1 : Option Addr) (n1 c1 : Nat) (z1 : List Int) (w : World) (h1 : U8s w A1 n1 c1 z1) :
    Calls Try.prog 13 #[.slice A1 n1 c1] w fun r w' => r = .returned (.bool true) ∧ Below w.heap.size w w' := by
  skip
  have m1 : n1 ≤ maxLen := Nat.le_trans h1.1 h1.2.1
  have H1 := hide h1
  clear h1
  unfold maxLen at m1
  by_cases g1 : (1048576 : Int) < (n1 : Int)
  · go_enter Try.func13, Try.ntmps13
    go_wp2_with fail
    go_ret
    exact ⟨rfl, Below.refl _ _⟩
  · go_enter Try.func13, Try.ntmps13
    go_wp2_with fail
    refine (drawDiskCrash_any _ _ _ _ _ H1.out).mono ?_; rintro r w1 ⟨b1, o1, n3, c3, b2, n2, c2, g, y1, y2, m, t, rfl, hIn, ma, mb, ta, tb⟩
    have K := hide (Bk.fresh w1 25 #[.slice (some ⟨b1, o1, none⟩) n3 c3, .slice (some ⟨b2, 0, none⟩) n2 c2, .bool g])
    have HI := hide (hIn.after (bel1 w1 (.cells #[.slice (some ⟨b1, o1, none⟩) n3 c3, .slice (some ⟨b2, 0, none⟩) n2 c2, .bool g] 25)))
    clear hIn H1
    obtain ⟨q0, q1, q2⟩ := K.out.c3
    have hmx : Hid (n3 ≤ maxLen ∧ n2 ≤ maxLen) := hide (by have h1 := HI.out.m1; have h2 := HI.out.m2; unfold maxLen; omega)

    cases hv : diskOk y1 y2 g
    · have HV := hide hv
      clear hv
      go_wp2_with fail
      refine (implCrash_no0 b1 o1 n3 c3 b2 0 n2 c2 y1 y2 g m t _ HI.out.r1 HI.out.r2 HI.out.m1 HI.out.m2 HV.out).mono ?_; rintro r w2 ⟨rfl, hb⟩
      have K := hide ((K.out.after hb).alloc (.cells #[.slice none 0 0, .slice none 0 0, .bool false] 25))
      have HI := hide ((HI.out.after hb).after (bel1 _ (.cells #[.slice none 0 0, .slice none 0 0, .bool false] 25)))
      have K4 := hide (Bk.fresh w2 25 #[.slice none 0 0, .slice none 0 0, .bool false])
      clear hb q0 q1 q2
      obtain ⟨q0, q1, q2⟩ := K.out.c3
      go_wp2_with fail
      refine (specCrash_no0 b1 o1 n3 c3 b2 0 n2 c2 y1 y2 g m t _ HI.out.r1 HI.out.r2 HI.out.m1 HI.out.m2 HV.out).mono ?_; rintro r w3 ⟨rfl, hb⟩
      have K4 := hide ((K4.out.after hb).alloc (.cells #[.slice none 0 0, .slice none 0 0, .bool false] 25))
      have HI := hide ((HI.out.after hb).after (bel1 _ (.cells #[.slice none 0 0, .slice none 0 0, .bool false] 25)))
      obtain ⟨t0, t1, t2⟩ := (Bk.fresh w3 25 #[.slice none 0 0, .slice none 0 0, .bool false]).c3
      obtain ⟨p0, p1, p2⟩ := K4.out.c3
      clear hb q0 q1 q2
      go_wp2_with fail
      refine (pfDisk_0 none none none none 0 0 0 0 0 [] false _ (rd_none _ none 1) (rd_none _ none 1) (by decide)).mono ?_; rintro r w4 ⟨rfl, hb⟩
      have HI := hide (HI.out.after hb)
      have K4 := hide (K4.out.after hb)
      clear hb t0 t1 t2 p0 p1 p2
      obtain ⟨p0, p1, p2⟩ := K4.out.c3
      go_wp2_with fail
      go_ret
      exact ⟨rfl, HI.out.be⟩

    · have HV := hide hv
      clear hv
      by_cases hmn : m < 0
      · have hmask := hide hmn
        clear hmn
        go_wp2_with fail
        refine (implCrash_no1 b1 o1 n3 c3 b2 0 n2 c2 y1 y2 g m t _ HI.out.r1 HI.out.r2 HI.out.m1 HI.out.m2 HV.out hmask.out).mono ?_; rintro r w2 ⟨rfl, hb⟩
        have K := hide ((K.out.after hb).alloc (.cells #[.slice none 0 0, .slice none 0 0, .bool false] 25))
        have HI := hide ((HI.out.after hb).after (bel1 _ (.cells #[.slice none 0 0, .slice none 0 0, .bool false] 25)))
        have K4 := hide (Bk.fresh w2 25 #[.slice none 0 0, .slice none 0 0, .bool false])
        clear hb q0 q1 q2
        obtain ⟨q0, q1, q2⟩ := K.out.c3
        go_wp2_with fail
        refine (specCrash_no1 b1 o1 n3 c3 b2 0 n2 c2 y1 y2 g m t _ HI.out.r1 HI.out.r2 HI.out.m1 HI.out.m2 HV.out hmask.out).mono ?_; rintro r w3 ⟨rfl, hb⟩
        have K4 := hide ((K4.out.after hb).alloc (.cells #[.slice none 0 0, .slice none 0 0, .bool false] 25))
        have HI := hide ((HI.out.after hb).after (bel1 _ (.cells #[.slice none 0 0, .slice none 0 0, .bool false] 25)))
        obtain ⟨t0, t1, t2⟩ := (Bk.fresh w3 25 #[.slice none 0 0, .slice none 0 0, .bool false]).c3
        obtain ⟨p0, p1, p2⟩ := K4.out.c3
        clear hb q0 q1 q2
        go_wp2_with fail
        refine (pfDisk_0 none none none none 0 0 0 0 0 [] false _ (rd_none _ none 1) (rd_none _ none 1) (by decide)).mono ?_; rintro r w4 ⟨rfl, hb⟩
        have HI := hide (HI.out.after hb)
        have K4 := hide (K4.out.after hb)
        clear hb t0 t1 t2 p0 p1 p2
        obtain ⟨p0, p1, p2⟩ := K4.out.c3
        go_wp2_with fail
        go_ret
        exact ⟨rfl, HI.out.be⟩

      obtain ⟨m, rfl⟩ : ∃ k : Nat, m = (k : Int) := ⟨m.toNat, by omega⟩
      have hm63 : Hid (m < 9223372036854775808) := hide (by omega)
      clear hmn ma mb
      obtain ⟨R, hR⟩ : ∃ R, settleT (crashF m t) 0 y2 y1 = R := ⟨_, rfl⟩
      have HOK := hide (show diskOk R [] g = true by rw [← hR]; exact crash_ok HV.out)
      have HL := hide (show R.length = 64 by rw [← hR, settle_len]; exact (diskOk_parts HV.out).1)
      have HL1 := hide (show y1.length = 64 from (diskOk_parts HV.out).1)
      have HR := hide hR
      clear hR
      obtain rfl : n3 = 64 := by have h := HI.out.r1.len; have h2 := HL1.out; simp at h; omega
      have HZL : Hid (y2.length = n2) := hide (by have := HI.out.r2.len; rw [waitCells_len] at this; omega)
      have hn2m : n2 ≤ 1048576 := HI.out.m2
      go_wp2_with fail
      refine (implCrash_yes b1 o1 64 c3 b2 0 n2 c2 y1 R y2 g m t _ HI.out.r1 HI.out.r2 HI.out.m2 HI.out.l1 HI.out.l2 HV.out hm63.out HR.out).mono ?_; rintro r w2 ⟨g1, ca, B, rfl, hg1, hrow, hb⟩
      have K := hide ((K.out.after hb).alloc (.cells #[.slice (some ⟨g1, 0, none⟩) 64 ca, .slice B 0 0, .bool g] 25))
      have HI := hide ((HI.out.after hb).after (bel1 _ (.cells #[.slice (some ⟨g1, 0, none⟩) 64 ca, .slice B 0 0, .bool g] 25)))
      have K4 := hide (Bk.fresh w2 25 #[.slice (some ⟨g1, 0, none⟩) 64 ca, .slice B 0 0, .bool g])
      have ROW1 := hide (hrow.alloc (.cells #[.slice (some ⟨g1, 0, none⟩) 64 ca, .slice B 0 0, .bool g] 25))
      clear hb q0 q1 q2 hrow hg1
      obtain ⟨q0, q1, q2⟩ := K.out.c3
      go_wp2_with fail
      refine (specCrash_yes b1 o1 64 c3 b2 0 n2 c2 y1 R y2 g m t _ HI.out.r1 HI.out.r2 HI.out.m2 HI.out.l1 HI.out.l2 HV.out hm63.out HR.out).mono ?_; rintro r w3 ⟨g2, cb, B2, rfl, hg2, hrow, hb⟩
      have K := hide ((K.out.after hb).alloc (.cells #[.slice (some ⟨g2, 0, none⟩) 64 cb, .slice B2 0 0, .bool g] 25))
      have K4 := hide ((K4.out.after hb).alloc (.cells #[.slice (some ⟨g2, 0, none⟩) 64 cb, .slice B2 0 0, .bool g] 25))
      have ROW1 := hide ((ROW1.out.after hb).alloc (.cells #[.slice (some ⟨g2, 0, none⟩) 64 cb, .slice B2 0 0, .bool g] 25))
      have ROW2 := hide (hrow.alloc (.cells #[.slice (some ⟨g2, 0, none⟩) 64 cb, .slice B2 0 0, .bool g] 25))
      have HI := hide ((HI.out.after hb).after (bel1 _ (.cells #[.slice (some ⟨g2, 0, none⟩) 64 cb, .slice B2 0 0, .bool g] 25)))
      obtain ⟨t0, t1, t2⟩ := (Bk.fresh w3 25 #[.slice (some ⟨g2, 0, none⟩) 64 cb, .slice B2 0 0, .bool g]).c3
      obtain ⟨p0, p1, p2⟩ := K4.out.c3
      clear hb q0 q1 q2 hrow hg2
      go_wp2_with fail
      refine (pfDisk_0 (some ⟨g1, 0, none⟩) B (some ⟨g2, 0, none⟩) B2 64 ca cb 0 0 R g _ (row_rd64 ROW1.out HL.out) (row_rd64 ROW2.out HL.out) (by decide)).mono ?_; rintro r w4 ⟨rfl, hb⟩
      have HI := hide (HI.out.after hb)
      have K := hide (K.out.after hb)
      have K4 := hide (K4.out.after hb)
      have ROW1 := hide (ROW1.out.after hb)
      clear hb t0 t1 t2 p0 p1 p2 ROW2
      obtain ⟨g3, hg3⟩ : ∃ x : Nat, x = w1.heap.size := ⟨_, rfl⟩
      obtain ⟨g4, hg4⟩ : ∃ x : Nat, x = w2.heap.size := ⟨_, rfl⟩
      rw [← hg3] at K
      rw [← hg4] at K4
      rw [← hg3, ← hg4]
      clear hg3 hg4
      obtain ⟨q0, q1, q2⟩ := K.out.c3
      obtain ⟨p0, p1, p2⟩ := K4.out.c3
      go_wp2_with fail
      go_loopw [9] (fun i wr => ∃ k e : Nat, k ≤ 64 ∧ wr = w4.drewN e ∧ i = .int .i64 k) (fun i _ => 64 - (intOf i).toNat)
      case atStart => exact ⟨0, 0, by omega, rfl, rfl⟩
      case round =>
        obtain ⟨k, e, hk, rfl, rfl⟩ := hrel
        by_cases hlt : k < 64
        · have hlt' : (k : Int) < 64 := by omega
          have k0 : (0 : Int) ≤ (k : Int) := by omega
          obtain ⟨ca1, hca1, hfa1⟩ : ∃ s : ByteArray, w4.cell? ⟨b1, o1 + k, none⟩ = some (.string s) ∧ y1[k]? = some s := by
            obtain ⟨b, o, z, e1, _, hz, hc⟩ := HI.out.r1.str_at hlt
            injection e1 with e1
            injection e1 with e1 e2
            subst e1 e2
            exact ⟨z, hc, hz⟩
          obtain ⟨ca2, hca2, hfa2⟩ : ∃ s : ByteArray, w4.cell? ⟨g1, k, none⟩ = some (.string s) ∧ R[k]? = some s := by
            obtain ⟨b, o, z, e1, _, hz, hc⟩ := (row_rd64 ROW1.out HL.out).str_at hlt
            injection e1 with e1
            injection e1 with e1 e2
            subst e1 e2
            exact ⟨z, by rw [← hc, Nat.zero_add], hz⟩
          have HC1 := hide hfa1
          have HC2 := hide hfa2
          have X1 := hide hca1
          have X2 := hide hca2
          clear hfa1 hfa2 hca1 hca2
          go_wp2_with fail
          go_loop [10, 11] (fun v j => ∃ i : Nat, i ≤ n2 ∧ v = .bool (waitedB y2 i k) ∧ j = .int .i64 i) (fun _ j => n2 - (intOf j).toNat)
          case atStart => exact ⟨0, by omega, rfl, rfl⟩
          case round =>
            obtain ⟨i, hi, rfl, rfl⟩ := hrel
            by_cases hli : i < n2
            · have hli' : (i : Int) < (n2 : Int) := by omega
              have i0 : (0 : Int) ≤ (i : Int) := by omega
              obtain ⟨b, o, z, e1, _, hz, hc0, hc1⟩ := HI.out.r2.wait_at hli
              injection e1 with e1
              injection e1 with e1 e2
              subst e1 e2
              have HS := hide (waited_snoc (i := k) hz)
              have c0 : w4.cell? ⟨b2, i * 2, none⟩ = some (.int .i64 z.1) := by rw [← hc0, Nat.zero_add]
              clear hz hc0 hc1
              cases hw : waitedB y2 i k
              · cases hzz : (z.1 == (k : Int))
                all_goals
                  have HW := hide hw
                  have HZ := hide hzz
                  go_wp2_with fail
                  go_round
                  case rel => exact ⟨i + 1, by omega, by rw [HS.out, HW.out, HZ.out]; rfl, int_eq (by omega)⟩
                  case measure => simp [intOf]; omega
              · have HW := hide hw
                go_wp2_with fail
                go_round
                case rel => exact ⟨i + 1, by omega, by rw [HS.out, HW.out]; rfl, int_eq (by omega)⟩
                case measure => simp [intOf]; omega
            · obtain rfl : i = n2 := by omega
              cases hw : waitedB y2 i k
              · have hcc : ca2 = ca1 := by
                  have h := cell_same HV.out HR.out (by rw [HZL.out]; exact hw)
                  rw [HC1.out, HC2.out] at h
                  injection h
                have hne := beqT_eq hcc
                have c1 := X1.out
                have c2 := X2.out
                have k1 : (k : Int) < ((64 : Nat) : Int) := by omega
                clear hcc
                clear hw
                go_wp2_with fail
                go_quiet (fail)
                go_wp2
                go_roundw
                case rel => exact ⟨k + 1, e + nq, by omega, rfl, int_eq (by omega)⟩
                case measure => simp [intOf]; omega
              · clear hw
                go_wp2_with fail
                go_quiet (fail)
                go_wp2
                go_roundw
                case rel => exact ⟨k + 1, e + nq, by omega, rfl, int_eq (by omega)⟩
                case measure => simp [intOf]; omega
        · obtain ⟨wz, hwz⟩ : ∃ X : World, X = w4.drewN e := ⟨_, rfl⟩
          have K := hide (show Bk wz g3 _ _ by rw [hwz]; exact K.out)
          have K4 := hide (show Bk wz g4 _ _ by rw [hwz]; exact K4.out)
          have ROW1 := hide (show Row wz g1 9 (R.map Value.string) by rw [hwz]; exact ROW1.out)
          have HI := hide (show DiskIn w wz b1 o1 64 c3 b2 n2 c2 g y1 y2 by rw [hwz]; exact HI.out.after (below_drewN (Below.refl _ _) _))
          rw [← hwz]
          clear hwz q0 q1 q2 p0 p1 p2
          obtain ⟨q0, q1, q2⟩ := K.out.c3
          have hge : ¬ (k : Int) < 64 := by omega
          go_upto_region 19 with fail
          clear q0 q1 q2
          have K := hide (show Bk wz.drew g3 _ _ from K.out)
          have K4 := hide (show Bk wz.drew g4 _ _ from K4.out)
          have ROW1 := hide (show Row wz.drew g1 9 (R.map Value.string) from ROW1.out)
          have HI := hide (show DiskIn w wz.drew b1 o1 64 c3 b2 n2 c2 g y1 y2 from HI.out.after (Below.refl _ _).drew)
          refine wp_region_held_drew (S := fun x => Below wz.drew.heap.size wz.drew x) (by kernel_rfl) (Below.refl _ _) (fun hH => ?_)
          refine wpAnyH_take (i := 0) (v := ?_) rfl (by kernel_rfl) (by kernel_rfl) (by kernel_rfl) (fun _ _ _ h => h) (Or.inl ⟨by rfl, fun wS hS => ?_⟩) hH ?_
          rotate_left
          · obtain ⟨t0, t1, t2⟩ := (K.out.after hS).c3; obtain ⟨p0, p1, p2⟩ := (K4.out.after hS).c3; go_simp; try exact rfl
          simp only [Act.put, List.setIfInBounds_toArray, List.set_cons_zero, List.set_cons_succ, List.getElem_toArray, List.getElem_cons_zero]
          refine wpAnyH_ready (rs := [1]) (by kernel_rfl) (by simp) (AllReadyH.cons rfl (fun K hK => ?_) AllReadyH.nil)
          go_simp
          go_at_call 24
          refine (implDiskOk_v HOK.out _ (row_rd64 (ROW1.out.after hH) HL.out) (rd_none _ B 2) (by decide) (by decide)).mono ?_; rintro r x1 ⟨rfl, hb⟩
          have HX1 := hide (hH.trans (hb.mono hH.size))
          clear hb
          refine hK.out _ _ (HX1.out) (fun hH1 => ?_)
          clear hK K
          try simp only [Act.put, List.setIfInBounds_toArray, List.set_cons_zero, List.set_cons_succ]
          refine wpAnyH_take (i := 2) (v := ?_) rfl (by kernel_rfl) (by kernel_rfl) (by kernel_rfl) (fun _ _ _ h => h) (Or.inl ⟨by rfl, fun wS hS => ?_⟩) hH1 ?_
          rotate_left
          · obtain ⟨t0, t1, t2⟩ := (K.out.after hS).c3; obtain ⟨p0, p1, p2⟩ := (K4.out.after hS).c3; go_simp; try exact rfl
          simp only [Act.put, List.setIfInBounds_toArray, List.set_cons_zero, List.set_cons_succ, List.getElem_toArray, List.getElem_cons_zero, List.getElem_cons_succ]
          refine wpAnyH_take (i := 3) (v := ?_) rfl (by kernel_rfl) (by kernel_rfl) (by kernel_rfl) (fun _ _ _ h => h) (Or.inl ⟨by rfl, fun wS hS => ?_⟩) hH1 ?_
          rotate_left
          · obtain ⟨t0, t1, t2⟩ := (K.out.after hS).c3; obtain ⟨p0, p1, p2⟩ := (K4.out.after hS).c3; go_simp; try exact rfl
          simp only [Act.put, List.setIfInBounds_toArray, List.set_cons_zero, List.set_cons_succ, List.getElem_toArray, List.getElem_cons_zero, List.getElem_cons_succ]
          refine wpAnyH_take (i := 4) (v := ?_) rfl (by kernel_rfl) (by kernel_rfl) (by kernel_rfl) (fun _ _ _ h => h) (Or.inl ⟨by rfl, fun wS hS => ?_⟩) hH1 ?_
          rotate_left
          · obtain ⟨t0, t1, t2⟩ := (K.out.after hS).c3; obtain ⟨p0, p1, p2⟩ := (K4.out.after hS).c3; go_simp; try exact rfl
          simp only [Act.put, List.setIfInBounds_toArray, List.set_cons_zero, List.set_cons_succ, List.getElem_toArray, List.getElem_cons_zero, List.getElem_cons_succ]
          refine wpAnyH_take (i := 5) (v := ?_) rfl (by kernel_rfl) (by kernel_rfl) (by kernel_rfl) (fun _ _ _ h => h) (Or.inl ⟨by rfl, fun wS hS => ?_⟩) hH1 ?_
          rotate_left
          · obtain ⟨t0, t1, t2⟩ := (K.out.after hS).c3; obtain ⟨p0, p1, p2⟩ := (K4.out.after hS).c3; go_simp; try exact rfl
          simp only [Act.put, List.setIfInBounds_toArray, List.set_cons_zero, List.set_cons_succ, List.getElem_toArray, List.getElem_cons_zero, List.getElem_cons_succ]
          refine wpAnyH_take (i := 7) (v := ?_) rfl (by kernel_rfl) (by kernel_rfl) (by kernel_rfl) (fun _ _ _ h => h) (Or.inl ⟨by rfl, fun wS hS => ?_⟩) hH1 ?_
          rotate_left
          · obtain ⟨t0, t1, t2⟩ := (K.out.after hS).c3; obtain ⟨p0, p1, p2⟩ := (K4.out.after hS).c3; go_simp; try exact rfl
          simp only [Act.put, List.setIfInBounds_toArray, List.set_cons_zero, List.set_cons_succ, List.getElem_toArray, List.getElem_cons_zero, List.getElem_cons_succ]
          refine wpAnyH_ready (rs := [6]) (by kernel_rfl) (by simp) (AllReadyH.cons rfl (fun K hK => ?_) AllReadyH.nil)
          go_simp
          go_at_call 30
          refine (implCrash_nil g1 0 64 ca B R R g m t _ (row_rd64 (ROW1.out.after hH1) HL.out) (rd_none _ B 2) (by decide) (ROW1.out.after hH1).lt HOK.out hm63.out rfl).mono ?_; rintro r x2 ⟨g6, c6, B6, rfl, hg6, hrow, hb⟩
          have HX2 := hide (hH1.trans (hb.mono hH1.size))
          have ROW6 := hide hrow
          clear hrow hb hg6
          refine hK.out _ _ (HX2.out) (fun hH2 => ?_)
          clear hK K
          try simp only [Act.put, List.setIfInBounds_toArray, List.set_cons_zero, List.set_cons_succ]
          refine wpAnyH_ready (rs := [8]) (by kernel_rfl) (by simp) (AllReadyH.cons rfl (fun K hK => ?_) AllReadyH.nil)
          go_simp
          go_at_call 31
          refine (pfDisk_0 (some ⟨g6, 0, none⟩) B6 (some ⟨g1, 0, none⟩) B 64 c6 ca 0 0 R g _ (row_rd64 ROW6.out HL.out) (row_rd64 (ROW1.out.after hH2) HL.out) (by decide)).mono ?_; rintro r x3 ⟨rfl, hb⟩
          have HX3 := hide (hH2.trans (hb.mono hH2.size))
          clear hb
          refine hK.out _ _ (HX3.out) (fun hH3 => ?_)
          clear hK K
          try simp only [Act.put, List.setIfInBounds_toArray, List.set_cons_zero, List.set_cons_succ]
          refine wpAnyH_take (i := 9) (v := ?_) rfl (by kernel_rfl) (by kernel_rfl) (by kernel_rfl) (fun _ _ _ h => h) (Or.inl ⟨by rfl, fun wS hS => ?_⟩) hH3 ?_
          rotate_left
          · obtain ⟨t0, t1, t2⟩ := (K.out.after hS).c3; obtain ⟨p0, p1, p2⟩ := (K4.out.after hS).c3; go_simp; try exact rfl
          simp only [Act.put, List.setIfInBounds_toArray, List.set_cons_zero, List.set_cons_succ, List.getElem_toArray, List.getElem_cons_zero, List.getElem_cons_succ]
          refine wpAnyH_take (i := 10) (v := ?_) rfl (by kernel_rfl) (by kernel_rfl) (by kernel_rfl) (fun _ _ _ h => h) (Or.inl ⟨by rfl, fun wS hS => ?_⟩) hH3 ?_
          rotate_left
          · obtain ⟨t0, t1, t2⟩ := (K.out.after hS).c3; obtain ⟨p0, p1, p2⟩ := (K4.out.after hS).c3; go_simp; try exact rfl
          simp only [Act.put, List.setIfInBounds_toArray, List.set_cons_zero, List.set_cons_succ, List.getElem_toArray, List.getElem_cons_zero, List.getElem_cons_succ]
          refine wpAnyH_take (i := 11) (v := ?_) rfl (by kernel_rfl) (by kernel_rfl) (by kernel_rfl) (fun _ _ _ h => h) (Or.inl ⟨by rfl, fun wS hS => ?_⟩) hH3 ?_
          rotate_left
          · obtain ⟨t0, t1, t2⟩ := (K.out.after hS).c3; obtain ⟨p0, p1, p2⟩ := (K4.out.after hS).c3; go_simp; try exact rfl
          simp only [Act.put, List.setIfInBounds_toArray, List.set_cons_zero, List.set_cons_succ, List.getElem_toArray, List.getElem_cons_zero, List.getElem_cons_succ]
          refine wpAnyH_take (i := 14) (v := ?_) rfl (by kernel_rfl) (by kernel_rfl) (by kernel_rfl) (fun _ _ _ h => h) (Or.inl ⟨by rfl, fun wS hS => ?_⟩) hH3 ?_
          rotate_left
          · obtain ⟨t0, t1, t2⟩ := (K.out.after hS).c3; obtain ⟨p0, p1, p2⟩ := (K4.out.after hS).c3; go_simp; try exact rfl
          simp only [Act.put, List.setIfInBounds_toArray, List.set_cons_zero, List.set_cons_succ, List.getElem_toArray, List.getElem_cons_zero, List.getElem_cons_succ]
          refine wpAnyH_take (i := 15) (v := ?_) rfl (by kernel_rfl) (by kernel_rfl) (by kernel_rfl) (fun _ _ _ h => h) (Or.inl ⟨by rfl, fun wS hS => ?_⟩) hH3 ?_
          rotate_left
          · obtain ⟨t0, t1, t2⟩ := (K.out.after hS).c3; obtain ⟨p0, p1, p2⟩ := (K4.out.after hS).c3; go_simp; try exact rfl
          simp only [Act.put, List.setIfInBounds_toArray, List.set_cons_zero, List.set_cons_succ, List.getElem_toArray, List.getElem_cons_zero, List.getElem_cons_succ]
          refine wpAnyH_ready (rs := [12]) (by kernel_rfl) (by simp) (AllReadyH.cons rfl (fun K hK => ?_) AllReadyH.nil)
          go_simp
          go_at_call 30
          refine (implCrash_zero b1 o1 64 c3 b2 0 n2 c2 y1 y2 g _ (HI.out.r1.after hH3) (HI.out.r2.after hH3) HI.out.m2 (Nat.lt_of_lt_of_le HI.out.l1 hH3.size) (Nat.lt_of_lt_of_le HI.out.l2 hH3.size) HV.out).mono ?_; rintro r x4 ⟨g9, c9, B9, rfl, hg9, hrow, hb⟩
          have HX4 := hide (hH3.trans (hb.mono hH3.size))
          have ROW9 := hide hrow
          clear hrow hb hg9
          refine hK.out _ _ (HX4.out) (fun hH4 => ?_)
          clear hK K
          try simp only [Act.put, List.setIfInBounds_toArray, List.set_cons_zero, List.set_cons_succ]
          refine wpAnyH_take (i := 13) (v := ?_) rfl (by kernel_rfl) (by kernel_rfl) (by kernel_rfl) (fun _ _ _ h => h) (Or.inl ⟨by rfl, fun wS hS => ?_⟩) hH4 ?_
          rotate_left
          · obtain ⟨t0, t1, t2⟩ := (K.out.after hS).c3; obtain ⟨p0, p1, p2⟩ := (K4.out.after hS).c3; go_simp; try exact rfl
          simp only [Act.put, List.setIfInBounds_toArray, List.set_cons_zero, List.set_cons_succ, List.getElem_toArray, List.getElem_cons_zero, List.getElem_cons_succ]
          refine wpAnyH_ready (rs := [16]) (by kernel_rfl) (by simp) (AllReadyH.cons rfl (fun K hK => ?_) AllReadyH.nil)
          go_simp
          go_at_call 36
          refine (pfTexts_v (eqT_same y1) _ (row_rd64 ROW9.out HL1.out) (HI.out.r1.after hH4) (by decide)).mono ?_; rintro r x5 ⟨rfl, hb⟩
          have HX5 := hide (hH4.trans (hb.mono hH4.size))
          clear hb
          refine hK.out _ _ (HX5.out) (fun hH5 => ?_)
          clear hK K
          try simp only [Act.put, List.setIfInBounds_toArray, List.set_cons_zero, List.set_cons_succ]
          refine wpAnyH_take (i := 17) (v := ?_) rfl (by kernel_rfl) (by kernel_rfl) (by kernel_rfl) (fun _ _ _ h => h) (Or.inl ⟨by rfl, fun wS hS => ?_⟩) hH5 ?_
          rotate_left
          · obtain ⟨t0, t1, t2⟩ := (K.out.after hS).c3; obtain ⟨p0, p1, p2⟩ := (K4.out.after hS).c3; go_simp; try exact rfl
          simp only [Act.put, List.setIfInBounds_toArray, List.set_cons_zero, List.set_cons_succ, List.getElem_toArray, List.getElem_cons_zero, List.getElem_cons_succ]
          refine wpAnyH_take (i := 18) (v := ?_) rfl (by kernel_rfl) (by kernel_rfl) (by kernel_rfl) (fun _ _ _ h => h) (Or.inl ⟨by rfl, fun wS hS => ?_⟩) hH5 ?_
          rotate_left
          · obtain ⟨t0, t1, t2⟩ := (K.out.after hS).c3; obtain ⟨p0, p1, p2⟩ := (K4.out.after hS).c3; go_simp; try exact rfl
          simp only [Act.put, List.setIfInBounds_toArray, List.set_cons_zero, List.set_cons_succ, List.getElem_toArray, List.getElem_cons_zero, List.getElem_cons_succ]
          refine wpAnyH_done (by kernel_rfl) ?_ _
          go_wp2_with fail
          go_ret
          exact ⟨rfl, HI.out.be.trans (hH5.mono HI.out.be.size)⟩
end Go.Proofs.Ytadeifimhoaanaa
