/- The draws of lists of pointers; pfPtrs; the walks of the laws FnFanPut and FnFanGet. -/
import Derived.Test.YtmhbpmacfekhgaaDoorFanGet
import Derived.Test.YtmhbpmacfekhgaaDoorPtrDraws
import Derived.Test.YtmhbpmacfekhgaaDoorSpoil
namespace Go.Proofs.YtmhbpmacfekhgaaDoor
open Go.RowKit
set_option linter.unusedVariables false

set_option maxHeartbeats 2000000 in
/-- pfPtrs of one list and itself -/
theorem pfPtrs_same (A A' : Option Addr) (n c c' : Nat) (zs : List P5) (w : World) (h : Rd w 5 A n (ptrCells zs)) (h' : Rd w 5 A' n (ptrCells zs)) (hm : n ≤ maxLen) :
    Calls Tryd.prog 38 #[.slice A n c, .slice A' n c'] w fun r w' => r = .returned (.bool true) ∧ Below w.heap.size w w' := by
  unfold maxLen at hm
  have H := hide h
  have H' := hide h'
  clear h h'
  go_enter Tryd.func38, Tryd.ntmps38
  go_wp2
  go_loopw [5] (fun i wr => ∃ k m : Nat, k ≤ n ∧ wr = w.drewN m ∧ i = .int .i64 k) (fun i _ => n - (intOf i).toNat)
  case atStart => exact ⟨0, 0, by omega, rfl, rfl⟩
  case round =>
    obtain ⟨k, m, hk, rfl, rfl⟩ := hrel
    by_cases hlt : k < n
    · obtain ⟨b, o, z, rfl, hb, hz, hc0, hc1, hc2, hc3, hc4⟩ := H.out.ptr_at hlt
      obtain ⟨b', o', y, rfl, hb', hy, hd0, hd1, hd2, hd3, hd4⟩ := H'.out.ptr_at hlt
      obtain rfl : y = z := Option.some.inj (hy.symm.trans hz)
      have i0 : (0 : Int) ≤ (k : Int) := by omega
      have i1 : (k : Int) < (n : Int) := by omega
      clear hz hy
      go_wp2_with fail
      go_quiet (fail)
      go_wp2
      go_roundw
      case rel => exact ⟨k + 1, m + nq, by omega, rfl, int_eq (by omega)⟩
      case measure => simp [intOf]; omega
    · go_wp2
      go_ret
      exact ⟨rfl, below_drewN (Below.refl _ _) _⟩

/-- a reader behind an append -/
theorem rdr_appP {w1 w2 : World} {R p base n k : Nat} {e : TypeId} {v : Value} {xs : List Value} {o : Obj} (hr : Rdr w1 R p) (ho : w1.ownsRow base e k v n xs) (hR : R < base) (hg : (w1.alloc o).grownBy w2 v.ownBlock) : Rdr w2 R p :=
  (hr.after (bel1 _ _)).fr (fr_grownB (ho.alloc o) hg) (fun b hb e => by omega)
theorem own_frP {S : Nat → Prop} {w w' : World} {base : Nat} {e : TypeId} {k n : Nat} {v : Value} {xs : List Value} (h : w.ownsRow base e k v n xs) (hf : Fr S w w') (hS : ∀ i, S i → i < base) : w'.ownsRow base e k v n xs := own_fr h hf hS
set_option maxHeartbeats 4000000 in
theorem l91Ptrs_any (R p : Nat) (w : World) (hr : Rdr w R p) (hp : p ≤ 600000) :
    Calls Tryd.prog 58 #[.pointer (some ⟨R, 0, none⟩), .int .i64 6] w fun r w' => ∃ (v : Value) (ps : List P5) (q : Nat), r = .returned v ∧ ps.length ≤ 6 ∧ q ≤ p + 400 ∧ w'.ownsRow w.heap.size 25 5 v ps.length (ptrCells ps) ∧ Rdr w' R q ∧ Fr (· = R) w w' := by
  obtain ⟨i0, hi, hz0, hz1, hz2⟩ := info_parts info_ptr
  have hRw := hr.lt
  have HO := hide (owns_litP w w.heap.size (Nat.le_refl _))
  have HR := hide (hr.after (bel1 w (.cells #[] 25)))
  have HF := hide ((Fr.refl (· = R) w).alloc (.cells #[] 25))
  obtain ⟨B, hB⟩ : ∃ B, B = w.heap.size := ⟨_, rfl⟩
  have HBW := hide (Nat.le_of_eq hB.symm)
  have HBE := hide hB
  rw [← hB] at HO hRw
  rw [← hB]
  clear hr hB
  go_enter Tryd.func58, Tryd.ntmps58
  go_wp2_with fail
  refine (pick_any R p 7 _ HR.out (by omega) (by omega) (by omega)).mono ?_; rintro r w2 ⟨k0, rfl, k1, k2, _, hr, hf⟩
  have k3 := k2 (by omega)
  rw [← HBE.out]
  have HO := hide (own_frP HO.out hf (fun i e => by omega))
  have HR := hide hr
  have HF := hide (HF.out.trans hf)
  obtain ⟨k0, rfl⟩ : ∃ k : Nat, k0 = (k : Int) := ⟨k0.toNat, by omega⟩
  clear hr hf k1 k2
  go_wp2_with fail
  go_loopw [5, 6] (fun v i wr => ∃ (ps : List P5) (m q k : Nat), m + k ≤ 6 ∧ Hid (ps.length = m) ∧ q ≤ p + 1 + 60 * (6 - k) ∧ Hid (wr.ownsRow B 25 5 v m (ptrCells ps)) ∧ Hid (Rdr wr R q) ∧ Hid (Fr (· = R) w wr) ∧ i = .int .i64 k) (fun _ i _ => (intOf i).toNat)
  case atStart => exact ⟨[], 0, p + 1, k0, by omega, hide rfl, by omega, HO, HR, HF, rfl⟩
  case round =>
    clear HO HR HF
    obtain ⟨ps, m, q, k, hmk, HPM, hq, HO, HR, HF, rfl⟩ := hrel
    obtain ⟨A2, c2, rfl⟩ := own_shape HO.out
    by_cases hk : 0 < k
    · have j0 : decide ((0 : Int) < (k : Int)) = true := decide_eq_true (by omega)
      go_wp2_with fail
      refine (l91Ptr_any R q _ HR.out (by omega)).mono ?_; rintro r x1 ⟨a, b, c', d, e, q1, rfl, hq1, hr, hf⟩
      have HO := hide (own_frP HO.out hf (fun i e => by omega))
      have HR := hide hr
      have HF := hide (HF.out.trans hf)
      have hBx : B ≤ x1.heap.size := by have := HBE.out; have := HF.out.size; omega
      clear hr hf
      go_wp2_with (at_builtin; refine wpList_append_own _ (by rfl) _ _ 42 (by rfl) (B) 25 i0 (.agg #[.int .i64 0, .int .i64 0, .int .i64 0, .int .i64 0, .int .i64 0]) 5 40 Tryd.underlying42 hi hz0 hz1 hz2 rfl (by decide) _ m (ptrCells ps) (by rfl) (HO.out.alloc (.cells #[.int .i64 a, .int .i64 b, .int .i64 c', .int .i64 d, .int .i64 e] 25)) ⟨x1.heap.size, 0, none⟩ 1 1 (p5c (a, b, c', d, e)) (by rfl) rfl (World.news_of_block (heap_alloc_new _ _)) (p5_one (a, b, c', d, e)) (by unfold maxLen; omega) (by omega) (by have := HR.out.lt; simp; omega) ?_; intro v' w2 hown' hgrow _; have HF4 := hide (fr_grown (HF.out.alloc (.cells #[.int .i64 a, .int .i64 b, .int .i64 c', .int .i64 d, .int .i64 e] 25)) (HO.out.alloc (.cells #[.int .i64 a, .int .i64 b, .int .i64 c', .int .i64 d, .int .i64 e] 25)) HBW.out hgrow); have HR4 := hide (rdr_appP HR.out HO.out (by omega) hgrow); have HO4 := hide (own_more_p hown'); clear hown' hgrow)
      go_roundw
      case rel => exact ⟨ps ++ [(a, b, c', d, e)], m + 1, q1, k - 1, by omega, hide (by rw [List.length_append, List.length_singleton, HPM.out]), by omega, HO4, HR4, HF4, int_eq (by omega)⟩
      case measure => simp [intOf]; omega
    · have j0 : decide ((0 : Int) < (k : Int)) = false := decide_eq_false (by omega)
      go_wp2_with fail
      go_ret
      exact ⟨_, ps, q, rfl, by rw [HPM.out]; omega, by omega, by rw [HPM.out]; exact HO.out, HR.out, HF.out⟩
/-- drawn pointers -/
def DrawnPs (w : World) (r : Ending) (w' : World) : Prop :=
  ∃ (v : Value) (ps : List P5), r = .returned v ∧ w'.ownsRow w.heap.size 25 5 v ps.length (ptrCells ps) ∧ ps.length ≤ 6 ∧ Below w.heap.size w w'
set_option maxHeartbeats 4000000 in
theorem drawFanPut_any (A : Option Addr) (n c : Nat) (z0 : List Int) (w : World) (h : U8s w A n c z0) :
    Calls Tryd.prog 37 #[.slice A n c] w (DrawnPs w) := by
  obtain ⟨i0, hi, hz0, hz1, hz2⟩ := info_parts info_ptr
  go_enter Tryd.func37, Tryd.ntmps37
  go_wp2_with fail
  refine (l6Open_any _ _ _ _ _ h).mono ?_; rintro r w1 ⟨rfl, hr, hb⟩
  obtain ⟨R, hR⟩ : ∃ R, R = w.heap.size := ⟨_, rfl⟩
  rw [← hR] at hr
  rw [← hR]
  have HR := hide hr
  have HB := hide hb
  have hR' := hide hR
  clear hr hb hR h
  go_wp2_with fail
  refine (pick_any R 0 8 _ HR.out (by omega) (by omega) (by omega)).mono ?_; rintro r w2 ⟨x, rfl, _, _, _, hr, hf⟩
  have HR := hide hr
  have HB := hide (fr_new HB.out (Nat.le_of_eq hR'.out.symm) hf)
  clear hr hf
  by_cases e0 : x = 0
  · subst e0
    go_wp2_with fail
    refine (l91Ptrs_any R _ _ HR.out (by omega)).mono ?_; rintro r w3 ⟨v, ps, q, rfl, hl, _, ho, _, hf⟩
    have HB2 := hide (fr_new HB.out (Nat.le_of_eq hR'.out.symm) hf)
    go_wp2_with fail
    go_ret
    exact ⟨v, ps, rfl, ownsRow_leB ho HB.out.size, hl, HB2.out⟩
  · have z1 : (x == 0) = false := by rw [beq_eq_false_iff_ne]; exact e0
    have HO := hide (owns_litP w2 (R + 1) HR.out.lt)
    have HR := hide (HR.out.after (bel1 w2 (.cells #[] 25)))
    have HB := hide (HB.out.alloc HB.out.size (.cells #[] 25))
    clear e0
    go_wp2_with fail
    go_loopw [4, 5] (fun v i wr => ∃ (ps : List P5) (m q : Nat), Hid (m ≤ 4) ∧ Hid (ps.length = m) ∧ Hid (q ≤ 1 + 60 * m) ∧ Hid (wr.ownsRow (R + 1) 25 5 v m (ptrCells ps)) ∧ Hid (Rdr wr R q) ∧ Hid (Below w.heap.size w wr) ∧ i = .int .i64 m) (fun _ i _ => 4 - (intOf i).toNat)
    case atStart => exact ⟨[], 0, 1, hide (by omega), hide rfl, hide (by omega), HO, HR, HB, rfl⟩
    case round =>
      clear HO HR HB
      obtain ⟨ps, m, q, HM4, HPM, HQ, HO, HR, HB, rfl⟩ := hrel
      obtain ⟨A2, c2, rfl⟩ := own_shape HO.out
      by_cases hk : m < 4
      · have HK := hide hk
        have j0 : decide ((m : Int) < 4) = true := decide_eq_true (by omega)
        clear hk
        go_wp2_with fail
        refine (l91Ptr_any R q _ HR.out (by have := HQ.out; have := HK.out; omega)).mono ?_; rintro r x1 ⟨a, b, c', d, e, q1, rfl, hq1, hr, hf⟩
        have HQ1 := hide hq1
        have hm9 : m ≤ 1000 := by have := HK.out; omega
        clear hq1
        have HO := hide (own_frP HO.out hf (fun i e => by omega))
        have HR := hide hr
        have HB := hide (fr_new HB.out (Nat.le_of_eq hR'.out.symm) hf)
        clear hr hf
        go_wp2_with (at_builtin; refine wpList_append_own _ (by rfl) _ _ 42 (by rfl) (R + 1) 25 i0 (.agg #[.int .i64 0, .int .i64 0, .int .i64 0, .int .i64 0, .int .i64 0]) 5 40 Tryd.underlying42 hi hz0 hz1 hz2 rfl (by decide) _ m (ptrCells ps) (by rfl) (HO.out.alloc (.cells #[.int .i64 a, .int .i64 b, .int .i64 c', .int .i64 d, .int .i64 e] 25)) ⟨x1.heap.size, 0, none⟩ 1 1 (p5c (a, b, c', d, e)) (by rfl) rfl (World.news_of_block (heap_alloc_new _ _)) (p5_one (a, b, c', d, e)) (by unfold maxLen; omega) (by omega) (by have := HR.out.lt; simp; omega) ?_; intro v' w2 hown' hgrow _; have HB4 := hide (bel_grownB (HB.out.alloc HB.out.size (.cells #[.int .i64 a, .int .i64 b, .int .i64 c', .int .i64 d, .int .i64 e] 25)) (by have := hR'.out; omega) (HO.out.alloc (.cells #[.int .i64 a, .int .i64 b, .int .i64 c', .int .i64 d, .int .i64 e] 25)) hgrow); have HR4 := hide (rdr_appP HR.out HO.out (by omega) hgrow); have HO4 := hide (own_more_p hown'); clear hown' hgrow)
        go_roundw
        case rel => exact ⟨ps ++ [(a, b, c', d, e)], m + 1, q1, hide (by have := HK.out; omega), hide (by rw [List.length_append, List.length_singleton, HPM.out]), hide (by have := HQ.out; have := HQ1.out; omega), HO4, HR4, HB4, int_eq (by omega)⟩
        case measure => (have := HK.out; simp [intOf]; omega)
      · have j0 : decide ((m : Int) < 4) = false := decide_eq_false (by omega)
        clear hk
        go_wp2_with fail
        go_ret
        exact ⟨_, ps, rfl, by rw [HPM.out]; exact ownsRow_leB HO.out (by have := hR'.out; omega), by have := HM4.out; rw [HPM.out]; omega, HB.out⟩
theorem fanT_size (ps : List P5) : (fanT ps).size ≤ 128 := by
  show (fanL ps).toArray.size ≤ 128
  rw [List.size_toArray]
  exact fan_len
set_option maxHeartbeats 4000000 in
theorem drawFanGet_any (A : Option Addr) (n c : Nat) (z0 : List Int) (w : World) (h : U8s w A n c z0) :
    Calls Tryd.prog 39 #[.slice A n c] w (DrawnS 200 w) := by
  obtain ⟨i0, hi, hz0, hz1, hz2⟩ := info_parts info_ptr
  go_enter Tryd.func39, Tryd.ntmps39
  go_wp2_with fail
  refine (l6Open_any _ _ _ _ _ h).mono ?_; rintro r w1 ⟨rfl, hr, hb⟩
  obtain ⟨R, hR⟩ : ∃ R, R = w.heap.size := ⟨_, rfl⟩
  rw [← hR] at hr
  rw [← hR]
  have HO := hide (owns_litP w1 (R + 1) hr.lt)
  have HR := hide (hr.after (bel1 w1 (.cells #[] 25)))
  have HB := hide (hb.alloc hb.size (.cells #[] 25))
  have hR' := hide hR
  clear hr hb hR h
  go_wp2_with fail
  go_loopw [4, 5] (fun v i wr => ∃ (ps : List P5) (m q : Nat), Hid (m ≤ 4) ∧ Hid (ps.length = m) ∧ Hid (q ≤ 60 * m) ∧ Hid (wr.ownsRow (R + 1) 25 5 v m (ptrCells ps)) ∧ Hid (Rdr wr R q) ∧ Hid (Below w.heap.size w wr) ∧ i = .int .i64 m) (fun _ i _ => 4 - (intOf i).toNat)
  case atStart => exact ⟨[], 0, 0, hide (by omega), hide rfl, hide (by omega), HO, HR, HB, rfl⟩
  case round =>
    clear HO HR HB
    obtain ⟨ps, m, q, HM4, HPM, HQ, HO, HR, HB, rfl⟩ := hrel
    obtain ⟨A2, c2, rfl⟩ := own_shape HO.out
    by_cases hk : m < 4
    · have HK := hide hk
      have j0 : decide ((m : Int) < 4) = true := decide_eq_true (by omega)
      clear hk
      go_wp2_with fail
      refine (l91Ptr_any R q _ HR.out (by have := HQ.out; have := HK.out; omega)).mono ?_; rintro r x1 ⟨a, b, c', d, e, q1, rfl, hq1, hr, hf⟩
      have HQ1 := hide hq1
      have hm9 : m ≤ 1000 := by have := HK.out; omega
      clear hq1
      have HO := hide (own_frP HO.out hf (fun i e => by omega))
      have HR := hide hr
      have HB := hide (fr_new HB.out (Nat.le_of_eq hR'.out.symm) hf)
      clear hr hf
      go_wp2_with (at_builtin; refine wpList_append_own _ (by rfl) _ _ 42 (by rfl) (R + 1) 25 i0 (.agg #[.int .i64 0, .int .i64 0, .int .i64 0, .int .i64 0, .int .i64 0]) 5 40 Tryd.underlying42 hi hz0 hz1 hz2 rfl (by decide) _ m (ptrCells ps) (by rfl) (HO.out.alloc (.cells #[.int .i64 a, .int .i64 b, .int .i64 c', .int .i64 d, .int .i64 e] 25)) ⟨x1.heap.size, 0, none⟩ 1 1 (p5c (a, b, c', d, e)) (by rfl) rfl (World.news_of_block (heap_alloc_new _ _)) (p5_one (a, b, c', d, e)) (by unfold maxLen; omega) (by omega) (by have := HR.out.lt; simp; omega) ?_; intro v' w2 hown' hgrow _; have HB4 := hide (bel_grownB (HB.out.alloc HB.out.size (.cells #[.int .i64 a, .int .i64 b, .int .i64 c', .int .i64 d, .int .i64 e] 25)) (by have := hR'.out; omega) (HO.out.alloc (.cells #[.int .i64 a, .int .i64 b, .int .i64 c', .int .i64 d, .int .i64 e] 25)) hgrow); have HR4 := hide (rdr_appP HR.out HO.out (by omega) hgrow); have HO4 := hide (own_more_p hown'); clear hown' hgrow)
      go_roundw
      case rel => exact ⟨ps ++ [(a, b, c', d, e)], m + 1, q1, hide (by have := HK.out; omega), hide (by rw [List.length_append, List.length_singleton, HPM.out]), hide (by have := HQ.out; have := HQ1.out; omega), HO4, HR4, HB4, int_eq (by omega)⟩
      case measure => (have := HK.out; simp [intOf]; omega)
    · have HS := hide (fun w h => specFanPut_any A2 m c2 ps w h (by have := HM4.out; unfold maxLen; omega))
      have j0 : decide ((m : Int) < 4) = false := decide_eq_false (by omega)
      clear hk
      have hsz := fanT_size ps
      obtain ⟨T, hT⟩ : ∃ T, T = fanT ps := ⟨_, rfl⟩
      rw [← hT] at HS hsz
      clear hT
      go_wp2_with fail
      refine (HS.out _ (own_rdP HO.out)).mono ?_; rintro r x1 ⟨rfl, hb1⟩
      have HR := hide (HR.out.after hb1)
      have HB := hide (HB.out.trans (hb1.mono HB.out.size))
      clear hb1
      go_wp2_with fail
      refine (pick_any R q 3 _ HR.out (by have := HQ.out; have := HM4.out; omega) (by omega) (by omega)).mono ?_; rintro r x2 ⟨x, rfl, _, _, _, hr, hf⟩
      have HR := hide hr
      have HB := hide (fr_new HB.out (Nat.le_of_eq hR'.out.symm) hf)
      clear hr hf
      by_cases e0 : x = 0
      · subst e0
        go_wp2_with fail
        refine (l91Spoil_any R _ T (by omega) _ HR.out (by have := HQ.out; have := HM4.out; omega)).mono ?_; rintro r w6 ⟨u, q2, rfl, hl2, _, _, hf⟩
        have HB := hide (fr_new HB.out (Nat.le_of_eq hR'.out.symm) hf)
        go_wp2_with fail
        go_ret
        exact ⟨_, rfl, by omega, HB.out⟩
      · have z1 : (x == 0) = false := by rw [beq_eq_false_iff_ne]; exact e0
        go_wp2_with fail
        go_ret
        exact ⟨_, rfl, by omega, HB.out⟩
end Go.Proofs.YtmhbpmacfekhgaaDoor
