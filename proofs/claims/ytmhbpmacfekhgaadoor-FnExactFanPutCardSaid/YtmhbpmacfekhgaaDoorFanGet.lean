/- Both FanGet. -/
import Derived.Test.YtmhbpmacfekhgaaDoorFanPut
import Derived.Test.YtmhbpmacfekhgaaDoorPtrGetS
namespace Go.Proofs.YtmhbpmacfekhgaaDoor
open Go.RowKit
set_option linter.unusedVariables false

/-- what FanGet gives -/
def fP (l : List UInt8) : List P5 := (getF l).getD []
def fB (l : List UInt8) : Bool := (getF l).isSome
def GetFR (l : List UInt8) (w : World) (r : Ending) (w' : World) : Prop :=
  ∃ v, r = .returned (.tuple #[v, .bool (fB l)]) ∧ w'.ownsRow w.heap.size 25 5 v (fP l).length (ptrCells (fP l)) ∧ Below w.heap.size w w'
theorem GetFR.no {l : List UInt8} {w w' : World} {v : Value} (h : getF l = none) (ho : w'.ownsRow w.heap.size 25 5 v 0 []) (hb : Below w.heap.size w w') : GetFR l w (.returned (.tuple #[v, .bool false])) w' := by
  unfold GetFR fP fB
  rw [h]
  exact ⟨v, rfl, ho, hb⟩
theorem GetFR.yes {l : List UInt8} {ps : List P5} {w w' : World} {v : Value} (h : getF l = some ps) (ho : w'.ownsRow w.heap.size 25 5 v ps.length (ptrCells ps)) (hb : Below w.heap.size w w') : GetFR l w (.returned (.tuple #[v, .bool true])) w' := by
  unfold GetFR fP fB
  rw [h]
  exact ⟨v, rfl, ho, hb⟩
theorem getF_of {l : List UInt8} {ps : List P5} (h : (pieces 44 l).mapM getQ = some ps) : getF l = if fanB ps = true then some ps else none := by unfold getF; rw [h]
theorem qn {l : List UInt8} (h : getQ l = none) : qP l = (0, 0, 0, 0, 0) ∧ qB l = false := by unfold qP qB; rw [h]; exact ⟨rfl, rfl⟩
theorem qs {l : List UInt8} {p : P5} (h : getQ l = some p) : qP l = (p.1, p.2.1, p.2.2.1, p.2.2.2.1, p.2.2.2.2) ∧ qB l = true := by unfold qP qB; rw [h]; exact ⟨rfl, rfl⟩
theorem getQR_w {P : Program} {f : FuncId} {args : Array Value} {l : List UInt8} {a b c d e : Int} {v : Bool} {w : World} (h0 : qP l = (a, b, c, d, e) ∧ qB l = v) (h : Calls P f args w (GetQR l w)) :
    Calls P f args w fun r w' => r = .returned (.tuple #[.agg #[.int .i64 a, .int .i64 b, .int .i64 c, .int .i64 d, .int .i64 e], .bool v]) ∧ Below w.heap.size w w' := by
  unfold GetQR at h
  rw [h0.1, h0.2] at h
  exact h
theorem pieces_count (c : UInt8) : ∀ l : List UInt8, (pieces c l).length ≤ l.length + 1
  | [] => by simp [pieces]
  | x :: t => by
    have h := pieces_count c t
    rw [pieces]
    split
    · rw [List.length_cons, List.length_cons]; omega
    · cases hp : pieces c t with
      | nil => simp
      | cons q r => rw [hp] at h; rw [List.length_cons] at h ⊢; rw [List.length_cons]; omega
theorem ows_nil5 (w : World) (base : Nat) (e : TypeId) : w.ownsRow base e 5 (.slice none 0 0) 0 [] := ⟨rfl, .inl ⟨rfl, rfl⟩⟩
theorem own_more_p {w : World} {base n : Nat} {v : Value} {zs : List P5} {z : P5} (h : w.ownsRow base 25 5 v n (ptrCells zs ++ p5c z)) : w.ownsRow base 25 5 v n (ptrCells (zs ++ [z])) := by
  rw [ptrCells_snoc]
  exact h
theorem own_rdP {w : World} {base n : Nat} {A : Option Addr} {c : Nat} {ps : List P5} (h : w.ownsRow base 25 5 (.slice A n c) n (ptrCells ps)) : Rd w 5 A n (ptrCells ps) := by
  obtain ⟨h1, h2⟩ := h
  rcases h2 with ⟨e, rfl⟩ | ⟨g, cap, cur, e, hb, hg, hnc, _, hsz, htk⟩
  · exact ⟨h1, fun hn => absurd hn (by omega)⟩
  · injection e with e1 e2 e3
    subst e1
    refine ⟨h1, fun hn => ⟨g, 0, rfl, (Array.getElem?_eq_some_iff.1 hg).1, fun j u hj => ?_⟩⟩
    have hc : w.cell? ⟨g, 0 + j, none⟩ = cur[j]? := by simp [World.cell?, hg]
    rw [hc]
    rw [← htk] at hj
    have hjn : j < n * 5 := by
      rcases Nat.lt_or_ge j (n * 5) with h | h
      · exact h
      · rw [List.getElem?_eq_none (by rw [List.length_take]; omega)] at hj; cases hj
    rw [List.getElem?_take_of_lt hjn] at hj
    simpa using hj
theorem p5_one (p : P5) : ∀ u ∈ p5c p, u.oneCell' = true := by
  intro u hu
  simp only [p5c, List.mem_cons, List.not_mem_nil, or_false] at hu
  rcases hu with rfl | rfl | rfl | rfl | rfl <;> rfl
set_option maxHeartbeats 8000000 in
set_option maxRecDepth 100000 in
theorem implFanGet_any (s : ByteArray) (w : World) (hs : s.size ≤ 1048576) (ht : Tab w) (he : Err w) (hx : Mx w) :
    Calls Tryd.prog 34 #[.string s] w (GetFR s.data.toList w) := by
  obtain ⟨i0, hi, hz0, hz1, hz2⟩ := info_parts info_ptr
  have HT := hide ht
  have HE := hide he
  have HX := hide hx
  have HSL := hide (show s.data.toList.length = s.size by simp)
  clear ht he hx
  have hct := pieces_count 44 s.data.toList
  rw [HSL.out] at hct
  obtain ⟨ls, hls⟩ : ∃ ls, pieces 44 s.data.toList = ls := ⟨_, rfl⟩
  obtain ⟨n, hn⟩ : ∃ n, (pcs 44 s).length = n := ⟨_, rfl⟩
  have hnl : ls.length = n := by rw [← hn, pcs_len, hls]
  rw [hls, hnl] at hct
  have HLS := hide hls
  have HNL := hide hnl
  have HSP := hide (fun w hx => splitC 44 s w hs hx)
  rw [hn] at HSP
  clear hls hnl hn
  go_enter Tryd.func34, Tryd.ntmps34
  go_wp2_with fail
  refine (HSP.out _ HX.out).mono ?_; rintro r w1 ⟨rfl, hk1, hb1, hlt1⟩
  have KL := hide hk1
  have B0 := hide hb1
  clear hk1 hb1 hlt1
  go_wp2_with fail
  go_loopw [4, 14] (fun v i wr => ∃ (k : Nat) (ps : List P5), k ≤ n ∧ Hid (ps.length = k) ∧ k ≤ 4 ∧ Hid (wr.ownsRow (w.heap.size + 1) 25 5 v k (ptrCells ps)) ∧ Hid ((ls.take k).mapM getQ = some ps) ∧ Hid (Bk wr w.heap.size 9 ((pcs 44 s).map Value.string).toArray) ∧ Hid (Below w.heap.size w wr) ∧ i = .int .i64 k) (fun _ i _ => n - (intOf i).toNat)
  case atStart => exact ⟨0, [], by omega, hide rfl, by omega, hide (ows_nil5 _ _ _), hide rfl, KL, B0, rfl⟩
  case round =>
    clear KL B0
    obtain ⟨k, ps, hk, HPK, hk4, HO, HM, KL, HB, rfl⟩ := hrel
    obtain ⟨A2, m, rfl⟩ := own_shape HO.out
    by_cases hlt : k < n
    · obtain ⟨l, hl, hzl⟩ := pcs_at (c := 44) (s := s) HLS.out (show k < ls.length by rw [HNL.out]; exact hlt)
      have hc : wr.cell? ⟨w.heap.size, k, none⟩ = some (.string ⟨l.toArray⟩) := by rw [KL.out.cell, List.getElem?_toArray, List.getElem?_map, hzl]; rfl
      have hll := piece_le 44 s.data.toList l (by rw [HLS.out]; exact List.mem_of_getElem? hl)
      rw [HSL.out] at hll
      obtain ⟨z, hz⟩ : ∃ z : ByteArray, z = ⟨l.toArray⟩ := ⟨_, rfl⟩
      have hzd : z.data.toList = l := by rw [hz]
      have hzs : z.size ≤ 1048576 := by
        have h2 : z.data.toList.length = z.size := by simp
        rw [hzd] at h2
        omega
      rw [← hz] at hc
      have HNG := hide (fun w ht he hx => implPtrGet_any z w hzs ht he hx)
      rw [hzd] at HNG
      have HL := hide hl
      have j0 : (0 : Int) ≤ (k : Int) := by omega
      have j1 : (k : Int) < (n : Int) := by omega
      have hgw := KL.out.lt
      clear hl hzl hz hzd hll
      cases hg : getQ l with
      | none =>
        have HN := hide (getF_bad (i := k) (q := l) (by rw [HLS.out]; exact HL.out) hg)
        have HC := hide (fun w ht he hx => getQR_w (qn hg) (HNG.out w ht he hx))
        clear hg
        go_wp2_with fail
        refine (HC.out _ (HT.out.after HB.out) (HE.out.after HB.out) (HX.out.after HB.out)).mono ?_; rintro r x1 ⟨rfl, hb1⟩
        have HB := hide (HB.out.trans (hb1.mono HB.out.size))
        have HB := hide (HB.out.alloc HB.out.size (.cells #[.int .i64 0, .int .i64 0, .int .i64 0, .int .i64 0, .int .i64 0] 25))
        clear hb1 hc
        go_wp2_with fail
        go_ret2
        exact GetFR.no HN.out (ows_nil5 _ _ _) HB.out
      | some p =>
        have HC := hide (fun w ht he hx => getQR_w (qs hg) (HNG.out w ht he hx))
        by_cases h4 : k = 4
        · have HN := hide (getF_len (l := s.data.toList) (by rw [HLS.out, HNL.out]; omega))
          have e4 : ((k : Int) == 4) = true := by rw [h4]; rfl
          clear hg h4
          go_wp2_with fail
          refine (HC.out _ (HT.out.after HB.out) (HE.out.after HB.out) (HX.out.after HB.out)).mono ?_; rintro r x1 ⟨rfl, hb1⟩
          have HB := hide (HB.out.trans (hb1.mono HB.out.size))
          have HB := hide (HB.out.alloc HB.out.size (.cells #[.int .i64 p.1, .int .i64 p.2.1, .int .i64 p.2.2.1, .int .i64 p.2.2.2.1, .int .i64 p.2.2.2.2] 25))
          clear hb1 hc
          go_wp2_with fail
          go_ret2
          exact GetFR.no HN.out (ows_nil5 _ _ _) HB.out
        · have e4 : ((k : Int) == 4) = false := by rw [beq_eq_false_iff_ne]; omega
          have HM1 := hide (mapM_take HM.out HL.out hg)
          have H4 := hide h4
          clear hg h4
          go_wp2_with fail
          refine (HC.out _ (HT.out.after HB.out) (HE.out.after HB.out) (HX.out.after HB.out)).mono ?_; rintro r x1 ⟨rfl, hb1⟩
          have HO := hide ((own_bel HO.out hb1).alloc (.cells #[.int .i64 p.1, .int .i64 p.2.1, .int .i64 p.2.2.1, .int .i64 p.2.2.2.1, .int .i64 p.2.2.2.2] 25))
          have KL := hide ((KL.out.after hb1).alloc (.cells #[.int .i64 p.1, .int .i64 p.2.1, .int .i64 p.2.2.1, .int .i64 p.2.2.2.1, .int .i64 p.2.2.2.2] 25))
          have HB := hide (HB.out.trans (hb1.mono HB.out.size))
          have K0 := hide (Bk.fresh x1 25 #[.int .i64 p.1, .int .i64 p.2.1, .int .i64 p.2.2.1, .int .i64 p.2.2.2.1, .int .i64 p.2.2.2.2])
          have HB := hide (HB.out.alloc HB.out.size (.cells #[.int .i64 p.1, .int .i64 p.2.1, .int .i64 p.2.2.1, .int .i64 p.2.2.2.1, .int .i64 p.2.2.2.2] 25))
          clear hb1 hc
          go_upto_region 8 with fail
          obtain ⟨X, hX⟩ : ∃ X, X = x1.alloc (.cells #[.int .i64 p.1, .int .i64 p.2.1, .int .i64 p.2.2.1, .int .i64 p.2.2.2.1, .int .i64 p.2.2.2.2] 25) := ⟨_, rfl⟩
          obtain ⟨gx, hgx⟩ : ∃ g, g = x1.heap.size := ⟨_, rfl⟩
          rw [← hX] at HO KL HB K0
          rw [← hgx] at K0
          rw [← hX, ← hgx]
          clear hX hgx
          obtain ⟨q0, q1, q2, q3, q4⟩ := K0.out.c5
          go_wp2_with (at_builtin; refine wpList_append_own _ (by rfl) _ _ 42 (by rfl) (w.heap.size + 1) 25 i0 (.agg #[.int .i64 0, .int .i64 0, .int .i64 0, .int .i64 0, .int .i64 0]) 5 40 Tryd.underlying42 hi hz0 hz1 hz2 rfl (by decide) _ k (ptrCells ps) (by rfl) (HO.out.alloc (.cells #[.int .i64 p.1, .int .i64 p.2.1, .int .i64 p.2.2.1, .int .i64 p.2.2.2.1, .int .i64 p.2.2.2.2] 25)) ⟨X.heap.size, 0, none⟩ 1 1 (p5c p) (by rfl) rfl (World.news_of_block (heap_alloc_new _ _)) (p5_one p) (by unfold maxLen; omega) (by omega) (by have := KL.out.lt; simp; omega) ?_; intro v' w2 hown' hgrow _; have HB4 := hide (bel_grownB (HB.out.alloc HB.out.size (.cells #[.int .i64 p.1, .int .i64 p.2.1, .int .i64 p.2.2.1, .int .i64 p.2.2.2.1, .int .i64 p.2.2.2.2] 25)) (Nat.le_of_lt (by omega)) (HO.out.alloc (.cells #[.int .i64 p.1, .int .i64 p.2.1, .int .i64 p.2.2.1, .int .i64 p.2.2.2.1, .int .i64 p.2.2.2.2] 25)) hgrow); have HF4 := hide (fr_grownB (HO.out.alloc (.cells #[.int .i64 p.1, .int .i64 p.2.1, .int .i64 p.2.2.1, .int .i64 p.2.2.2.1, .int .i64 p.2.2.2.2] 25)) hgrow); have HO4 := hide (own_more_p hown'); clear hown' hgrow)
          go_roundw
          case rel => exact ⟨k + 1, ps ++ [p], by omega, hide (by rw [List.length_append, List.length_singleton, HPK.out]), by have := H4.out; omega, HO4, HM1, hide ((KL.out.alloc _).fr HF4.out (by omega)), HB4, int_eq (by omega)⟩
          case measure => simp [intOf]; omega
    · have hkn : k = n := by omega
      have HMA := hide (show (pieces 44 s.data.toList).mapM getQ = some ps by rw [HLS.out]; have := HM.out; rwa [List.take_of_length_le (by rw [HNL.out]; omega)] at this)
      have HGF := hide (getF_of HMA.out)
      have HBK := hide (fan_back HMA.out)
      have HFP := hide (fun w ht h => implFanPut_any A2 k m ps w ht h (by unfold maxLen; omega))
      cases hfb : fanB ps
      · have HN := hide HGF.out
        rw [hfb, if_neg (by simp)] at HN
        rw [hfb, fanT_no hfb] at HFP
        have hkn' := hide hkn
        clear hkn hfb
        go_wp2_with fail
        refine (HFP.out _ (HT.out.after HB.out) (own_rdP HO.out)).mono ?_; rintro r x1 ⟨rfl, hb1⟩
        go_wp2_with fail
        go_ret2
        exact GetFR.no HN.out (ows_nil5 _ _ _) (HB.out.trans (hb1.mono HB.out.size))
      · have HY := hide HGF.out
        rw [hfb, if_pos rfl] at HY
        have hts : fanT ps = s := by
          have h1 : fanL ps = s.data.toList := (fanL_yes hfb).trans HBK.out
          unfold fanT
          rw [h1]
        rw [hfb, hts] at HFP
        have hss := beqT_eq (rfl : s = s)
        have hkn' := hide hkn
        clear hkn hfb hts
        go_wp2_with fail
        refine (HFP.out _ (HT.out.after HB.out) (own_rdP HO.out)).mono ?_; rintro r x1 ⟨rfl, hb1⟩
        have HO := hide (own_bel HO.out hb1)
        go_wp2_with fail
        go_ret2
        exact GetFR.yes HY.out (by rw [HPK.out]; exact ownsRow_leB HO.out (Nat.le_succ _)) (HB.out.trans (hb1.mono HB.out.size))
theorem owns_litP (w : World) (base : Nat) (h : base ≤ w.heap.size) : (w.alloc (.cells #[] 25)).ownsRow base 25 5 (.slice (some ⟨w.heap.size, 0, none⟩) 0 0) 0 [] :=
  World.ownsRow_lit (base := base) (e := 25) (size := 5) w #[] 0 h (by simp [maxLen]) rfl
set_option maxHeartbeats 8000000 in
set_option maxRecDepth 100000 in
theorem specFanGet_any (s : ByteArray) (w : World) (hs : s.size ≤ 1048576) :
    Calls Tryd.prog 33 #[.string s] w (GetFR s.data.toList w) := by
  obtain ⟨i0, hi, hz0, hz1, hz2⟩ := info_parts info_ptr
  have HSL := hide (show s.data.toList.length = s.size by simp)
  have hct := pieces_count 44 s.data.toList
  rw [HSL.out] at hct
  obtain ⟨ls, hls⟩ : ∃ ls, pieces 44 s.data.toList = ls := ⟨_, rfl⟩
  obtain ⟨n, hn⟩ : ∃ n, (pcs 44 s).length = n := ⟨_, rfl⟩
  have hnl : ls.length = n := by rw [← hn, pcs_len, hls]
  rw [hls, hnl] at hct
  have HLS := hide hls
  have HNL := hide hnl
  have HSP := hide (fun w => l2Cut_v (c := 44) (i := 44) rfl s w hs)
  unfold CutR at HSP
  rw [hn] at HSP
  clear hls hnl hn
  go_enter Tryd.func33, Tryd.ntmps33
  go_wp2_with fail
  refine (HSP.out _).mono ?_; rintro r w1 ⟨A, ca, rfl, hk1, hb1⟩
  have HA := hide (show ∀ b o, A = some ⟨b, o, none⟩ → 0 < n → b < w1.heap.size from fun b o e hn => by
    obtain ⟨b', o', e', hb', _⟩ := hk1.at_ hn
    rw [e] at e'
    injection e' with e'
    injection e' with e1 _ _
    omega)
  have HO0 := hide (owns_litP w1 w1.heap.size (Nat.le_refl _))
  have KL := hide (hk1.after (bel1 w1 (.cells #[] 25)))
  have B0 := hide (hb1.alloc hb1.size (.cells #[] 25))
  have hGW : w1.heap.size ≤ (w1.alloc (.cells #[] 25)).heap.size := by simp
  have hG0 : w.heap.size ≤ w1.heap.size := hb1.size
  clear hk1 hb1
  go_wp2_with fail
  obtain ⟨G, hGe⟩ : ∃ G, G = w1.heap.size := ⟨_, rfl⟩
  rw [← hGe] at HO0 HA hGW hG0
  rw [← hGe]
  have HGE := hide hGe
  clear hGe
  go_loopw [5, 6, 7] (fun v x i wr => ∃ (k : Nat) (ps : List P5) (sm : Bool), k ≤ n ∧ Hid (ps.length = k) ∧ Hid (ps.any (fun p => !phole p) = sm) ∧ Hid (wr.ownsRow G 25 5 v k (ptrCells ps)) ∧ Hid ((ls.take k).mapM getQ = some ps) ∧ Hid (Rd wr 1 A n ((pcs 44 s).map Value.string)) ∧ G ≤ wr.heap.size ∧ Hid (Below w.heap.size w wr) ∧ x = .bool sm ∧ i = .int .i64 k) (fun _ _ i _ => n - (intOf i).toNat)
  case atStart => exact ⟨0, [], false, by omega, hide rfl, hide rfl, HO0, hide rfl, KL, hGW, B0, rfl, rfl⟩
  case round =>
    clear HO0 KL B0 hGW
    obtain ⟨k, ps, sm, hk, HPK, HSM, HO, HM, KL, hGW, HB, rfl, rfl⟩ := hrel
    obtain ⟨A2, m, rfl⟩ := own_shape HO.out
    by_cases hlt : k < n
    · obtain ⟨l, hl, hzl⟩ := pcs_at (c := 44) (s := s) HLS.out (show k < ls.length by rw [HNL.out]; exact hlt)
      obtain ⟨bL, oL, z, rfl, hbL, hzk, hc⟩ := KL.out.str_at hlt
      have hAb := HA.out bL oL rfl (by omega)
      have hll := piece_le 44 s.data.toList l (by rw [HLS.out]; exact List.mem_of_getElem? hl)
      rw [HSL.out] at hll
      have hzd : z.data.toList = l := by rw [hzk] at hzl; rw [Option.some.inj hzl]
      have hzs : z.size ≤ 1048576 := by
        have h2 : z.data.toList.length = z.size := by simp
        rw [hzd] at h2
        omega
      have HNG := hide (fun w => specPtrGet_any z w hzs)
      rw [hzd] at HNG
      have HL := hide hl
      have j0 : (0 : Int) ≤ (k : Int) := by omega
      have j1 : (k : Int) < (n : Int) := by omega
      clear hl hzl hzd hll hzk hbL
      cases hg : getQ l with
      | none =>
        have HN := hide (getF_bad (i := k) (q := l) (by rw [HLS.out]; exact HL.out) hg)
        have HC := hide (fun w => getQR_w (qn hg) (HNG.out w))
        clear hg
        go_wp2_with fail
        refine (HC.out _).mono ?_; rintro r x1 ⟨rfl, hb1⟩
        have HB := hide (HB.out.trans (hb1.mono HB.out.size))
        have HB := hide (HB.out.alloc HB.out.size (.cells #[.int .i64 0, .int .i64 0, .int .i64 0, .int .i64 0, .int .i64 0] 25))
        have HOE := hide (owns_litP _ w.heap.size HB.out.size)
        rw [show (x1.alloc (.cells #[.int .i64 0, .int .i64 0, .int .i64 0, .int .i64 0, .int .i64 0] 25)).heap.size = x1.heap.size + 1 from by simp] at HOE
        have HB := hide (HB.out.alloc HB.out.size (.cells #[] 25))
        clear hb1 hc
        go_wp2_with fail
        go_ret2
        exact GetFR.no HN.out HOE.out HB.out
      | some p =>
        have HC := hide (fun w => getQR_w (qs hg) (HNG.out w))
        have HM1 := hide (mapM_take HM.out HL.out hg)
        obtain ⟨hole, hhole⟩ : ∃ h, phole p = h := ⟨_, rfl⟩
        have HSM1 := hide (show (ps ++ [p]).any (fun p => !phole p) = (sm || !hole) by rw [List.any_append, HSM.out, ← hhole]; simp)
        have HH := hide (show holeB p.1 p.2.1 p.2.2.1 p.2.2.2.1 p.2.2.2.2 = hole from hhole)
        clear hg hhole
        go_wp2_with fail
        refine (HC.out _).mono ?_; rintro r x1 ⟨rfl, hb1⟩
        have HO := hide ((own_bel HO.out hb1).alloc (.cells #[.int .i64 p.1, .int .i64 p.2.1, .int .i64 p.2.2.1, .int .i64 p.2.2.2.1, .int .i64 p.2.2.2.2] 25))
        have KL := hide ((KL.out.after hb1).after (bel1 _ (.cells #[.int .i64 p.1, .int .i64 p.2.1, .int .i64 p.2.2.1, .int .i64 p.2.2.2.1, .int .i64 p.2.2.2.2] 25)))
        have hGW := Nat.le_trans hGW hb1.size
        have HB := hide (HB.out.trans (hb1.mono HB.out.size))
        have K0 := hide (Bk.fresh x1 25 #[.int .i64 p.1, .int .i64 p.2.1, .int .i64 p.2.2.1, .int .i64 p.2.2.2.1, .int .i64 p.2.2.2.2])
        have HB := hide (HB.out.alloc HB.out.size (.cells #[.int .i64 p.1, .int .i64 p.2.1, .int .i64 p.2.2.1, .int .i64 p.2.2.2.1, .int .i64 p.2.2.2.2] 25))
        have hGX : G ≤ (x1.alloc (.cells #[.int .i64 p.1, .int .i64 p.2.1, .int .i64 p.2.2.1, .int .i64 p.2.2.2.1, .int .i64 p.2.2.2.2] 25)).heap.size := by simp; omega
        clear hb1 hc
        go_upto_region 10 with fail
        obtain ⟨X, hX⟩ : ∃ X, X = x1.alloc (.cells #[.int .i64 p.1, .int .i64 p.2.1, .int .i64 p.2.2.1, .int .i64 p.2.2.2.1, .int .i64 p.2.2.2.2] 25) := ⟨_, rfl⟩
        obtain ⟨gx, hgx⟩ : ∃ g, g = x1.heap.size := ⟨_, rfl⟩
        rw [← hX] at HO KL HB K0 hGX
        rw [← hgx] at K0 hGW
        rw [← hX, ← hgx]
        clear hX hgx
        cases sm
        · obtain ⟨q0, q1, q2, q3, q4⟩ := K0.out.c5
          go_wp2_with fail
          refine (specPtrHole_v HH.out _).mono ?_; rintro r x2 ⟨rfl, hb1⟩
          have HO := hide (own_bel HO.out hb1)
          have KL := hide (KL.out.after hb1)
          have hGX := Nat.le_trans hGX hb1.size
          have HB := hide (HB.out.trans (hb1.mono HB.out.size))
          have K0 := hide (K0.out.after hb1)
          clear hb1 q0 q1 q2 q3 q4
          obtain ⟨q0, q1, q2, q3, q4⟩ := K0.out.c5
          go_wp2_with (at_builtin; refine wpList_append_own _ (by rfl) _ _ 42 (by rfl) (G) 25 i0 (.agg #[.int .i64 0, .int .i64 0, .int .i64 0, .int .i64 0, .int .i64 0]) 5 40 Tryd.underlying42 hi hz0 hz1 hz2 rfl (by decide) _ k (ptrCells ps) (by rfl) (HO.out.alloc (.cells #[.int .i64 p.1, .int .i64 p.2.1, .int .i64 p.2.2.1, .int .i64 p.2.2.2.1, .int .i64 p.2.2.2.2] 25)) ⟨x2.heap.size, 0, none⟩ 1 1 (p5c p) (by rfl) rfl (World.news_of_block (heap_alloc_new _ _)) (p5_one p) (by unfold maxLen; omega) (by omega) (by have := hGX; simp; omega) ?_; intro v' w2 hown' hgrow _; have HB4 := hide (bel_grownB (HB.out.alloc HB.out.size (.cells #[.int .i64 p.1, .int .i64 p.2.1, .int .i64 p.2.2.1, .int .i64 p.2.2.2.1, .int .i64 p.2.2.2.2] 25)) (hG0) (HO.out.alloc (.cells #[.int .i64 p.1, .int .i64 p.2.1, .int .i64 p.2.2.1, .int .i64 p.2.2.2.1, .int .i64 p.2.2.2.2] 25)) hgrow); have HF4 := hide (fr_grownB (HO.out.alloc (.cells #[.int .i64 p.1, .int .i64 p.2.1, .int .i64 p.2.2.1, .int .i64 p.2.2.2.1, .int .i64 p.2.2.2.2] 25)) hgrow); have HO4 := hide (own_more_p hown'); clear hown' hgrow)
          go_roundw
          case rel => exact ⟨k + 1, ps ++ [p], !hole, by omega, hide (by rw [List.length_append, List.length_singleton, HPK.out]), hide (HSM1.out.trans (by simp)), HO4, HM1, hide ((KL.out.after (bel1 _ _)).fr HF4.out (fun b o e => by injection e with e; injection e with e1 _ _; omega)), by have h1 := HF4.out.size; simp at h1; omega, HB4, rfl, int_eq (by omega)⟩
          case measure => simp [intOf]; omega
        · obtain ⟨q0, q1, q2, q3, q4⟩ := K0.out.c5
          go_wp2_with (at_builtin; refine wpList_append_own _ (by rfl) _ _ 42 (by rfl) (G) 25 i0 (.agg #[.int .i64 0, .int .i64 0, .int .i64 0, .int .i64 0, .int .i64 0]) 5 40 Tryd.underlying42 hi hz0 hz1 hz2 rfl (by decide) _ k (ptrCells ps) (by rfl) (HO.out.alloc (.cells #[.int .i64 p.1, .int .i64 p.2.1, .int .i64 p.2.2.1, .int .i64 p.2.2.2.1, .int .i64 p.2.2.2.2] 25)) ⟨X.heap.size, 0, none⟩ 1 1 (p5c p) (by rfl) rfl (World.news_of_block (heap_alloc_new _ _)) (p5_one p) (by unfold maxLen; omega) (by omega) (by have := hGX; simp; omega) ?_; intro v' w2 hown' hgrow _; have HB4 := hide (bel_grownB (HB.out.alloc HB.out.size (.cells #[.int .i64 p.1, .int .i64 p.2.1, .int .i64 p.2.2.1, .int .i64 p.2.2.2.1, .int .i64 p.2.2.2.2] 25)) (hG0) (HO.out.alloc (.cells #[.int .i64 p.1, .int .i64 p.2.1, .int .i64 p.2.2.1, .int .i64 p.2.2.2.1, .int .i64 p.2.2.2.2] 25)) hgrow); have HF4 := hide (fr_grownB (HO.out.alloc (.cells #[.int .i64 p.1, .int .i64 p.2.1, .int .i64 p.2.2.1, .int .i64 p.2.2.2.1, .int .i64 p.2.2.2.2] 25)) hgrow); have HO4 := hide (own_more_p hown'); clear hown' hgrow)
          go_roundw
          case rel => exact ⟨k + 1, ps ++ [p], true, by omega, hide (by rw [List.length_append, List.length_singleton, HPK.out]), hide (HSM1.out.trans (by simp)), HO4, HM1, hide ((KL.out.after (bel1 _ _)).fr HF4.out (fun b o e => by injection e with e; injection e with e1 _ _; omega)), by have h1 := HF4.out.size; simp at h1; omega, HB4, rfl, int_eq (by omega)⟩
          case measure => simp [intOf]; omega
    · have hkn : k = n := by omega
      have HMA := hide (show (pieces 44 s.data.toList).mapM getQ = some ps by rw [HLS.out]; have := HM.out; rwa [List.take_of_length_le (by rw [HNL.out]; omega)] at this)
      have HGF := hide (getF_of HMA.out)
      have HAP := hide (mapM_getQ _ _ HMA.out).1
      have HOE := hide (owns_litP wr w.heap.size HB.out.size)
      have HBE := hide (HB.out.alloc HB.out.size (.cells #[] 25))
      by_cases h4 : k = 4
      · have e4 : ((k : Int) == 4) = true := by rw [h4]; rfl
        have e4' : ((k : Int) != 4) = false := by rw [bne, e4]; rfl
        cases sm
        · have HN := hide HGF.out
          rw [fan_no2 HSM.out, if_neg (by simp)] at HN
          have hkn' := hide hkn
          clear hkn h4
          go_wp2_with fail
          go_ret2
          exact GetFR.no HN.out HOE.out HBE.out
        · have HY := hide HGF.out
          rw [if_pos (fan_yes (HPK.out.trans h4) HAP.out HSM.out)] at HY
          have hkn' := hide hkn
          clear hkn h4
          go_wp2_with fail
          go_ret2
          exact GetFR.yes HY.out (by rw [HPK.out]; exact ownsRow_leB HO.out hG0) HB.out
      · have e4 : ((k : Int) == 4) = false := by rw [beq_eq_false_iff_ne]; omega
        have e4' : ((k : Int) != 4) = true := by rw [bne, e4]; rfl
        have HN := hide HGF.out
        rw [fan_no1 (by rw [HPK.out]; exact h4), if_neg (by simp)] at HN
        have hkn' := hide hkn
        clear hkn h4
        go_wp2_with fail
        go_ret2
        exact GetFR.no HN.out HOE.out HBE.out
end Go.Proofs.YtmhbpmacfekhgaaDoor
