/- impl's PtrGet. -/
import Derived.Test.YtmhbpmacfekhgaaDoorPtrPut
namespace Go.Proofs.YtmhbpmacfekhgaaDoor
open Go.RowKit
set_option linter.unusedVariables false

/-- what PtrGet gives -/
def qP (l : List UInt8) : P5 := (getQ l).getD (0, 0, 0, 0, 0)
def qB (l : List UInt8) : Bool := (getQ l).isSome
def GetQR (l : List UInt8) (w : World) (r : Ending) (w' : World) : Prop :=
  r = .returned (.tuple #[.agg #[.int .i64 (qP l).1, .int .i64 (qP l).2.1, .int .i64 (qP l).2.2.1, .int .i64 (qP l).2.2.2.1, .int .i64 (qP l).2.2.2.2], .bool (qB l)]) ∧ Below w.heap.size w w'
theorem GetQR.no {l : List UInt8} {w w' : World} (h : getQ l = none) (hb : Below w.heap.size w w') : GetQR l w (.returned (.tuple #[.agg #[.int .i64 0, .int .i64 0, .int .i64 0, .int .i64 0, .int .i64 0], .bool false])) w' := by
  unfold GetQR qP qB
  rw [h]
  exact ⟨rfl, hb⟩
theorem GetQR.yes {l : List UInt8} {a b c d e : Int} {w w' : World} (h : getQ l = some (a, b, c, d, e)) (hb : Below w.heap.size w w') : GetQR l w (.returned (.tuple #[.agg #[.int .i64 a, .int .i64 b, .int .i64 c, .int .i64 d, .int .i64 e], .bool true])) w' := by
  unfold GetQR qP qB
  rw [h]
  exact ⟨rfl, hb⟩
theorem list5 {α : Type} {ls : List α} (h : ls.length = 5) : ∃ p q r s t, ls = [p, q, r, s, t] := by
  match ls, h with
  | [p, q, r, s, t], _ => exact ⟨p, q, r, s, t, rfl⟩
theorem getQ_bad {l p q r s t x : List UInt8} (h : pieces 46 l = [p, q, r, s, t]) (hx : x ∈ [p, q, r, s, t]) (hb : goodN x = false) : getQ l = none := by
  rw [getQ_five h, if_neg]
  intro hg
  simp only [Bool.and_eq_true] at hg
  obtain ⟨⟨⟨⟨⟨g1, g2⟩, g3⟩, g4⟩, g5⟩, _⟩ := hg
  simp only [List.mem_cons, List.not_mem_nil, or_false] at hx
  rcases hx with rfl | rfl | rfl | rfl | rfl <;> simp_all
theorem good5 {p q r s t : List UInt8} (h : ∀ l ∈ [p, q, r, s, t].take 5, goodN l = true) : (goodN p && goodN q && goodN r && goodN s && goodN t) = true := by
  simp only [Bool.and_eq_true]
  refine ⟨⟨⟨⟨h p ?_, h q ?_⟩, h r ?_⟩, h s ?_⟩, h t ?_⟩ <;> simp
theorem good_snoc {ls : List (List UInt8)} {k : Nat} {l : List UInt8} (h : ∀ x ∈ ls.take k, goodN x = true) (hl : ls[k]? = some l) (hg : goodN l = true) : ∀ x ∈ ls.take (k + 1), goodN x = true := by
  intro x hx
  rw [List.take_add_one, hl] at hx
  rcases List.mem_append.1 hx with h1 | h1
  · exact h x h1
  · simp at h1; rw [h1]; exact hg
theorem put_set (xs : List Int) (k : Nat) (v : Int) : (xs.map (Value.int .i64)).toArray.setIfInBounds k (.int .i64 v) = ((xs.set k v).map (Value.int .i64)).toArray := by
  rw [List.setIfInBounds_toArray, List.map_set]
theorem take_set {xs D : List Int} {k : Nat} {v : Int} (hk : k < xs.length) (h : xs.take k = D.take k) (hv : D[k]? = some v) : (xs.set k v).take (k + 1) = D.take (k + 1) := by
  rw [List.take_add_one, List.take_set_of_le (Nat.le_refl k), h, List.getElem?_set_self hk, List.take_add_one, hv]
/-- the numbers of five pieces -/
def dv5 (ls : List (List UInt8)) : List Int := ls.map fun l => (dval l : Int)
theorem dv5_at {ls : List (List UInt8)} {k : Nat} {l : List UInt8} (h : ls[k]? = some l) : (dv5 ls)[k]? = some (dval l : Int) := by unfold dv5; rw [List.getElem?_map, h]; rfl
theorem s45 {s : ByteArray} (h : s ≠ ⟨#[45]⟩) : (s.toList == [45]) = false ∧ s.data.toList ≠ [45] := by
  have h1 : s.data.toList ≠ [45] := fun e => h (by cases s with | mk d => exact congrArg ByteArray.mk (Array.toList_inj.1 e))
  refine ⟨?_, h1⟩
  rw [ByteArray.toList_eq, beq_eq_false_iff_ne]
  exact h1
theorem numG_good {l : List UInt8} (h : goodN l = true) : numG l = dval l := by unfold numG; rw [h, if_pos rfl]
theorem ba_data (l : List UInt8) : (⟨l.toArray⟩ : ByteArray).data.toList = l := rfl
theorem pcs_at {c : UInt8} {s : ByteArray} {ls : List (List UInt8)} {k : Nat} (hp : pieces c s.data.toList = ls) (hk : k < ls.length) : ∃ l, ls[k]? = some l ∧ (pcs c s)[k]? = some ⟨l.toArray⟩ := by
  refine ⟨ls[k], List.getElem?_eq_getElem hk, ?_⟩
  unfold pcs
  rw [hp, List.getElem?_map, List.getElem?_eq_getElem hk]
  rfl
theorem put5Z {w : World} {g : Nat} {a' b' c' d' e' : Value} {t : TypeId} (h : Bk w g t #[a', b', c', d', e']) (a b c d e : Int) : Bk (((((w.setCell ⟨g, 0, none⟩ (.int .i64 a)).setCell ⟨g, 1, none⟩ (.int .i64 b)).setCell ⟨g, 2, none⟩ (.int .i64 c)).setCell ⟨g, 3, none⟩ (.int .i64 d)).setCell ⟨g, 4, none⟩ (.int .i64 e)) g t #[.int .i64 a, .int .i64 b, .int .i64 c, .int .i64 d, .int .i64 e] :=
  ((((h.put 0 (.int .i64 a)).put 1 (.int .i64 b)).put 2 (.int .i64 c)).put 3 (.int .i64 d)).put 4 (.int .i64 e)
theorem bel5Z {B : Nat} {w0 w : World} {g : Nat} (h : Below B w0 w) (hg : B ≤ g) (a b c d e : Value) : Below B w0 (((((w.setCell ⟨g, 0, none⟩ a).setCell ⟨g, 1, none⟩ b).setCell ⟨g, 2, none⟩ c).setCell ⟨g, 3, none⟩ d).setCell ⟨g, 4, none⟩ e) :=
  ((((h.setCell (p := ⟨g, 0, none⟩) hg a).setCell (p := ⟨g, 1, none⟩) hg b).setCell (p := ⟨g, 2, none⟩) hg c).setCell (p := ⟨g, 3, none⟩) hg d).setCell (p := ⟨g, 4, none⟩) hg e

set_option maxHeartbeats 8000000 in
set_option maxRecDepth 100000 in
theorem implPtrGet_any (s : ByteArray) (w : World) (hs : s.size ≤ 1048576) (ht : Tab w) (he : Err w) (hx : Mx w) :
    Calls Tryd.prog 18 #[.string s] w (GetQR s.data.toList w) := by
  have HT := hide ht
  have HE := hide he
  have HX := hide hx
  have K0 := hide (Bk.fresh w 25 #[.int .i64 0, .int .i64 0, .int .i64 0, .int .i64 0, .int .i64 0])
  have B0 := hide (bel1 w (.cells #[.int .i64 0, .int .i64 0, .int .i64 0, .int .i64 0, .int .i64 0] 25))
  clear ht he hx
  by_cases h45 : s = ⟨#[45]⟩
  · subst h45
    have HY := hide (show getQ (⟨#[45]⟩ : ByteArray).data.toList = some (0, 0, 0, 0, 0) from getQ_hole)
    go_enter Tryd.func18, Tryd.ntmps18
    go_wp2_with fail
    refine bodyPost_ret (v := .tuple #[.agg #[.int .i64 0, .int .i64 0, .int .i64 0, .int .i64 0, .int .i64 0], .bool true]) (by simp [results, Tryd.results18, go_sem]) rfl ?_
    exact GetQR.yes HY.out B0.out
  · obtain ⟨j45, hn45⟩ := s45 h45
    have H45 := hide hn45
    clear h45 hn45
    obtain ⟨g4, hg4⟩ : ∃ g, g = w.heap.size + 1 := ⟨_, rfl⟩
    have K1 := hide (Bk.fresh (w.alloc (.cells #[.int .i64 0, .int .i64 0, .int .i64 0, .int .i64 0, .int .i64 0] 25)) 25 #[.int .i64 0, .int .i64 0, .int .i64 0, .int .i64 0, .int .i64 0])
    have K0 := hide (K0.out.alloc (.cells #[.int .i64 0, .int .i64 0, .int .i64 0, .int .i64 0, .int .i64 0] 25))
    have B0 := hide (B0.out.alloc B0.out.size (.cells #[.int .i64 0, .int .i64 0, .int .i64 0, .int .i64 0, .int .i64 0] 25))
    rw [show (w.alloc (.cells #[.int .i64 0, .int .i64 0, .int .i64 0, .int .i64 0, .int .i64 0] 25)).heap.size = w.heap.size + 1 from by simp, ← hg4] at K1
    go_enter Tryd.func18, Tryd.ntmps18
    go_wp2_with fail
    refine (splitC 46 s _ hs (HX.out.after B0.out)).mono ?_; rintro r w1 ⟨rfl, hk1, hb1, _⟩
    obtain ⟨W0, hW0⟩ : ∃ W : World, W = (w.alloc (.cells #[.int .i64 0, .int .i64 0, .int .i64 0, .int .i64 0, .int .i64 0] 25)).alloc (.cells #[.int .i64 0, .int .i64 0, .int .i64 0, .int .i64 0, .int .i64 0] 25) := ⟨_, rfl⟩
    have KL := hide hk1
    have K0 := hide (K0.out.after hb1)
    have K1 := hide (K1.out.after hb1)
    have B0 := hide (B0.out.trans (hb1.mono B0.out.size))
    rw [← hW0] at KL
    rw [← hW0]
    have hgl : g4 < W0.heap.size := by rw [hW0, hg4]; simp
    have HG4 := hide hg4
    have HG4' := hg4.symm
    clear hb1 hk1 hW0 hg4
    go_wp2_with fail
    clear HG4'
    refine (parts_any g4 _).mono ?_; rintro r w2 ⟨h, rfl, hh, hk2, hb2⟩
    have KP := hide hk2
    have hgh := hide (show g4 < h by have := KL.out.lt; omega)
    have KL := hide (KL.out.after hb2)
    have K0 := hide (K0.out.after hb2)
    have K1 := hide (K1.out.after hb2)
    have B0 := hide (B0.out.trans (hb2.mono B0.out.size))
    obtain ⟨gL, hgL⟩ : ∃ g, g = W0.heap.size := ⟨_, rfl⟩
    rw [← hgL] at KL hgl
    rw [← hgL]
    clear hb2 hk2 hh hgL
    have HPL := hide (pcs_len 46 s)
    by_cases h5 : (pcs 46 s).length = 5
    · obtain ⟨pa, pb, pc, pd, pe, hp⟩ := list5 (HPL.out.symm.trans h5)
      have HP := hide hp
      rw [h5]
      clear hp h5
      go_wp2_with fail
      go_loopw [25] (fun i wr => ∃ (k : Nat) (xs : List Int), k ≤ 5 ∧ Hid (xs.length = 5) ∧ Hid (xs.take k = (dv5 [pa, pb, pc, pd, pe]).take k) ∧ Hid (∀ x ∈ [pa, pb, pc, pd, pe].take k, goodN x = true) ∧ Hid (Bk wr g4 25 ((xs.map (Value.int .i64)).toArray)) ∧ Hid (Bk wr w.heap.size 25 #[.int .i64 0, .int .i64 0, .int .i64 0, .int .i64 0, .int .i64 0]) ∧ Hid (Bk wr h 54 (partC g4)) ∧ Hid (Bk wr gL 9 ((pcs 46 s).map Value.string).toArray) ∧ Hid (Below w.heap.size w wr) ∧ i = .int .i64 k) (fun i _ => 5 - (intOf i).toNat)
      case atStart => exact ⟨0, [0, 0, 0, 0, 0], by omega, hide rfl, hide rfl, hide (by intro x hx; cases hx), K1, K0, KP, KL, B0, rfl⟩
      case round =>
        clear K1 K0 KP KL B0
        obtain ⟨k, xs, hk, HXL, HXT, HGD, K1, K0, KP, KL, B0, rfl⟩ := hrel
        by_cases hlt : k < 5
        · obtain ⟨l, hl, hzl⟩ := pcs_at (c := 46) (s := s) HP.out (show k < [pa, pb, pc, pd, pe].length from hlt)
          have hc : wr.cell? ⟨gL, k, none⟩ = some (.string ⟨l.toArray⟩) := by rw [KL.out.cell, List.getElem?_toArray, List.getElem?_map, hzl]; rfl
          obtain ⟨z, hz⟩ : ∃ z : ByteArray, z = ⟨l.toArray⟩ := ⟨_, rfl⟩
          have hzd : z.data.toList = l := by rw [hz]
          rw [← hz] at hc
          have HNG := hide (fun w ht he => implNumGet_any z w ht he)
          rw [hzd] at HNG
          have HL := hide hl
          have j0 : (0 : Int) ≤ (k : Int) := by omega
          have j1 : (k : Int) < 5 := by omega
          clear hl hzl hz hzd
          cases hg : goodN l
          · have HN := hide (getQ_bad HP.out (List.mem_of_getElem? HL.out) hg)
            rw [hg] at HNG
            clear hg
            go_wp2_with fail
            refine (HNG.out _ (HT.out.after B0.out) (HE.out.after B0.out)).mono ?_; rintro r x1 ⟨rfl, hb1⟩
            have K0 := hide (K0.out.after hb1)
            have B0 := hide (B0.out.trans (hb1.mono B0.out.size))
            clear hb1 hc
            obtain ⟨q0, q1, q2, q3, q4⟩ := K0.out.c5
            have f0 := K0.out.frozen 0
            have f1 := K0.out.frozen 1
            have f2 := K0.out.frozen 2
            have f3 := K0.out.frozen 3
            have f4 := K0.out.frozen 4
            have P5 := hide (put5Z K0.out (0) (0) (0) (0) (0))
            have PB := hide (bel5Z B0.out (Nat.le_refl w.heap.size) (.int .i64 (0)) (.int .i64 (0)) (.int .i64 (0)) (.int .i64 (0)) (.int .i64 (0)))
            go_wp2_with fail
            clear q0 q1 q2 q3 q4 f0 f1 f2 f3 f4
            obtain ⟨X, hX⟩ : ∃ X : World, X = (((((x1).setCell ⟨w.heap.size, 0, none⟩ (.int .i64 (0))).setCell ⟨w.heap.size, 1, none⟩ (.int .i64 (0))).setCell ⟨w.heap.size, 2, none⟩ (.int .i64 (0))).setCell ⟨w.heap.size, 3, none⟩ (.int .i64 (0))).setCell ⟨w.heap.size, 4, none⟩ (.int .i64 (0)) := ⟨_, rfl⟩
            rw [← hX] at P5 PB
            rw [← hX]
            clear hX
            obtain ⟨r0, r1, r2, r3, r4⟩ := P5.out.c5
            refine bodyPost_ret (v := .tuple #[.agg #[.int .i64 (0), .int .i64 (0), .int .i64 (0), .int .i64 (0), .int .i64 (0)], .bool false]) (by simp [results, Tryd.results18, go_sem, r0, r1, r2, r3, r4]) rfl ?_
            exact GetQR.no HN.out PB.out
          · have HG := hide hg
            rw [hg, numG_good hg] at HNG
            have HDV := hide (dv5_at HL.out)
            clear hg
            obtain ⟨v, hv⟩ : ∃ v : Int, v = (dval l : Int) := ⟨_, rfl⟩
            rw [← hv] at HNG HDV
            clear hv
            go_wp2_with fail
            refine (HNG.out _ (HT.out.after B0.out) (HE.out.after B0.out)).mono ?_; rintro r x1 ⟨rfl, hb1⟩
            have K0 := hide (K0.out.after hb1)
            have K1 := hide (K1.out.after hb1)
            have KP := hide (KP.out.after hb1)
            have KL := hide (KL.out.after hb1)
            have B0 := hide (B0.out.trans (hb1.mono B0.out.size))
            have hkx : k < xs.length := by rw [HXL.out]; exact hlt
            obtain ⟨u, hv1⟩ : ∃ u, x1.cell? ⟨g4, k, none⟩ = some u := ⟨.int .i64 xs[k], by rw [K1.out.cell, List.getElem?_toArray, List.getElem?_map, List.getElem?_eq_getElem hkx]; rfl⟩
            have hf1 := K1.out.frozen k
            have hp1 := partC_at KP.out hlt
            have K1 := hide (K1.out.put k (.int .i64 v))
            rw [put_set] at K1
            have HXT := hide (take_set hkx HXT.out HDV.out)
            have K0 := hide (K0.out.far (p := ⟨g4, k, none⟩) (by show w.heap.size ≠ g4; have := HG4.out; omega) (.int .i64 v))
            have KP := hide (KP.out.far (p := ⟨g4, k, none⟩) (by show h ≠ g4; have := hgh.out; omega) (.int .i64 v))
            have KL := hide (KL.out.far (p := ⟨g4, k, none⟩) (by show gL ≠ g4; omega) (.int .i64 v))
            have B0 := hide (B0.out.setCell (p := ⟨g4, k, none⟩) (by show w.heap.size ≤ g4; have := HG4.out; omega) (.int .i64 v))
            clear hb1 hc hkx
            go_wp2_with fail
            go_roundw
            case rel => exact ⟨k + 1, xs.set k v, by omega, hide (by rw [List.length_set]; exact HXL.out), HXT, hide (good_snoc HGD.out HL.out HG.out), K1, K0, KP, KL, B0, int_eq (by omega)⟩
            case measure => simp [intOf]; omega
        · have hk5 : k = 5 := by omega
          subst hk5
          have hxs : xs = dv5 [pa, pb, pc, pd, pe] := by
            have h1 := HXT.out
            rw [List.take_of_length_le (Nat.le_of_eq HXL.out), List.take_of_length_le (by unfold dv5; simp)] at h1
            exact h1
          rw [hxs] at K1
          have HG5 := good5 HGD.out
          have H25 := hide (put_test HP.out HG5)
          have HQ5 := hide (getQ_five HP.out)
          rw [HG5, Bool.true_and] at HQ5
          have K1 := hide (show Bk wr g4 25 #[.int .i64 (dval pa), .int .i64 (dval pb), .int .i64 (dval pc), .int .i64 (dval pd), .int .i64 (dval pe)] from K1.out)
          clear hxs HXT HXL HGD HG5
          obtain ⟨a, ha⟩ : ∃ a : Int, a = (dval pa : Int) := ⟨_, rfl⟩
          obtain ⟨b, hb⟩ : ∃ a : Int, a = (dval pb : Int) := ⟨_, rfl⟩
          obtain ⟨c, hc⟩ : ∃ a : Int, a = (dval pc : Int) := ⟨_, rfl⟩
          obtain ⟨d, hd⟩ : ∃ a : Int, a = (dval pd : Int) := ⟨_, rfl⟩
          obtain ⟨e, he⟩ : ∃ a : Int, a = (dval pe : Int) := ⟨_, rfl⟩
          rw [← ha, ← hb, ← hc, ← hd, ← he] at K1 H25 HQ5
          clear ha hb hc hd he
          have HI := hide (implPtrPut_any a b c d e)
          have HTL := hide (show (ptrT a b c d e).data.toList = ptrL a b c d e from rfl)
          obtain ⟨T, hT⟩ : ∃ T, T = ptrT a b c d e := ⟨_, rfl⟩
          rw [← hT] at HI HTL
          clear hT
          obtain ⟨s0, s1, s2, s3, s4⟩ := K1.out.c5
          by_cases hok : (okB a b c d e && !holeB a b c d e) = true
          · have hTs : T = s := by
              have h1 := HTL.out.trans (H25.out.2 hok)
              cases T with | mk x => cases s with | mk y => exact congrArg ByteArray.mk (Array.toList_inj.1 h1)
            have HY := hide HQ5.out
            rw [if_pos hok] at HY
            rw [hTs] at HI
            have hss := beqT_eq (rfl : s = s)
            clear hTs hok
            go_wp2_with fail
            refine (HI.out _ (HT.out.after B0.out)).mono ?_; rintro r x1 ⟨rfl, hb1⟩
            have K0 := hide (K0.out.after hb1)
            have K1 := hide (K1.out.after hb1)
            have B0 := hide (B0.out.trans (hb1.mono B0.out.size))
            clear hb1 s0 s1 s2 s3 s4
            obtain ⟨s0, s1, s2, s3, s4⟩ := K1.out.c5
            obtain ⟨q0, q1, q2, q3, q4⟩ := K0.out.c5
            have f0 := K0.out.frozen 0
            have f1 := K0.out.frozen 1
            have f2 := K0.out.frozen 2
            have f3 := K0.out.frozen 3
            have f4 := K0.out.frozen 4
            have P5 := hide (put5Z K0.out (a) (b) (c) (d) (e))
            have PB := hide (bel5Z B0.out (Nat.le_refl w.heap.size) (.int .i64 (a)) (.int .i64 (b)) (.int .i64 (c)) (.int .i64 (d)) (.int .i64 (e)))
            go_wp2_with fail
            clear q0 q1 q2 q3 q4 f0 f1 f2 f3 f4
            obtain ⟨X, hX⟩ : ∃ X : World, X = (((((x1).setCell ⟨w.heap.size, 0, none⟩ (.int .i64 (a))).setCell ⟨w.heap.size, 1, none⟩ (.int .i64 (b))).setCell ⟨w.heap.size, 2, none⟩ (.int .i64 (c))).setCell ⟨w.heap.size, 3, none⟩ (.int .i64 (d))).setCell ⟨w.heap.size, 4, none⟩ (.int .i64 (e)) := ⟨_, rfl⟩
            rw [← hX] at P5 PB
            rw [← hX]
            clear hX
            obtain ⟨r0, r1, r2, r3, r4⟩ := P5.out.c5
            refine bodyPost_ret (v := .tuple #[.agg #[.int .i64 (a), .int .i64 (b), .int .i64 (c), .int .i64 (d), .int .i64 (e)], .bool true]) (by simp [results, Tryd.results18, go_sem, r0, r1, r2, r3, r4]) rfl ?_
            exact GetQR.yes HY.out PB.out
          · have hTs : T ≠ s := fun e => hok (H25.out.1 (by rw [← HTL.out, e]))
            have HN := hide HQ5.out
            rw [if_neg hok] at HN
            have hss := beqT_ne hTs
            clear hTs hok
            go_wp2_with fail
            refine (HI.out _ (HT.out.after B0.out)).mono ?_; rintro r x1 ⟨rfl, hb1⟩
            have K0 := hide (K0.out.after hb1)
            have B0 := hide (B0.out.trans (hb1.mono B0.out.size))
            clear hb1 s0 s1 s2 s3 s4
            obtain ⟨q0, q1, q2, q3, q4⟩ := K0.out.c5
            have f0 := K0.out.frozen 0
            have f1 := K0.out.frozen 1
            have f2 := K0.out.frozen 2
            have f3 := K0.out.frozen 3
            have f4 := K0.out.frozen 4
            have P5 := hide (put5Z K0.out (0) (0) (0) (0) (0))
            have PB := hide (bel5Z B0.out (Nat.le_refl w.heap.size) (.int .i64 (0)) (.int .i64 (0)) (.int .i64 (0)) (.int .i64 (0)) (.int .i64 (0)))
            go_wp2_with fail
            clear q0 q1 q2 q3 q4 f0 f1 f2 f3 f4
            obtain ⟨X, hX⟩ : ∃ X : World, X = (((((x1).setCell ⟨w.heap.size, 0, none⟩ (.int .i64 (0))).setCell ⟨w.heap.size, 1, none⟩ (.int .i64 (0))).setCell ⟨w.heap.size, 2, none⟩ (.int .i64 (0))).setCell ⟨w.heap.size, 3, none⟩ (.int .i64 (0))).setCell ⟨w.heap.size, 4, none⟩ (.int .i64 (0)) := ⟨_, rfl⟩
            rw [← hX] at P5 PB
            rw [← hX]
            clear hX
            obtain ⟨r0, r1, r2, r3, r4⟩ := P5.out.c5
            refine bodyPost_ret (v := .tuple #[.agg #[.int .i64 (0), .int .i64 (0), .int .i64 (0), .int .i64 (0), .int .i64 (0)], .bool false]) (by simp [results, Tryd.results18, go_sem, r0, r1, r2, r3, r4]) rfl ?_
            exact GetQR.no HN.out PB.out
    · have HN := hide (getQ_many H45.out (fun e => h5 (HPL.out.trans e)))
      have hn5 : (((pcs 46 s).length : Int) == 5) = false := by rw [beq_eq_false_iff_ne]; omega
      have hn5' : (((pcs 46 s).length : Int) != 5) = true := by rw [bne, hn5]; rfl
      clear h5
      obtain ⟨q0, q1, q2, q3, q4⟩ := K0.out.c5
      have f0 := K0.out.frozen 0
      have f1 := K0.out.frozen 1
      have f2 := K0.out.frozen 2
      have f3 := K0.out.frozen 3
      have f4 := K0.out.frozen 4
      have P5 := hide (put5Z K0.out (0) (0) (0) (0) (0))
      have PB := hide (bel5Z B0.out (Nat.le_refl w.heap.size) (.int .i64 (0)) (.int .i64 (0)) (.int .i64 (0)) (.int .i64 (0)) (.int .i64 (0)))
      go_wp2_with fail
      clear q0 q1 q2 q3 q4 f0 f1 f2 f3 f4
      obtain ⟨X, hX⟩ : ∃ X : World, X = (((((w2).setCell ⟨w.heap.size, 0, none⟩ (.int .i64 (0))).setCell ⟨w.heap.size, 1, none⟩ (.int .i64 (0))).setCell ⟨w.heap.size, 2, none⟩ (.int .i64 (0))).setCell ⟨w.heap.size, 3, none⟩ (.int .i64 (0))).setCell ⟨w.heap.size, 4, none⟩ (.int .i64 (0)) := ⟨_, rfl⟩
      rw [← hX] at P5 PB
      rw [← hX]
      clear hX
      obtain ⟨r0, r1, r2, r3, r4⟩ := P5.out.c5
      refine bodyPost_ret (v := .tuple #[.agg #[.int .i64 (0), .int .i64 (0), .int .i64 (0), .int .i64 (0), .int .i64 (0)], .bool false]) (by simp [results, Tryd.results18, go_sem, r0, r1, r2, r3, r4]) rfl ?_
      exact GetQR.no HN.out PB.out
end Go.Proofs.YtmhbpmacfekhgaaDoor
