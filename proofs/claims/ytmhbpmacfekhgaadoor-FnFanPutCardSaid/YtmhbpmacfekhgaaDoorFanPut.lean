/- Both FanPut. -/
import Derived.Test.YtmhbpmacfekhgaaDoorPtrPut
import Derived.Test.YtmhbpmacfekhgaaDoorPtrEq
namespace Go.Proofs.YtmhbpmacfekhgaaDoor
open Go.RowKit
set_option linter.unusedVariables false

/-- texts of pointers, as values -/
def pT (p : P5) : ByteArray := ptrT p.1 p.2.1 p.2.2.1 p.2.2.2.1 p.2.2.2.2
def fanT (ps : List P5) : ByteArray := ⟨(fanL ps).toArray⟩
theorem fanT_no {ps : List P5} (h : fanB ps = false) : fanT ps = ⟨#[]⟩ := by unfold fanT fanL; rw [h]; rfl
theorem fan_no1 {ps : List P5} (h : ps.length ≠ 4) : fanB ps = false := by unfold fanB; rw [decide_eq_false h]; rfl
theorem fan_no2 {ps : List P5} (h : ps.any (fun p => !phole p) = false) : fanB ps = false := by unfold fanB; rw [h]; simp
theorem fan_no3 {ps : List P5} {k : Nat} {p : P5} (hp : ps[k]? = some p) (h : pok p = false) : fanB ps = false := by
  unfold fanB
  rw [show ps.all pok = false from List.all_eq_false.2 ⟨p, List.mem_of_getElem? hp, by rw [h]; simp⟩]
  simp
theorem fan_yes {ps : List P5} (h1 : ps.length = 4) (h2 : ps.all pok = true) (h3 : ps.any (fun p => !phole p) = true) : fanB ps = true := (fan_iff ps).2 ⟨h1, h2, h3⟩
theorem fanL_yes {ps : List P5} (h : fanB ps = true) : fanL ps = Lib.join (ps.map pL) [44] := by unfold fanL; rw [if_pos h]
theorem pT_lists (ps : List P5) : (ps.map pT).map (·.data.toList) = ps.map pL := by
  rw [List.map_map]; exact List.map_congr_left (fun p _ => rfl)
theorem fanT_yes {ps : List P5} (h : fanB ps = true) : fanT ps = ⟨(Lib.join ((ps.map pT).map (·.data.toList)) [44]).toArray⟩ := by unfold fanT; rw [fanL_yes h, pT_lists]
theorem ptrT_len (p : P5) : (pL p).length ≤ 21 := ptrL_len
theorem snocP {ps : List P5} {k : Nat} {p : P5} (h : ps[k]? = some p) : (ps.take (k + 1)).map pT = (ps.take k).map pT ++ [pT p] := by
  rw [List.take_add_one, h, List.map_append]; rfl
theorem all_take {α : Type} {f : α → Bool} {ps : List α} {k : Nat} {p : α} (hp : ps[k]? = some p) (h : (ps.take k).all f = true) (hf : f p = true) : (ps.take (k + 1)).all f = true := by
  rw [List.take_add_one, hp, List.all_append, h, Bool.true_and]
  show ([p].all f) = true
  simp [hf]
theorem any_take {α : Type} {f : α → Bool} {ps : List α} {k : Nat} {p : α} {v : Bool} (hp : ps[k]? = some p) (h : (ps.take k).any f = v) : (ps.take (k + 1)).any f = (v || f p) := by
  rw [List.take_add_one, hp, List.any_append, h]
  show (v || [p].any f) = _
  simp
theorem any_yes {α : Type} {f : α → Bool} {ps : List α} {k : Nat} {p : α} (hp : ps[k]? = some p) (hf : f p = true) : ps.any f = true := List.any_eq_true.2 ⟨p, List.mem_of_getElem? hp, hf⟩
theorem all_full {α : Type} {f : α → Bool} {ps : List α} {k : Nat} (hk : ps.length ≤ k) (h : (ps.take k).all f = true) : ps.all f = true := by rwa [List.take_of_length_le hk] at h
theorem any_full {α : Type} {f : α → Bool} {ps : List α} {k : Nat} {v : Bool} (hk : ps.length ≤ k) (h : (ps.take k).any f = v) : ps.any f = v := by rwa [List.take_of_length_le hk] at h

set_option maxHeartbeats 400000 in
theorem noHole_v {a b c d e : Int} {v : Bool} (h : holeB a b c d e = v) (w : World) :
    Calls Tryd.prog 57 #[.agg #[.int .i64 a, .int .i64 b, .int .i64 c, .int .i64 d, .int .i64 e]] w fun r w' => r = .returned (.bool (!v)) ∧ Below w.heap.size w w' := by
  have HB := hide (bel1 w (.cells #[.int .i64 a, .int .i64 b, .int .i64 c, .int .i64 d, .int .i64 e] 25))
  have H := hide h
  clear h
  go_enter Tryd.func57, Tryd.ntmps57
  go_wp2_with fail
  refine (implPtrHole_v H.out _).mono ?_; rintro r w1 ⟨rfl, hb1⟩
  go_wp2_with fail
  go_ret
  exact ⟨rfl, bnext HB.out (Nat.le_refl _) hb1⟩
set_option maxHeartbeats 2000000 in
theorem indexP_any (A : Option Addr) (n c : Nat) (ps : List P5) (w : World) (h : Rd w 5 A n (ptrCells ps)) (hm : n ≤ maxLen) :
    Calls Tryd.prog 69 #[.slice A n c, .func (.func 57) #[] #[]] w fun r w' => (∃ i : Int, r = .returned (.int .i64 i) ∧ (ps.any (fun p => !phole p) = false → i = -1) ∧ (ps.any (fun p => !phole p) = true → 0 ≤ i)) ∧ Below w.heap.size w w' := by
  unfold maxLen at hm
  have hzl : ps.length = n := by have := h.len; rw [ptrCells_len] at this; omega
  have HZL := hide hzl
  have H := hide h
  clear h hzl
  go_enter Tryd.func69, Tryd.ntmps69
  go_wp2_with fail
  go_loopw [8] (fun i wr => ∃ k : Nat, k ≤ n ∧ Hid (Below w.heap.size w wr) ∧ Hid ((ps.take k).any (fun p => !phole p) = false) ∧ i = .int .i64 k) (fun i _ => n - (intOf i).toNat)
  case atStart => exact ⟨0, by omega, hide (Below.refl _ _), hide rfl, rfl⟩
  case round =>
    obtain ⟨k, hk, HW, HT, rfl⟩ := hrel
    by_cases hlt : k < n
    · obtain ⟨b, o, z, rfl, hb, hz, hc0, hc1, hc2, hc3, hc4⟩ := (H.out.after HW.out).ptr_at hlt
      have HZ := hide hz
      have i0 : (0 : Int) ≤ (k : Int) := by omega
      have i1 : (k : Int) < (n : Int) := by omega
      clear hz
      cases e : phole z
      · have E := hide (show holeB z.1 z.2.1 z.2.2.1 z.2.2.2.1 z.2.2.2.2 = false from e)
        have HF := hide (any_yes (f := fun p => !phole p) HZ.out (by show (!phole z) = true; rw [e]; rfl))
        clear e
        go_wp2_with fail
        refine (noHole_v E.out _).mono ?_; rintro r w1 ⟨rfl, hb1⟩
        go_wp2_with fail
        go_ret
        exact ⟨⟨k, rfl, fun e => (by rw [HF.out] at e; cases e), fun _ => by omega⟩, HW.out.trans (hb1.mono HW.out.size)⟩
      · have E := hide (show holeB z.1 z.2.1 z.2.2.1 z.2.2.2.1 z.2.2.2.2 = true from e)
        have HT1 := hide (any_take HZ.out HT.out)
        rw [show (false || !phole z) = false by rw [e]; rfl] at HT1
        clear e
        go_wp2_with fail
        refine (noHole_v E.out _).mono ?_; rintro r w1 ⟨rfl, hb1⟩
        go_wp2_with fail
        go_roundw
        case rel => exact ⟨k + 1, by omega, hide (HW.out.trans (hb1.mono HW.out.size)), HT1, int_eq (by omega)⟩
        case measure => simp [intOf]; omega
    · have HF := hide (any_full (by have := HZL.out; omega) HT.out)
      go_wp2_with fail
      go_ret
      exact ⟨⟨-1, rfl, fun _ => rfl, fun e => (by rw [HF.out] at e; cases e)⟩, HW.out⟩
theorem containsP_v {A : Option Addr} {n c : Nat} {ps : List P5} {v : Bool} (hv : ps.any (fun p => !phole p) = v) (w : World) (h : Rd w 5 A n (ptrCells ps)) (hm : n ≤ maxLen) :
    Calls Tryd.prog 56 #[.slice A n c, .func (.func 57) #[] #[]] w fun r w' => r = .returned (.bool v) ∧ Below w.heap.size w w' := by
  have H := hide h
  have E := hide hv
  clear h hv
  cases v
  · go_enter Tryd.func56, Tryd.ntmps56
    go_wp2_with fail
    refine (indexP_any _ _ _ ps _ H.out hm).mono ?_; rintro r w1 ⟨⟨i, rfl, hi, _⟩, hb1⟩
    obtain rfl := hi E.out
    clear hi
    go_wp2_with fail
    go_ret
    exact ⟨rfl, hb1⟩
  · go_enter Tryd.func56, Tryd.ntmps56
    go_wp2_with fail
    refine (indexP_any _ _ _ ps _ H.out hm).mono ?_; rintro r w1 ⟨⟨i, rfl, _, hi⟩, hb1⟩
    have hi0 := hi E.out
    clear hi
    go_wp2_with fail
    go_ret
    exact ⟨ret_bool (by first | rfl | (simp; omega) | simp [hi0]), hb1⟩

set_option maxHeartbeats 4000000 in
set_option maxRecDepth 100000 in
theorem implFanPut_any (A : Option Addr) (n c : Nat) (ps : List P5) (w : World) (ht : Tab w) (h : Rd w 5 A n (ptrCells ps)) (hm : n ≤ maxLen) :
    Calls Tryd.prog 31 #[.slice A n c] w fun r w' => r = .returned (.tuple #[.string (fanT ps), .bool (fanB ps)]) ∧ Below w.heap.size w w' := by
  obtain ⟨i0, hi, hz0, hz1, hz2⟩ := info_parts info_str
  have hzl : ps.length = n := by have := h.len; rw [ptrCells_len] at this; omega
  have HM := hide hm
  unfold maxLen at hm
  have HT := hide ht
  have HZL := hide hzl
  have H := hide h
  clear h ht hzl
  by_cases h4 : n = 4
  · subst h4
    cases hany : ps.any (fun p => !phole p)
    · have HN := hide (fan_no2 hany)
      have HA := hide hany
      clear hany
      go_enter Tryd.func31, Tryd.ntmps31
      go_wp2_with fail
      refine (containsP_v HA.out _ H.out HM.out).mono ?_; rintro r w1 ⟨rfl, hb1⟩
      go_wp2_with fail
      go_ret2
      exact ⟨ret_tb (fanT_no HN.out).symm HN.out.symm, hb1⟩
    · have HA := hide hany
      clear hany
      go_enter Tryd.func31, Tryd.ntmps31
      go_wp2_with fail
      refine (containsP_v HA.out _ H.out HM.out).mono ?_; rintro r w1 ⟨rfl, hb1⟩
      have B1 := hide hb1
      clear hb1
      go_wp2_with fail
      go_loopw [4, 17] (fun v i wr => ∃ k : Nat, k ≤ 4 ∧ Hid (wr.ownsRow w.heap.size 9 1 v k (((ps.take k).map pT).map Value.string)) ∧ Hid ((ps.take k).all pok = true) ∧ Hid (Below w.heap.size w wr) ∧ i = .int .i64 k) (fun _ i _ => 4 - (intOf i).toNat)
      case atStart => exact ⟨0, by omega, hide (owns_nil _ _ _), hide rfl, B1, rfl⟩
      case round =>
        clear B1
        obtain ⟨k, hk, HO, HP, HB, rfl⟩ := hrel
        obtain ⟨A2, m, rfl⟩ := own_shape HO.out
        by_cases hlt : k < 4
        · obtain ⟨b, o, z, rfl, hb, hz, hc0, hc1, hc2, hc3, hc4⟩ := (H.out.after HB.out).ptr_at hlt
          have HZ := hide hz
          have j0 : (0 : Int) ≤ (k : Int) := by omega
          have j1 : (k : Int) < 4 := by omega
          have K0 := hide (Bk.fresh wr 25 #[.int .i64 z.1, .int .i64 z.2.1, .int .i64 z.2.2.1, .int .i64 z.2.2.2.1, .int .i64 z.2.2.2.2])
          have HO := hide (HO.out.alloc (.cells #[.int .i64 z.1, .int .i64 z.2.1, .int .i64 z.2.2.1, .int .i64 z.2.2.2.1, .int .i64 z.2.2.2.2] 25))
          have HB := hide (HB.out.alloc HB.out.size (.cells #[.int .i64 z.1, .int .i64 z.2.1, .int .i64 z.2.2.1, .int .i64 z.2.2.2.1, .int .i64 z.2.2.2.2] 25))
          clear hz hb
          cases hok : pok z
          · have HN := hide (fan_no3 HZ.out hok)
            have HK := hide (show okB z.1 z.2.1 z.2.2.1 z.2.2.2.1 z.2.2.2.2 = false from hok)
            clear hok
            go_wp2_with fail
            refine (implPtrOk_v HK.out _).mono ?_; rintro r x1 ⟨rfl, hb1⟩
            go_wp2_with fail
            go_ret2
            exact ⟨ret_tb (fanT_no HN.out).symm HN.out.symm, HB.out.trans (hb1.mono HB.out.size)⟩
          · have HK := hide (show okB z.1 z.2.1 z.2.2.1 z.2.2.2.1 z.2.2.2.2 = true from hok)
            have HP1 := hide (all_take HZ.out HP.out hok)
            have HS := hide (snocP HZ.out)
            clear hok
            go_wp2_with fail
            refine (implPtrOk_v HK.out _).mono ?_; rintro r x1 ⟨rfl, hb1⟩
            have K0 := hide (K0.out.after hb1)
            have HO := hide (own_bel HO.out hb1)
            have HB := hide (HB.out.trans (hb1.mono HB.out.size))
            clear hb1 hc0 hc1 hc2 hc3 hc4
            obtain ⟨q0, q1, q2, q3, q4⟩ := K0.out.c5
            go_wp2_with fail
            refine (implPtrPut_any z.1 z.2.1 z.2.2.1 z.2.2.2.1 z.2.2.2.2 _ (HT.out.after HB.out)).mono ?_; rintro r x2 ⟨rfl, hb1⟩
            have HS := hide (show (ps.take (k + 1)).map pT = (ps.take k).map pT ++ [ptrT z.1 z.2.1 z.2.2.1 z.2.2.2.1 z.2.2.2.2] from HS.out)
            obtain ⟨t, ht⟩ : ∃ t, ptrT z.1 z.2.1 z.2.2.1 z.2.2.2.1 z.2.2.2.2 = t := ⟨_, rfl⟩
            rw [ht] at HS ⊢
            have HO := hide (own_bel HO.out hb1)
            have HB := hide (HB.out.trans (hb1.mono HB.out.size))
            clear hb1 q0 q1 q2 q3 q4 ht
            go_wp2_with (at_builtin; refine wpList_append_own _ (by rfl) _ _ 51 (by rfl) w.heap.size 9 i0 (.string ⟨#[]⟩) 1 16 Tryd.underlying51 hi hz0 hz1 hz2 rfl (by decide) _ k _ (by rfl) (HO.out.alloc (.cells #[.string t] 9)) ⟨x2.heap.size, 0, none⟩ 1 1 [.string t] (by rfl) rfl (World.news_of_block (heap_alloc_new _ _)) (fun u hu => by simp only [List.mem_singleton] at hu; subst hu; rfl) (by unfold maxLen; omega) (by omega) (by have := HB.out.size; simp; omega) ?_; intro v' w2 hown' hgrow _; have HB4 := hide (bel_grown (HB.out.alloc HB.out.size (.cells #[.string t] 9)) (HO.out.alloc (.cells #[.string t] 9)) hgrow); have HO4 := hide hown'; clear hown' hgrow)
            go_roundw
            case rel => exact ⟨k + 1, by omega, hide (by rw [HS.out, List.map_append]; exact HO4.out), HP1, HB4, int_eq (by omega)⟩
            case measure => simp [intOf]; omega
        · have hk4 : k = 4 := by omega
          subst hk4
          have HY := hide (fan_yes HZL.out (all_full (Nat.le_of_eq HZL.out) HP.out) HA.out)
          have HL := hide (fanL_yes HY.out)
          have HTT := hide (fanT_yes HY.out)
          have HO := hide (show wr.ownsRow w.heap.size 9 1 (.slice A2 4 m) 4 ((ps.map pT).map Value.string) by have := HO.out; rwa [List.take_of_length_le (Nat.le_of_eq HZL.out)] at this)
          go_wp2_with fail
          refine (joinC A2 4 _ (ps.map pT) ⟨#[44]⟩ _ (own_rds HO.out) (by omega) (own_cap HO.out) (by omega) (by have := fan_len (ps := ps); rw [HL.out] at this; show (Lib.join _ [44]).length ≤ _; rw [pT_lists]; omega)).mono ?_; rintro r x1 ⟨rfl, hb1⟩
          go_wp2_with fail
          go_ret2
          exact ⟨ret_tb (by rw [← List.map_map]; exact HTT.out.symm) HY.out.symm, HB.out.trans (hb1.mono HB.out.size)⟩
  · have HN := hide (fan_no1 (ps := ps) (by rw [HZL.out]; exact h4))
    have hn4 : ((n : Int) == 4) = false := by rw [beq_eq_false_iff_ne]; omega
    have hn4' : ((n : Int) != 4) = true := by rw [bne, hn4]; rfl
    clear h4
    go_enter Tryd.func31, Tryd.ntmps31
    go_wp2_with fail
    go_ret2
    exact ⟨ret_tb (fanT_no HN.out).symm HN.out.symm, Below.refl _ _⟩
theorem joinTail_snoc (s : List UInt8) : ∀ (r : List (List UInt8)) (y : List UInt8), Lib.joinTail s (r ++ [y]) = Lib.joinTail s r ++ s ++ y
  | [], y => by simp [Lib.joinTail]
  | x :: r, y => by
    have := joinTail_snoc s r y
    simp only [Lib.joinTail, List.cons_append, List.map_cons, List.flatten_cons] at this ⊢
    rw [this]
    simp
theorem join_snoc (s : List UInt8) (xs : List (List UInt8)) (y : List UInt8) (h : xs ≠ []) : Lib.join (xs ++ [y]) s = Lib.join xs s ++ s ++ y := by
  cases xs with
  | nil => exact absurd rfl h
  | cons x r => rw [List.cons_append, Lib.join_cons, Lib.join_cons, joinTail_snoc]; simp
/-- what has been joined -/
def joinP (ps : List P5) (k : Nat) : List UInt8 := Lib.join ((ps.take k).map pL) [44]
theorem joinP_0 (ps : List P5) : joinP ps 0 = [] := rfl
theorem joinP_one {ps : List P5} {p : P5} (h : ps[0]? = some p) : joinP ps 1 = pL p := by
  unfold joinP
  rw [List.take_add_one, h]
  exact Lib.join_one _ _
theorem joinP_next {ps : List P5} {k : Nat} {p : P5} (hk : 0 < k) (h : ps[k]? = some p) : joinP ps (k + 1) = joinP ps k ++ [44] ++ pL p := by
  unfold joinP
  rw [List.take_add_one, h, List.map_append]
  refine join_snoc _ _ _ (fun e => ?_)
  have h1 := congrArg List.length e
  have h2 := (List.getElem?_eq_some_iff.1 h).1
  simp only [List.length_map, List.length_take, List.length_nil] at h1
  omega
theorem fanT_join {ps : List P5} (h : fanB ps = true) : (⟨(joinP ps 4).toArray⟩ : ByteArray) = fanT ps := by
  unfold fanT joinP
  rw [fanL_yes h, List.take_of_length_le (Nat.le_of_eq ((fan_iff ps).1 h).1)]
theorem ba_app3 (l : List UInt8) (t : List UInt8) : (⟨l.toArray⟩ : ByteArray) ++ ⟨#[44]⟩ ++ ⟨t.toArray⟩ = ⟨(l ++ [44] ++ t).toArray⟩ := by
  rw [show (⟨#[44]⟩ : ByteArray) = ⟨([44] : List UInt8).toArray⟩ from rfl]
  simp only [ba_app]
set_option maxHeartbeats 8000000 in
set_option maxRecDepth 100000 in
theorem specFanPut_any (A : Option Addr) (n c : Nat) (ps : List P5) (w : World) (h : Rd w 5 A n (ptrCells ps)) (hm : n ≤ maxLen) :
    Calls Tryd.prog 29 #[.slice A n c] w fun r w' => r = .returned (.tuple #[.string (fanT ps), .bool (fanB ps)]) ∧ Below w.heap.size w w' := by
  have hzl : ps.length = n := by have := h.len; rw [ptrCells_len] at this; omega
  unfold maxLen at hm
  have HZL := hide hzl
  have H := hide h
  clear h hzl
  by_cases h4 : n = 4
  · subst h4
    go_enter Tryd.func29, Tryd.ntmps29
    go_wp2_with fail
    go_loopw [4, 5, 6] (fun v x i wr => ∃ (k : Nat) (l : List UInt8) (sm : Bool), k ≤ 4 ∧ l.length ≤ 22 * k ∧ Hid (joinP ps k = l) ∧ Hid ((ps.take k).any (fun p => !phole p) = sm) ∧ Hid ((ps.take k).all pok = true) ∧ Hid (Below w.heap.size w wr) ∧ v = .string ⟨l.toArray⟩ ∧ x = .bool sm ∧ i = .int .i64 k) (fun _ _ i _ => 4 - (intOf i).toNat)
    case atStart => exact ⟨0, [], false, by omega, by simp, hide rfl, hide rfl, hide rfl, hide (Below.refl _ _), rfl, rfl, rfl⟩
    case round =>
      obtain ⟨k, l, sm, hk, hln, HJ, HSM, HP, HB, rfl, rfl, rfl⟩ := hrel
      by_cases hlt : k < 4
      · obtain ⟨b, o, z, rfl, hb, hz, hc0, hc1, hc2, hc3, hc4⟩ := (H.out.after HB.out).ptr_at hlt
        have HZ := hide hz
        have j0 : (0 : Int) ≤ (k : Int) := by omega
        have j1 : (k : Int) < 4 := by omega
        clear hz hb
        cases hok : pok z
        · have HN := hide (fan_no3 HZ.out hok)
          have HK := hide (show okB z.1 z.2.1 z.2.2.1 z.2.2.2.1 z.2.2.2.2 = false from hok)
          clear hok
          go_wp2_with fail
          refine (specPtrOk_v HK.out _).mono ?_; rintro r x1 ⟨rfl, hb1⟩
          go_wp2_with fail
          go_ret2
          exact ⟨ret_tb (fanT_no HN.out).symm HN.out.symm, HB.out.trans (hb1.mono HB.out.size)⟩
        · have HK := hide (show okB z.1 z.2.1 z.2.2.1 z.2.2.2.1 z.2.2.2.2 = true from hok)
          have HP1 := hide (all_take HZ.out HP.out hok)
          have HSM1 := hide (any_take HZ.out HSM.out)
          have hsz := ptrT_len z
          have HT := hide (show (ptrT z.1 z.2.1 z.2.2.1 z.2.2.2.1 z.2.2.2.2) = ⟨(pL z).toArray⟩ from rfl)
          have HC := hide (fun w => specPtrPut_any z.1 z.2.1 z.2.2.1 z.2.2.2.1 z.2.2.2.2 w)
          rw [HT.out] at HC
          have hk0 : k = 0 → Hid (joinP ps (k + 1) = pL z) := fun e => by subst e; exact hide (joinP_one HZ.out)
          have hk1 : 0 < k → Hid (joinP ps (k + 1) = l ++ [44] ++ pL z) := fun e => hide (by rw [joinP_next e HZ.out, HJ.out])
          obtain ⟨t, ht⟩ : ∃ t, pL z = t := ⟨_, rfl⟩
          rw [ht] at hk0 hk1 hsz HC
          have q1 : ¬ 9223372036854775807 < l.length + 1 := by omega
          have q2 : ¬ 9223372036854775807 < l.length + 1 + t.length := by omega
          have q3 : ¬ 9223372036854775807 < t.length := by omega
          clear hok ht HT
          obtain ⟨hole, hhole⟩ : ∃ h, phole z = h := ⟨_, rfl⟩
          rw [hhole] at HSM1
          have HH := hide (show holeB z.1 z.2.1 z.2.2.1 z.2.2.2.1 z.2.2.2.2 = hole from hhole)
          clear hhole
          go_wp2_with fail
          refine (specPtrOk_v HK.out _).mono ?_; rintro r x1 ⟨rfl, hb1⟩
          have HB := hide (HB.out.trans (hb1.mono HB.out.size))
          clear hb1 hc0 hc1 hc2 hc3 hc4
          cases sm
          · obtain ⟨b', o', z', he, hb, hz, hc0, hc1, hc2, hc3, hc4⟩ := (H.out.after HB.out).ptr_at hlt
            obtain rfl : z' = z := Option.some.inj (hz.symm.trans HZ.out)
            injection he with he; injection he with e1 e2 _
            subst e1 e2
            clear hz hb
            go_wp2_with fail
            refine (specPtrHole_v HH.out _).mono ?_; rintro r x2 ⟨rfl, hb1⟩
            have HB := hide (HB.out.trans (hb1.mono HB.out.size))
            clear hb1 hc0 hc1 hc2 hc3 hc4
            obtain ⟨b', o', z'', he, hb, hz, hc0, hc1, hc2, hc3, hc4⟩ := (H.out.after HB.out).ptr_at hlt
            obtain rfl : z'' = z' := Option.some.inj (hz.symm.trans HZ.out)
            injection he with he; injection he with e1 e2 _
            subst e1 e2
            clear hz hb
            by_cases e0 : k = 0
            · have g0 : decide (0 < k) = false := decide_eq_false (by omega)
              have HJ1 := hide (show joinP ps (k + 1) = l ++ t by rw [(hk0 e0).out, List.eq_nil_of_length_eq_zero (show l.length = 0 by omega)]; rfl)
              have HE := hide e0
              have q4 : ¬ 9223372036854775807 < l.length + t.length := by omega
              clear e0 hk0 hk1
              go_wp2_with fail
              refine (HC.out _).mono ?_; rintro r x3 ⟨rfl, hb1⟩
              have HB := hide (HB.out.trans (hb1.mono HB.out.size))
              clear hb1 hc0 hc1 hc2 hc3 hc4
              go_wp2_with fail
              go_roundw
              case rel => exact ⟨k + 1, l ++ t, !hole, by omega, by rw [List.length_append]; omega, HJ1, hide (HSM1.out.trans (by simp)), HP1, HB, by rw [ba_app], rfl, int_eq (by omega)⟩
              case measure => simp [intOf]; omega
            · have g0 : decide (0 < k) = true := decide_eq_true (by omega)
              have HJ1 := hk1 (by omega)
              have HE := hide e0
              clear e0 hk0 hk1
              go_wp2_with fail
              refine (HC.out _).mono ?_; rintro r x3 ⟨rfl, hb1⟩
              have HB := hide (HB.out.trans (hb1.mono HB.out.size))
              clear hb1 hc0 hc1 hc2 hc3 hc4
              go_wp2_with fail
              go_roundw
              case rel => exact ⟨k + 1, l ++ [44] ++ t, !hole, by omega, by simp only [List.length_append, List.length_singleton]; omega, HJ1, hide (HSM1.out.trans (by simp)), HP1, HB, by rw [ba_app3], rfl, int_eq (by omega)⟩
              case measure => simp [intOf]; omega
          · obtain ⟨b', o', z', he, hb, hz, hc0, hc1, hc2, hc3, hc4⟩ := (H.out.after HB.out).ptr_at hlt
            obtain rfl : z' = z := Option.some.inj (hz.symm.trans HZ.out)
            injection he with he; injection he with e1 e2 _
            subst e1 e2
            clear hz hb
            by_cases e0 : k = 0
            · have g0 : decide (0 < k) = false := decide_eq_false (by omega)
              have HJ1 := hide (show joinP ps (k + 1) = l ++ t by rw [(hk0 e0).out, List.eq_nil_of_length_eq_zero (show l.length = 0 by omega)]; rfl)
              have HE := hide e0
              have q4 : ¬ 9223372036854775807 < l.length + t.length := by omega
              clear e0 hk0 hk1
              go_wp2_with fail
              refine (HC.out _).mono ?_; rintro r x3 ⟨rfl, hb1⟩
              have HB := hide (HB.out.trans (hb1.mono HB.out.size))
              clear hb1 hc0 hc1 hc2 hc3 hc4
              go_wp2_with fail
              go_roundw
              case rel => exact ⟨k + 1, l ++ t, true, by omega, by rw [List.length_append]; omega, HJ1, hide (HSM1.out.trans (by simp)), HP1, HB, by rw [ba_app], rfl, int_eq (by omega)⟩
              case measure => simp [intOf]; omega
            · have g0 : decide (0 < k) = true := decide_eq_true (by omega)
              have HJ1 := hk1 (by omega)
              have HE := hide e0
              clear e0 hk0 hk1
              go_wp2_with fail
              refine (HC.out _).mono ?_; rintro r x3 ⟨rfl, hb1⟩
              have HB := hide (HB.out.trans (hb1.mono HB.out.size))
              clear hb1 hc0 hc1 hc2 hc3 hc4
              go_wp2_with fail
              go_roundw
              case rel => exact ⟨k + 1, l ++ [44] ++ t, true, by omega, by simp only [List.length_append, List.length_singleton]; omega, HJ1, hide (HSM1.out.trans (by simp)), HP1, HB, by rw [ba_app3], rfl, int_eq (by omega)⟩
              case measure => simp [intOf]; omega
      · have hk4 : k = 4 := by omega
        subst hk4
        cases sm
        · have HN := hide (fan_no2 (any_full (Nat.le_of_eq HZL.out) HSM.out))
          go_wp2_with fail
          go_ret2
          exact ⟨ret_tb (fanT_no HN.out).symm HN.out.symm, HB.out⟩
        · have HY := hide (fan_yes HZL.out (all_full (Nat.le_of_eq HZL.out) HP.out) (any_full (Nat.le_of_eq HZL.out) HSM.out))
          have HTT := hide (fanT_join HY.out)
          rw [HJ.out] at HTT
          go_wp2_with fail
          go_ret2
          exact ⟨ret_tb HTT.out HY.out.symm, HB.out⟩
  · have HN := hide (fan_no1 (ps := ps) (by rw [HZL.out]; exact h4))
    have hn4 : ((n : Int) == 4) = false := by rw [beq_eq_false_iff_ne]; omega
    have hn4' : ((n : Int) != 4) = true := by rw [bne, hn4]; rfl
    clear h4
    go_enter Tryd.func29, Tryd.ntmps29
    go_wp2_with fail
    go_ret2
    exact ⟨ret_tb (fanT_no HN.out).symm HN.out.symm, Below.refl _ _⟩
end Go.Proofs.YtmhbpmacfekhgaaDoor
