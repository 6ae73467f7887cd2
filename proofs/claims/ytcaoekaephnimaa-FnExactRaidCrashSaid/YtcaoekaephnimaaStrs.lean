/- Slices of texts: what eqStringS, markStringS, heldStringS, toStringS and szStringS of the laws do. -/
import Derived.Test.YtcaoekaephnimaaInts
import Derived.Laws.IdiomStrings
namespace Go.Proofs.Ytcaoekaephnimaa
open Go.RowKit

theorem ret_str {a b : ByteArray} (h : a = b) : Ending.returned (.string a) = Ending.returned (.string b) := by rw [h]
/-- a cell of a row of texts -/
theorem Rd.str_at {w : World} {A : Option Addr} {n : Nat} {zs : List ByteArray} (h : Rd w 1 A n (zs.map Value.string)) {k : Nat} (hk : k < n) :
    ∃ b o z, A = some ⟨b, o, none⟩ ∧ b < w.heap.size ∧ zs[k]? = some z ∧ w.cell? ⟨b, o + k, none⟩ = some (.string z) := by
  obtain ⟨b, o, e, hb, hc⟩ := h.at_ (by omega)
  have hl : k < zs.length := by have := h.len; simp at this; omega
  exact ⟨b, o, zs[k], e, hb, List.getElem?_eq_getElem hl, hc k _ (by simp [List.getElem?_eq_getElem hl])⟩

/-- two lists of texts are one -/
def eqT (zs ys : List ByteArray) : Bool := decide (zs = ys)
theorem eqT_len {zs ys : List ByteArray} (h : zs.length ≠ ys.length) : eqT zs ys = false := by
  unfold eqT
  exact decide_eq_false fun e => h (by rw [e])
theorem eqT_at {zs ys : List ByteArray} {k : Nat} {z y : ByteArray} (hz : zs[k]? = some z) (hy : ys[k]? = some y) (h : z ≠ y) : eqT zs ys = false := by
  unfold eqT
  exact decide_eq_false fun e => h (by rw [e, hy] at hz; injection hz with hz; exact hz.symm)
theorem eqT_all {zs ys : List ByteArray} (hl : zs.length = ys.length) (h : zs.take zs.length = ys.take zs.length) : eqT zs ys = true := by
  unfold eqT
  rw [List.take_length, hl, List.take_length] at h
  exact decide_eq_true h
theorem eqT_same (zs : List ByteArray) : eqT zs zs = true := by unfold eqT; exact decide_eq_true rfl

theorem beqT_eq {a b : ByteArray} (h : a = b) : (a.toList == b.toList) = true := by rw [h]; exact beq_self_eq_true _
theorem beqT_ne {a b : ByteArray} (h : a ≠ b) : (a.toList == b.toList) = false := by
  rw [beq_eq_false_iff_ne, ByteArray.toList_eq, ByteArray.toList_eq]
  intro e
  exact h (by cases a; cases b; simpa using e)

set_option maxHeartbeats 1000000 in
theorem eqStringS_any (A A' : Option Addr) (n c n' c' : Nat) (zs ys : List ByteArray) (w : World) (h : Rd w 1 A n (zs.map Value.string)) (h' : Rd w 1 A' n' (ys.map Value.string)) (hm : n ≤ maxLen) :
    Calls Try.prog 82 #[.slice A n c, .slice A' n' c'] w fun r w' => r = .returned (.bool (eqT zs ys)) ∧ Below w.heap.size w w' := by
  unfold maxLen at hm
  have hzl : zs.length = n := by have := h.len; simpa using this
  have hyl : ys.length = n' := by have := h'.len; simpa using this
  by_cases hl : n = n'
  · subst hl
    have HL := hide (hzl.trans hyl.symm)
    have HZ := hide hzl
    have H := hide h
    have H' := hide h'
    clear hzl hyl h h'
    go_enter Try.func82, Try.ntmps82
    go_wp2
    go_loopw [5] (fun i wr => ∃ k m : Nat, k ≤ n ∧ wr = w.drewN m ∧ Hid (zs.take k = ys.take k) ∧ i = .int .i64 k) (fun i _ => n - (intOf i).toNat)
    case atStart => exact ⟨0, 0, by omega, rfl, hide rfl, rfl⟩
    case round =>
      obtain ⟨k, m, hk, rfl, HE, rfl⟩ := hrel
      by_cases hlt : k < n
      · obtain ⟨b, o, z, rfl, hb, hz, hc⟩ := H.out.str_at hlt
        obtain ⟨b', o', y, rfl, hb', hy, hc'⟩ := H'.out.str_at hlt
        have HZ := hide hz
        have HY := hide hy
        have i0 : (0 : Int) ≤ (k : Int) := by omega
        have i1 : (k : Int) < (n : Int) := by omega
        clear hz hy
        by_cases he : z = y
        · have hne := beqT_eq he
          have HE1 := hide (take_eq_snoc HZ.out HY.out HE.out he)
          clear he
          go_wp2_with fail
          go_quiet (fail)
          go_wp2
          go_roundw
          case rel => exact ⟨k + 1, m + nq, by omega, rfl, HE1, int_eq (by omega)⟩
          case measure => simp [intOf]; omega
        · have hne := beqT_ne he
          have HF := hide (eqT_at HZ.out HY.out he)
          clear he
          go_wp2_with fail
          go_quiet (fail)
          go_wp2
          go_ret
          exact ⟨ret_bool HF.out.symm, below_drewN (below_drewN (Below.refl _ _) _) _⟩
      · have HF := hide (eqT_all HL.out (by have e : k = zs.length := by have := HZ.out; omega
                                            rw [e] at HE; exact HE.out))
        go_wp2
        go_ret
        exact ⟨ret_bool HF.out.symm, below_drewN (Below.refl _ _) _⟩
  · have HF := hide (eqT_len (zs := zs) (ys := ys) (by omega))
    have hn : ((n : Int) == (n' : Int)) = false := by simp; omega
    clear hzl hyl h h'
    go_enter Try.func82, Try.ntmps82
    go_wp2
    all_goals (first | (go_ret; exact ⟨ret_bool HF.out.symm, Below.refl _ _⟩) | (exfalso; simp_all))

theorem info_str : (Try.prog.info? 9).map (fun i => (i.zero, i.size, i.bytes)) = some (some (.string ⟨#[]⟩), 1, 16) := by kernel_rfl
/-- make([]string, n) -/
theorem make_strs (n : Nat) (hn : n ≤ 1000000000) (w : World) :
    (Instr.makeSlice 46 (.int .i64 (n : Int)) (.int .i64 (n : Int))).run Try.prog w = .ok (.slice (some ⟨w.heap.size, 0, none⟩) n n) (w.alloc (.cells (madeCells #[.string ⟨#[]⟩] n) 9)) := by
  obtain ⟨i, hi, hz, hs, hb⟩ := info_parts info_str
  have hr := run_make (P := Try.prog) w 46 9 i _ Try.underlying46 hi hz .i64 .i64 n n (by omega) (by omega) (by rw [hb]; omega) (by omega)
  simp only [Int.toNat_natCast, hs, Nat.mul_one] at hr
  exact hr

set_option maxHeartbeats 1000000 in
theorem toStringS_any (A : Option Addr) (n c : Nat) (zs : List ByteArray) (w : World) (h : Rd w 1 A n (zs.map Value.string)) (hm : n ≤ 1000000000) :
    Calls Try.prog 88 #[.slice A n c] w fun r w' => r = .returned (.slice (some ⟨w.heap.size, 0, none⟩) n n) ∧ Bk w' w.heap.size 9 (zs.map Value.string).toArray ∧ Below w.heap.size w w' ∧ w.heap.size < w'.heap.size := by
  have hmk := make_strs n hm
  have hzl : zs.length = n := by have := h.len; simpa using this
  have HZ := hide hzl
  have H := hide h
  clear hzl h
  go_enter Try.func88, Try.ntmps88
  go_wp2
  go_loopw [4] (fun i wr => ∃ (k : Nat) (cs : Array Value), k ≤ n ∧ Hid (Bk wr w.heap.size 9 cs) ∧ Hid (cs.size = n) ∧ Hid (∀ j, j < k → cs[j]? = (zs.map Value.string)[j]?) ∧ Hid (Below w.heap.size w wr) ∧ i = .int .i64 k) (fun i _ => n - (intOf i).toNat)
  case atStart => exact ⟨0, _, by omega, hide (Bk.fresh _ _ _), hide (size_madeCells _ _), hide (fun j hj => absurd hj (by omega)), hide (bel1 _ _), rfl⟩
  case round =>
    obtain ⟨k, cs, hk, HB, HS, HM, HF, rfl⟩ := hrel
    clear hmk
    by_cases hlt : k < n
    · have hkc : k < cs.size := by have := HS.out; omega
      obtain ⟨b, o, z, rfl, hb, hz, hcz⟩ := (H.out.after HF.out).str_at hlt
      have HZk := hide hz
      clear hz
      have hc : wr.cell? ⟨w.heap.size, k, none⟩ = some cs[k] := by rw [HB.out.cell]; exact Array.getElem?_eq_getElem hkc
      have hf : wr.frozen? ⟨w.heap.size, k, none⟩ = false := HB.out.frozen k
      have HP := hide (HB.out.put k (.string z))
      go_wp2
      go_roundw
      case rel => exact ⟨k + 1, _, by omega, HP, hide (by rw [Array.size_setIfInBounds]; exact HS.out), hide (fun j hj => by
          rw [Array.getElem?_setIfInBounds]
          by_cases e : k = j
          · subst e; rw [if_pos rfl, if_pos hkc, List.getElem?_map, HZk.out]; rfl
          · rw [if_neg e]; exact HM.out j (by omega)), hide (HF.out.setCell (Nat.le_refl _) _), int_eq (by omega)⟩
      case measure => simp [intOf]; omega
    · go_wp2
      go_ret
      have e : k = n := by omega
      subst e
      refine ⟨rfl, ?_, HF.out, HB.out.lt⟩
      have e2 := arr_ext (cs := cs) (xs := zs.map Value.string) (by rw [HS.out, List.length_map, HZ.out]) (fun j hj => HM.out j (by rw [List.length_map, HZ.out] at hj; exact hj))
      rw [← e2]
      exact HB.out

/-- what is left of a size -/
def szT (left : Int) (zs : List ByteArray) : Int := zs.foldl (fun l z => if l < 0 then -1 else if l < (z.size : Int) then -1 else l - z.size) (if left < (zs.length : Int) then -1 else left - zs.length)
theorem szT_gone (zs : List ByteArray) (l : Int) (h : l = -1) : zs.foldl (fun l z => if l < 0 then -1 else if l < (z.size : Int) then -1 else l - z.size) l = -1 := by
  induction zs generalizing l with
  | nil => exact h
  | cons z zs ih => exact ih _ (by simp [h])
theorem szT_le (zs : List ByteArray) (l : Int) : -1 ≤ l → zs.foldl (fun l z => if l < 0 then -1 else if l < (z.size : Int) then -1 else l - z.size) l ≤ l ∧ -1 ≤ zs.foldl (fun l z => if l < 0 then -1 else if l < (z.size : Int) then -1 else l - z.size) l := by
  induction zs generalizing l with
  | nil => intro h; exact ⟨Int.le_refl _, h⟩
  | cons z zs ih =>
    intro h
    have := ih (if l < 0 then -1 else if l < (z.size : Int) then -1 else l - z.size) (by split <;> (try split) <;> omega)
    refine ⟨Int.le_trans this.1 ?_, this.2⟩
    split <;> (try split) <;> omega
theorem szT_bd (left : Int) (zs : List ByteArray) (h : 0 ≤ left) : szT left zs ≤ left ∧ -1 ≤ szT left zs := by
  unfold szT
  have := szT_le zs (if left < (zs.length : Int) then -1 else left - zs.length) (by split <;> omega)
  refine ⟨Int.le_trans this.1 ?_, this.2⟩
  split <;> omega

set_option maxHeartbeats 1000000 in
theorem szStringS_any (A : Option Addr) (n c : Nat) (zs : List ByteArray) (left : Int) (w : World) (hn : n ≤ maxLen) (hzs : ∀ z ∈ zs, z.size ≤ maxLen) (h : Rd w 1 A n (zs.map Value.string)) (h0 : 0 ≤ left) (h1 : left ≤ 1048576) :
    Calls Try.prog 85 #[.slice A n c, .int .i64 left] w fun r w' => r = .returned (.int .i64 (szT left zs)) ∧ w = w' := by
  unfold maxLen at hn hzs
  have hzl : zs.length = n := by have := h.len; simpa using this
  by_cases hl : left < n
  · have hl' : left - (n : Int) < 0 := by omega
    have e := hide (show szT left zs = -1 by unfold szT; rw [hzl, if_pos hl]; exact szT_gone _ _ rfl)
    clear hzl h hzs
    go_enter Try.func85, Try.ntmps85
    go_wp2
    go_ret
    exact ⟨ret_int e.out.symm, rfl⟩
  · have hl' : ¬ left - (n : Int) < 0 := by omega
    have e := hide (show szT left zs = zs.foldl (fun l z => if l < 0 then -1 else if l < (z.size : Int) then -1 else l - z.size) (left - n) by unfold szT; rw [hzl, if_neg hl])
    have H := hide h
    have HN := hide hzl
    have HM := hide hzs
    clear hzl h hzs
    go_enter Try.func85, Try.ntmps85
    go_wp2
    go_loop [1, 5] (fun q i => ∃ (k : Nat) (l : Int), k ≤ n ∧ 0 ≤ l ∧ l ≤ 1048576 ∧ Hid (szT left zs = (zs.drop k).foldl (fun l z => if l < 0 then -1 else if l < (z.size : Int) then -1 else l - z.size) l) ∧ q = .int .i64 l ∧ i = .int .i64 k) (fun _ i => n - (intOf i).toNat)
    case atStart => exact ⟨0, left - n, by omega, by omega, by omega, hide (by rw [List.drop_zero]; exact e.out), int_eq (by omega), rfl⟩
    case round =>
      obtain ⟨k, l, hk, hl0, hl1, HE, rfl, rfl⟩ := hrel
      by_cases hlt : k < n
      · obtain ⟨b, o, z, rfl, hb, hz, hcz⟩ := H.out.str_at hlt
        have hzm := HM.out z (List.mem_of_getElem? hz)
        have HZ := hide (show zs.drop k = z :: zs.drop (k + 1) by
          have hlk := (List.getElem?_eq_some_iff.1 hz).1
          rw [List.drop_eq_getElem_cons hlk]
          rw [List.getElem?_eq_getElem hlk] at hz
          injection hz with hz
          rw [hz])
        clear hz
        by_cases hq : l < (z.size : Int)
        · have hq' : l - (z.size : Int) < 0 := by omega
          have e2 := hide (show szT left zs = -1 by rw [HE.out, HZ.out, List.foldl_cons, if_neg (by omega), if_pos hq]; exact szT_gone _ _ rfl)
          go_wp2
          go_ret
          exact ⟨ret_int e2.out.symm, rfl⟩
        · have hq' : ¬ l - (z.size : Int) < 0 := by omega
          have e2 := hide (show szT left zs = (zs.drop (k + 1)).foldl (fun l z => if l < 0 then -1 else if l < (z.size : Int) then -1 else l - z.size) (l - z.size) by rw [HE.out, HZ.out, List.foldl_cons, if_neg (by omega), if_neg hq])
          go_wp2
          go_round
          case rel => exact ⟨k + 1, l - z.size, by omega, by omega, by omega, e2, int_eq (by omega), int_eq (by omega)⟩
          case measure => simp [intOf]; omega
      · have e2 := hide (show szT left zs = l by rw [HE.out, List.drop_eq_nil_of_le (by have := HN.out; omega)]; rfl)
        go_wp2
        go_ret
        exact ⟨ret_int e2.out.symm, rfl⟩
end Go.Proofs.Ytcaoekaephnimaa
