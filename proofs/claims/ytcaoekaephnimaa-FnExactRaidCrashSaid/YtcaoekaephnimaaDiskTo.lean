/- Disks are taken over: toWait, toWaitS, toDisk; their sizes: szWait, szWaitS, szDisk. -/
import Derived.Test.YtcaoekaephnimaaDiskEq
namespace Go.Proofs.Ytcaoekaephnimaa
open Go.RowKit
set_option linter.unusedVariables false

set_option maxHeartbeats 400000 in
theorem toWait_any (a : Int) (s : ByteArray) (w : World) :
    Calls Try.prog 100 #[.agg #[.int .i64 a, .string s]] w fun r w' => r = .returned (.agg #[.int .i64 a, .string s]) ∧ Below w.heap.size w w' := by
  go_enter Try.func100, Try.ntmps100
  go_wp2
  refine bodyPost_ret (v := .agg #[.int .i64 a, .string s]) (by simp [results, Try.results100, go_sem]) rfl ⟨rfl, ?_⟩
  exact (((Below.refl _ _).alloc (Nat.le_refl _) _).alloc (by simp) _).alloc (by simp; omega) _

theorem info_wait : (Try.prog.info? 74).map (fun i => (i.zero, i.size, i.bytes)) = some (some (.agg #[.int .i64 0, .string ⟨#[]⟩]), 2, 24) := by kernel_rfl
/-- make([]Wait, n) -/
theorem make_waits (n : Nat) (hn : n ≤ 1000000000) (w : World) :
    (Instr.makeSlice 47 (.int .i64 (n : Int)) (.int .i64 (n : Int))).run Try.prog w = .ok (.slice (some ⟨w.heap.size, 0, none⟩) n n) (w.alloc (.cells (madeCells #[.int .i64 0, .string ⟨#[]⟩] (n * 2)) 74)) := by
  obtain ⟨i, hi, hz, hs, hb⟩ := info_parts info_wait
  have hr := run_make (P := Try.prog) w 47 74 i _ Try.underlying47 hi hz .i64 .i64 n n (by omega) (by omega) (by rw [hb]; omega) (by omega)
  simp only [Int.toNat_natCast, hs] at hr
  exact hr
set_option maxHeartbeats 1000000 in
theorem szWait_any (a : Int) (s : ByteArray) (l : Int) (hs : s.size ≤ maxLen) (h0 : 0 ≤ l) (h1 : l ≤ 1048576) (w : World) :
    Calls Try.prog 99 #[.agg #[.int .i64 a, .string s], .int .i64 l] w fun r w' => r = .returned (.int .i64 (if l < s.size then -1 else l - s.size)) ∧ Below w.heap.size w w' := by
  unfold maxLen at hs
  have hb := bel1 w (.cells #[.int .i64 a, .string s] 117)
  have HB := hide hb
  clear hb
  obtain ⟨m, hm⟩ : ∃ m, m = l - (s.size : Int) := ⟨_, rfl⟩
  have jm : l - (s.size : Int) = m := hm.symm
  have jw : IntKind.i64.wrap m = m := by rw [IntKind.wrap_i64]; omega
  by_cases h : l < (s.size : Int)
  · have hneg : m < 0 := by omega
    have HE := hide (if_pos h : (if l < (s.size : Int) then (-1 : Int) else l - s.size) = -1)
    clear h hm
    go_enter Try.func99, Try.ntmps99
    go_wp2_with fail
    go_ret
    exact ⟨by first | rfl | exact ret_int HE.out.symm, HB.out⟩
  · have hneg : ¬ m < 0 := by omega
    have HE := hide (show (if l < (s.size : Int) then (-1 : Int) else l - s.size) = m by rw [if_neg h, hm])
    clear h hm
    go_enter Try.func99, Try.ntmps99
    go_wp2_with fail
    go_ret
    exact ⟨by first | rfl | exact ret_int HE.out.symm, HB.out⟩
theorem szWait_v {a : Int} {s : ByteArray} {l v : Int} (hv : (if l < s.size then (-1 : Int) else l - s.size) = v) (hs : s.size ≤ maxLen) (h0 : 0 ≤ l) (h1 : l ≤ 1048576) (w : World) :
    Calls Try.prog 99 #[.agg #[.int .i64 a, .string s], .int .i64 l] w fun r w' => r = .returned (.int .i64 v) ∧ Below w.heap.size w w' := hv ▸ szWait_any a s l hs h0 h1 w
/-- a size that is left over: nothing, or all that was asked is small -/
def LeftW (left : Int) (n : Nat) (zs : List (Int × ByteArray)) (w : World) (r : Ending) (w' : World) : Prop := (∃ v : Int, r = .returned (.int .i64 v) ∧ (v < 0 ∨ (0 ≤ v ∧ v ≤ left ∧ (n : Int) ≤ left ∧ ∀ z ∈ zs, (z.2.size : Int) ≤ left))) ∧ Below w.heap.size w w'
theorem all_mem_snoc {α : Type} {l : List α} {p : α → Prop} {k : Nat} {z : α} (hz : l[k]? = some z) (h : ∀ u ∈ l.take k, p u) (hp : p z) : ∀ u ∈ l.take (k + 1), p u := by
  obtain ⟨hk, e⟩ := List.getElem?_eq_some_iff.1 hz
  rw [List.take_succ_eq_append_getElem hk, e]
  intro u hu
  rcases List.mem_append.1 hu with h1 | h1
  · exact h u h1
  · rw [List.mem_singleton.1 h1]; exact hp

set_option maxHeartbeats 2000000 in
theorem szWaitS_any (A : Option Addr) (n c : Nat) (zs : List (Int × ByteArray)) (left : Int) (w : World) (h : Rd w 2 A n (waitCells zs)) (hz : ∀ z ∈ zs, z.2.size ≤ maxLen) (hm : n ≤ maxLen) (h0 : 0 ≤ left) (h1 : left ≤ 1048576) :
    Calls Try.prog 86 #[.slice A n c, .int .i64 left] w (LeftW left n zs w) := by
  unfold maxLen at hm
  have hzl : zs.length = n := by have := h.len; rw [waitCells_len] at this; omega
  have HZL := hide hzl
  have HZM := hide hz
  have H := hide h
  clear h hzl hz
  obtain ⟨m, hmm⟩ : ∃ m, m = left - (n : Int) := ⟨_, rfl⟩
  have jm : left - (n : Int) = m := hmm.symm
  have jw : IntKind.i64.wrap m = m := by rw [IntKind.wrap_i64]; omega
  by_cases hneg : m < 0
  · clear hmm
    go_enter Try.func86, Try.ntmps86
    go_wp2_with fail
    go_ret
    exact ⟨⟨-1, rfl, .inl (by omega)⟩, Below.refl _ _⟩
  · have HN := hide (show (n : Int) ≤ left by omega)
    have m2 : m ≤ left := by omega
    clear hmm
    go_enter Try.func86, Try.ntmps86
    go_wp2_with fail
    go_loopw [1, 5] (fun q i wr => ∃ (k : Nat) (l : Int), k ≤ n ∧ 0 ≤ l ∧ l ≤ left ∧ Hid (Below w.heap.size w wr) ∧ Hid (∀ z ∈ zs.take k, (z.2.size : Int) ≤ left) ∧ q = .int .i64 l ∧ i = .int .i64 k) (fun _ i _ => n - (intOf i).toNat)
    case atStart => exact ⟨0, m, by omega, by omega, by omega, hide (Below.refl _ _), hide (by simp), rfl, rfl⟩
    case round =>
      obtain ⟨k, l, hk, l0, l1, HW, HT, rfl, rfl⟩ := hrel
      by_cases hlt : k < n
      · obtain ⟨b, o, z, rfl, hb, hz, hc0, hc1⟩ := (H.out.after HW.out).wait_at hlt
        have HZ := hide hz
        have hzm := hide (HZM.out z (List.mem_of_getElem? hz))
        have i0 : (0 : Int) ≤ (k : Int) := by omega
        have i1 : (k : Int) < (n : Int) := by omega
        clear hz
        by_cases hc : l < (z.2.size : Int)
        · have HV := hide (if_pos hc : (if l < (z.2.size : Int) then (-1 : Int) else l - z.2.size) = -1)
          clear hc
          go_wp2_with fail
          refine (szWait_v HV.out hzm.out l0 (by omega) _).mono ?_; rintro r w1 ⟨rfl, hb1⟩
          go_wp2_with fail
          go_ret
          exact ⟨⟨-1, rfl, .inl (by omega)⟩, HW.out.trans (hb1.mono HW.out.size)⟩
        · obtain ⟨d, hd⟩ : ∃ d, d = l - (z.2.size : Int) := ⟨_, rfl⟩
          have HV := hide (show (if l < (z.2.size : Int) then (-1 : Int) else l - z.2.size) = d by rw [if_neg hc, hd])
          have d0 : 0 ≤ d := by omega
          have d1 : ¬ d < 0 := by omega
          have d2 : d ≤ left := by omega
          have HT1 := hide (all_mem_snoc (p := fun z => (z.2.size : Int) ≤ left) HZ.out HT.out (by omega))
          clear hc hd
          go_wp2_with fail
          refine (szWait_v HV.out hzm.out l0 (by omega) _).mono ?_; rintro r w1 ⟨rfl, hb1⟩
          go_wp2_with fail
          go_roundw
          case rel => exact ⟨k + 1, d, by omega, d0, d2, hide (HW.out.trans (hb1.mono HW.out.size)), HT1, rfl, int_eq (by omega)⟩
          case measure => simp [intOf]; omega
      · go_wp2_with fail
        go_ret
        refine ⟨⟨l, rfl, .inr ⟨l0, l1, HN.out, ?_⟩⟩, HW.out⟩
        have e : k = zs.length := by have := HZL.out; omega
        have := HT.out
        rwa [e, List.take_length] at this

/-- what is put into a row of waiting writes -/
theorem wait_put {cs : Array Value} {zs : List (Int × ByteArray)} {k : Nat} {z : Int × ByteArray} (hz : zs[k]? = some z) (hs : cs.size = zs.length * 2) (h : ∀ j, j < k * 2 → cs[j]? = (waitCells zs)[j]?) :
    ∀ j, j < (k + 1) * 2 → ((cs.setIfInBounds (k * 2) (.int .i64 z.1)).setIfInBounds (k * 2 + 1) (.string z.2))[j]? = (waitCells zs)[j]? := by
  intro j hj
  obtain ⟨c0, c1⟩ := waitCells_at zs k z hz
  have hk := (List.getElem?_eq_some_iff.1 hz).1
  rw [Array.getElem?_setIfInBounds, Array.getElem?_setIfInBounds, Array.size_setIfInBounds]
  by_cases e1 : k * 2 + 1 = j
  · rw [if_pos e1, if_pos (by omega), ← e1, c1]
  · rw [if_neg e1]
    by_cases e0 : k * 2 = j
    · rw [if_pos e0, if_pos (by omega), ← e0, c0]
    · rw [if_neg e0]; exact h j (by omega)

set_option maxHeartbeats 2000000 in
theorem toWaitS_any (A : Option Addr) (n c : Nat) (zs : List (Int × ByteArray)) (w : World) (h : Rd w 2 A n (waitCells zs)) (hm : n ≤ 1000000000) :
    Calls Try.prog 89 #[.slice A n c] w fun r w' => r = .returned (.slice (some ⟨w.heap.size, 0, none⟩) n n) ∧ Bk w' w.heap.size 74 (waitCells zs).toArray ∧ Below w.heap.size w w' ∧ w.heap.size < w'.heap.size := by
  have hmk := make_waits n hm
  have hzl : zs.length = n := by have := h.len; rw [waitCells_len] at this; omega
  have HZ := hide hzl
  have H := hide h
  clear hzl h
  go_enter Try.func89, Try.ntmps89
  go_wp2
  go_loopw [4] (fun i wr => ∃ (k : Nat) (cs : Array Value), k ≤ n ∧ Hid (Bk wr w.heap.size 74 cs) ∧ Hid (cs.size = n * 2) ∧ Hid (∀ j, j < k * 2 → cs[j]? = (waitCells zs)[j]?) ∧ Hid (Below w.heap.size w wr) ∧ i = .int .i64 k) (fun i _ => n - (intOf i).toNat)
  case atStart => exact ⟨0, _, by omega, hide (Bk.fresh _ _ _), hide (size_madeCells _ _), hide (fun j hj => absurd hj (by omega)), hide (bel1 _ _), rfl⟩
  case round =>
    obtain ⟨k, cs, hk, HB, HS, HM, HF, rfl⟩ := hrel
    clear hmk
    by_cases hlt : k < n
    · obtain ⟨b, o, z, rfl, hb, hz, hc0, hc1⟩ := (H.out.after HF.out).wait_at hlt
      have HZk := hide hz
      have i0 : (0 : Int) ≤ (k : Int) := by omega
      have i1 : (k : Int) < (n : Int) := by omega
      clear hz
      go_wp2_with fail
      refine (toWait_any z.1 z.2 _).mono ?_; rintro r w1 ⟨rfl, hb1⟩
      have HB1 := HB.out.after hb1
      have ks : k * 2 + 1 < cs.size := by have := HS.out; omega
      have d0 : w1.cell? ⟨w.heap.size, k * 2, none⟩ = some cs[k * 2] := by rw [HB1.cell]; exact Array.getElem?_eq_getElem (by omega)
      have d1 : w1.cell? ⟨w.heap.size, k * 2 + 1, none⟩ = some cs[k * 2 + 1] := by rw [HB1.cell]; exact Array.getElem?_eq_getElem ks
      have f0 := HB1.frozen (k * 2)
      have f1 := HB1.frozen (k * 2 + 1)
      have HP := hide ((HB1.put (k * 2) (.int .i64 z.1)).put (k * 2 + 1) (.string z.2))
      have HF1 := hide (((HF.out.trans (hb1.mono HF.out.size)).setCell (p := ⟨w.heap.size, k * 2, none⟩) (Nat.le_refl _) (.int .i64 z.1)).setCell (p := ⟨w.heap.size, k * 2 + 1, none⟩) (Nat.le_refl _) (.string z.2))
      clear hb1 HB1
      go_wp2_with fail
      go_roundw
      case rel => exact ⟨k + 1, _, by omega, HP, hide (by rw [Array.size_setIfInBounds, Array.size_setIfInBounds]; exact HS.out), hide (wait_put HZk.out (by rw [HZ.out]; exact HS.out) HM.out), HF1, int_eq (by omega)⟩
      case measure => simp [intOf]; omega
    · go_wp2_with fail
      go_ret
      have e : k = n := by omega
      subst e
      refine ⟨rfl, ?_, HF.out, HB.out.lt⟩
      have e2 := arr_ext (cs := cs) (xs := waitCells zs) (by rw [HS.out, waitCells_len, HZ.out]) (fun j hj => HM.out j (by rw [waitCells_len, HZ.out] at hj; exact hj))
      rw [← e2]
      exact HB.out
end Go.Proofs.Ytcaoekaephnimaa
