/- Slices of integers: what eqIntS, markIntS, heldIntS, toIntS and szIntS of the laws do. -/
import Derived.Test.YtcaoekaephnimaaSum
import Derived.Deep.RegionHeld
import Derived.BigQuiet
import Derived.Deep.QuietTactic
import Derived.Deep.Draws
namespace Go.Proofs.Ytcaoekaephnimaa
open Go.RowKit

theorem Rd.drewN {w : World} {k : Nat} {A : Option Addr} {n : Nat} {xs : List Value} (h : Rd w k A n xs) (m : Nat) : Rd (w.drewN m) k A n xs := ⟨h.len, h.at_⟩

/-- a call that changes nothing, in a region that draws behind earlier draws -/
theorem quiet2 {P : Program} {f : FuncId} {args : Array Value} {w : World} {a n : Nat} {v : Value} (h : Calls P f args (w.drewN (a + n)) fun e w' => e = .returned v ∧ w.drewN (a + n) = w') :
    Calls P f args (w.drewN (a + n)) fun e w'' => e = .returned v ∧ ∃ m, w'' = w.drewN (a + m) := h.mono fun _ _ hh => ⟨hh.1, n, hh.2.symm⟩
/-- the same behind no earlier draw -/
theorem quiet1 {P : Program} {f : FuncId} {args : Array Value} {w : World} {n : Nat} {v : Value} (h : Calls P f args (w.drewN n) fun e w' => e = .returned v ∧ w.drewN n = w') :
    Calls P f args (w.drewN n) fun e w'' => e = .returned v ∧ ∃ m, w'' = w.drewN m := h.mono fun _ _ hh => ⟨hh.1, n, hh.2.symm⟩

/-- a cell of a row of integers -/
theorem Rd.int_at {w : World} {A : Option Addr} {n : Nat} {zs : List Int} (h : Rd w 1 A n (zs.map (Value.int .i64))) {k : Nat} (hk : k < n) :
    ∃ b o z, A = some ⟨b, o, none⟩ ∧ b < w.heap.size ∧ zs[k]? = some z ∧ w.cell? ⟨b, o + k, none⟩ = some (.int .i64 z) := by
  obtain ⟨b, o, e, hb, hc⟩ := h.at_ (by omega)
  have hl : k < zs.length := by have := h.len; simp at this; omega
  exact ⟨b, o, zs[k], e, hb, List.getElem?_eq_getElem hl, hc k _ (by simp [List.getElem?_eq_getElem hl])⟩

/-- two lists of integers are one -/
def eqI (zs ys : List Int) : Bool := decide (zs = ys)
theorem eqI_len {zs ys : List Int} (h : zs.length ≠ ys.length) : eqI zs ys = false := by
  unfold eqI
  exact decide_eq_false fun e => h (by rw [e])
theorem eqI_at {zs ys : List Int} {k : Nat} {z y : Int} (hz : zs[k]? = some z) (hy : ys[k]? = some y) (h : z ≠ y) : eqI zs ys = false := by
  unfold eqI
  exact decide_eq_false fun e => h (by rw [e, hy] at hz; injection hz with hz; exact hz.symm)
theorem eqI_all {zs ys : List Int} (hl : zs.length = ys.length) (h : zs.take zs.length = ys.take zs.length) : eqI zs ys = true := by
  unfold eqI
  rw [List.take_length, hl, List.take_length] at h
  exact decide_eq_true h
theorem take_eq_snoc {α : Type} {zs ys : List α} {k : Nat} {z y : α} (hz : zs[k]? = some z) (hy : ys[k]? = some y) (h : zs.take k = ys.take k) (e : z = y) : zs.take (k + 1) = ys.take (k + 1) := by
  rw [List.take_add_one, List.take_add_one, hz, hy, h, e]

set_option maxHeartbeats 1000000 in
theorem eqIntS_any (A A' : Option Addr) (n c n' c' : Nat) (zs ys : List Int) (w : World) (h : Rd w 1 A n (zs.map (Value.int .i64))) (h' : Rd w 1 A' n' (ys.map (Value.int .i64))) (hm : n ≤ maxLen) :
    Calls Try.prog 24 #[.slice A n c, .slice A' n' c'] w fun r w' => r = .returned (.bool (eqI zs ys)) ∧ Below w.heap.size w w' := by
  unfold maxLen at hm
  have hzl : zs.length = n := by have := h.len; simpa using this
  have hyl : ys.length = n' := by have := h'.len; simpa using this
  by_cases hl : n = n'
  · subst hl
    have HL := hide (hzl.trans hyl.symm)
    have HZ := hide hzl
    have H := hide h
    have H' := hide h'
    clear hzl hyl h h'
    go_enter Try.func24, Try.ntmps24
    go_wp2
    go_loopw [5] (fun i wr => ∃ k m : Nat, k ≤ n ∧ wr = w.drewN m ∧ Hid (zs.take k = ys.take k) ∧ i = .int .i64 k) (fun i _ => n - (intOf i).toNat)
    case atStart => exact ⟨0, 0, by omega, rfl, hide rfl, rfl⟩
    case round =>
      obtain ⟨k, m, hk, rfl, HE, rfl⟩ := hrel
      by_cases hlt : k < n
      · obtain ⟨b, o, z, rfl, hb, hz, hc⟩ := H.out.int_at hlt
        obtain ⟨b', o', y, rfl, hb', hy, hc'⟩ := H'.out.int_at hlt
        have HZ := hide hz
        have HY := hide hy
        have i0 : (0 : Int) ≤ (k : Int) := by omega
        have i1 : (k : Int) < (n : Int) := by omega
        clear hz hy
        by_cases he : z = y
        · have hne : (z != y) = false := by simp [he]
          have HE1 := hide (take_eq_snoc HZ.out HY.out HE.out he)
          clear he
          go_wp2_with fail
          go_quiet (fail)
          go_wp2
          go_roundw
          case rel => exact ⟨k + 1, m + nq, by omega, rfl, HE1, int_eq (by omega)⟩
          case measure => simp [intOf]; omega
        · have hne : (z != y) = true := by simp [he]
          have HF := hide (eqI_at HZ.out HY.out he)
          clear he
          go_wp2_with fail
          go_quiet (fail)
          go_wp2
          go_ret
          exact ⟨ret_bool HF.out.symm, below_drewN (below_drewN (Below.refl _ _) _) _⟩
      · have HF := hide (eqI_all HL.out (by have e : k = zs.length := by have := HZ.out; omega
                                            rw [e] at HE; exact HE.out))
        go_wp2
        go_ret
        exact ⟨ret_bool HF.out.symm, below_drewN (Below.refl _ _) _⟩
  · have HF := hide (eqI_len (zs := zs) (ys := ys) (by omega))
    have hn : ((n : Int) == (n' : Int)) = false := by simp; omega
    clear hzl hyl h h'
    go_enter Try.func24, Try.ntmps24
    go_wp2
    all_goals (first | (go_ret; exact ⟨ret_bool HF.out.symm, Below.refl _ _⟩) | (exfalso; simp_all))

/-- what is written into a row: the numbers from k0 on -/
def marksI (k0 : Int) (n : Nat) : List Value := (List.range n).map fun (j : Nat) => Value.int .i64 (k0 + (j : Int))
theorem marksI_at (k0 : Int) (n j : Nat) (h : j < n) : (marksI k0 n)[j]? = some (.int .i64 (k0 + j)) := by simp [marksI, h]
theorem marksI_len (k0 : Int) (n : Nat) : (marksI k0 n).length = n := by simp [marksI]

set_option maxHeartbeats 1000000 in
theorem markIntS_any (g n c : Nat) (cs : Array Value) (k0 : Int) (w : World) (hb : Bk w g 3 cs) (hn : n ≤ cs.size) (hm : n ≤ 1000000000) (h0 : 0 ≤ k0) (h1 : k0 ≤ 1000000000) :
    Calls Try.prog 25 #[.slice (some ⟨g, 0, none⟩) n c, .int .i64 k0] w fun r w' => r = .returned (.int .i64 (k0 + n)) ∧
      (∃ cs', Bk w' g 3 cs' ∧ cs'.size = cs.size ∧ ∀ j, j < n → cs'[j]? = some (.int .i64 (k0 + j))) ∧ Fr (· = g) w w' := by
  have HB := hide hb
  have HN := hide hn
  clear hb hn
  go_enter Try.func25, Try.ntmps25
  go_wp2
  go_loopw [1, 5] (fun q i wr => ∃ (k : Nat) (cs' : Array Value), k ≤ n ∧ Hid (Bk wr g 3 cs') ∧ Hid (cs'.size = cs.size) ∧ Hid (∀ j, j < k → cs'[j]? = some (.int .i64 (k0 + j))) ∧ Hid (Fr (· = g) w wr) ∧ q = .int .i64 (k0 + k) ∧ i = .int .i64 k) (fun _ i _ => n - (intOf i).toNat)
  case atStart => exact ⟨0, cs, by omega, HB, hide rfl, hide (fun j hj => absurd hj (by omega)), hide (Fr.refl _ _), int_eq (by omega), rfl⟩
  case round =>
    obtain ⟨k, cs', hk, HB, HS, HM, HF, rfl, rfl⟩ := hrel
    by_cases hlt : k < n
    · have hkc : k < cs'.size := by have := HS.out; have := HN.out; omega
      have hc : wr.cell? ⟨g, k, none⟩ = some cs'[k] := by rw [HB.out.cell]; exact Array.getElem?_eq_getElem hkc
      have hf : wr.frozen? ⟨g, k, none⟩ = false := HB.out.frozen k
      have HP := hide (HB.out.put k (.int .i64 (k0 + k)))
      go_wp2
      go_roundw
      case rel => exact ⟨k + 1, _, by omega, HP, hide (by rw [Array.size_setIfInBounds]; exact HS.out), hide (fun j hj => by
          rw [Array.getElem?_setIfInBounds]
          by_cases e : k = j
          · subst e; simp [hkc]
          · rw [if_neg e]; exact HM.out j (by omega)), hide (HF.out.setCell (.inl rfl) _), int_eq (by omega), int_eq (by omega)⟩
      case measure => simp [intOf]; omega
    · go_wp2
      go_ret
      have e : k = n := by omega
      subst e
      exact ⟨rfl, ⟨cs', HB.out, HS.out, HM.out⟩, HF.out⟩

theorem info_int : (Try.prog.info? 3).map (fun i => (i.zero, i.size, i.bytes)) = some (some (.int .i64 0), 1, 8) := by kernel_rfl
/-- make([]int, n) -/
theorem make_ints (n : Nat) (hn : n ≤ 1000000000) (w : World) :
    (Instr.makeSlice 37 (.int .i64 (n : Int)) (.int .i64 (n : Int))).run Try.prog w = .ok (.slice (some ⟨w.heap.size, 0, none⟩) n n) (w.alloc (.cells (madeCells #[.int .i64 0] n) 3)) := by
  obtain ⟨i, hi, hz, hs, hb⟩ := info_parts info_int
  have hr := run_make (P := Try.prog) w 37 3 i _ Try.underlying37 hi hz .i64 .i64 n n (by omega) (by omega) (by rw [hb]; omega) (by omega)
  simp only [Int.toNat_natCast, hs, Nat.mul_one] at hr
  exact hr

set_option maxHeartbeats 1000000 in
theorem toIntS_any (A : Option Addr) (n c : Nat) (zs : List Int) (w : World) (h : Rd w 1 A n (zs.map (Value.int .i64))) (hm : n ≤ 1000000000) :
    Calls Try.prog 22 #[.slice A n c] w fun r w' => r = .returned (.slice (some ⟨w.heap.size, 0, none⟩) n n) ∧ Bk w' w.heap.size 3 (zs.map (Value.int .i64)).toArray ∧ Below w.heap.size w w' ∧ w.heap.size < w'.heap.size := by
  have hmk := make_ints n hm
  have hzl : zs.length = n := by have := h.len; simpa using this
  have HZ := hide hzl
  have H := hide h
  clear hzl h
  go_enter Try.func22, Try.ntmps22
  go_wp2
  go_loopw [4] (fun i wr => ∃ (k : Nat) (cs : Array Value), k ≤ n ∧ Hid (Bk wr w.heap.size 3 cs) ∧ Hid (cs.size = n) ∧ Hid (∀ j, j < k → cs[j]? = (zs.map (Value.int .i64))[j]?) ∧ Hid (Below w.heap.size w wr) ∧ i = .int .i64 k) (fun i _ => n - (intOf i).toNat)
  case atStart => exact ⟨0, _, by omega, hide (Bk.fresh _ _ _), hide (size_madeCells _ _), hide (fun j hj => absurd hj (by omega)), hide (bel1 _ _), rfl⟩
  case round =>
    obtain ⟨k, cs, hk, HB, HS, HM, HF, rfl⟩ := hrel
    clear hmk
    by_cases hlt : k < n
    · have hkc : k < cs.size := by have := HS.out; omega
      obtain ⟨b, o, z, rfl, hb, hz, hcz⟩ := (H.out.after HF.out).int_at hlt
      have HZk := hide hz
      clear hz
      have hc : wr.cell? ⟨w.heap.size, k, none⟩ = some cs[k] := by rw [HB.out.cell]; exact Array.getElem?_eq_getElem hkc
      have hf : wr.frozen? ⟨w.heap.size, k, none⟩ = false := HB.out.frozen k
      have HP := hide (HB.out.put k (.int .i64 z))
      go_wp2
      go_roundw
      case rel => exact ⟨k + 1, _, by omega, HP, hide (by rw [Array.size_setIfInBounds]; exact HS.out), hide (fun j hj => by
          rw [Array.getElem?_setIfInBounds]
          by_cases e : k = j
          · subst e; rw [if_pos rfl, if_pos hkc, List.getElem?_map, HZk.out]; rfl
          · rw [if_neg e]; exact HM.out j (by omega)), hide (HF.out.setCell (Nat.le_refl _) _), int_eq (by omega)⟩
      case measure => simp [intOf]; omega
    · go_wp2
      go_ret
      have e : k = n := by omega
      subst e
      refine ⟨rfl, ?_, HF.out, HB.out.lt⟩
      have e2 := arr_ext (cs := cs) (xs := zs.map (Value.int .i64)) (by rw [HS.out, List.length_map, HZ.out]) (fun j hj => HM.out j (by rw [List.length_map, HZ.out] at hj; exact hj))
      rw [← e2]
      exact HB.out

/-- what is left of a size -/
def szI (left : Int) (n : Nat) : Int := if left < (n : Int) then -1 else left - n
end Go.Proofs.Ytcaoekaephnimaa
