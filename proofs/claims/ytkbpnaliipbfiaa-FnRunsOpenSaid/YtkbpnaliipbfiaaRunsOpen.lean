/- RunsOpen of the program and of the reference. -/
import Derived.Test.YtkbpnaliipbfiaaUnpack
import Derived.Test.YtkbpnaliipbfiaaBuilderS
import Derived.Test.YtkbpnaliipbfiaaRuns
import Derived.Test.YtkbpnaliipbfiaaRange
import Derived.Test.YtkbpnaliipbfiaaStrs
namespace Go.Proofs.Ytkbpnaliipbfiaa
open Go.RowKit
set_option linter.unusedVariables false

/-- does a text open? what does it open to? -/
def openB (p : ByteArray) : Bool := (opened p.data.toList).isSome
def openT (p : ByteArray) : ByteArray := match opened p.data.toList with | some out => ⟨out.toArray⟩ | none => ⟨#[]⟩
theorem open_no {p : ByteArray} (h : opened p.data.toList = none) : openB p = false ∧ openT p = ⟨#[]⟩ := by unfold openB openT; rw [h]; exact ⟨rfl, rfl⟩
theorem open_yes {p : ByteArray} {out : List UInt8} (h : opened p.data.toList = some out) : openB p = true ∧ openT p = ⟨out.toArray⟩ := by unfold openB openT; rw [h]; exact ⟨rfl, rfl⟩
theorem isB_more {T e : TypeId} {B b : Nat} {l : List UInt8} {x : UInt8} {n : Nat} {s : ByteArray} {w : World} (h : Lib.BuilderAt T e B b (.pointer (some ⟨b, 0, none⟩)) (Lib.byteCells l ++ Lib.strCells s) w) (hs : s.data.toList = List.replicate n x) : Lib.IsBuilder T e B b (Lib.byteCells (l ++ List.replicate n x)) w := by
  refine .inr ?_
  have e : Lib.byteCells l ++ Lib.strCells s = Lib.byteCells (l ++ List.replicate n x) := by
    unfold Lib.strCells Lib.byteCells
    rw [hs, List.map_append]
  rw [← e]
  exact h
theorem ext_one (s : ByteArray) (k : Nat) (h : k < s.size) : (s.extract k (k + 1)).data.toList = [s[k]] := by
  have e : (s.extract k (k + 1)).data = s.data.extract k (k + 1) := by rw [ByteArray.data_extract]
  rw [e, Array.toList_extract]
  have h2 : k < s.data.toList.length := by simpa using h
  rw [List.extract_eq_take_drop, List.drop_eq_getElem_cons h2]
  simp
  rfl
theorem ret_pair {a b : ByteArray} {u v : Bool} (h : a = b) (h2 : u = v) : Ending.returned (.tuple #[.string a, .bool u]) = Ending.returned (.tuple #[.string b, .bool v]) := by rw [h, h2]

theorem own_fr0 {w w' : World} {base : Nat} {e : TypeId} {k n : Nat} {v : Value} {xs : List Value} (h : w.ownsRow base e k v n xs) (hf : Below w.heap.size w w') : w'.ownsRow base e k v n xs := by
  refine ⟨h.1, ?_⟩
  rcases h.2 with h2 | ⟨g, cap, cur, hv, hg, hh, r⟩
  · exact .inl h2
  · refine .inr ⟨g, cap, cur, hv, hg, ?_, r⟩
    rw [hf.block g (Array.getElem?_eq_some_iff.1 hh).1]
    exact hh

set_option maxHeartbeats 4000000 in
theorem implRunsOpen_any (s : ByteArray) (w : World) (hs : s.size ≤ 1048576) :
    Calls Try.prog 7 #[.string s] w fun r w' => r = .returned (.tuple #[.string (openT s), .bool (openB s)]) ∧ Below w.heap.size w w' := by
  have HSL := hide (show s.data.toList.length = s.size by simp)
  go_enter Try.func7, Try.ntmps7
  go_wp2_with fail
  go_loopw [5] (fun i wr => ∃ (k : Nat) (out : List UInt8), k ≤ s.size ∧ Hid (out.length ≤ 9 * k) ∧ Hid (Left s.data.toList k out) ∧ Hid (Lib.IsBuilder 31 5 w.heap.size w.heap.size (Lib.byteCells out) wr) ∧ Hid (Below w.heap.size w wr) ∧ i = .int .i64 k) (fun i _ => s.size - (intOf i).toNat)
  case atStart => exact ⟨0, [], by omega, hide (by simp), hide (Left.start _), hide (Lib.fresh_isBuilder _ _ w), hide (bel1 _ _), rfl⟩
  case round =>
    obtain ⟨k, out, hk, HL, HO, HB, HF, rfl⟩ := hrel
    by_cases hlt : k < s.size
    · have i0 : (0 : Int) ≤ (k : Int) := by omega
      have i1 : (k : Int) < (s.size : Int) := by omega
      have HAT := hide (at_of s k hlt)
      by_cases hc : s[k] = 126
      · have jc : ((s[k].toNat : Int) == 126) = true := by rw [hc]; rfl
        have H126 := hide (show s.data.toList[k]? = some 126 by rw [HAT.out, hc])
        clear hc
        by_cases h2 : k + 2 < s.size
        · have j2 : ¬ (s.size : Int) ≤ (k : Int) + 2 := by omega
          have hin1 : k + 1 < s.size := by omega
          have jn1 : ((k : Int) + 1).toNat = k + 1 := by omega
          obtain ⟨d, hd⟩ : ∃ d, d = s[k + 1] := ⟨_, rfl⟩
          have HD := hide (show s.data.toList[k + 1]? = some d by rw [hd]; exact at_of s (k + 1) hin1)
          have hdn := d.toNat_lt
          have hw1 : wrap64 (s[k + 1].toNat : Int) = (s[k + 1].toNat : Int) := by have := s[k + 1].toNat_lt; unfold wrap64; omega
          cases hv : inR (d.toNat : Int) 49 57
          · have HV := hide hv
            have hbad := HO.out.bad H126.out HD.out (by rw [HSL.out]; exact h2) (by simp only [inR, Bool.and_eq_false_iff, decide_eq_false_iff_not] at hv; omega)
            have HR := hide (open_no (opened_none hbad))
            rw [hd] at HV
            clear hv hbad hd
            go_wp2_with fail
            ((with_reducible refine (within_v HV.out _).mono ?_); rintro r x1 ⟨rfl, rfl⟩)
            go_wp2_with fail
            go_ret2
            exact ⟨ret_pair HR.out.2.symm HR.out.1.symm, HF.out⟩
          · have HV := hide hv
            have hr : 49 ≤ d.toNat ∧ d.toNat ≤ 57 := by simp only [inR, Bool.and_eq_true, decide_eq_true_eq] at hv; omega
            have HX := hide (show s.data.toList[k + 2]? = some s[k + 2] from at_of s (k + 2) h2)
            have HN := hide (HO.out.run H126.out HD.out HX.out hr)
            obtain ⟨m, hm⟩ : ∃ m, m = d.toNat - 48 := ⟨_, rfl⟩
            have hm9 : m ≤ 9 := by omega
            have hmw : IntKind.u8.wrap ((s[k + 1].toNat : Int) - 48) = (m : Int) := by rw [← hd, IntKind.wrap_u8]; omega
            have hmw2 : IntKind.i64.wrap (m : Int) = (m : Int) := by rw [IntKind.wrap_i64]; omega
            rw [← hm] at HN
            have HM := hide hm
            have jw1 : IntKind.i64.wrap ((k : Int) + 1) = (k : Int) + 1 := by rw [IntKind.wrap_i64]; omega
            have jw2 : IntKind.i64.wrap ((k : Int) + 2) = (k : Int) + 2 := by rw [IntKind.wrap_i64]; omega
            have jw3 : IntKind.i64.wrap ((k : Int) + 3) = (k : Int) + 3 := by rw [IntKind.wrap_i64]; omega
            have jn2 : ((k : Int) + 2).toNat = k + 2 := by omega
            have jn3 : ((k : Int) + 3).toNat = k + 2 + 1 := by omega
            have p1 : (0 : Int) ≤ (k : Int) + 1 := by omega
            have p2 : (0 : Int) ≤ (k : Int) + 2 := by omega
            have p3 : (k : Int) + 2 ≤ (k : Int) + 3 := by omega
            have p4 : (k : Int) + 3 ≤ (s.size : Int) := by omega
            have p5 : (k : Int) + 1 < (s.size : Int) := by omega
            rw [hd] at HV
            clear hv hr hm hd
            go_wp2_with fail
            ((with_reducible refine (within_v HV.out _).mono ?_); rintro r x1 ⟨rfl, rfl⟩)
            have HLM : Hid ((s.extract (k + 2) (k + 2 + 1)).size * m ≤ 140737488355328) := hide (by
              have hsz : (s.extract (k + 2) (k + 2 + 1)).size = 1 := by rw [ByteArray.size_extract]; omega
              rw [hsz]; omega)
            go_upto_region 9 with fail
            refine wp_region_held_drew (S := fun _ => True) (by kernel_rfl) (trivial) (fun hH => ?_)
            refine wpAnyH_take (i := 0) (v := ?_) rfl (by kernel_rfl) (by kernel_rfl) (by kernel_rfl) (fun _ _ _ h => h) (Or.inl ⟨by rfl, fun wS hS => ?_⟩) hH ?_
            rotate_left
            · go_simp; try exact rfl
            simp only [Act.put, List.setIfInBounds_toArray, List.set_cons_zero, List.set_cons_succ, List.getElem_toArray, List.getElem_cons_zero]
            refine wpAnyH_take (i := 1) (v := ?_) rfl (by kernel_rfl) (by kernel_rfl) (by kernel_rfl) (fun _ _ _ h => h) (Or.inl ⟨by rfl, fun wS hS => ?_⟩) hH ?_
            rotate_left
            · go_simp; try exact rfl
            simp only [Act.put, List.setIfInBounds_toArray, List.set_cons_zero, List.set_cons_succ, List.getElem_toArray, List.getElem_cons_zero, List.getElem_cons_succ]
            refine wpAnyH_take (i := 2) (v := ?_) rfl (by kernel_rfl) (by kernel_rfl) (by kernel_rfl) (fun _ _ _ h => h) (Or.inl ⟨by rfl, fun wS hS => ?_⟩) hH ?_
            rotate_left
            · go_simp; try exact rfl
            simp only [Act.put, List.setIfInBounds_toArray, List.set_cons_zero, List.set_cons_succ, List.getElem_toArray, List.getElem_cons_zero, List.getElem_cons_succ]
            refine wpAnyH_take (i := 3) (v := ?_) rfl (by kernel_rfl) (by kernel_rfl) (by kernel_rfl) (fun _ _ _ h => h) (Or.inl ⟨by rfl, fun wS hS => ?_⟩) hH ?_
            rotate_left
            · go_simp; try exact rfl
            simp only [Act.put, List.setIfInBounds_toArray, List.set_cons_zero, List.set_cons_succ, List.getElem_toArray, List.getElem_cons_zero, List.getElem_cons_succ]
            refine wpAnyH_take (i := 4) (v := ?_) rfl (by kernel_rfl) (by kernel_rfl) (by kernel_rfl) (fun _ _ _ h => h) (Or.inl ⟨by rfl, fun wS hS => ?_⟩) hH ?_
            rotate_left
            · go_simp; try exact rfl
            simp only [Act.put, List.setIfInBounds_toArray, List.set_cons_zero, List.set_cons_succ, List.getElem_toArray, List.getElem_cons_zero, List.getElem_cons_succ]
            refine wpAnyH_take (i := 5) (v := ?_) rfl (by kernel_rfl) (by kernel_rfl) (by kernel_rfl) (fun _ _ _ h => h) (Or.inl ⟨by rfl, fun wS hS => ?_⟩) hH ?_
            rotate_left
            · go_simp; try exact rfl
            simp only [Act.put, List.setIfInBounds_toArray, List.set_cons_zero, List.set_cons_succ, List.getElem_toArray, List.getElem_cons_zero, List.getElem_cons_succ]
            refine wpAnyH_take (i := 6) (v := ?_) rfl (by kernel_rfl) (by kernel_rfl) (by kernel_rfl) (fun _ _ _ h => h) (Or.inl ⟨by rfl, fun wS hS => ?_⟩) hH ?_
            rotate_left
            · go_simp; try exact rfl
            simp only [Act.put, List.setIfInBounds_toArray, List.set_cons_zero, List.set_cons_succ, List.getElem_toArray, List.getElem_cons_zero, List.getElem_cons_succ]
            refine wpAnyH_take (i := 7) (v := ?_) rfl (by kernel_rfl) (by kernel_rfl) (by kernel_rfl) (fun _ _ _ h => h) (Or.inl ⟨by rfl, fun wS hS => ?_⟩) hH ?_
            rotate_left
            · go_simp; try exact rfl
            simp only [Act.put, List.setIfInBounds_toArray, List.set_cons_zero, List.set_cons_succ, List.getElem_toArray, List.getElem_cons_zero, List.getElem_cons_succ]
            refine wpAnyH_take (i := 8) (v := ?_) rfl (by kernel_rfl) (by kernel_rfl) (by kernel_rfl) (fun _ _ _ h => h) (Or.inl ⟨by rfl, fun wS hS => ?_⟩) hH ?_
            rotate_left
            · go_simp; try exact rfl
            simp only [Act.put, List.setIfInBounds_toArray, List.set_cons_zero, List.set_cons_succ, List.getElem_toArray, List.getElem_cons_zero, List.getElem_cons_succ]
            refine wpAnyH_take (i := 9) (v := ?_) rfl (by kernel_rfl) (by kernel_rfl) (by kernel_rfl) (fun _ _ _ h => h) (Or.inl ⟨by rfl, fun wS hS => ?_⟩) hH ?_
            rotate_left
            · go_simp; try exact rfl
            simp only [Act.put, List.setIfInBounds_toArray, List.set_cons_zero, List.set_cons_succ, List.getElem_toArray, List.getElem_cons_zero, List.getElem_cons_succ]
            refine wpAnyH_take (i := 10) (v := ?_) rfl (by kernel_rfl) (by kernel_rfl) (by kernel_rfl) (fun _ _ _ h => h) (Or.inl ⟨by rfl, fun wS hS => ?_⟩) hH ?_
            rotate_left
            · go_simp; try exact rfl
            simp only [Act.put, List.setIfInBounds_toArray, List.set_cons_zero, List.set_cons_succ, List.getElem_toArray, List.getElem_cons_zero, List.getElem_cons_succ]
            refine wpAnyH_take (i := 11) (v := ?_) rfl (by kernel_rfl) (by kernel_rfl) (by kernel_rfl) (fun _ _ _ h => h) (Or.inl ⟨by rfl, fun wS hS => ?_⟩) hH ?_
            rotate_left
            · go_simp; try exact rfl
            simp only [Act.put, List.setIfInBounds_toArray, List.set_cons_zero, List.set_cons_succ, List.getElem_toArray, List.getElem_cons_zero, List.getElem_cons_succ]
            refine wpAnyH_ready (rs := [12]) (by kernel_rfl) (by simp) (AllReadyH.cons rfl (fun K hK => ?_) AllReadyH.nil)
            go_simp
            go_at_call 15
            ((with_reducible refine (sRepeat (s.extract (k + 2) (k + 2 + 1)) m _ (by omega) HLM.out).mono ?_); rintro r x2 ⟨rfl, hb2⟩)
            have hrl : (Lib.repeatL (s.extract (k + 2) (k + 2 + 1)).data.toList m) = List.replicate m s[k + 2] := by rw [ext_one s (k + 2) h2, rep_one]
            rw [hrl]
            have HB2 := hide (isB_after (show Lib.IsBuilder 31 5 w.heap.size w.heap.size (Lib.byteCells out) wr.drew from HB.out) hb2)
            have HF2 := hide ((HF.out.drew.trans (hb2.mono HF.out.size)))
            clear hb2 hrl
            refine hK.out _ _ (trivial) (fun hH2 => ?_)
            clear hK K
            try simp only [Act.put, List.setIfInBounds_toArray, List.set_cons_zero, List.set_cons_succ]
            refine wpAnyH_ready (rs := [13]) (by kernel_rfl) (by simp) (AllReadyH.cons rfl (fun K hK => ?_) AllReadyH.nil)
            go_simp
            go_at_call 14
            refine (wString w.heap.size w.heap.size _ _ _ HB2.out (by rw [byteCells_len]; have := HL.out; show out.length + (List.replicate m s[k + 2]).toArray.size ≤ _; simp; omega) HF2.out.size).mono ?_; rintro r x3 ⟨rfl, hB3, hb3⟩
            have HB3 := hide (isB_more (x := s[k + 2]) (n := m) hB3 rfl)
            have HF3 := hide (HF2.out.trans hb3)
            clear hB3 hb3
            refine hK.out _ _ (trivial) (fun hH3 => ?_)
            clear hK K
            try simp only [Act.put, List.setIfInBounds_toArray, List.set_cons_zero, List.set_cons_succ]
            refine wpAnyH_done (by kernel_rfl) ?_ _
            go_wp2_with fail
            go_roundw
            case rel => exact ⟨k + 3, _, by omega, hide (by have := HL.out; simp; omega), HN, HB3, HF3, int_eq (by omega)⟩
            case measure => simp [intOf]; omega
        · have j2 : (s.size : Int) ≤ (k : Int) + 2 := by omega
          have HR := hide (open_no (opened_none (HO.out.short H126.out (by rw [HSL.out]; omega))))
          go_wp2_with fail
          go_ret2
          exact ⟨ret_pair HR.out.2.symm HR.out.1.symm, HF.out⟩
      · have jc : ((s[k].toNat : Int) == 126) = false := by rw [beq_eq_false_iff_ne]; intro e; exact hc (UInt8.toNat_inj.1 (by simpa using (by omega : s[k].toNat = 126)))
        have HN := hide (HO.out.one HAT.out hc)
        clear hc
        go_wp2_with fail
        refine (wByte w.heap.size w.heap.size _ _ _ HB.out (by rw [byteCells_len]; have := HL.out; omega) HF.out.size).mono ?_; rintro r x1 ⟨rfl, hB1, hb1⟩
        have HB1 := hide (show Lib.IsBuilder 31 5 w.heap.size w.heap.size (Lib.byteCells (out ++ [s[k]])) x1 from isB_snoc hB1 rfl)
        have HF1 := hide (HF.out.trans hb1)
        clear hB1 hb1
        go_wp2_with fail
        go_roundw
        case rel => exact ⟨k + 1, out ++ [s[k]], by omega, hide (by have := HL.out; simp; omega), HN, HB1, HF1, int_eq (by omega)⟩
        case measure => simp [intOf]; omega
    · have hu := hide (HO.out.done (by rw [HSL.out]; omega))
      have hol : out.length ≤ 20000000 := by have := HL.out; omega
      go_wp2_with fail
      refine (bStringF _ _ _ _ (Lib.IsBuilderF.of HB.out) HF.out.size).mono ?_; rintro r x1 ⟨rfl, hB1, hb1⟩
      have HB1 := hide hB1
      have HF1 := hide (HF.out.trans hb1)
      clear hB1 hb1
      go_wp2_with fail
      refine (implRunsPack_any _ _ (by show out.toArray.size ≤ _; rw [List.size_toArray]; exact hol)).mono ?_; rintro r x2 ⟨rfl, hb2⟩
      obtain ⟨T, hT⟩ : ∃ T : ByteArray, T = ⟨(pack (ByteArray.mk out.toArray).data.toList).toArray⟩ := ⟨_, rfl⟩
      rw [← hT]
      have hT2 : T.data.toList = pack out := by
        rw [hT]
      have HB2 := hide (isBF_after HB1.out hb2)
      have HF2 := hide (HF1.out.trans (hb2.mono HF1.out.size))
      clear hb2 hT
      by_cases he : T = s
      · have hne := beqT_eq he
        have HR := hide (open_yes (opened_yes hu.out (by rw [← hT2, he])))
        clear he hT2
        go_wp2_with fail
        refine (bStringF _ _ _ _ HB2.out HF2.out.size).mono ?_; rintro r x3 ⟨rfl, _, hb3⟩
        go_wp2_with fail
        go_ret2
        exact ⟨ret_pair HR.out.2.symm HR.out.1.symm, HF2.out.trans hb3⟩
      · have hne := beqT_ne he
        have HR := hide (open_no (opened_no hu.out (fun e => he (by
          apply ByteArray.ext
          apply Array.ext'
          exact hT2.trans e))))
        clear he hT2
        go_wp2_with fail
        go_ret2
        exact ⟨ret_pair HR.out.2.symm HR.out.1.symm, HF2.out⟩

set_option maxHeartbeats 4000000 in
theorem specRunsOpen_any (s : ByteArray) (w : World) (hs : s.size ≤ 1048576) :
    Calls Try.prog 6 #[.string s] w fun r w' => r = .returned (.tuple #[.string (openT s), .bool (openB s)]) ∧ Below w.heap.size w w' := by
  obtain ⟨i0, hi, hz0, hz1, hz2⟩ := info_parts info_u8
  have HSL := hide (show s.data.toList.length = s.size by simp)
  go_enter Try.func6, Try.ntmps6
  go_wp2_with fail
  go_loopw [4, 5] (fun v i wr => ∃ (k : Nat) (out : List UInt8), k ≤ s.size ∧ Hid (out.length ≤ 9 * k) ∧ Hid (Left s.data.toList k out) ∧ Hid (wr.ownsRow w.heap.size 5 1 v out.length (Lib.byteCells out)) ∧ Hid (Below w.heap.size w wr) ∧ i = .int .i64 k) (fun _ i _ => s.size - (intOf i).toNat)
  case atStart => exact ⟨0, [], by omega, hide (by simp), hide (Left.start _), hide (World.ownsRow_lit w #[] 0 (Nat.le_refl _) (by simp [maxLen]) rfl), hide (bel1 _ _), rfl⟩
  case round =>
    obtain ⟨k, out, hk, HL, HO, HW, HF, rfl⟩ := hrel
    obtain ⟨v, rfl⟩ : ∃ v : Value, v = u4 := ⟨_, rfl⟩
    have hol : out.length ≤ 9500000 := by have := HL.out; omega
    by_cases hlt : k < s.size
    · have i0' : (0 : Int) ≤ (k : Int) := by omega
      have i1 : (k : Int) < (s.size : Int) := by omega
      have HAT := hide (at_of s k hlt)
      by_cases hc : s[k] = 126
      · have jc : ((s[k].toNat : Int) == 126) = true := by rw [hc]; rfl
        have H126 := hide (show s.data.toList[k]? = some 126 by rw [HAT.out, hc])
        clear hc
        by_cases h2 : k + 2 < s.size
        · have j2 : ¬ (s.size : Int) ≤ (k : Int) + 2 := by omega
          have hin1 : k + 1 < s.size := by omega
          have jn1 : ((k : Int) + 1).toNat = k + 1 := by omega
          have jn2 : ((k : Int) + 2).toNat = k + 2 := by omega
          obtain ⟨d, hd⟩ : ∃ d, d = s[k + 1] := ⟨_, rfl⟩
          have HD := hide (show s.data.toList[k + 1]? = some d by rw [hd]; exact at_of s (k + 1) hin1)
          have hdn := d.toNat_lt
          by_cases hr : 49 ≤ d.toNat ∧ d.toNat ≤ 57
          · have HX := hide (show s.data.toList[k + 2]? = some s[k + 2] from at_of s (k + 2) h2)
            have HN := hide (HO.out.run H126.out HD.out HX.out hr)
            obtain ⟨m, hm⟩ : ∃ m, m = d.toNat - 48 := ⟨_, rfl⟩
            have hm9 : m ≤ 9 := by omega
            have j3 : decide ((s[k + 1].toNat : Int) < 49) = false := by rw [← hd]; simp; omega
            have j4 : decide (57 < (s[k + 1].toNat : Int)) = false := by rw [← hd]; simp; omega
            have HDD := hide hd
            rw [← hm] at HN
            have HM := hide (show (m : Int) = (s[k + 1].toNat : Int) - 48 by rw [← hd]; omega)
            clear hdn hm hd HD HX hr
            go_upto_region 9 with fail
            clear j2 j3 j4
            have b0 : (48 : Int) ≤ (s[k + 1].toNat : Int) := by have := HM.out; omega
            have b1 : (s[k + 1].toNat : Int) ≤ 57 := by have := HM.out; omega
            go_wp2_with fail
            go_loopw [4, 6] (fun v q wq => ∃ (e : Nat) (o2 : List UInt8), e ≤ m ∧ Hid (o2 = out ++ List.replicate (m - e) s[k + 2]) ∧ Hid (wq.ownsRow w.heap.size 5 1 v o2.length (Lib.byteCells o2)) ∧ Hid (Below w.heap.size w wq) ∧ q = .int .i64 e) (fun _ q _ => (intOf q).toNat)
            case atStart => exact ⟨m, out, by omega, hide (by simp), HW, HF, int_eq HM.out.symm⟩
            case round =>
              clear HW HF b0 b1
              obtain ⟨e, o2, he, HE, HW, HF, rfl⟩ := hrel
              obtain ⟨wi, rfl⟩ : ∃ wi : World, wi = wr := ⟨_, rfl⟩
              have ho2 : o2.length ≤ 9500009 := by have h := HE.out; rw [h]; simp; omega
              by_cases h0 : 0 < e
              · have e0 : (0 : Int) < (e : Int) := by omega
                go_wp2_with (at_builtin; refine wpList_append_own _ (by rfl) _ _ 25 (by rfl) w.heap.size 5 i0 (.int .u8 0) 1 1 Try.underlying25 hi hz0 hz1 hz2 rfl (by decide) _ o2.length (Lib.byteCells o2) (by rfl) (HW.out.alloc (.cells #[.int .u8 s[k + 2].toNat] 5)) ⟨wi.heap.size, 0, none⟩ 1 1 [.int .u8 s[k + 2].toNat] (by rfl) rfl (World.news_of_block (heap_alloc_new _ _)) (fun u hu => by simp only [List.mem_singleton] at hu; subst hu; rfl) (by unfold maxLen; omega) (by omega) (by have := HF.out.size; simp; omega) ?_; intro v' w1 hown' hgrow _; have HO1 := hide (own_snoc (more := [s[k + 2]]) hown' rfl rfl); have HB1 := hide (bel_grown (HF.out.alloc HF.out.size _) (HW.out.alloc _) hgrow); clear hown' hgrow)
                go_roundw
                case rel => exact ⟨e - 1, _, by omega, hide (by rw [HE.out, List.append_assoc, show m - (e - 1) = m - e + 1 by omega, List.replicate_succ']), HO1, HB1, int_eq (by omega)⟩
                case measure => simp [intOf]; omega
              · obtain rfl : e = 0 := by omega
                go_wp2_with fail
                go_roundw
                case rel => exact ⟨k + 3, o2, by omega, hide (by rw [HE.out]; have := HL.out; simp; omega), hide (by rw [HE.out]; exact HN.out), HW, HF, int_eq (by omega)⟩
                case measure => simp [intOf]; omega
          · have HR := hide (open_no (opened_none (HO.out.bad H126.out HD.out (by rw [HSL.out]; exact h2) hr)))
            by_cases hr2 : d.toNat < 49
            · have j3 : decide ((s[k + 1].toNat : Int) < 49) = true := by rw [← hd]; simp; omega
              clear hr hd
              go_wp2_with fail
              go_ret2
              exact ⟨ret_pair HR.out.2.symm HR.out.1.symm, HF.out⟩
            · have j3 : decide ((s[k + 1].toNat : Int) < 49) = false := by rw [← hd]; simp; omega
              have j4 : decide (57 < (s[k + 1].toNat : Int)) = true := by rw [← hd]; simp; omega
              clear hr hd
              go_wp2_with fail
              go_ret2
              exact ⟨ret_pair HR.out.2.symm HR.out.1.symm, HF.out⟩
        · have j2 : (s.size : Int) ≤ (k : Int) + 2 := by omega
          have HR := hide (open_no (opened_none (HO.out.short H126.out (by rw [HSL.out]; omega))))
          go_wp2_with fail
          go_ret2
          exact ⟨ret_pair HR.out.2.symm HR.out.1.symm, HF.out⟩
      · have jc : ((s[k].toNat : Int) == 126) = false := by rw [beq_eq_false_iff_ne]; intro e; exact hc (UInt8.toNat_inj.1 (by simpa using (by omega : s[k].toNat = 126)))
        have HN := hide (HO.out.one HAT.out hc)
        clear hc
        go_wp2_with (at_builtin; refine wpList_append_own _ (by rfl) _ _ 25 (by rfl) w.heap.size 5 i0 (.int .u8 0) 1 1 Try.underlying25 hi hz0 hz1 hz2 rfl (by decide) _ out.length (Lib.byteCells out) (by rfl) (HW.out.alloc (.cells #[.int .u8 s[k].toNat] 5)) ⟨wr.heap.size, 0, none⟩ 1 1 [.int .u8 s[k].toNat] (by rfl) rfl (World.news_of_block (heap_alloc_new _ _)) (fun u hu => by simp only [List.mem_singleton] at hu; subst hu; rfl) (by unfold maxLen; omega) (by omega) (by have := HF.out.size; simp; omega) ?_; intro v' w1 hown' hgrow _; have HO1 := hide (own_snoc (more := [s[k]]) hown' rfl rfl); have HB1 := hide (bel_grown (HF.out.alloc HF.out.size _) (HW.out.alloc _) hgrow); clear hown' hgrow)
        go_roundw
        case rel => exact ⟨k + 1, out ++ [s[k]], by omega, hide (by have := HL.out; simp; omega), HN, HO1, HB1, int_eq (by omega)⟩
        case measure => simp [intOf]; omega
    · have hu := hide (HO.out.done (by rw [HSL.out]; omega))
      have hcv := str_of_own HW.out
      go_wp2_with fail
      refine (specRunsPack_any _ _ (by show out.toArray.size ≤ _; rw [List.size_toArray]; omega)).mono ?_; rintro r x2 ⟨rfl, hb2⟩
      obtain ⟨T, hT⟩ : ∃ T : ByteArray, T = ⟨(pack (ByteArray.mk out.toArray).data.toList).toArray⟩ := ⟨_, rfl⟩
      rw [← hT]
      have hT2 : T.data.toList = pack out := by
        rw [hT]
      have HF2 := hide (HF.out.trans (hb2.mono HF.out.size))
      have HW2 := hide (own_fr0 HW.out hb2)
      have hcv2 := str_of_own HW2.out
      clear hb2 hT hcv
      by_cases he : T = s
      · have hne := beqT_eq he
        have HR := hide (open_yes (opened_yes hu.out (by rw [← hT2, he])))
        clear he hT2
        go_wp2_with fail
        go_ret2
        exact ⟨ret_pair HR.out.2.symm HR.out.1.symm, HF2.out⟩
      · have hne := beqT_ne he
        have HR := hide (open_no (opened_no hu.out (fun e => he (by
          apply ByteArray.ext
          apply Array.ext'
          exact hT2.trans e))))
        clear he hT2
        go_wp2_with fail
        go_ret2
        exact ⟨ret_pair HR.out.2.symm HR.out.1.symm, HF2.out⟩
end Go.Proofs.Ytkbpnaliipbfiaa
