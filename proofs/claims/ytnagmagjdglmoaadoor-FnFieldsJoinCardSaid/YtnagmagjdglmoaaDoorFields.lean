/- Both FieldsPut. -/
import Derived.Test.YtnagmagjdglmoaaDoorNumGet
import Derived.Test.YtnagmagjdglmoaaDoorBuilderS
namespace Go.Proofs.YtnagmagjdglmoaaDoor
open Go.Shelf Go.RowKit
set_option linter.unusedVariables false
def lays170_ren : Go.Shelf.Ren := ⟨fun | 170 => 42 | n => n, fun | 0 => 0 | 3 => 3 | 5 => 5 | 37 => 27 | 70 => 54 | 72 => 56 | n => n, fun | n => n⟩
theorem lays170 : Go.Proofs.Lays.n170 Tryd.prog lays170_ren := {
  mixed := by kernel_rfl
  f170 := Tryd.func42.trans (congrArg some (by kernel_rfl))
  t0 := Tryd.underlying0
  a0 := Tryd.isAgg0
  z0 := Tryd.sizeOf0
  v0 := Tryd.zeroValue0
  t3 := Tryd.underlying3
  a3 := Tryd.isAgg3
  z3 := Tryd.sizeOf3
  v3 := Tryd.zeroValue3
  t37 := Tryd.underlying27
  a37 := Tryd.isAgg27
  z37 := Tryd.sizeOf27
  v37 := Tryd.zeroValue27
  t70 := Tryd.underlying54
  a70 := Tryd.isAgg54
  z70 := Tryd.sizeOf54
  v70 := Tryd.zeroValue54
  t72 := Tryd.underlying56
  a72 := Tryd.isAgg56
  z72 := Tryd.sizeOf56
  v72 := Tryd.zeroValue56
}
theorem bLen (B b : Nat) (bs : List Value) (w : World) (h : Lib.IsBuilder 56 5 B b bs w) :
    Calls Tryd.prog 42 #[.pointer (some ⟨b, 0, none⟩)] w fun e w' => e = .returned (.int .i64 bs.length) ∧ w' = w := Any.Builder_Len lays170 B b bs w h

/-- a field: its length, a colon, its bytes -/
def fld (z : ByteArray) : List UInt8 := Lib.decDigits z.size ++ [58] ++ z.data.toList
/-- a record -/
def recOf (zs : List ByteArray) : List UInt8 := zs.flatMap fld
theorem recOf_snoc (zs : List ByteArray) (z : ByteArray) : recOf (zs ++ [z]) = recOf zs ++ Lib.decDigits z.size ++ [58] ++ z.data.toList := by simp [recOf, fld]
theorem recOf_app (a b : List ByteArray) : recOf (a ++ b) = recOf a ++ recOf b := by simp [recOf]
theorem recOf_len_le (zs : List ByteArray) (k : Nat) : (recOf (zs.take k)).length ≤ (recOf zs).length := by
  have := congrArg List.length (recOf_app (zs.take k) (zs.drop k))
  rw [List.take_append_drop, List.length_append] at this
  omega
theorem fld_len (z : ByteArray) : z.size + 2 ≤ (fld z).length := by
  have h1 : (Lib.decDigits z.size).length ≠ 0 := fun h => dec_ne _ (List.eq_nil_of_length_eq_zero h)
  have h2 : z.data.toList.length = z.size := by simp
  unfold fld
  rw [List.length_append, List.length_append, List.length_singleton, h2]
  omega
def putB (zs : List ByteArray) : Bool := decide (zs.length ≤ 60) && decide ((recOf zs).length ≤ 2048)
def putT (zs : List ByteArray) : ByteArray := if putB zs = true then ⟨(recOf zs).toArray⟩ else ByteArray.empty
theorem put_yes {zs : List ByteArray} (h1 : zs.length ≤ 60) (h2 : (recOf zs).length ≤ 2048) : putT zs = ⟨(recOf zs).toArray⟩ ∧ putB zs = true := by
  have : putB zs = true := by simp only [putB, Bool.and_eq_true, decide_eq_true_eq]; exact ⟨h1, h2⟩
  unfold putT; rw [this]; exact ⟨rfl, rfl⟩
theorem put_no {zs : List ByteArray} (h : 60 < zs.length ∨ 2048 < (recOf zs).length) : putT zs = ⟨#[]⟩ ∧ putB zs = false := by
  have : putB zs = false := by simp only [putB, Bool.and_eq_false_iff, decide_eq_false_iff_not]; omega
  unfold putT; rw [this]; exact ⟨rfl, rfl⟩
theorem takeR {zs : List ByteArray} {k : Nat} {z : ByteArray} (h : zs[k]? = some z) : zs.take (k + 1) = zs.take k ++ [z] := by
  rw [List.take_add_one, h]; rfl
theorem rec_next {zs : List ByteArray} {k : Nat} {z : ByteArray} (h : zs[k]? = some z) : recOf (zs.take (k + 1)) = recOf (zs.take k) ++ Lib.decDigits z.size ++ [58] ++ z.data.toList := by
  rw [takeR h, recOf_snoc]
theorem rec_big {zs : List ByteArray} {k : Nat} {z : ByteArray} (h : zs[k]? = some z) (hz : 2048 < z.size) : 2048 < (recOf zs).length := by
  have h1 := recOf_len_le zs (k + 1)
  rw [takeR h] at h1
  have h2 := fld_len z
  have : (recOf (zs.take k ++ [z])).length = (recOf (zs.take k)).length + (fld z).length := by simp [recOf]
  omega
theorem fld_put (l d : List UInt8) (z : ByteArray) : (⟨l.toArray⟩ : ByteArray) ++ ⟨d.toArray⟩ ++ ⟨#[58]⟩ ++ z = ⟨(l ++ d ++ [58] ++ z.data.toList).toArray⟩ := by
  apply ByteArray.ext
  simp [ByteArray.data_append]
theorem ret_tb {a b : ByteArray} {u v : Bool} (h : a = b) (h2 : u = v) : Ending.returned (.tuple #[.string a, .bool u]) = Ending.returned (.tuple #[.string b, .bool v]) := by rw [h, h2]

set_option maxHeartbeats 2000000 in
theorem specFieldsPut_any (A : Option Addr) (n c : Nat) (zs : List ByteArray) (w : World) (h : Rd w 1 A n (zs.map Value.string)) (hm : n ≤ 1048576) (hz : ∀ z ∈ zs, z.size ≤ 1048576) :
    Calls Tryd.prog 20 #[.slice A n c] w fun r w' => r = .returned (.tuple #[.string (putT zs), .bool (putB zs)]) ∧ Below w.heap.size w w' := by
  have hln : zs.length = n := by have := h.len; simpa using this
  have H := hide h
  have HZ := hide hz
  have HL := hide hln
  clear h hz
  by_cases h60 : n ≤ 60
  · have g60 : decide ((n : Int) ≤ 60) = true := decide_eq_true (by omega)
    clear hln
    go_enter Tryd.func20, Tryd.ntmps20
    go_wp2_with fail
    go_loopw [4, 5] (fun v i wr => ∃ (k : Nat) (l : List UInt8), k ≤ n ∧ Hid (l.length ≤ 2048) ∧ Hid (recOf (zs.take k) = l) ∧ Hid (Below w.heap.size w wr) ∧ v = .string ⟨l.toArray⟩ ∧ i = .int .i64 k) (fun _ i _ => n - (intOf i).toNat)
    case atStart => exact ⟨0, [], by omega, hide (by simp), hide (by simp [recOf]), hide (Below.refl _ _), rfl, rfl⟩
    case round =>
      obtain ⟨k, l, hk, HLN, HRC, HB, rfl, rfl⟩ := hrel
      by_cases hlt : k < n
      · have HW := hide (H.out.after HB.out)
        obtain ⟨b, o, z, rfl, hb, hzk, hcell⟩ := HW.out.str_at hlt
        have hzm := HZ.out z (List.mem_of_getElem? hzk)
        have HZK := hide hzk
        clear hzk
        by_cases hbig : 2048 < z.size
        · have HN := hide (put_no (.inr (rec_big HZK.out hbig)))
          go_wp2_with fail
          go_ret2
          exact ⟨ret_tb HN.out.1.symm HN.out.2.symm, HB.out⟩
        · have HX := hide (rec_next HZK.out)
          rw [HRC.out] at HX
          have hl1 := HLN.out
          have hd1 := dec_len z.size
          have q1 : ¬ 9223372036854775807 < l.length + (Lib.decDigits z.size).length := by omega
          have q2 : ¬ 9223372036854775807 < l.length + (Lib.decDigits z.size).length + 1 := by omega
          have q3 : ¬ 9223372036854775807 < l.length + (Lib.decDigits z.size).length + 1 + z.size := by omega
          have HQ := hide (show (recOf (zs.take (k + 1))).length = l.length + (Lib.decDigits z.size).length + 1 + z.size by rw [HX.out, List.length_append, List.length_append, List.length_append, List.length_singleton, show z.data.toList.length = z.size by simp])
          clear hl1 hd1
          go_upto_region 7 with fail
          refine wp_region_held_drew (S := fun x => Below wr.heap.size wr x) (by kernel_rfl) ((Below.refl _ _).drew) (fun hH => ?_)
          refine wpAnyH_take (i := 0) (v := ?_) rfl (by kernel_rfl) (by kernel_rfl) (by kernel_rfl) (fun _ _ _ h => h) (Or.inl ⟨by rfl, fun w hS => ?_⟩) hH ?_
          rotate_left
          · have hc := (hS.cell (p := ⟨b, o + k, none⟩) hb).trans hcell; go_simp; try exact rfl
          simp only [Act.put, List.setIfInBounds_toArray, List.set_cons_zero, List.set_cons_succ, List.getElem_toArray, List.getElem_cons_zero]
          refine wpAnyH_take (i := 1) (v := ?_) rfl (by kernel_rfl) (by kernel_rfl) (by kernel_rfl) (fun _ _ _ h => h) (Or.inl ⟨by rfl, fun w hS => ?_⟩) hH ?_
          rotate_left
          · have hc := (hS.cell (p := ⟨b, o + k, none⟩) hb).trans hcell; go_simp; try exact rfl
          simp only [Act.put, List.setIfInBounds_toArray, List.set_cons_zero, List.set_cons_succ, List.getElem_toArray, List.getElem_cons_zero, List.getElem_cons_succ]
          refine wpAnyH_take (i := 2) (v := ?_) rfl (by kernel_rfl) (by kernel_rfl) (by kernel_rfl) (fun _ _ _ h => h) (Or.inl ⟨by rfl, fun w hS => ?_⟩) hH ?_
          rotate_left
          · have hc := (hS.cell (p := ⟨b, o + k, none⟩) hb).trans hcell; go_simp; try exact rfl
          simp only [Act.put, List.setIfInBounds_toArray, List.set_cons_zero, List.set_cons_succ, List.getElem_toArray, List.getElem_cons_zero, List.getElem_cons_succ]
          refine wpAnyH_take (i := 3) (v := ?_) rfl (by kernel_rfl) (by kernel_rfl) (by kernel_rfl) (fun _ _ _ h => h) (Or.inl ⟨by rfl, fun w hS => ?_⟩) hH ?_
          rotate_left
          · have hc := (hS.cell (p := ⟨b, o + k, none⟩) hb).trans hcell; go_simp; try exact rfl
          simp only [Act.put, List.setIfInBounds_toArray, List.set_cons_zero, List.set_cons_succ, List.getElem_toArray, List.getElem_cons_zero, List.getElem_cons_succ]
          refine wpAnyH_take (i := 4) (v := ?_) rfl (by kernel_rfl) (by kernel_rfl) (by kernel_rfl) (fun _ _ _ h => h) (Or.inl ⟨by rfl, fun w hS => ?_⟩) hH ?_
          rotate_left
          · have hc := (hS.cell (p := ⟨b, o + k, none⟩) hb).trans hcell; go_simp; try exact rfl
          simp only [Act.put, List.setIfInBounds_toArray, List.set_cons_zero, List.set_cons_succ, List.getElem_toArray, List.getElem_cons_zero, List.getElem_cons_succ]
          refine wpAnyH_take (i := 5) (v := ?_) rfl (by kernel_rfl) (by kernel_rfl) (by kernel_rfl) (fun _ _ _ h => h) (Or.inl ⟨by rfl, fun w hS => ?_⟩) hH ?_
          rotate_left
          · have hc := (hS.cell (p := ⟨b, o + k, none⟩) hb).trans hcell; go_simp; try exact rfl
          simp only [Act.put, List.setIfInBounds_toArray, List.set_cons_zero, List.set_cons_succ, List.getElem_toArray, List.getElem_cons_zero, List.getElem_cons_succ]
          refine wpAnyH_take (i := 9) (v := ?_) rfl (by kernel_rfl) (by kernel_rfl) (by kernel_rfl) (fun _ _ _ h => h) (Or.inl ⟨by rfl, fun w hS => ?_⟩) hH ?_
          rotate_left
          · have hc := (hS.cell (p := ⟨b, o + k, none⟩) hb).trans hcell; go_simp; try exact rfl
          simp only [Act.put, List.setIfInBounds_toArray, List.set_cons_zero, List.set_cons_succ, List.getElem_toArray, List.getElem_cons_zero, List.getElem_cons_succ]
          refine wpAnyH_take (i := 10) (v := ?_) rfl (by kernel_rfl) (by kernel_rfl) (by kernel_rfl) (fun _ _ _ h => h) (Or.inl ⟨by rfl, fun w hS => ?_⟩) hH ?_
          rotate_left
          · have hc := (hS.cell (p := ⟨b, o + k, none⟩) hb).trans hcell; go_simp; try exact rfl
          simp only [Act.put, List.setIfInBounds_toArray, List.set_cons_zero, List.set_cons_succ, List.getElem_toArray, List.getElem_cons_zero, List.getElem_cons_succ]
          refine wpAnyH_take (i := 11) (v := ?_) rfl (by kernel_rfl) (by kernel_rfl) (by kernel_rfl) (fun _ _ _ h => h) (Or.inl ⟨by rfl, fun w hS => ?_⟩) hH ?_
          rotate_left
          · have hc := (hS.cell (p := ⟨b, o + k, none⟩) hb).trans hcell; go_simp; try exact rfl
          simp only [Act.put, List.setIfInBounds_toArray, List.set_cons_zero, List.set_cons_succ, List.getElem_toArray, List.getElem_cons_zero, List.getElem_cons_succ]
          refine wpAnyH_take (i := 12) (v := ?_) rfl (by kernel_rfl) (by kernel_rfl) (by kernel_rfl) (fun _ _ _ h => h) (Or.inl ⟨by rfl, fun w hS => ?_⟩) hH ?_
          rotate_left
          · have hc := (hS.cell (p := ⟨b, o + k, none⟩) hb).trans hcell; go_simp; try exact rfl
          simp only [Act.put, List.setIfInBounds_toArray, List.set_cons_zero, List.set_cons_succ, List.getElem_toArray, List.getElem_cons_zero, List.getElem_cons_succ]
          refine wpAnyH_ready (rs := [6]) (by kernel_rfl) (by simp) (AllReadyH.cons rfl (fun K hK => ?_) AllReadyH.nil)
          go_simp
          go_at_call 32
          ((with_reducible refine (l6Dec_any z.size _ (by omega)).mono ?_); rintro r w5 ⟨rfl, hb5⟩)
          refine hK.out _ _ (hH.trans (hb5.mono hH.size)) (fun hH5 => ?_)
          clear hK K
          try simp only [Act.put, List.setIfInBounds_toArray, List.set_cons_zero, List.set_cons_succ]
          refine wpAnyH_take (i := 7) (v := ?_) rfl (by kernel_rfl) (by kernel_rfl) (by kernel_rfl) (fun _ _ _ h => h) (Or.inl ⟨by rfl, fun w hS => ?_⟩) hH5 ?_
          rotate_left
          · have hc := (hS.cell (p := ⟨b, o + k, none⟩) hb).trans hcell; go_simp; try exact rfl
          simp only [Act.put, List.setIfInBounds_toArray, List.set_cons_zero, List.set_cons_succ, List.getElem_toArray, List.getElem_cons_zero, List.getElem_cons_succ]
          refine wpAnyH_take (i := 8) (v := ?_) rfl (by kernel_rfl) (by kernel_rfl) (by kernel_rfl) (fun _ _ _ h => h) (Or.inl ⟨by rfl, fun w hS => ?_⟩) hH5 ?_
          rotate_left
          · have hc := (hS.cell (p := ⟨b, o + k, none⟩) hb).trans hcell; go_simp; try exact rfl
          simp only [Act.put, List.setIfInBounds_toArray, List.set_cons_zero, List.set_cons_succ, List.getElem_toArray, List.getElem_cons_zero, List.getElem_cons_succ]
          refine wpAnyH_take (i := 13) (v := ?_) rfl (by kernel_rfl) (by kernel_rfl) (by kernel_rfl) (fun _ _ _ h => h) (Or.inl ⟨by rfl, fun w hS => ?_⟩) hH5 ?_
          rotate_left
          · have hc := (hS.cell (p := ⟨b, o + k, none⟩) hb).trans hcell; go_simp; try exact rfl
          simp only [Act.put, List.setIfInBounds_toArray, List.set_cons_zero, List.set_cons_succ, List.getElem_toArray, List.getElem_cons_zero, List.getElem_cons_succ]
          refine wpAnyH_take (i := 14) (v := ?_) rfl (by kernel_rfl) (by kernel_rfl) (by kernel_rfl) (fun _ _ _ h => h) (Or.inl ⟨by rfl, fun w hS => ?_⟩) hH5 ?_
          rotate_left
          · have hc := (hS.cell (p := ⟨b, o + k, none⟩) hb).trans hcell; go_simp; try exact rfl
          simp only [Act.put, List.setIfInBounds_toArray, List.set_cons_zero, List.set_cons_succ, List.getElem_toArray, List.getElem_cons_zero, List.getElem_cons_succ]
          refine wpAnyH_done (by kernel_rfl) ?_ _
          rw [fld_put, ← HX.out]
          have HB5 := hide (HB.out.trans (hH5.mono HB.out.size))
          clear hH5
          obtain ⟨l2, hl2⟩ : ∃ l2, recOf (zs.take (k + 1)) = l2 := ⟨_, rfl⟩
          rw [hl2] at HQ ⊢
          have HL2 := hide hl2
          clear hl2 q1 q2 q3
          by_cases hbig2 : 2048 < l2.length
          · have HN := hide (put_no (zs := zs) (.inr (by have := recOf_len_le zs (k + 1); rw [HL2.out] at this; omega)))
            go_wp2_with fail
            go_ret2
            exact ⟨ret_tb HN.out.1.symm HN.out.2.symm, HB5.out⟩
          · go_wp2_with fail
            go_roundw
            case rel => exact ⟨k + 1, l2, by omega, hide (by omega), HL2, HB5, rfl, int_eq (by omega)⟩
            case measure => simp [intOf]; omega
      · have hkn : k = n := by omega
        have HN := hide (put_yes (zs := zs) (by rw [HL.out]; exact h60) (by have := HRC.out; rw [hkn, ← HL.out, List.take_length] at this; rw [this]; exact HLN.out))
        have HE := hide (show recOf zs = l by have := HRC.out; rw [hkn, ← HL.out, List.take_length] at this; exact this)
        clear hkn
        go_wp2_with fail
        go_ret2
        exact ⟨ret_tb (by rw [HN.out.1, HE.out]) HN.out.2.symm, HB.out⟩
  · have g60 : decide ((n : Int) ≤ 60) = false := decide_eq_false (by omega)
    have HN := hide (put_no (zs := zs) (.inl (by omega)))
    clear hln
    go_enter Tryd.func20, Tryd.ntmps20
    go_wp2_with fail
    go_loopw [4, 5] (fun v i wr => v = .string ⟨#[]⟩ ∧ i = .int .i64 0 ∧ w = wr) (fun _ _ _ => 0)
    case atStart => exact ⟨rfl, rfl, rfl⟩
    case round =>
      obtain ⟨rfl, rfl, rfl⟩ := hrel
      go_wp2_with fail
      go_ret2
      exact ⟨ret_tb HN.out.1.symm HN.out.2.symm, Below.refl _ _⟩
theorem isB_str {B b : Nat} {l : List UInt8} {s : ByteArray} {w : World} (h : Lib.BuilderAt 56 5 B b (.pointer (some ⟨b, 0, none⟩)) (Lib.byteCells l ++ Lib.strCells s) w) : Lib.IsBuilder 56 5 B b (Lib.byteCells (l ++ s.data.toList)) w := by
  have e : Lib.byteCells l ++ Lib.strCells s = Lib.byteCells (l ++ s.data.toList) := by
    unfold Lib.strCells Lib.byteCells
    rw [List.map_append]
  rw [e] at h
  exact .inr h
theorem isB_chr {B b : Nat} {l : List UInt8} {w : World} (h : Lib.BuilderAt 56 5 B b (.pointer (some ⟨b, 0, none⟩)) (Lib.byteCells l ++ [.int .u8 58]) w) : Lib.IsBuilder 56 5 B b (Lib.byteCells (l ++ [58])) w := by
  have e : Lib.byteCells l ++ [.int .u8 58] = Lib.byteCells (l ++ [58]) := by
    unfold Lib.byteCells
    rw [List.map_append]
    rfl
  rw [e] at h
  exact .inr h
theorem itoaT (n : Int) (h0 : -9223372036854775808 ≤ n) (h1 : n ≤ 9223372036854775807) (w : World) (ht : Tab w) :
    Calls Tryd.prog 34 #[.int .i64 n] w fun e w' => e = .returned (.string ⟨(Lib.itoa n).toArray⟩) ∧ ∃ k os, w' = Go.Sort.grow (w.drewN k) os := itoaC n h0 h1 w ht
theorem bcl (l : List UInt8) : (Lib.byteCells l).length = l.length := by simp [Lib.byteCells]

set_option maxHeartbeats 2000000 in
theorem implFieldsPut_any (A : Option Addr) (n c : Nat) (zs : List ByteArray) (w : World) (ht : Tab w) (h : Rd w 1 A n (zs.map Value.string)) (hm : n ≤ 1048576) (hz : ∀ z ∈ zs, z.size ≤ 1048576) :
    Calls Tryd.prog 22 #[.slice A n c] w fun r w' => r = .returned (.tuple #[.string (putT zs), .bool (putB zs)]) ∧ Below w.heap.size w w' := by
  have hln : zs.length = n := by have := h.len; simpa using this
  have H := hide h
  have HZ := hide hz
  have HL := hide hln
  have HT := hide ht
  clear h hz ht
  by_cases h60 : n ≤ 60
  · have g60 : decide ((60 : Int) < (n : Int)) = false := decide_eq_false (by omega)
    clear hln
    go_enter Tryd.func22, Tryd.ntmps22
    go_wp2_with fail
    go_loopw [12] (fun i wr => ∃ (k : Nat) (l : List UInt8), k ≤ n ∧ Hid (l.length ≤ 2048) ∧ Hid (recOf (zs.take k) = l) ∧ Hid (Lib.IsBuilder 56 5 w.heap.size w.heap.size (Lib.byteCells l) wr) ∧ Hid (Below w.heap.size w wr) ∧ i = .int .i64 k) (fun i _ => n - (intOf i).toNat)
    case atStart => exact ⟨0, [], by omega, hide (by simp), hide (by simp [recOf]), hide (Lib.fresh_isBuilder _ _ w), hide (bel1 _ _), rfl⟩
    case round =>
      obtain ⟨k, l, hk, HLN, HRC, HBD, HB, rfl⟩ := hrel
      by_cases hlt : k < n
      · have HW := hide (H.out.after HB.out)
        obtain ⟨b, o, z, rfl, hb, hzk, hcell⟩ := HW.out.str_at hlt
        have hzm := HZ.out z (List.mem_of_getElem? hzk)
        have HX := hide (rec_next hzk)
        rw [HRC.out] at HX
        have HD1 := hide (dec_len z.size)
        clear hzk
        go_wp2_with fail
        ((with_reducible refine (itoaT z.size (by omega) (by omega) _ (HT.out.after HB.out)).mono ?_); rintro r x1 ⟨rfl, j, os, rfl⟩)
        rw [itoa_nat]
        have HBD := hide (isB_after HBD.out (below_grow wr j os))
        have HB1 := hide (HB.out.trans ((below_grow wr j os).mono HB.out.size))
        obtain ⟨x1, hx1⟩ : ∃ x1, x1 = Go.Sort.grow (wr.drewN j) os := ⟨_, rfl⟩
        rw [← hx1] at HBD HB1 ⊢
        clear hx1
        obtain ⟨d, hd⟩ : ∃ d, d = Lib.decDigits z.size := ⟨_, rfl⟩
        rw [← hd] at HX HD1 ⊢
        clear hd
        have HS1 := hide (show (Lib.byteCells l).length + (⟨d.toArray⟩ : ByteArray).size ≤ 140737488355328 by rw [bcl]; have h1 := HLN.out; have h2 := HD1.out; show l.length + d.toArray.size ≤ _; rw [List.size_toArray]; omega)
        go_wp2_with fail
        ((with_reducible refine (wString w.heap.size w.heap.size _ _ _ HBD.out HS1.out HB1.out.size).mono ?_); rintro r x2 ⟨rfl, hB2, hb2⟩)
        have HBD2 := hide (show Lib.IsBuilder 56 5 w.heap.size w.heap.size (Lib.byteCells (l ++ d)) x2 from isB_str hB2)
        have HB2 := hide (HB1.out.trans hb2)
        clear hB2 hb2
        go_wp2_with fail
        ((with_reducible refine (wByte w.heap.size w.heap.size _ _ _ HBD2.out (by rw [bcl, List.length_append]; have h1 := HLN.out; have h2 := HD1.out; omega) HB2.out.size).mono ?_); rintro r x3 ⟨rfl, hB3, hb3⟩)
        have HBD3 := hide (show Lib.IsBuilder 56 5 w.heap.size w.heap.size (Lib.byteCells (l ++ d ++ [58])) x3 from isB_chr hB3)
        have HB3 := hide (HB2.out.trans hb3)
        clear hB3 hb3
        go_wp2_with fail
        ((with_reducible refine (wString w.heap.size w.heap.size _ _ _ HBD3.out (by rw [bcl, List.length_append, List.length_append, List.length_singleton]; have h1 := HLN.out; have h2 := HD1.out; omega) HB3.out.size).mono ?_); rintro r x4 ⟨rfl, hB4, hb4⟩)
        have HBD4 := hide (isB_str hB4)
        have HB4 := hide (HB3.out.trans hb4)
        rw [← HX.out] at HBD4
        clear hB4 hb4
        obtain ⟨l2, hl2⟩ : ∃ l2, recOf (zs.take (k + 1)) = l2 := ⟨_, rfl⟩
        rw [hl2] at HBD4
        have HL2 := hide hl2
        clear hl2
        go_wp2_with fail
        ((with_reducible refine (bLen w.heap.size w.heap.size _ _ HBD4.out).mono ?_); rintro r x5 ⟨rfl, rfl⟩)
        rw [bcl]
        by_cases hbig2 : 2048 < l2.length
        · have HN := hide (put_no (zs := zs) (.inr (by have := recOf_len_le zs (k + 1); rw [HL2.out] at this; omega)))
          go_wp2_with fail
          go_ret2
          exact ⟨ret_tb HN.out.1.symm HN.out.2.symm, HB4.out⟩
        · go_wp2_with fail
          go_roundw
          case rel => exact ⟨k + 1, l2, by omega, hide (by omega), HL2, HBD4, HB4, int_eq (by omega)⟩
          case measure => simp [intOf]; omega
      · have hkn : k = n := by omega
        have HN := hide (put_yes (zs := zs) (by rw [HL.out]; exact h60) (by have := HRC.out; rw [hkn, ← HL.out, List.take_length] at this; rw [this]; exact HLN.out))
        have HE := hide (show recOf zs = l by have := HRC.out; rw [hkn, ← HL.out, List.take_length] at this; exact this)
        clear hkn
        go_wp2_with fail
        ((with_reducible refine (bStringF _ _ _ _ (Lib.IsBuilderF.of HBD.out) HB.out.size).mono ?_); rintro r x1 ⟨rfl, hB1, hb1⟩)
        have HB1 := hide (HB.out.trans hb1)
        clear hB1 hb1
        go_wp2_with fail
        go_ret2
        exact ⟨ret_tb (by rw [HN.out.1, HE.out]) HN.out.2.symm, HB1.out⟩
  · have g60 : decide ((60 : Int) < (n : Int)) = true := decide_eq_true (by omega)
    have HN := hide (put_no (zs := zs) (.inl (by omega)))
    clear hln
    go_enter Tryd.func22, Tryd.ntmps22
    go_wp2_with fail
    go_ret2
    exact ⟨ret_tb HN.out.1.symm HN.out.2.symm, Below.refl _ _⟩
end Go.Proofs.YtnagmagjdglmoaaDoor
