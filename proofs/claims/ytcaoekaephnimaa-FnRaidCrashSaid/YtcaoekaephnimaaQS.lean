/- Columns of a stripe: half, xor, l4Half, l4Other, l4Cut. -/
import Derived.Test.YtcaoekaephnimaaQA
import Derived.Laws.CopyOwn
import Derived.Lib.BufferWrite
import Derived.Laws.BitsAllLaws
import Derived.Laws.BitsLemmas
namespace Go.Proofs.Ytcaoekaephnimaa
open Go.RowKit

/-- the exclusive or, as long as the first one -/
def xr (a b : List UInt8) : List UInt8 := a.mapIdx fun i x => x ^^^ b.getD i 0
/-- the same, so far -/
def xrk (k : Nat) (a b : List UInt8) : List UInt8 := a.mapIdx fun i x => if i < k then x ^^^ b.getD i 0 else x
theorem xr_len (a b : List UInt8) : (xr a b).length = a.length := by simp [xr]
theorem xrk_len (k : Nat) (a b : List UInt8) : (xrk k a b).length = a.length := by simp [xrk]
theorem xr_at {a b : List UInt8} {i : Nat} {x : UInt8} (h : a[i]? = some x) : (xr a b)[i]? = some (x ^^^ b.getD i 0) := by simp [xr, List.getElem?_mapIdx, h]
theorem xrk_at {a b : List UInt8} {k i : Nat} {x : UInt8} (h : a[i]? = some x) : (xrk k a b)[i]? = some (if i < k then x ^^^ b.getD i 0 else x) := by simp [xrk, List.getElem?_mapIdx, h]
theorem xrk_zero (a b : List UInt8) : xrk 0 a b = a := by
  apply List.ext_getElem?
  intro i
  simp only [xrk, List.getElem?_mapIdx, Nat.not_lt_zero, if_false]
  cases a[i]? <;> rfl
theorem xrk_all (a b : List UInt8) (k : Nat) (h : b.length ≤ k) : xrk k a b = xr a b := by
  unfold xrk xr
  congr 1
  funext i x
  by_cases hi : i < k
  · rw [if_pos hi]
  · rw [if_neg hi, List.getD_eq_getElem?_getD, List.getElem?_eq_none (by omega)]
    simp
theorem xrk_step {a b : List UInt8} {k : Nat} {x y : UInt8} (hx : a[k]? = some x) (hy : b[k]? = some y) : (Lib.byteCells (xrk k a b)).toArray.setIfInBounds k (.int .u8 ((x ^^^ y).toNat : Int)) = (Lib.byteCells (xrk (k + 1) a b)).toArray := by
  have hk : k < a.length := (List.getElem?_eq_some_iff.1 hx).1
  apply Array.ext'
  apply List.ext_getElem?
  intro i
  simp only [Array.getElem?_toList, Array.getElem?_setIfInBounds, List.getElem?_toArray, Lib.byteCells, List.getElem?_map]
  by_cases e : k = i
  · subst e
    rw [if_pos rfl, if_pos (by simp [xrk_len, hk]), xrk_at hx, if_pos (by omega)]
    simp [List.getD_eq_getElem?_getD, hy]
  · rw [if_neg e]
    congr 1
    cases ha : a[i]? with
    | none => rw [List.getElem?_eq_none (by rw [xrk_len]; exact List.getElem?_eq_none_iff.1 ha), List.getElem?_eq_none (by rw [xrk_len]; exact List.getElem?_eq_none_iff.1 ha)]
    | some z =>
      rw [xrk_at ha, xrk_at ha]
      by_cases h : i < k
      · rw [if_pos h, if_pos (by omega)]
      · rw [if_neg h, if_neg (by omega)]
theorem ofInt_8 (a : Nat) (ha : a < 256) : (BitVec.ofInt 8 (a : Int)).toNat = a := by
  rw [BitVec.ofInt_natCast, BitVec.toNat_ofNat]; exact Nat.mod_eq_of_lt (by omega)
theorem xor_u8 (x y : UInt8) : bits .xor .u8 (x.toNat : Int) (y.toNat : Int) = ((x ^^^ y).toNat : Int) := by
  have hx := x.toNat_lt
  have hy := y.toNat_lt
  have hq : x.toNat ^^^ y.toNat < 2 ^ 8 := Nat.xor_lt_two_pow (by omega) (by omega)
  show IntKind.u8.wrap ((BitVec.ofInt 8 (x.toNat : Int) ^^^ BitVec.ofInt 8 (y.toNat : Int)).toNat : Int) = _
  rw [BitVec.toNat_xor, ofInt_8 _ (by omega), ofInt_8 _ (by omega), UInt8.toNat_xor, IntKind.wrap_u8]
  omega

set_option maxHeartbeats 400000 in
theorem l4Half_any (n : Nat) (hn : n ≤ 1000000000) (w : World) : Calls Try.prog 96 #[.int .i64 n] w fun r w' => r = .returned (.int .i64 ((n + 1) / 2 : Nat)) ∧ w = w' := by
  go_enter Try.func96, Try.ntmps96
  go_wp2
  go_ret
  exact ⟨ret_int (by omega), rfl⟩

/-- copy, where its run is known -/
theorem copy_op {w : World} {ops : Array Oper} {rest : List Oper} {o : Oper} {a : Act} {Q : Exit → Act → World → Prop} (hgd : o.guard = none) (d s : Operand) (dT sT : TypeId)
    (ho : o.op = .call { callee := .builtin .copy, args := #[d, s], argTypes := #[dT, sT] }) (v u : Value) (hd : a.eval d = v) (hs : a.eval s = u) {v' : Value} {w' : World}
    (hrun : (Builtin.copy_ #[dT, sT] o.type #[v, u]).run Try.prog w = .ok v' w') (h : wpList Try.prog ops Q rest (a.put o.dst v') w') : wpList Try.prog ops Q (o :: rest) a w := by
  refine wpList_plain hgd fun K hK => ?_
  unfold Oper.wp
  simp [execOp, ho, resolve, invoke, builtin, hd, hs, hrun, Result.andThen]
  exact hK _ _ h

/-- make([]byte, n) -/
theorem make_u8s (n : Nat) (hn : n ≤ 1000000000) (w : World) :
    (Instr.makeSlice 43 (.int .i64 (n : Int)) (.int .i64 (n : Int))).run Try.prog w = .ok (.slice (some ⟨w.heap.size, 0, none⟩) n n) (w.alloc (.cells (madeCells #[.int .u8 0] n) 5)) := by
  obtain ⟨i, hi, hz, hs, hb⟩ := info_parts info_u8
  have hr := run_make (P := Try.prog) w 43 5 i _ Try.underlying43 hi hz .i64 .i64 n n (by omega) (by omega) (by rw [hb]; omega) (by omega)
  simp only [Int.toNat_natCast, hs, Nat.mul_one] at hr
  exact hr
/-- copy(b, s) of a text that fills a row of the call's own -/
theorem copy_full (w : World) (n : Nat) (s : ByteArray) (hs : s.size = n) : ∃ W : World, (∀ ty, (Builtin.copy_ #[43, 9] ty #[.slice (some ⟨w.heap.size, 0, none⟩) n n, .string s]).run Try.prog (w.alloc (.cells (madeCells #[.int .u8 0] n) 5)) = .ok (goInt n) W) ∧
    Bk W w.heap.size 5 (Lib.byteCells s.data.toList).toArray ∧ Below w.heap.size w W := by
  obtain ⟨i, hi, hz, hz1, hb⟩ := info_parts info_u8
  have hsz : (madeCells #[.int .u8 0] n).size = n := size_madeCells _ _
  refine ⟨(w.alloc (.cells (madeCells #[.int .u8 0] n) 5)).setRow w.heap.size (Lib.byteCells s.data.toList).toArray, fun ty => ?_, ?_, ?_⟩
  · have hr := Lib.run_copy_row_string (P := Try.prog) (w.alloc (.cells (madeCells #[.int .u8 0] n) 5)) 43 9 ty 5 w.heap.size 0 n n s (madeCells #[.int .u8 0] n) 5 Try.underlying43 (by rw [hi]; simp [hz1]) (Bk.fresh w _ _) (by omega) (by omega)
    rw [hs, List.drop_eq_nil_of_le (by rw [Array.length_toList]; omega), List.append_nil, List.take_zero, List.nil_append] at hr
    exact hr
  · exact setRow_heap _ _ _ _ _ _ (Bk.fresh w _ _)
  · exact below_setRow (bel1 w _) (Nat.le_refl _) _
theorem str_of_bk {w : World} {g : Nat} {l : List UInt8} (h : Bk w g 5 (Lib.byteCells l).toArray) (n c : Nat) (hn : n = l.length) :
    (convert 43 9 (.slice (some ⟨g, 0, none⟩) n c)).run Try.prog w = .ok (.string ⟨l.toArray⟩) w := by
  subst hn
  refine run_convert_bytes_back w 43 9 5 _ c l Try.underlying43 Try.underlying5 Try.underlying9 (fun j hj => ?_)
  rw [Addr.add_lit, Nat.zero_add, h.cell]
  simp [Lib.byteCells, List.getElem?_eq_getElem hj]

theorem take_next {l : List UInt8} {out : List UInt8} {k : Nat} {c : UInt8} (h : out = l.take k) (hc : l[k]? = some c) : out ++ [c] = l.take (k + 1) := by
  rw [h, List.take_add_one, hc]; rfl
theorem xr_one {a b : List UInt8} {k : Nat} {x y : UInt8} (hx : a[k]? = some x) (hy : b[k]? = some y) : (xr a b)[k]? = some (x ^^^ y) := by
  rw [xr_at hx, List.getD_eq_getElem?_getD, hy]; rfl
theorem xr_none {a b : List UInt8} {k : Nat} {x : UInt8} (hx : a[k]? = some x) (hy : b[k]? = none) : (xr a b)[k]? = some x := by
  rw [xr_at hx, List.getD_eq_getElem?_getD, hy]
  show some (x ^^^ 0) = some x
  simp

/-- the columns of a block -/
def parT (s : ByteArray) : ByteArray := ⟨(xr (s.data.toList.take ((s.size + 1) / 2)) (s.data.toList.drop ((s.size + 1) / 2))).toArray⟩
def cutT (s : ByteArray) : List ByteArray := [s.extract 0 ((s.size + 1) / 2), s.extract ((s.size + 1) / 2) s.size, parT s]
/-- three texts in a new row -/
def Cols (cs : List ByteArray) (w : World) (A : Value) (w' : World) : Prop := ∃ g, A = .slice (some ⟨g, 0, none⟩) cs.length cs.length ∧ w.heap.size ≤ g ∧ Bk w' g 9 (cs.map Value.string).toArray ∧ Below w.heap.size w w'

set_option maxHeartbeats 2000000 in
theorem l4Cut_any (s : ByteArray) (hs : s.size ≤ 1000000000) (w : World) :
    Calls Try.prog 77 #[.string s] w fun r w' => ∃ A, r = .returned A ∧ Cols (cutT s) w A w' := by
  obtain ⟨i0, hi, hz0, hz1, hz2⟩ := info_parts info_u8
  obtain ⟨q, hh⟩ : ∃ q, q = (s.size + 1) / 2 := ⟨_, rfl⟩
  have hl : q ≤ s.size := by omega
  have HH := hide hh
  go_enter Try.func77, Try.ntmps77
  go_wp2_with fail
  refine (l4Half_any s.size hs _).mono ?_; rintro r w1 ⟨rfl, rfl⟩
  rw [← hh]
  clear hh
  go_wp2_with fail
  go_loopw [4, 5] (fun v i wr => ∃ (k : Nat) (out : List UInt8), k ≤ q ∧ Hid (out.length = k) ∧ Hid (out = (xr (s.data.toList.take q) (s.data.toList.drop q)).take k) ∧ Hid (wr.ownsRow w.heap.size 5 1 v out.length (Lib.byteCells out)) ∧ Hid (Below w.heap.size w wr) ∧ i = .int .i64 k) (fun _ i _ => q - (intOf i).toNat)
  case atStart => exact ⟨0, [], by omega, hide rfl, hide rfl, hide (World.ownsRow_lit w #[] 0 (Nat.le_refl _) (by simp [maxLen]) rfl), hide (bel1 _ _), rfl⟩
  case round =>
    obtain ⟨k, out, hk, HL, HO, HW, HF, rfl⟩ := hrel
    obtain ⟨v, rfl⟩ : ∃ v : Value, v = u4 := ⟨_, rfl⟩
    by_cases hlt : k < q
    · have hkp : k < s.size := by omega
      have hx : (s.data.toList.take q)[k]? = some s[k] := by rw [List.getElem?_take_of_lt hlt]; exact at_of s k hkp
      have j0 : (0 : Int) ≤ (k : Int) := by omega
      have j1 : (k : Int) < (s.size : Int) := by omega
      have j2 : (k : Int) < (q : Int) := by omega
      have jw : IntKind.i64.wrap ((q : Int) + (k : Int)) = (q : Int) + (k : Int) := by rw [IntKind.wrap_i64]; omega
      have jn : ((q : Int) + (k : Int)).toNat = q + k := by omega
      have jp : (0 : Int) ≤ (q : Int) + (k : Int) := by omega
      by_cases hin : q + k < s.size
      · have hy : (s.data.toList.drop q)[k]? = some s[q + k] := by rw [List.getElem?_drop]; exact at_of s (q + k) hin
        have j3 : (q : Int) + (k : Int) < (s.size : Int) := by omega
        obtain ⟨c, hc⟩ : ∃ c, c = s[k] ^^^ s[q + k] := ⟨_, rfl⟩
        have hxy := xor_u8 s[k] s[q + k]
        rw [← hc] at hxy
        have HN := hide (take_next (c := c) HO.out (by rw [hc]; exact xr_one hx hy))
        have HX := hide (show [Value.int .u8 (c.toNat : Int)] = Lib.byteCells [c] from rfl)
        clear hx hy hc
        have HW1 := hide ((own_drewN HW.out 0).alloc (.cells #[.int .u8 c.toNat] 5))
        have HFy := hide (HF.out.alloc HF.out.size (.cells #[.int .u8 c.toNat] 5))
        go_wp2_with (at_builtin; refine wpList_append_own _ (by rfl) _ _ 43 (by rfl) w.heap.size 5 i0 (.int .u8 0) 1 1 Try.underlying43 hi hz0 hz1 hz2 rfl (by decide) _ out.length (Lib.byteCells out) (by rfl) HW1.out ⟨wr.heap.size, 0, none⟩ 1 1 [.int .u8 c.toNat] (by rfl) rfl (World.news_of_block (heap_alloc_new _ _)) (fun u hu => by simp only [List.mem_singleton] at hu; subst hu; rfl) (by unfold maxLen; have := HL.out; omega) (by have := HL.out; omega) (by have := HF.out.size; simp; omega) ?_; intro v' w1 hown' hgrow _; have HO1 := hide (own_snoc (more := [c]) hown' HX.out rfl); have HB1 := hide (bel_grown HFy.out HW1.out hgrow); clear hown' hgrow)
        go_roundw
        case rel => exact ⟨k + 1, out ++ [c], by omega, hide (by have := HL.out; simp; omega), HN, HO1, HB1, int_eq (by omega)⟩
        case measure => (simp [intOf]; try omega)
      · have j3 : ¬ (q : Int) + (k : Int) < (s.size : Int) := by omega
        have HN := hide (take_next HO.out (xr_none hx (by rw [List.getElem?_drop]; exact none_of s (q + k) (by omega))))
        have HX := hide (show [Value.int .u8 (s[k].toNat : Int)] = Lib.byteCells [s[k]] from rfl)
        clear hx
        have HW1 := hide ((own_drewN HW.out 0).alloc (.cells #[.int .u8 s[k].toNat] 5))
        have HFy := hide (HF.out.alloc HF.out.size (.cells #[.int .u8 s[k].toNat] 5))
        go_wp2_with (at_builtin; refine wpList_append_own _ (by rfl) _ _ 43 (by rfl) w.heap.size 5 i0 (.int .u8 0) 1 1 Try.underlying43 hi hz0 hz1 hz2 rfl (by decide) _ out.length (Lib.byteCells out) (by rfl) HW1.out ⟨wr.heap.size, 0, none⟩ 1 1 [.int .u8 s[k].toNat] (by rfl) rfl (World.news_of_block (heap_alloc_new _ _)) (fun u hu => by simp only [List.mem_singleton] at hu; subst hu; rfl) (by unfold maxLen; have := HL.out; omega) (by have := HL.out; omega) (by have := HF.out.size; simp; omega) ?_; intro v' w1 hown' hgrow _; have HO1 := hide (own_snoc (more := [s[k]]) hown' HX.out rfl); have HB1 := hide (bel_grown HFy.out HW1.out hgrow); clear hown' hgrow)
        go_roundw
        case rel => exact ⟨k + 1, out ++ [s[k]], by omega, hide (by have := HL.out; simp; omega), HN, HO1, HB1, int_eq (by omega)⟩
        case measure => (simp [intOf]; try omega)
    · have e : k = q := by omega
      have hcv := str_of_own (show wr.drew.ownsRow w.heap.size 5 1 v out.length (Lib.byteCells out) from HW.out)
      go_wp2_with fail
      go_region
      go_wp2_with fail
      go_ret
      have e3 : (xr (s.data.toList.take q) (s.data.toList.drop q)).take q = xr (s.data.toList.take q) (s.data.toList.drop q) := List.take_of_length_le (by rw [xr_len, List.length_take]; omega)
      refine ⟨_, rfl, wr.heap.size, rfl, HF.out.size, ?_, (HF.out.alloc HF.out.size _).drew⟩
      have hcut : (cutT s).map Value.string = [.string (s.extract 0 q), .string (s.extract q s.size), .string ⟨out.toArray⟩] := by
        unfold cutT parT
        rw [← HH.out, HO.out, e, e3]
        rfl
      rw [hcut]
      exact Bk.fresh wr _ _

theorem ext_size (s : ByteArray) (i j : Nat) (h : i ≤ j) (hj : j ≤ s.size) : (s.extract i j).size = j - i := by rw [ByteArray.size_extract]; omega
theorem ext_list (s : ByteArray) (i j : Nat) : (s.extract i j).data.toList = (s.data.toList.take j).drop i := by
  rw [ByteArray.data_extract]
  simp [List.extract_eq_take_drop, List.drop_take]

theorem part_of (s : ByteArray) (q : Nat) (h : q = (s.size + 1) / 2) : ByteArray.mk (xr (s.extract 0 q).data.toList (s.extract q s.size).data.toList).toArray = parT s := by
  unfold parT
  rw [ext_list, ext_list, ← h, List.drop_zero, List.take_of_length_le (i := s.size) (Nat.le_of_eq Array.length_toList)]
theorem cut_of (s : ByteArray) (q : Nat) (h : q = (s.size + 1) / 2) : (cutT s).map Value.string = [.string (s.extract 0 q), .string (s.extract q s.size), .string (parT s)] := by
  unfold cutT
  rw [← h]
  rfl

end Go.Proofs.Ytcaoekaephnimaa

/- What StripeJoin answers, in plain words. -/
namespace Go.Proofs.Ytcaoekaephnimaa
open Go.RowKit

/-- there is a block of these columns -/
def joinOk (cs : List ByteArray) (size lost : Int) : Bool :=
  match cs with
  | [a, b, c] => inR size 1 128 && inR lost (-1) 1 && (lost == 0 || (a.size : Int) == (size + 1) / 2) && (lost == 1 || (b.size : Int) == size - (size + 1) / 2) && (lost == -1 || (c.size : Int) == (size + 1) / 2)
  | _ => false
/-- the other column -/
def othT (c x : ByteArray) : ByteArray := ⟨(xr c.data.toList x.data.toList).toArray⟩
/-- the block -/
def joinT (cs : List ByteArray) (size lost : Int) : ByteArray :=
  match cs with
  | [a, b, c] => if lost = 0 then othT c b ++ b else if lost = 1 then a ++ (othT c a).extract 0 (size - (size + 1) / 2).toNat else a ++ b
  | _ => ⟨#[]⟩
/-- what it answers -/
def joinV (cs : List ByteArray) (size lost : Int) : Value := if joinOk cs size lost then .tuple #[.string (joinT cs size lost), .bool true] else .tuple #[.string ⟨#[]⟩, .bool false]

theorem oth_size (c x : ByteArray) : (othT c x).size = c.size := by
  show (xr c.data.toList x.data.toList).toArray.size = c.data.size
  simp [xr_len]
theorem oth_take (c x : ByteArray) (m : Nat) (_h : m ≤ c.size) : ByteArray.mk ((xr c.data.toList x.data.toList).take m).toArray = (othT c x).extract 0 m := by
  have e : ((othT c x).extract 0 m).data = ((xr c.data.toList x.data.toList).take m).toArray := by
    rw [ByteArray.data_extract]
    apply Array.ext'
    simp [othT, List.extract_eq_take_drop]
  rw [← e]
theorem oth_all (c x : ByteArray) (m : Nat) (h : m = c.size) : ByteArray.mk ((xr c.data.toList x.data.toList).take m).toArray = othT c x := by
  subst h
  unfold othT
  rw [List.take_of_length_le (by rw [xr_len, Array.length_toList]; exact Nat.le_refl _)]


section
variable {a b c : ByteArray} {size lost q m : Int}
theorem join_a (hq : (size + 1) / 2 = q) (hl : (lost == 0) = false) (e : ((a.size : Int) == q) = false) : joinV [a, b, c] size lost = .tuple #[.string ⟨#[]⟩, .bool false] := by
  have h : joinOk [a, b, c] size lost = false := by simp only [joinOk]; rw [hq, e, hl]; simp
  unfold joinV
  rw [if_neg (by rw [h]; decide)]
theorem join_b (hm : size - (size + 1) / 2 = m) (hl : (lost == 1) = false) (e : ((b.size : Int) == m) = false) : joinV [a, b, c] size lost = .tuple #[.string ⟨#[]⟩, .bool false] := by
  have h : joinOk [a, b, c] size lost = false := by simp only [joinOk]; rw [hm, e, hl]; simp
  unfold joinV
  rw [if_neg (by rw [h]; decide)]
theorem join_c (hq : (size + 1) / 2 = q) (hl : (lost == -1) = false) (e : ((c.size : Int) == q) = false) : joinV [a, b, c] size lost = .tuple #[.string ⟨#[]⟩, .bool false] := by
  have h : joinOk [a, b, c] size lost = false := by simp only [joinOk]; rw [hq, e, hl]; simp
  unfold joinV
  rw [if_neg (by rw [h]; decide)]
theorem join_r (h : inR size 1 128 = false) : joinV [a, b, c] size lost = .tuple #[.string ⟨#[]⟩, .bool false] := by
  have h : joinOk [a, b, c] size lost = false := by simp only [joinOk]; rw [h]; simp
  unfold joinV
  rw [if_neg (by rw [h]; decide)]
theorem join_l (h : inR lost (-1) 1 = false) : joinV [a, b, c] size lost = .tuple #[.string ⟨#[]⟩, .bool false] := by
  have h : joinOk [a, b, c] size lost = false := by simp only [joinOk]; rw [h]; simp
  unfold joinV
  rw [if_neg (by rw [h]; decide)]
theorem join_m (hq : (size + 1) / 2 = q) (hm : size - (size + 1) / 2 = m) (h1 : inR size 1 128 = true) (e1 : ((a.size : Int) == q) = true) (e2 : ((b.size : Int) == m) = true) : joinV [a, b, c] size (-1) = .tuple #[.string (a ++ b), .bool true] := by
  have h : joinOk [a, b, c] size (-1) = true := by simp only [joinOk]; rw [hm, hq, e1, e2, h1]; simp [inR]
  unfold joinV
  rw [if_pos h]
  simp [joinT]
theorem join_0 (hq : (size + 1) / 2 = q) (hm : size - (size + 1) / 2 = m) (h1 : inR size 1 128 = true) (e1 : ((b.size : Int) == m) = true) (e2 : ((c.size : Int) == q) = true) : joinV [a, b, c] size 0 = .tuple #[.string (othT c b ++ b), .bool true] := by
  have h : joinOk [a, b, c] size 0 = true := by simp only [joinOk]; rw [hm, hq, e1, e2, h1]; simp [inR]
  unfold joinV
  rw [if_pos h]
  simp [joinT]
theorem join_1 {m : Nat} (hq : (size + 1) / 2 = q) (hm : size - (size + 1) / 2 = (m : Int)) (h1 : inR size 1 128 = true) (e1 : ((a.size : Int) == q) = true) (e2 : ((c.size : Int) == q) = true) : joinV [a, b, c] size 1 = .tuple #[.string (a ++ (othT c a).extract 0 m), .bool true] := by
  have h : joinOk [a, b, c] size 1 = true := by simp only [joinOk]; rw [hq, e1, e2, h1]; simp [inR]
  unfold joinV
  rw [if_pos h]
  have h2 : joinT [a, b, c] size 1 = a ++ (othT c a).extract 0 m := by
    unfold joinT
    simp only []
    rw [if_neg (by decide), if_pos trivial, hm]
    rfl
  rw [h2]
end
end Go.Proofs.Ytcaoekaephnimaa

/- The columns of a block give it back, in plain words. -/
namespace Go.Proofs.Ytcaoekaephnimaa
open Go.RowKit
set_option linter.unusedVariables false

theorem xor_self3 (x y : UInt8) : x ^^^ y ^^^ y = x := by rw [UInt8.xor_assoc, UInt8.xor_self, UInt8.xor_zero]
theorem xor_self4 (x y : UInt8) : x ^^^ y ^^^ x = y := by rw [UInt8.xor_comm x y, xor_self3]
theorem xr_xr (a b : List UInt8) : xr (xr a b) b = a := by
  apply List.ext_getElem?
  intro i
  cases h : a[i]? with
  | none => rw [List.getElem?_eq_none (by rw [xr_len, xr_len]; exact List.getElem?_eq_none_iff.1 h)]
  | some x => rw [xr_at (xr_at h), xor_self3]
theorem xr_back (a b : List UInt8) (hb : b.length ≤ a.length) : (xr (xr a b) a).take b.length = b := by
  apply List.ext_getElem?
  intro i
  rw [List.getElem?_take]
  by_cases hi : i < b.length
  · rw [if_pos hi]
    have ha : a[i]? = some a[i] := List.getElem?_eq_getElem (by omega)
    rw [xr_at (xr_at ha), List.getD_eq_getElem?_getD, List.getD_eq_getElem?_getD, ha, List.getElem?_eq_getElem hi]
    show some (a[i] ^^^ b[i] ^^^ a[i]) = some b[i]
    rw [xor_self4]
  · rw [if_neg hi, List.getElem?_eq_none (by omega)]
/-- the parts of a block -/
theorem cut_parts (s : ByteArray) : ∃ x y, cutT s = [x, y, parT s] ∧ x ++ y = s ∧ x.size = (s.size + 1) / 2 ∧ y.size = s.size - (s.size + 1) / 2 ∧ (parT s).size = (s.size + 1) / 2 ∧ othT (parT s) y = x ∧ (othT (parT s) x).extract 0 y.size = y := by
  have hq : (s.size + 1) / 2 ≤ s.size := by omega
  have hl : s.data.toList.length = s.size := Array.length_toList
  refine ⟨s.extract 0 ((s.size + 1) / 2), s.extract ((s.size + 1) / 2) s.size, rfl, ?_, ?_, ?_, ?_, ?_, ?_⟩
  · apply ByteArray.ext
    rw [ByteArray.data_append]
    apply Array.ext'
    rw [Array.toList_append, ext_list, ext_list, List.drop_zero, List.take_of_length_le (i := s.size) (by omega), List.take_append_drop]
  · rw [ext_size _ _ _ (by omega) (by omega)]; omega
  · rw [ext_size _ _ _ (by omega) (by omega)]
  · show (xr _ _).toArray.size = _
    rw [List.size_toArray, xr_len, List.length_take]
    omega
  · apply ByteArray.ext
    apply Array.ext'
    show xr (xr _ _) (s.extract ((s.size + 1) / 2) s.size).data.toList = _
    rw [ext_list, ext_list, List.drop_zero, List.take_of_length_le (i := s.size) (by omega)]
    exact xr_xr _ _
  · apply ByteArray.ext
    apply Array.ext'
    rw [ext_list, ext_list, List.drop_zero, List.take_of_length_le (i := s.size) (by omega), ext_size _ _ _ (by omega) (by omega)]
    show (xr (xr _ _) (s.extract 0 ((s.size + 1) / 2)).data.toList).take _ = _
    rw [ext_list, List.drop_zero]
    have h := xr_back (s.data.toList.take ((s.size + 1) / 2)) (s.data.toList.drop ((s.size + 1) / 2)) (by rw [List.length_drop, List.length_take]; omega)
    rw [List.length_drop, hl] at h
    exact h
/-- each column but one is enough -/
theorem cut_join (s : ByteArray) (lost : Int) (h : inR s.size 1 128 = true) (hl : lost = -1 ∨ lost = 0 ∨ lost = 1) : joinV (cutT s) s.size lost = .tuple #[.string s, .bool true] := by
  obtain ⟨x, y, e, hs, hx, hy, hz, h0, h1⟩ := cut_parts s
  have hq : ((s.size : Int) + 1) / 2 = (((s.size + 1) / 2 : Nat) : Int) := by omega
  have hm : (s.size : Int) - ((s.size : Int) + 1) / 2 = ((s.size - (s.size + 1) / 2 : Nat) : Int) := by omega
  have ex : ((x.size : Int) == (((s.size + 1) / 2 : Nat) : Int)) = true := by rw [hx]; exact beq_self_eq_true _
  have ey : ((y.size : Int) == ((s.size - (s.size + 1) / 2 : Nat) : Int)) = true := by rw [hy]; exact beq_self_eq_true _
  have ez : (((parT s).size : Int) == (((s.size + 1) / 2 : Nat) : Int)) = true := by rw [hz]; exact beq_self_eq_true _
  rw [e]
  rcases hl with rfl | rfl | rfl
  · rw [join_m hq hm h ex ey, hs]
  · rw [join_0 hq hm h ey ez, h0, hs]
  · rw [join_1 hq hm h ex ez, ← hy, h1, hs]
end Go.Proofs.Ytcaoekaephnimaa
