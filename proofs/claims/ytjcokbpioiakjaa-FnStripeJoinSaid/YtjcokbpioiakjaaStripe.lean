/- Columns of a stripe: half, xor, l4Half, l4Other, l4Cut. -/
import Derived.Test.YtjcokbpioiakjaaStrs
import Derived.Test.YtjcokbpioiakjaaOwn
import Derived.Test.YtjcokbpioiakjaaRange
import Derived.Laws.CopyOwn
import Derived.Lib.BufferWrite
import Derived.Laws.BitsAllLaws
import Derived.Laws.BitsLemmas
namespace Go.Proofs.Ytjcokbpioiakjaa
open Go.RowKit

/-- the exclusive or, as long as the first one -/
def xr (a b : List UInt8) : List UInt8 := a.mapIdx fun i x => x ^^^ b.getD i 0
/-- the same, so far -/
def xrk (k : Nat) (a b : List UInt8) : List UInt8 := a.mapIdx fun i x => if i < k then x ^^^ b.getD i 0 else x
theorem xr_len (a b : List UInt8) : (xr a b).length = a.length := by simp [xr]
theorem xrk_len (k : Nat) (a b : List UInt8) : (xrk k a b).length = a.length := by simp [xrk]
theorem xr_at {a b : List UInt8} {i : Nat} {x : UInt8} (h : a[i]? = some x) : (xr a b)[i]? = some (x ^^^ b.getD i 0) := by simp [xr, List.getElem?_mapIdx, h]
theorem xrk_at {a b : List UInt8} {k i : Nat} {x : UInt8} (h : a[i]? = some x) : (xrk k a b)[i]? = some (if i < k then x ^^^ b.getD i 0 else x) := by simp [xrk, List.getElem?_mapIdx, h]
theorem xrk_zero (a b : List UInt8) : xrk 0 a b = a := by
  apply List.ext_getElem?
  intro i
  simp only [xrk, List.getElem?_mapIdx, Nat.not_lt_zero, if_false]
  cases a[i]? <;> rfl
theorem xrk_all (a b : List UInt8) (k : Nat) (h : b.length ≤ k) : xrk k a b = xr a b := by
  unfold xrk xr
  congr 1
  funext i x
  by_cases hi : i < k
  · rw [if_pos hi]
  · rw [if_neg hi, List.getD_eq_getElem?_getD, List.getElem?_eq_none (by omega)]
    simp
theorem xrk_step {a b : List UInt8} {k : Nat} {x y : UInt8} (hx : a[k]? = some x) (hy : b[k]? = some y) : (Lib.byteCells (xrk k a b)).toArray.setIfInBounds k (.int .u8 ((x ^^^ y).toNat : Int)) = (Lib.byteCells (xrk (k + 1) a b)).toArray := by
  have hk : k < a.length := (List.getElem?_eq_some_iff.1 hx).1
  apply Array.ext'
  apply List.ext_getElem?
  intro i
  simp only [Array.getElem?_toList, Array.getElem?_setIfInBounds, List.getElem?_toArray, Lib.byteCells, List.getElem?_map]
  by_cases e : k = i
  · subst e
    rw [if_pos rfl, if_pos (by simp [xrk_len, hk]), xrk_at hx, if_pos (by omega)]
    simp [List.getD_eq_getElem?_getD, hy]
  · rw [if_neg e]
    congr 1
    cases ha : a[i]? with
    | none => rw [List.getElem?_eq_none (by rw [xrk_len]; exact List.getElem?_eq_none_iff.1 ha), List.getElem?_eq_none (by rw [xrk_len]; exact List.getElem?_eq_none_iff.1 ha)]
    | some z =>
      rw [xrk_at ha, xrk_at ha]
      by_cases h : i < k
      · rw [if_pos h, if_pos (by omega)]
      · rw [if_neg h, if_neg (by omega)]
theorem ofInt_8 (a : Nat) (ha : a < 256) : (BitVec.ofInt 8 (a : Int)).toNat = a := by
  rw [BitVec.ofInt_natCast, BitVec.toNat_ofNat]; exact Nat.mod_eq_of_lt (by omega)
theorem xor_u8 (x y : UInt8) : bits .xor .u8 (x.toNat : Int) (y.toNat : Int) = ((x ^^^ y).toNat : Int) := by
  have hx := x.toNat_lt
  have hy := y.toNat_lt
  have hq : x.toNat ^^^ y.toNat < 2 ^ 8 := Nat.xor_lt_two_pow (by omega) (by omega)
  show IntKind.u8.wrap ((BitVec.ofInt 8 (x.toNat : Int) ^^^ BitVec.ofInt 8 (y.toNat : Int)).toNat : Int) = _
  rw [BitVec.toNat_xor, ofInt_8 _ (by omega), ofInt_8 _ (by omega), UInt8.toNat_xor, IntKind.wrap_u8]
  omega

set_option maxHeartbeats 400000 in
theorem half_any (n : Nat) (hn : n ≤ 1000000000) (w : World) : Calls Try.prog 42 #[.int .i64 n] w fun r w' => r = .returned (.int .i64 ((n + 1) / 2 : Nat)) ∧ w = w' := by
  go_enter Try.func42, Try.ntmps42
  go_wp2
  go_ret
  exact ⟨ret_int (by omega), rfl⟩
set_option maxHeartbeats 400000 in
theorem l4Half_any (n : Nat) (hn : n ≤ 1000000000) (w : World) : Calls Try.prog 46 #[.int .i64 n] w fun r w' => r = .returned (.int .i64 ((n + 1) / 2 : Nat)) ∧ w = w' := by
  go_enter Try.func46, Try.ntmps46
  go_wp2
  go_ret
  exact ⟨ret_int (by omega), rfl⟩

/-- copy, where its run is known -/
theorem copy_op {w : World} {ops : Array Oper} {rest : List Oper} {o : Oper} {a : Act} {Q : Exit → Act → World → Prop} (hgd : o.guard = none) (d s : Operand) (dT sT : TypeId)
    (ho : o.op = .call { callee := .builtin .copy, args := #[d, s], argTypes := #[dT, sT] }) (v u : Value) (hd : a.eval d = v) (hs : a.eval s = u) {v' : Value} {w' : World}
    (hrun : (Builtin.copy_ #[dT, sT] o.type #[v, u]).run Try.prog w = .ok v' w') (h : wpList Try.prog ops Q rest (a.put o.dst v') w') : wpList Try.prog ops Q (o :: rest) a w := by
  refine wpList_plain hgd fun K hK => ?_
  unfold Oper.wp
  simp [execOp, ho, resolve, invoke, builtin, hd, hs, hrun, Result.andThen]
  exact hK _ _ h

/-- make([]byte, n) -/
theorem make_u8s (n : Nat) (hn : n ≤ 1000000000) (w : World) :
    (Instr.makeSlice 25 (.int .i64 (n : Int)) (.int .i64 (n : Int))).run Try.prog w = .ok (.slice (some ⟨w.heap.size, 0, none⟩) n n) (w.alloc (.cells (madeCells #[.int .u8 0] n) 5)) := by
  obtain ⟨i, hi, hz, hs, hb⟩ := info_parts info_u8
  have hr := run_make (P := Try.prog) w 25 5 i _ Try.underlying25 hi hz .i64 .i64 n n (by omega) (by omega) (by rw [hb]; omega) (by omega)
  simp only [Int.toNat_natCast, hs, Nat.mul_one] at hr
  exact hr
/-- copy(b, s) of a text that fills a row of the call's own -/
theorem copy_full (w : World) (n : Nat) (s : ByteArray) (hs : s.size = n) : ∃ W : World, (∀ ty, (Builtin.copy_ #[25, 9] ty #[.slice (some ⟨w.heap.size, 0, none⟩) n n, .string s]).run Try.prog (w.alloc (.cells (madeCells #[.int .u8 0] n) 5)) = .ok (goInt n) W) ∧
    Bk W w.heap.size 5 (Lib.byteCells s.data.toList).toArray ∧ Below w.heap.size w W := by
  obtain ⟨i, hi, hz, hz1, hb⟩ := info_parts info_u8
  have hsz : (madeCells #[.int .u8 0] n).size = n := size_madeCells _ _
  refine ⟨(w.alloc (.cells (madeCells #[.int .u8 0] n) 5)).setRow w.heap.size (Lib.byteCells s.data.toList).toArray, fun ty => ?_, ?_, ?_⟩
  · have hr := Lib.run_copy_row_string (P := Try.prog) (w.alloc (.cells (madeCells #[.int .u8 0] n) 5)) 25 9 ty 5 w.heap.size 0 n n s (madeCells #[.int .u8 0] n) 5 Try.underlying25 (by rw [hi]; simp [hz1]) (Bk.fresh w _ _) (by omega) (by omega)
    rw [hs, List.drop_eq_nil_of_le (by rw [Array.length_toList]; omega), List.append_nil, List.take_zero, List.nil_append] at hr
    exact hr
  · exact setRow_heap _ _ _ _ _ _ (Bk.fresh w _ _)
  · exact below_setRow (bel1 w _) (Nat.le_refl _) _
theorem str_of_bk {w : World} {g : Nat} {l : List UInt8} (h : Bk w g 5 (Lib.byteCells l).toArray) (n c : Nat) (hn : n = l.length) :
    (convert 25 9 (.slice (some ⟨g, 0, none⟩) n c)).run Try.prog w = .ok (.string ⟨l.toArray⟩) w := by
  subst hn
  refine run_convert_bytes_back w 25 9 5 _ c l Try.underlying25 Try.underlying5 Try.underlying9 (fun j hj => ?_)
  rw [Addr.add_lit, Nat.zero_add, h.cell]
  simp [Lib.byteCells, List.getElem?_eq_getElem hj]

set_option maxHeartbeats 1000000 in
theorem xor_any (a b : ByteArray) (n : Nat) (ha : a.size = n) (hb : b.size ≤ n) (hn : n ≤ 1000000000) (w : World) :
    Calls Try.prog 43 #[.string a, .string b, .int .i64 n] w fun r w' => r = .returned (.string ⟨(xr a.data.toList b.data.toList).toArray⟩) ∧ Below w.heap.size w w' := by
  have hmk := make_u8s n hn w
  obtain ⟨W, hcp, hB, hbel⟩ := copy_full w n a ha
  have HA := hide ha
  have HB := hide hB
  have HF := hide hbel
  have HLA : Hid (a.data.toList.length = n) := hide (by rw [Array.length_toList]; exact ha)
  clear ha hB hbel
  go_enter Try.func43, Try.ntmps43
  go_wp2_with (at_builtin; refine copy_op rfl _ _ 25 9 rfl _ _ rfl rfl (hcp _) ?_)
  all_goals clear hmk hcp
  · go_loopw [18] (fun i wr => ∃ k : Nat, k ≤ b.size ∧ Hid (Bk wr w.heap.size 5 (Lib.byteCells (xrk k a.data.toList b.data.toList)).toArray) ∧ Hid (Below w.heap.size w wr) ∧ i = .int .i64 k) (fun i _ => b.size - (intOf i).toNat)
    case atStart => exact ⟨0, by omega, hide (by rw [xrk_zero]; exact HB.out), HF, rfl⟩
    case round =>
      obtain ⟨k, hk, HB, HF, rfl⟩ := hrel
      by_cases hlt : k < b.size
      · obtain ⟨x, hx⟩ : ∃ x, a.data.toList[k]? = some x := ⟨_, List.getElem?_eq_getElem (by have := HLA.out; omega)⟩
        have hkb : k < b.size := by omega
        have hy := at_of b k hkb
        have hc : wr.cell? ⟨w.heap.size, k, none⟩ = some (.int .u8 x.toNat) := by rw [HB.out.cell]; simp [Lib.byteCells, xrk_at hx]
        have hf : wr.frozen? ⟨w.heap.size, k, none⟩ = false := HB.out.frozen k
        have hxy := xor_u8 x b[k]
        have HP := hide (HB.out.put k (.int .u8 ((x ^^^ b[k]).toNat : Int)))
        rw [xrk_step hx hy] at HP
        obtain ⟨y, hy2⟩ : ∃ y, y = ((x ^^^ b[k]).toNat : Int) := ⟨_, rfl⟩
        rw [← hy2] at hxy
        have HP2 := hide (show Bk (wr.setCell ⟨w.heap.size, k, none⟩ (.int .u8 y)) w.heap.size 5 (Lib.byteCells (xrk (k + 1) a.data.toList b.data.toList)).toArray by rw [hy2]; exact HP.out)
        have i0 : (0 : Int) ≤ (k : Int) := by omega
        have i1 : (k : Int) < (n : Int) := by omega
        have i2 : (k : Int) < (b.size : Int) := by omega
        clear hx hy HP hy2
        go_wp2_with fail
        go_region
        go_wp2_with fail
        go_roundw
        case rel => exact ⟨k + 1, by omega, HP2, hide ((below_drewN HF.out _).setCell (Nat.le_refl _) _), int_eq (by omega)⟩
        case measure => simp [intOf]; omega
      · have HE := hide (show xrk k a.data.toList b.data.toList = xr a.data.toList b.data.toList from xrk_all _ _ _ (by rw [Array.length_toList]; show b.size ≤ k; omega))
        have hcv := str_of_bk HB.out n n (by rw [xrk_len]; exact HLA.out.symm)
        rw [HE.out] at hcv
        go_wp2_with fail
        go_ret
        exact ⟨rfl, HF.out⟩
  · go_loopw [18] (fun i wr => ∃ k : Nat, k ≤ n ∧ Hid (Bk wr w.heap.size 5 (Lib.byteCells (xrk k a.data.toList b.data.toList)).toArray) ∧ Hid (Below w.heap.size w wr) ∧ i = .int .i64 k) (fun i _ => n - (intOf i).toNat)
    case atStart => exact ⟨0, by omega, hide (by rw [xrk_zero]; exact HB.out), HF, rfl⟩
    case round =>
      obtain ⟨k, hk, HB, HF, rfl⟩ := hrel
      by_cases hlt : k < n
      · obtain ⟨x, hx⟩ : ∃ x, a.data.toList[k]? = some x := ⟨_, List.getElem?_eq_getElem (by have := HLA.out; omega)⟩
        have hkb : k < b.size := by omega
        have hy := at_of b k hkb
        have hc : wr.cell? ⟨w.heap.size, k, none⟩ = some (.int .u8 x.toNat) := by rw [HB.out.cell]; simp [Lib.byteCells, xrk_at hx]
        have hf : wr.frozen? ⟨w.heap.size, k, none⟩ = false := HB.out.frozen k
        have hxy := xor_u8 x b[k]
        have HP := hide (HB.out.put k (.int .u8 ((x ^^^ b[k]).toNat : Int)))
        rw [xrk_step hx hy] at HP
        obtain ⟨y, hy2⟩ : ∃ y, y = ((x ^^^ b[k]).toNat : Int) := ⟨_, rfl⟩
        rw [← hy2] at hxy
        have HP2 := hide (show Bk (wr.setCell ⟨w.heap.size, k, none⟩ (.int .u8 y)) w.heap.size 5 (Lib.byteCells (xrk (k + 1) a.data.toList b.data.toList)).toArray by rw [hy2]; exact HP.out)
        have i0 : (0 : Int) ≤ (k : Int) := by omega
        have i1 : (k : Int) < (n : Int) := by omega
        have i2 : (k : Int) < (b.size : Int) := by omega
        clear hx hy HP hy2
        go_wp2_with fail
        go_region
        go_wp2_with fail
        go_roundw
        case rel => exact ⟨k + 1, by omega, HP2, hide ((below_drewN HF.out _).setCell (Nat.le_refl _) _), int_eq (by omega)⟩
        case measure => simp [intOf]; omega
      · have HE := hide (show xrk k a.data.toList b.data.toList = xr a.data.toList b.data.toList from xrk_all _ _ _ (by rw [Array.length_toList]; show b.size ≤ k; omega))
        have hcv := str_of_bk HB.out n n (by rw [xrk_len]; exact HLA.out.symm)
        rw [HE.out] at hcv
        go_wp2_with fail
        go_ret
        exact ⟨rfl, HF.out⟩

theorem take_next {l : List UInt8} {out : List UInt8} {k : Nat} {c : UInt8} (h : out = l.take k) (hc : l[k]? = some c) : out ++ [c] = l.take (k + 1) := by
  rw [h, List.take_add_one, hc]; rfl
theorem xr_one {a b : List UInt8} {k : Nat} {x y : UInt8} (hx : a[k]? = some x) (hy : b[k]? = some y) : (xr a b)[k]? = some (x ^^^ y) := by
  rw [xr_at hx, List.getD_eq_getElem?_getD, hy]; rfl
theorem xr_none {a b : List UInt8} {k : Nat} {x : UInt8} (hx : a[k]? = some x) (hy : b[k]? = none) : (xr a b)[k]? = some x := by
  rw [xr_at hx, List.getD_eq_getElem?_getD, hy]
  show some (x ^^^ 0) = some x
  simp

set_option maxHeartbeats 2000000 in
theorem l4Other_any (one p : ByteArray) (n : Nat) (hp : n ≤ p.size) (hn : n ≤ 1000000000) (_ho : one.size ≤ 1000000000) (w : World) :
    Calls Try.prog 47 #[.string one, .string p, .int .i64 n] w fun r w' => r = .returned (.string ⟨((xr p.data.toList one.data.toList).take n).toArray⟩) ∧ Below w.heap.size w w' := by
  obtain ⟨i0, hi, hz0, hz1, hz2⟩ := info_parts info_u8
  go_enter Try.func47, Try.ntmps47
  go_wp2_with fail
  go_loopw [7, 8] (fun v i wr => ∃ (k : Nat) (out : List UInt8), k ≤ n ∧ Hid (out.length = k) ∧ Hid (out = (xr p.data.toList one.data.toList).take k) ∧ Hid (wr.ownsRow w.heap.size 5 1 v out.length (Lib.byteCells out)) ∧ Hid (Below w.heap.size w wr) ∧ i = .int .i64 k) (fun _ i _ => n - (intOf i).toNat)
  case atStart => exact ⟨0, [], by omega, hide rfl, hide rfl, hide (World.ownsRow_lit w #[] 0 (Nat.le_refl _) (by simp [maxLen]) rfl), hide (bel1 _ _), rfl⟩
  case round =>
    obtain ⟨k, out, hk, HL, HO, HW, HF, rfl⟩ := hrel
    obtain ⟨v, rfl⟩ : ∃ v : Value, v = u7 := ⟨_, rfl⟩
    by_cases hlt : k < n
    · have hkp : k < p.size := by omega
      have hx := at_of p k hkp
      have j0 : (0 : Int) ≤ (k : Int) := by omega
      have j1 : (k : Int) < (p.size : Int) := by omega
      have j2 : (k : Int) < (n : Int) := by omega
      by_cases hin : k < one.size
      · have hy := at_of one k hin
        have j3 : (k : Int) < (one.size : Int) := by omega
        obtain ⟨c, hc⟩ : ∃ c, c = p[k] ^^^ one[k] := ⟨_, rfl⟩
        have hxy := xor_u8 p[k] one[k]
        rw [← hc] at hxy
        have HN := hide (take_next (c := c) HO.out (by rw [hc]; exact xr_one hx hy))
        have HX := hide (show [Value.int .u8 (c.toNat : Int)] = Lib.byteCells [c] from rfl)
        clear hx hy hc
        have HW1 := hide ((own_drewN HW.out 0).alloc (.cells #[.int .u8 c.toNat] 5))
        have HFy := hide (HF.out.alloc HF.out.size (.cells #[.int .u8 c.toNat] 5))
        go_wp2_with (at_builtin; refine wpList_append_own _ (by rfl) _ _ 25 (by rfl) w.heap.size 5 i0 (.int .u8 0) 1 1 Try.underlying25 hi hz0 hz1 hz2 rfl (by decide) _ out.length (Lib.byteCells out) (by rfl) HW1.out ⟨wr.heap.size, 0, none⟩ 1 1 [.int .u8 c.toNat] (by rfl) rfl (World.news_of_block (heap_alloc_new _ _)) (fun u hu => by simp only [List.mem_singleton] at hu; subst hu; rfl) (by unfold maxLen; have := HL.out; omega) (by have := HL.out; omega) (by have := HF.out.size; simp; omega) ?_; intro v' w1 hown' hgrow _; have HO1 := hide (own_snoc (more := [c]) hown' HX.out rfl); have HB1 := hide (bel_grown HFy.out HW1.out hgrow); clear hown' hgrow)
        go_roundw
        case rel => exact ⟨k + 1, out ++ [c], by omega, hide (by have := HL.out; simp; omega), HN, HO1, HB1, int_eq (by omega)⟩
        case measure => (simp [intOf]; try omega)
      · have j3 : ¬ (k : Int) < (one.size : Int) := by omega
        have HN := hide (take_next HO.out (xr_none hx (none_of one k (by omega))))
        have HX := hide (show [Value.int .u8 (p[k].toNat : Int)] = Lib.byteCells [p[k]] from rfl)
        clear hx
        have HW1 := hide ((own_drewN HW.out 0).alloc (.cells #[.int .u8 p[k].toNat] 5))
        have HFy := hide (HF.out.alloc HF.out.size (.cells #[.int .u8 p[k].toNat] 5))
        go_wp2_with (at_builtin; refine wpList_append_own _ (by rfl) _ _ 25 (by rfl) w.heap.size 5 i0 (.int .u8 0) 1 1 Try.underlying25 hi hz0 hz1 hz2 rfl (by decide) _ out.length (Lib.byteCells out) (by rfl) HW1.out ⟨wr.heap.size, 0, none⟩ 1 1 [.int .u8 p[k].toNat] (by rfl) rfl (World.news_of_block (heap_alloc_new _ _)) (fun u hu => by simp only [List.mem_singleton] at hu; subst hu; rfl) (by unfold maxLen; have := HL.out; omega) (by have := HL.out; omega) (by have := HF.out.size; simp; omega) ?_; intro v' w1 hown' hgrow _; have HO1 := hide (own_snoc (more := [p[k]]) hown' HX.out rfl); have HB1 := hide (bel_grown HFy.out HW1.out hgrow); clear hown' hgrow)
        go_roundw
        case rel => exact ⟨k + 1, out ++ [p[k]], by omega, hide (by have := HL.out; simp; omega), HN, HO1, HB1, int_eq (by omega)⟩
        case measure => (simp [intOf]; try omega)
    · have e : k = n := by omega
      have hcv := str_of_own HW.out
      go_wp2_with fail
      go_ret
      exact ⟨by rw [HO.out, e]; rfl, HF.out⟩

/-- the columns of a block -/
def parT (s : ByteArray) : ByteArray := ⟨(xr (s.data.toList.take ((s.size + 1) / 2)) (s.data.toList.drop ((s.size + 1) / 2))).toArray⟩
def cutT (s : ByteArray) : List ByteArray := [s.extract 0 ((s.size + 1) / 2), s.extract ((s.size + 1) / 2) s.size, parT s]
/-- three texts in a new row -/
def Cols (cs : List ByteArray) (w : World) (A : Value) (w' : World) : Prop := ∃ g, A = .slice (some ⟨g, 0, none⟩) cs.length cs.length ∧ w.heap.size ≤ g ∧ Bk w' g 9 (cs.map Value.string).toArray ∧ Below w.heap.size w w'

set_option maxHeartbeats 2000000 in
theorem l4Cut_any (s : ByteArray) (hs : s.size ≤ 1000000000) (w : World) :
    Calls Try.prog 38 #[.string s] w fun r w' => ∃ A, r = .returned A ∧ Cols (cutT s) w A w' := by
  obtain ⟨i0, hi, hz0, hz1, hz2⟩ := info_parts info_u8
  obtain ⟨q, hh⟩ : ∃ q, q = (s.size + 1) / 2 := ⟨_, rfl⟩
  have hl : q ≤ s.size := by omega
  have HH := hide hh
  go_enter Try.func38, Try.ntmps38
  go_wp2_with fail
  refine (l4Half_any s.size hs _).mono ?_; rintro r w1 ⟨rfl, rfl⟩
  rw [← hh]
  clear hh
  go_wp2_with fail
  go_loopw [4, 5] (fun v i wr => ∃ (k : Nat) (out : List UInt8), k ≤ q ∧ Hid (out.length = k) ∧ Hid (out = (xr (s.data.toList.take q) (s.data.toList.drop q)).take k) ∧ Hid (wr.ownsRow w.heap.size 5 1 v out.length (Lib.byteCells out)) ∧ Hid (Below w.heap.size w wr) ∧ i = .int .i64 k) (fun _ i _ => q - (intOf i).toNat)
  case atStart => exact ⟨0, [], by omega, hide rfl, hide rfl, hide (World.ownsRow_lit w #[] 0 (Nat.le_refl _) (by simp [maxLen]) rfl), hide (bel1 _ _), rfl⟩
  case round =>
    obtain ⟨k, out, hk, HL, HO, HW, HF, rfl⟩ := hrel
    obtain ⟨v, rfl⟩ : ∃ v : Value, v = u4 := ⟨_, rfl⟩
    by_cases hlt : k < q
    · have hkp : k < s.size := by omega
      have hx : (s.data.toList.take q)[k]? = some s[k] := by rw [List.getElem?_take_of_lt hlt]; exact at_of s k hkp
      have j0 : (0 : Int) ≤ (k : Int) := by omega
      have j1 : (k : Int) < (s.size : Int) := by omega
      have j2 : (k : Int) < (q : Int) := by omega
      have jw : IntKind.i64.wrap ((q : Int) + (k : Int)) = (q : Int) + (k : Int) := by rw [IntKind.wrap_i64]; omega
      have jn : ((q : Int) + (k : Int)).toNat = q + k := by omega
      have jp : (0 : Int) ≤ (q : Int) + (k : Int) := by omega
      by_cases hin : q + k < s.size
      · have hy : (s.data.toList.drop q)[k]? = some s[q + k] := by rw [List.getElem?_drop]; exact at_of s (q + k) hin
        have j3 : (q : Int) + (k : Int) < (s.size : Int) := by omega
        obtain ⟨c, hc⟩ : ∃ c, c = s[k] ^^^ s[q + k] := ⟨_, rfl⟩
        have hxy := xor_u8 s[k] s[q + k]
        rw [← hc] at hxy
        have HN := hide (take_next (c := c) HO.out (by rw [hc]; exact xr_one hx hy))
        have HX := hide (show [Value.int .u8 (c.toNat : Int)] = Lib.byteCells [c] from rfl)
        clear hx hy hc
        have HW1 := hide ((own_drewN HW.out 0).alloc (.cells #[.int .u8 c.toNat] 5))
        have HFy := hide (HF.out.alloc HF.out.size (.cells #[.int .u8 c.toNat] 5))
        go_wp2_with (at_builtin; refine wpList_append_own _ (by rfl) _ _ 25 (by rfl) w.heap.size 5 i0 (.int .u8 0) 1 1 Try.underlying25 hi hz0 hz1 hz2 rfl (by decide) _ out.length (Lib.byteCells out) (by rfl) HW1.out ⟨wr.heap.size, 0, none⟩ 1 1 [.int .u8 c.toNat] (by rfl) rfl (World.news_of_block (heap_alloc_new _ _)) (fun u hu => by simp only [List.mem_singleton] at hu; subst hu; rfl) (by unfold maxLen; have := HL.out; omega) (by have := HL.out; omega) (by have := HF.out.size; simp; omega) ?_; intro v' w1 hown' hgrow _; have HO1 := hide (own_snoc (more := [c]) hown' HX.out rfl); have HB1 := hide (bel_grown HFy.out HW1.out hgrow); clear hown' hgrow)
        go_roundw
        case rel => exact ⟨k + 1, out ++ [c], by omega, hide (by have := HL.out; simp; omega), HN, HO1, HB1, int_eq (by omega)⟩
        case measure => (simp [intOf]; try omega)
      · have j3 : ¬ (q : Int) + (k : Int) < (s.size : Int) := by omega
        have HN := hide (take_next HO.out (xr_none hx (by rw [List.getElem?_drop]; exact none_of s (q + k) (by omega))))
        have HX := hide (show [Value.int .u8 (s[k].toNat : Int)] = Lib.byteCells [s[k]] from rfl)
        clear hx
        have HW1 := hide ((own_drewN HW.out 0).alloc (.cells #[.int .u8 s[k].toNat] 5))
        have HFy := hide (HF.out.alloc HF.out.size (.cells #[.int .u8 s[k].toNat] 5))
        go_wp2_with (at_builtin; refine wpList_append_own _ (by rfl) _ _ 25 (by rfl) w.heap.size 5 i0 (.int .u8 0) 1 1 Try.underlying25 hi hz0 hz1 hz2 rfl (by decide) _ out.length (Lib.byteCells out) (by rfl) HW1.out ⟨wr.heap.size, 0, none⟩ 1 1 [.int .u8 s[k].toNat] (by rfl) rfl (World.news_of_block (heap_alloc_new _ _)) (fun u hu => by simp only [List.mem_singleton] at hu; subst hu; rfl) (by unfold maxLen; have := HL.out; omega) (by have := HL.out; omega) (by have := HF.out.size; simp; omega) ?_; intro v' w1 hown' hgrow _; have HO1 := hide (own_snoc (more := [s[k]]) hown' HX.out rfl); have HB1 := hide (bel_grown HFy.out HW1.out hgrow); clear hown' hgrow)
        go_roundw
        case rel => exact ⟨k + 1, out ++ [s[k]], by omega, hide (by have := HL.out; simp; omega), HN, HO1, HB1, int_eq (by omega)⟩
        case measure => (simp [intOf]; try omega)
    · have e : k = q := by omega
      have hcv := str_of_own (show wr.drew.ownsRow w.heap.size 5 1 v out.length (Lib.byteCells out) from HW.out)
      go_wp2_with fail
      go_region
      go_wp2_with fail
      go_ret
      have e3 : (xr (s.data.toList.take q) (s.data.toList.drop q)).take q = xr (s.data.toList.take q) (s.data.toList.drop q) := List.take_of_length_le (by rw [xr_len, List.length_take]; omega)
      refine ⟨_, rfl, wr.heap.size, rfl, HF.out.size, ?_, (HF.out.alloc HF.out.size _).drew⟩
      have hcut : (cutT s).map Value.string = [.string (s.extract 0 q), .string (s.extract q s.size), .string ⟨out.toArray⟩] := by
        unfold cutT parT
        rw [← HH.out, HO.out, e, e3]
        rfl
      rw [hcut]
      exact Bk.fresh wr _ _

theorem ext_size (s : ByteArray) (i j : Nat) (h : i ≤ j) (hj : j ≤ s.size) : (s.extract i j).size = j - i := by rw [ByteArray.size_extract]; omega
theorem ext_list (s : ByteArray) (i j : Nat) : (s.extract i j).data.toList = (s.data.toList.take j).drop i := by
  rw [ByteArray.data_extract]
  simp [List.extract_eq_take_drop, List.drop_take]

theorem xor_v {a b v : ByteArray} {n : Nat} (ha : a.size = n) (hb : b.size ≤ n) (hn : n ≤ 1000000000) (hv : ByteArray.mk (xr a.data.toList b.data.toList).toArray = v) (w : World) :
    Calls Try.prog 43 #[.string a, .string b, .int .i64 n] w fun r w' => r = .returned (.string v) ∧ Below w.heap.size w w' := hv ▸ xor_any a b n ha hb hn w
theorem part_of (s : ByteArray) (q : Nat) (h : q = (s.size + 1) / 2) : ByteArray.mk (xr (s.extract 0 q).data.toList (s.extract q s.size).data.toList).toArray = parT s := by
  unfold parT
  rw [ext_list, ext_list, ← h, List.drop_zero, List.take_of_length_le (i := s.size) (Nat.le_of_eq Array.length_toList)]
theorem cut_of (s : ByteArray) (q : Nat) (h : q = (s.size + 1) / 2) : (cutT s).map Value.string = [.string (s.extract 0 q), .string (s.extract q s.size), .string (parT s)] := by
  unfold cutT
  rw [← h]
  rfl

set_option maxHeartbeats 1000000 in
theorem implStripeCut_ok (s : ByteArray) (h : inR s.size 1 128 = true) (w : World) :
    Calls Try.prog 22 #[.string s] w fun r w' => ∃ A, r = .returned (.tuple #[A, .bool true]) ∧ Cols (cutT s) w A w' := by
  have hsz : s.size ≤ 128 := by simp [inR] at h; omega
  obtain ⟨q, hq⟩ : ∃ q, q = (s.size + 1) / 2 := ⟨_, rfl⟩
  have hl : q ≤ s.size := by omega
  have hl2 : s.size - q ≤ q := by omega
  have H1 := hide h
  have HH := hide hq
  clear h
  go_enter Try.func22, Try.ntmps22
  go_wp2_with fail
  refine (isBlock_v H1.out _).mono ?_; rintro r w1 ⟨rfl, rfl⟩
  go_wp2_with fail
  refine (half_any s.size (by omega) _).mono ?_; rintro r w1 ⟨rfl, rfl⟩
  rw [← hq]
  clear hq
  go_wp2_with fail
  have HP := hide (part_of s q HH.out)
  refine wp_region_held_drew (S := fun x => Below w.heap.size w x) (by kernel_rfl) ((Below.refl _ _).drew) (fun hH => ?_)
  refine wpAnyH_take (i := 0) (v := ?_) rfl (by kernel_rfl) (by kernel_rfl) (by kernel_rfl) (fun _ _ _ h => h) (Or.inl ⟨by rfl, fun w hS => ?_⟩) hH ?_
  rotate_left
  · go_simp; try exact rfl
  simp only [Act.put, List.setIfInBounds_toArray, List.set_cons_zero, List.set_cons_succ, List.getElem_toArray, List.getElem_cons_zero]
  refine wpAnyH_take (i := 1) (v := ?_) rfl (by kernel_rfl) (by kernel_rfl) (by kernel_rfl) (fun _ _ _ h => h) (Or.inl ⟨by rfl, fun w hS => ?_⟩) hH ?_
  rotate_left
  · go_simp; try exact rfl
  simp only [Act.put, List.setIfInBounds_toArray, List.set_cons_zero, List.set_cons_succ, List.getElem_toArray, List.getElem_cons_zero, List.getElem_cons_succ]
  refine wpAnyH_take (i := 2) (v := ?_) rfl (by kernel_rfl) (by kernel_rfl) (by kernel_rfl) (fun _ _ _ h => h) (Or.inl ⟨by rfl, fun w hS => ?_⟩) hH ?_
  rotate_left
  · go_simp; try exact rfl
  simp only [Act.put, List.setIfInBounds_toArray, List.set_cons_zero, List.set_cons_succ, List.getElem_toArray, List.getElem_cons_zero, List.getElem_cons_succ]
  refine wpAnyH_take (i := 3) (v := ?_) rfl (by kernel_rfl) (by kernel_rfl) (by kernel_rfl) (fun _ _ _ h => h) (Or.inl ⟨by rfl, fun w hS => ?_⟩) hH ?_
  rotate_left
  · go_simp; try exact rfl
  simp only [Act.put, List.setIfInBounds_toArray, List.set_cons_zero, List.set_cons_succ, List.getElem_toArray, List.getElem_cons_zero, List.getElem_cons_succ]
  refine wpAnyH_take (i := 4) (v := ?_) rfl (by kernel_rfl) (by kernel_rfl) (by kernel_rfl) (fun _ _ _ h => h) (Or.inl ⟨by rfl, fun w hS => ?_⟩) hH ?_
  rotate_left
  · go_simp; try exact rfl
  simp only [Act.put, List.setIfInBounds_toArray, List.set_cons_zero, List.set_cons_succ, List.getElem_toArray, List.getElem_cons_zero, List.getElem_cons_succ]
  refine wpAnyH_take (i := 5) (v := ?_) rfl (by kernel_rfl) (by kernel_rfl) (by kernel_rfl) (fun _ _ _ h => h) (Or.inl ⟨by rfl, fun w hS => ?_⟩) hH ?_
  rotate_left
  · go_simp; try exact rfl
  simp only [Act.put, List.setIfInBounds_toArray, List.set_cons_zero, List.set_cons_succ, List.getElem_toArray, List.getElem_cons_zero, List.getElem_cons_succ]
  refine wpAnyH_take (i := 6) (v := ?_) rfl (by kernel_rfl) (by kernel_rfl) (by kernel_rfl) (fun _ _ _ h => h) (Or.inl ⟨by rfl, fun w hS => ?_⟩) hH ?_
  rotate_left
  · go_simp; try exact rfl
  simp only [Act.put, List.setIfInBounds_toArray, List.set_cons_zero, List.set_cons_succ, List.getElem_toArray, List.getElem_cons_zero, List.getElem_cons_succ]
  refine wpAnyH_take (i := 7) (v := ?_) rfl (by kernel_rfl) (by kernel_rfl) (by kernel_rfl) (fun _ _ _ h => h) (Or.inl ⟨by rfl, fun w hS => ?_⟩) hH ?_
  rotate_left
  · go_simp; try exact rfl
  simp only [Act.put, List.setIfInBounds_toArray, List.set_cons_zero, List.set_cons_succ, List.getElem_toArray, List.getElem_cons_zero, List.getElem_cons_succ]
  refine wpAnyH_take (i := 8) (v := ?_) rfl (by kernel_rfl) (by kernel_rfl) (by kernel_rfl) (fun _ _ _ h => h) (Or.inl ⟨by rfl, fun w hS => ?_⟩) hH ?_
  rotate_left
  · go_simp; try exact rfl
  simp only [Act.put, List.setIfInBounds_toArray, List.set_cons_zero, List.set_cons_succ, List.getElem_toArray, List.getElem_cons_zero, List.getElem_cons_succ]
  refine wpAnyH_take (i := 9) (v := ?_) rfl (by kernel_rfl) (by kernel_rfl) (by kernel_rfl) (fun _ _ _ h => h) (Or.inl ⟨by rfl, fun w hS => ?_⟩) hH ?_
  rotate_left
  · go_simp; try exact rfl
  simp only [Act.put, List.setIfInBounds_toArray, List.set_cons_zero, List.set_cons_succ, List.getElem_toArray, List.getElem_cons_zero, List.getElem_cons_succ]
  refine wpAnyH_take (i := 10) (v := ?_) rfl (by kernel_rfl) (by kernel_rfl) (by kernel_rfl) (fun _ _ _ h => h) (Or.inl ⟨by rfl, fun w hS => ?_⟩) hH ?_
  rotate_left
  · go_simp; try exact rfl
  simp only [Act.put, List.setIfInBounds_toArray, List.set_cons_zero, List.set_cons_succ, List.getElem_toArray, List.getElem_cons_zero, List.getElem_cons_succ]
  refine wpAnyH_take (i := 11) (v := ?_) rfl (by kernel_rfl) (by kernel_rfl) (by kernel_rfl) (fun _ _ _ h => h) (Or.inl ⟨by rfl, fun w hS => ?_⟩) hH ?_
  rotate_left
  · go_simp; try exact rfl
  simp only [Act.put, List.setIfInBounds_toArray, List.set_cons_zero, List.set_cons_succ, List.getElem_toArray, List.getElem_cons_zero, List.getElem_cons_succ]
  refine wpAnyH_take (i := 12) (v := ?_) rfl (by kernel_rfl) (by kernel_rfl) (by kernel_rfl) (fun _ _ _ h => h) (Or.inl ⟨by rfl, fun w hS => ?_⟩) hH ?_
  rotate_left
  · go_simp; try exact rfl
  simp only [Act.put, List.setIfInBounds_toArray, List.set_cons_zero, List.set_cons_succ, List.getElem_toArray, List.getElem_cons_zero, List.getElem_cons_succ]
  refine wpAnyH_ready (rs := [13]) (by kernel_rfl) (by simp) (AllReadyH.cons rfl (fun K hK => ?_) AllReadyH.nil)
  go_simp
  go_at_call 43
  refine (xor_v (by rw [ext_size _ _ _ (by omega) (by omega)]; omega) (by rw [ext_size _ _ _ (by omega) (by omega)]; omega) (by omega) HP.out _).mono ?_; rintro r w1 ⟨rfl, hb1⟩
  refine hK.out _ _ (hH.trans (hb1.mono hH.size)) (fun hH5 => ?_)
  clear hK K
  try simp only [Act.put, List.setIfInBounds_toArray, List.set_cons_zero, List.set_cons_succ]
  refine wpAnyH_ready (rs := [14]) (by kernel_rfl) (by simp) (AllReadyH.cons rfl (fun K hK => ?_) AllReadyH.nil)
  go_simp
  refine hK.out _ _ (hH5.alloc hH5.size _) (fun hH6 => ?_)
  clear hK K
  try simp only [Act.put, List.setIfInBounds_toArray, List.set_cons_zero, List.set_cons_succ]
  refine wpAnyH_take (i := 15) (v := ?_) rfl (by kernel_rfl) (by kernel_rfl) (by kernel_rfl) (fun _ _ _ h => h) (Or.inl ⟨by rfl, fun w hS => ?_⟩) hH6 ?_
  rotate_left
  · go_simp; try exact rfl
  simp only [Act.put, List.setIfInBounds_toArray, List.set_cons_zero, List.set_cons_succ, List.getElem_toArray, List.getElem_cons_zero, List.getElem_cons_succ]
  refine wpAnyH_take (i := 16) (v := ?_) rfl (by kernel_rfl) (by kernel_rfl) (by kernel_rfl) (fun _ _ _ h => h) (Or.inl ⟨by rfl, fun w hS => ?_⟩) hH6 ?_
  rotate_left
  · go_simp; try exact rfl
  simp only [Act.put, List.setIfInBounds_toArray, List.set_cons_zero, List.set_cons_succ, List.getElem_toArray, List.getElem_cons_zero, List.getElem_cons_succ]
  refine wpAnyH_done (by kernel_rfl) ?_ _
  go_wp2_with fail
  refine bodyPost_ret (v := .tuple #[.slice (some ⟨w1.heap.size, 0, none⟩) 3 3, .bool true]) (by simp [results, Try.results22, go_sem]) rfl ?_
  refine ⟨_, rfl, w1.heap.size, rfl, hH5.size, ?_, hH6⟩
  rw [cut_of s q HH.out]
  exact Bk.fresh w1 _ _

set_option maxHeartbeats 1000000 in
theorem implStripeCut_no (s : ByteArray) (h : inR s.size 1 128 = false) (w : World) :
    Calls Try.prog 22 #[.string s] w fun r w' => r = .returned (.tuple #[.slice none 0 0, .bool false]) ∧ w = w' := by
  have H1 := hide h
  clear h
  go_enter Try.func22, Try.ntmps22
  go_wp2_with fail
  refine (isBlock_v H1.out _).mono ?_; rintro r w1 ⟨rfl, rfl⟩
  go_wp2_with fail
  exact bodyPost_ret (v := .tuple #[.slice none 0 0, .bool false]) (by simp [results, Try.results22, go_sem]) rfl ⟨rfl, rfl⟩

set_option maxHeartbeats 1000000 in
theorem specStripeCut_no (s : ByteArray) (h : inR s.size 1 128 = false) (w : World) :
    Calls Try.prog 23 #[.string s] w fun r w' => r = .returned (.tuple #[.slice (some ⟨w.heap.size, 0, none⟩) 0 0, .bool false]) ∧ Below w.heap.size w w' := by
  have H1 := hide h
  clear h
  go_enter Try.func23, Try.ntmps23
  go_wp2_with fail
  refine (l2Block_v H1.out _).mono ?_; rintro r w1 ⟨rfl, rfl⟩
  go_wp2_with fail
  exact bodyPost_ret (v := .tuple #[.slice (some ⟨w.heap.size, 0, none⟩) 0 0, .bool false]) (by simp [results, Try.results23, go_sem]) rfl ⟨rfl, bel1 _ _⟩

set_option maxHeartbeats 1000000 in
theorem specStripeCut_ok (s : ByteArray) (h : inR s.size 1 128 = true) (w : World) :
    Calls Try.prog 23 #[.string s] w fun r w' => ∃ A, r = .returned (.tuple #[A, .bool true]) ∧ Cols (cutT s) w A w' := by
  have hsz : s.size ≤ 128 := by simp [inR] at h; omega
  have H1 := hide h
  clear h
  go_enter Try.func23, Try.ntmps23
  go_wp2_with fail
  refine (l2Block_v H1.out _).mono ?_; rintro r w1 ⟨rfl, rfl⟩
  go_wp2_with fail
  refine (l4Cut_any s (by omega) _).mono ?_; rintro r w1 ⟨A, rfl, hc⟩
  have HC := hide hc
  obtain ⟨g, rfl, _⟩ := hc
  go_wp2_with fail
  exact bodyPost_ret (v := .tuple #[.slice (some ⟨g, 0, none⟩) (cutT s).length (cutT s).length, .bool true]) (by simp [results, Try.results23, go_sem]) rfl ⟨_, rfl, HC.out⟩
end Go.Proofs.Ytjcokbpioiakjaa
