/- spec's l2Cut cuts a text at each byte of a kind. -/
import Derived.Test.YtmhbpmacfekhgaaDoorSplit
import Derived.Test.YtmhbpmacfekhgaaDoorFieldsGetS
namespace Go.Proofs.YtmhbpmacfekhgaaDoor
open Go.RowKit
set_option linter.unusedVariables false

/-- how far the cutting has come -/
def CutI (c : UInt8) (s : ByteArray) (zs : List ByteArray) (f i : Nat) : Prop :=
  f ≤ i ∧ zs.length ≤ f ∧ pieces c s.data.toList = zs.map (·.data.toList) ++ pieces c (s.data.toList.drop f) ∧ c ∉ (s.data.toList.drop f).take (i - f)
theorem CutI.start (c : UInt8) (s : ByteArray) : CutI c s [] 0 0 := ⟨Nat.le_refl _, Nat.le_refl _, by simp, by simp⟩
theorem take_drop_more {l : List UInt8} {f i : Nat} {x : UInt8} (h : f ≤ i) (hx : l[i]? = some x) : (l.drop f).take (i + 1 - f) = (l.drop f).take (i - f) ++ [x] := by
  rw [show i + 1 - f = (i - f) + 1 by omega, List.take_add_one, List.getElem?_drop, show f + (i - f) = i by omega, hx]
  rfl
theorem CutI.skip {c : UInt8} {s : ByteArray} {zs : List ByteArray} {f i : Nat} {x : UInt8} (h : CutI c s zs f i) (hx : s.data.toList[i]? = some x) (hc : x ≠ c) : CutI c s zs f (i + 1) := by
  obtain ⟨h1, h2, h3, h4⟩ := h
  refine ⟨by omega, h2, h3, ?_⟩
  rw [take_drop_more h1 hx, List.mem_append, List.mem_singleton]
  rintro (h | h)
  · exact h4 h
  · exact hc h.symm
theorem ext_take_drop (s : ByteArray) (f i : Nat) : (s.extract f i).data.toList = (s.data.toList.drop f).take (i - f) := by
  rw [ByteArray.data_extract, Array.toList_extract, List.extract_eq_take_drop]
theorem CutI.hit {c : UInt8} {s : ByteArray} {zs : List ByteArray} {f i : Nat} (h : CutI c s zs f i) (hx : s.data.toList[i]? = some c) : CutI c s (zs ++ [s.extract f i]) (i + 1) (i + 1) := by
  obtain ⟨h1, h2, h3, h4⟩ := h
  have hl : i < s.data.toList.length := (List.getElem?_eq_some_iff.1 hx).1
  have e : s.data.toList.drop f = (s.data.toList.drop f).take (i - f) ++ c :: s.data.toList.drop (i + 1) := by
    have e1 := (List.take_append_drop (i - f) (s.data.toList.drop f)).symm
    rw [List.drop_drop, show f + (i - f) = i by omega, List.drop_eq_getElem_cons hl] at e1
    rw [List.getElem?_eq_getElem hl] at hx
    rw [Option.some.inj hx] at e1
    exact e1
  refine ⟨Nat.le_refl _, by rw [List.length_append, List.length_singleton]; omega, ?_, by simp⟩
  rw [h3, List.map_append, List.map_cons, List.map_nil, ext_take_drop, List.append_assoc]
  congr 1
  conv => lhs; rw [e]
  rw [pieces_hit _ _ _ h4]
  rfl
theorem CutI.done {c : UInt8} {s : ByteArray} {zs : List ByteArray} {f : Nat} (h : CutI c s zs f s.size) : zs ++ [s.extract f s.size] = pcs c s := by
  obtain ⟨h1, h2, h3, h4⟩ := h
  have e : (s.data.toList.drop f).take (s.size - f) = s.data.toList.drop f := List.take_of_length_le (by rw [List.length_drop]; simp)
  rw [e] at h4
  refine pcs_of ?_
  rw [h3, List.map_append, List.map_cons, List.map_nil, ext_take_drop, e, pieces_none c _ h4]
/-- a row of texts that a call made -/
def CutR (c : UInt8) (s : ByteArray) (w : World) (r : Ending) (w' : World) : Prop :=
  ∃ A m, r = .returned (.slice A (pcs c s).length m) ∧ Rd w' 1 A (pcs c s).length ((pcs c s).map Value.string) ∧ Below w.heap.size w w'
theorem CutR.mk_ {c : UInt8} {s : ByteArray} {zs : List ByteArray} {v : Value} {w w' : World} (h : zs = pcs c s) (ho : w'.ownsRow w.heap.size 9 1 v zs.length (zs.map Value.string)) (hb : Below w.heap.size w w') : CutR c s w (.returned v) w' := by
  subst h
  obtain ⟨A, m, rfl⟩ := own_shape ho
  exact ⟨A, m, rfl, own_rds ho, hb⟩
theorem u8_eq {x c : UInt8} : ((x.toNat : Int) == (c.toNat : Int)) = decide (x = c) := by
  by_cases h : x = c
  · subst h; rw [decide_eq_true rfl]; exact beq_self_eq_true _
  · rw [decide_eq_false h, beq_eq_false_iff_ne]
    intro e
    exact h (UInt8.toNat_inj.1 (by omega))
set_option maxHeartbeats 4000000 in
set_option maxRecDepth 100000 in
theorem l2Cut_any (c : UInt8) (s : ByteArray) (w : World) (hs : s.size ≤ 1048576) :
    Calls Tryd.prog 44 #[.string s, .int .u8 c.toNat] w (CutR c s w) := by
  obtain ⟨i0, hi, hz0, hz1, hz2⟩ := info_parts info_str
  have HO0 := hide (owns_lit w w.heap.size (Nat.le_refl _))
  have HB0 := hide (bel1 w (.cells #[] 9))
  go_enter Tryd.func44, Tryd.ntmps44
  go_wp2_with fail
  go_loopw [5, 6, 7] (fun v x y wr => ∃ (zs : List ByteArray) (f k : Nat), k ≤ s.size ∧ f ≤ k ∧ zs.length ≤ f ∧ Hid (CutI c s zs f k) ∧ Hid (wr.ownsRow w.heap.size 9 1 v zs.length (zs.map Value.string)) ∧ Hid (Below w.heap.size w wr) ∧ x = .int .i64 f ∧ y = .int .i64 k) (fun _ _ y _ => s.size - (intOf y).toNat)
  case atStart => exact ⟨[], 0, 0, by omega, by omega, by simp, hide (CutI.start c s), HO0, HB0, rfl, rfl⟩
  case round =>
    obtain ⟨zs, f, k, hk, hfk, hzf, HC, HO, HB, rfl, rfl⟩ := hrel
    obtain ⟨A, m, rfl⟩ := own_shape HO.out
    by_cases hlt : k < s.size
    · have hu := s[k].toNat_lt
      by_cases hc : s[k] = c
      · have q : ((s[k].toNat : Int) == (c.toNat : Int)) = true := by rw [u8_eq]; exact decide_eq_true hc
        have HC2 := hide (HC.out.hit (by rw [byte_at s k hlt, hc]))
        clear hc
        have p1 : (0 : Int) ≤ (f : Int) := by omega
        have p2 : (f : Int) ≤ (k : Int) := by omega
        have p3 : (k : Int) ≤ (s.size : Int) := by omega
        obtain ⟨z, hz⟩ : ∃ z, s.extract f k = z := ⟨_, rfl⟩
        rw [hz] at HC2
        go_wp2_with (at_builtin; refine wpList_append_own _ (by rfl) _ _ 51 (by rfl) w.heap.size 9 i0 (.string ⟨#[]⟩) 1 16 Tryd.underlying51 hi hz0 hz1 hz2 rfl (by decide) _ zs.length (zs.map Value.string) (by rfl) (HO.out.alloc (.cells #[.string z] 9)) ⟨wr.heap.size, 0, none⟩ 1 1 [.string z] (by rfl) rfl (World.news_of_block (heap_alloc_new _ _)) (fun u hu => by simp only [List.mem_singleton] at hu; subst hu; rfl) (by unfold maxLen; omega) (by omega) (by have := HB.out.size; simp; omega) ?_; intro v' w2 hown' hgrow _; have HB4 := hide (bel_grown (HB.out.alloc HB.out.size (.cells #[.string z] 9)) (HO.out.alloc (.cells #[.string z] 9)) hgrow); have HO4 := hide (own_more_s hown'); clear hown' hgrow)
        go_roundw
        case rel => exact ⟨zs ++ [z], k + 1, k + 1, by omega, by omega, HC2.out.2.1, HC2, HO4, HB4, int_eq (by omega), int_eq (by omega)⟩
        case measure => simp [intOf]; omega
      · have q : ((s[k].toNat : Int) == (c.toNat : Int)) = false := by rw [u8_eq]; exact decide_eq_false hc
        have HC2 := hide (HC.out.skip (byte_at s k hlt) hc)
        clear hc
        go_wp2_with fail
        go_roundw
        case rel => exact ⟨zs, f, k + 1, by omega, by omega, by omega, HC2, HO, HB, rfl, int_eq (by omega)⟩
        case measure => simp [intOf]; omega
    · have HC2 := hide (show CutI c s zs f s.size by have := HC.out; rwa [show k = s.size by omega] at this)
      have p1 : (0 : Int) ≤ (f : Int) := by omega
      have p3 : (f : Int) ≤ (s.size : Int) := by omega
      obtain ⟨z, hz⟩ : ∃ z, s.extract f s.size = z := ⟨_, rfl⟩
      have HD := hide HC2.out.done
      rw [hz] at HD
      go_wp2_with (at_builtin; refine wpList_append_own _ (by rfl) _ _ 51 (by rfl) w.heap.size 9 i0 (.string ⟨#[]⟩) 1 16 Tryd.underlying51 hi hz0 hz1 hz2 rfl (by decide) _ zs.length (zs.map Value.string) (by rfl) (HO.out.alloc (.cells #[.string z] 9)) ⟨wr.heap.size, 0, none⟩ 1 1 [.string z] (by rfl) rfl (World.news_of_block (heap_alloc_new _ _)) (fun u hu => by simp only [List.mem_singleton] at hu; subst hu; rfl) (by unfold maxLen; omega) (by omega) (by have := HB.out.size; simp; omega) ?_; intro v' w2 hown' hgrow _; have HB4 := hide (bel_grown (HB.out.alloc HB.out.size (.cells #[.string z] 9)) (HO.out.alloc (.cells #[.string z] 9)) hgrow); have HO4 := hide (own_more_s hown'); clear hown' hgrow)
      go_ret
      exact CutR.mk_ HD.out HO4.out HB4.out
theorem l2Cut_v {c : UInt8} {i : Int} (hi : i = (c.toNat : Int)) (s : ByteArray) (w : World) (hs : s.size ≤ 1048576) :
    Calls Tryd.prog 44 #[.string s, .int .u8 i] w (CutR c s w) := hi ▸ l2Cut_any c s w hs
end Go.Proofs.YtmhbpmacfekhgaaDoor
