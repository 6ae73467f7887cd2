/- impl's FieldsGet. -/
import Derived.Test.YtnagmagjdglmoaaDoorCutC
import Derived.Test.YtnagmagjdglmoaaDoorStrs
import Derived.Deep.AppendLies
namespace Go.Proofs.YtnagmagjdglmoaaDoor
open Go.RowKit
set_option linter.unusedVariables false

def sizeOfS : Value → Nat
  | .string s => s.size
  | _ => 0
theorem ext_take (B : ByteArray) (n : Nat) : B.extract 0 n = ⟨(B.data.toList.take n).toArray⟩ := by
  apply ByteArray.ext
  apply Array.toList_inj.1
  rw [ByteArray.data_extract, Array.toList_extract, List.extract_eq_take_drop]
  simp
theorem ext_drop (B : ByteArray) (n : Nat) : (B.extract n B.size).data.toList = B.data.toList.drop n := by
  rw [ByteArray.data_extract, Array.toList_extract, List.extract_eq_take_drop]
  apply List.take_of_length_le
  simp
theorem isEmpty_sz (s : ByteArray) : s.toList.isEmpty = decide (s.size = 0) := by
  rw [ByteArray.toList_eq]
  cases h : s.data.toList with
  | nil =>
    have : s.size = 0 := by have := congrArg List.length h; simpa using this
    rw [decide_eq_true this]; rfl
  | cons a t =>
    have : s.size ≠ 0 := by have := congrArg List.length h; simp at this; omega
    rw [decide_eq_false this]; rfl
/-- what FieldsGet gives -/
def GetR (l : List UInt8) (w : World) (r : Ending) (w' : World) : Prop :=
  ∃ v, r = .returned (.tuple #[v, .bool (getB l)]) ∧ w'.ownsRow w.heap.size 9 1 v (getL l).length ((getL l).map Value.string) ∧ Below w.heap.size w w'
theorem owns_nil (w : World) (base : Nat) (e : TypeId) : w.ownsRow base e 1 (.slice none 0 0) 0 [] := ⟨rfl, .inl ⟨rfl, rfl⟩⟩
theorem GetR.no {l : List UInt8} {w w' : World} {v : Value} (h : ¬ GetP l) (ho : w'.ownsRow w.heap.size 9 1 v 0 []) (hb : Below w.heap.size w w') : GetR l w (.returned (.tuple #[v, .bool false])) w' := by
  obtain ⟨h1, h2⟩ := get_no h
  exact ⟨v, by rw [h1], by rw [h2]; exact ho, hb⟩
theorem GetR.yes {l : List UInt8} {zs : List ByteArray} {w w' : World} {v : Value} (h : getB l = true ∧ getL l = zs) (ho : w'.ownsRow w.heap.size 9 1 v zs.length (zs.map Value.string)) (hb : Below w.heap.size w w') : GetR l w (.returned (.tuple #[v, .bool true])) w' :=
  ⟨v, by rw [h.1], by rw [h.2]; exact ho, hb⟩
theorem own_more_s {w : World} {base : Nat} {v : Value} {zs : List ByteArray} {z : ByteArray} (h : w.ownsRow base 9 1 v (zs.length + 1) (zs.map Value.string ++ [.string z])) : w.ownsRow base 9 1 v (zs ++ [z]).length ((zs ++ [z]).map Value.string) := by
  rw [List.length_append, List.length_singleton, List.map_append]
  exact h
theorem bsz (l : List UInt8) : (⟨l.toArray⟩ : ByteArray).size = l.length := by show l.toArray.size = _; rw [List.size_toArray]
theorem ba_self (B : ByteArray) : (⟨B.data.toList.toArray⟩ : ByteArray) = B := by cases B; rfl
theorem own_bel {w w' : World} {base : Nat} {e : TypeId} {k n : Nat} {v : Value} {xs : List Value} (h : w.ownsRow base e k v n xs) (hb : Below w.heap.size w w') : w'.ownsRow base e k v n xs := by
  refine ⟨h.1, ?_⟩
  rcases h.2 with h2 | ⟨g, cap, cur, hv, hg, hh, r⟩
  · exact .inl h2
  · refine .inr ⟨g, cap, cur, hv, hg, ?_, r⟩
    rw [hb.block g (Array.getElem?_eq_some_iff.1 hh).1]
    exact hh
theorem own_shape {w : World} {base : Nat} {e : TypeId} {k n : Nat} {v : Value} {xs : List Value} (h : w.ownsRow base e k v n xs) : ∃ A c, v = .slice A n c := by
  rcases h.2 with ⟨rfl, rfl⟩ | ⟨g, cap, cur, rfl, _⟩
  · exact ⟨_, _, rfl⟩
  · exact ⟨_, _, rfl⟩

set_option maxHeartbeats 4000000 in
set_option maxRecDepth 100000 in
theorem implFieldsGet_any (s : ByteArray) (w : World) (hs : s.size ≤ 1048576) (ht : Tab w) (he : Err w) (hx : Mx w) :
    Calls Tryd.prog 25 #[.string s] w (GetR s.data.toList w) := by
  obtain ⟨i0, hi, hz0, hz1, hz2⟩ := info_parts info_str
  have HT := hide ht
  have HE := hide he
  have HX := hide hx
  have HSL := hide (show s.data.toList.length = s.size by simp)
  clear ht he hx
  by_cases hbig : 2048 < s.size
  · have HN := hide (show ¬ GetP s.data.toList from fun h => by have := h.1; rw [HSL.out] at this; omega)
    go_enter Tryd.func25, Tryd.ntmps25
    go_wp2_with fail
    go_ret2
    exact GetR.no HN.out (owns_nil _ _ _) (Below.refl _ _)
  · go_enter Tryd.func25, Tryd.ntmps25
    go_wp2_with fail
    go_loopw [4, 5] (fun v x wr => ∃ (zs : List ByteArray) (R : ByteArray), zs.length ≤ 60 ∧ Hid (Got s.data.toList zs R.data.toList) ∧ Hid (wr.ownsRow w.heap.size 9 1 v zs.length (zs.map Value.string)) ∧ Hid (Below w.heap.size w wr) ∧ x = .string R) (fun _ x _ => sizeOfS x)
    case atStart => exact ⟨[], s, by simp, hide ⟨by rw [HSL.out]; omega, by simp [recOf]⟩, hide (owns_nil _ _ _), hide (Below.refl _ _), rfl⟩
    case round =>
      obtain ⟨zs, R, h60, HG, HO, HB, rfl⟩ := hrel
      obtain ⟨A, c, rfl⟩ := own_shape HO.out
      have hq := isEmpty_sz R
      have HRL := hide (show R.data.toList.length = R.size by simp)
      have hR : R.size ≤ 2048 := by have := HG.out.rest; rw [HRL.out] at this; exact this
      by_cases h0 : R.size = 0
      · rw [decide_eq_true h0] at hq
        have HY := hide (show getB s.data.toList = true ∧ getL s.data.toList = zs from Got.done (by have := HG.out; rw [List.eq_nil_of_length_eq_zero (HRL.out.trans h0)] at this; exact this) h60)
        go_wp2_with fail
        go_ret2
        exact GetR.yes HY.out HO.out HB.out
      · rw [decide_eq_false h0] at hq
        have hne : R.data.toList ≠ [] := fun e => h0 (by rw [← HRL.out, e]; rfl)
        have HNE := hide hne
        clear hne
        by_cases hcol : 58 ∈ R.data.toList
        · obtain ⟨a, b, hab, ha⟩ := colon_split _ hcol
          have HA := hide ha
          have HCUT := hide (cut_yes a b ha)
          rw [← hab] at HCUT
          obtain ⟨B, hB⟩ : ∃ B : ByteArray, B = ⟨b.toArray⟩ := ⟨_, rfl⟩
          have hbB : B.data.toList = b := by rw [hB]
          have hlen : a.length + 1 + B.size = R.size := by
            have := congrArg List.length hab
            rw [HRL.out, List.length_append, List.length_cons] at this
            rw [hB, bsz]; omega
          have HGS := hide HG.out
          rw [hab, ← hbB] at HGS
          obtain ⟨Num, hN⟩ : ∃ N : ByteArray, N = ⟨a.toArray⟩ := ⟨_, rfl⟩
          have hNa : Num.data.toList = a := by rw [hN]
          have HNG := hide (fun w ht he => implNumGet_any Num w ht he)
          rw [hNa] at HNG
          obtain ⟨g, hg⟩ : ∃ g, goodN a = g := ⟨_, rfl⟩
          obtain ⟨m, hm⟩ : ∃ m, numG a = m := ⟨_, rfl⟩
          rw [hg, hm] at HNG
          have HGG := hide hg
          have HM := hide hm
          have HNN := hide hN
          have HBB := hide hB
          have HBL := hide (show B.data.toList.length = B.size by simp)
          clear hab ha hcol hg hm hN hB hNa hbB
          go_wp2_with fail
          refine (cutC R _ (by omega) (HX.out.after HB.out) a b true HCUT.out).mono ?_; rintro r x1 ⟨rfl, hb1⟩
          rw [← HNN.out, ← HBB.out]
          have HO1 := hide (own_bel HO.out hb1)
          have HB1 := hide (HB.out.trans (hb1.mono HB.out.size))
          clear hb1
          go_wp2_with fail
          refine (HNG.out _ (HT.out.after HB1.out) (HE.out.after HB1.out)).mono ?_; rintro r x2 ⟨rfl, hb2⟩
          have HO2 := hide (own_bel HO1.out hb2)
          have HB2 := hide (HB1.out.trans (hb2.mono HB1.out.size))
          clear hb2
          cases g
          · have HF := hide (HGS.out.fail HA.out (.inl HGG.out))
            go_wp2_with fail
            go_ret2
            exact GetR.no HF.out (owns_nil _ _ _) HB2.out
          · obtain ⟨d, hd⟩ : ∃ d : Nat, d = dval a := ⟨_, rfl⟩
            have hmd : m = (d : Int) := by rw [← HM.out, hd]; exact (numG_yes HGG.out).symm
            subst hmd
            by_cases hdl : B.size < d
            · have HF := hide (HGS.out.fail HA.out (.inr (.inl (by rw [HBL.out, ← hd]; exact hdl))))
              clear hd
              go_wp2_with fail
              go_ret2
              exact GetR.no HF.out (owns_nil _ _ _) HB2.out
            · by_cases h6 : zs.length = 60
              · have HF := hide (HGS.out.fail HA.out (.inr (.inr (by omega))))
                have j6 : ((zs.length : Int) == 60) = true := by rw [beq_iff_eq]; omega
                have j7 : decide ((B.size : Int) < (d : Int)) = false := decide_eq_false (by omega)
                clear hd h6
                go_wp2_with fail
                go_ret2
                exact GetR.no HF.out (owns_nil _ _ _) HB2.out
              · have j6 : ((zs.length : Int) == 60) = false := by rw [beq_eq_false_iff_ne]; omega
                have j7 : decide ((B.size : Int) < (d : Int)) = false := decide_eq_false (by omega)
                have HX2 := hide (HGS.out.next HGG.out (by rw [HBL.out, ← hd]; omega))
                rw [← hd, ← ext_take, ← ext_drop] at HX2
                have hl60 : zs.length < 60 := by omega
                have hdB : d ≤ B.size := by omega
                clear hd h6 hdl
                obtain ⟨z, hz⟩ : ∃ z, B.extract 0 d = z := ⟨_, rfl⟩
                have hzs : z.size ≤ 1048576 := by rw [← hz, ByteArray.size_extract]; omega
                rw [hz] at HX2
                have hrs : (B.extract d B.size).size = B.size - d := by rw [ByteArray.size_extract]; omega
                obtain ⟨R2, hR2⟩ : ∃ R2, B.extract d B.size = R2 := ⟨_, rfl⟩
                rw [hR2] at HX2 hrs
                go_upto_region 10 with fail
                go_wp2_with fail
                refine (cloneC z _ hzs).mono ?_; rintro r x3 ⟨rfl, hb3⟩
                have HO3 := hide (own_bel HO2.out hb3)
                have HB3 := hide (HB2.out.trans (hb3.mono HB2.out.size))
                clear hb3
                go_wp2_with (at_builtin; refine wpList_append_own _ (by rfl) _ _ 31 (by rfl) w.heap.size 9 i0 (.string ⟨#[]⟩) 1 16 Tryd.underlying31 hi hz0 hz1 hz2 rfl (by decide) _ zs.length (zs.map Value.string) (by rfl) (HO3.out.alloc (.cells #[.string z] 9)) ⟨x3.heap.size, 0, none⟩ 1 1 [.string z] (by rfl) rfl (World.news_of_block (heap_alloc_new _ _)) (fun u hu => by simp only [List.mem_singleton] at hu; subst hu; rfl) (by unfold maxLen; omega) (by omega) (by have := HB3.out.size; simp; omega) ?_; intro v' w2 hown' hgrow _; have HB4 := hide (bel_grown (HB3.out.alloc HB3.out.size (.cells #[.string z] 9)) (HO3.out.alloc (.cells #[.string z] 9)) hgrow); have HO4 := hide (own_more_s hown'); clear hown' hgrow)
                go_roundw
                case rel => exact ⟨zs ++ [z], R2, by simp; omega, HX2, HO4, HB4, rfl⟩
                case measure => show R2.size < R.size; omega
        · have HF := hide (HG.out.fail0 HNE.out hcol)
          have HCUT := hide (cut_no _ hcol)
          have HNG := hide (fun w ht he => implNumGet_any R w ht he)
          clear hcol
          obtain ⟨g, hg⟩ : ∃ g, goodN R.data.toList = g := ⟨_, rfl⟩
          obtain ⟨m, hm⟩ : ∃ m, numG R.data.toList = m := ⟨_, rfl⟩
          rw [hg, hm] at HNG
          clear hg hm
          go_wp2_with fail
          refine (cutC R _ (by omega) (HX.out.after HB.out) _ [] false HCUT.out).mono ?_; rintro r x1 ⟨rfl, hb1⟩
          have HB1 := hide (HB.out.trans (hb1.mono HB.out.size))
          clear hb1
          go_wp2_with fail
          refine (HNG.out _ (HT.out.after HB1.out) (HE.out.after HB1.out)).mono ?_; rintro r x2 ⟨rfl, hb2⟩
          have HB2 := hide (HB1.out.trans (hb2.mono HB1.out.size))
          clear hb2
          go_wp2_with fail
          go_ret2
          exact GetR.no HF.out (owns_nil _ _ _) HB2.out
end Go.Proofs.YtnagmagjdglmoaaDoor
