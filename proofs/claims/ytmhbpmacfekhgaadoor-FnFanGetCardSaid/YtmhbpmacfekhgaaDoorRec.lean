/- Records, plainly: which texts are records, and how each reading step tells. -/
import Derived.Test.YtmhbpmacfekhgaaDoorFields
import Derived.Lib.IndexMore
namespace Go.Proofs.YtmhbpmacfekhgaaDoor
open Go.RowKit
set_option linter.unusedVariables false

theorem idx_yes : ∀ (a b : List UInt8), 58 ∉ a → Lib.index (a ++ 58 :: b) [58] = (a.length : Int)
  | [], b, _ => by simp [Lib.index]
  | c :: t, b, h => by
    have hc : ¬ (58 : UInt8) = c := fun e => h (by rw [← e]; exact List.mem_cons_self)
    have hi := idx_yes t b (fun e => h (List.mem_cons_of_mem _ e))
    have hp : ([58] : List UInt8).isPrefixOf (c :: (t ++ 58 :: b)) = false := by simp [List.isPrefixOf, hc]
    show Lib.index (c :: (t ++ 58 :: b)) [58] = _
    unfold Lib.index
    rw [hp, hi, if_neg (by simp), if_neg (by rw [beq_iff_eq]; omega), List.length_cons]
    omega
theorem idx_no : ∀ (a : List UInt8), 58 ∉ a → Lib.index a [58] = -1
  | [], _ => by simp [Lib.index]
  | c :: t, h => by
    have hc : ¬ (58 : UInt8) = c := fun e => h (by rw [← e]; exact List.mem_cons_self)
    have hi := idx_no t (fun e => h (List.mem_cons_of_mem _ e))
    have hp : ([58] : List UInt8).isPrefixOf (c :: t) = false := by simp [List.isPrefixOf, hc]
    unfold Lib.index
    rw [hp, hi, if_neg (by simp), if_pos (by decide)]
theorem cut_yes (a b : List UInt8) (h : 58 ∉ a) : Lib.cut (a ++ 58 :: b) [58] = (a, b, true) := by
  unfold Lib.cut
  rw [idx_yes a b h, if_pos (by omega), Int.toNat_natCast, List.take_left, show ([58] : List UInt8).length = 1 from rfl]
  rw [show a ++ 58 :: b = (a ++ [58]) ++ b by simp, List.drop_left' (by simp)]
theorem cut_no (a : List UInt8) (h : 58 ∉ a) : Lib.cut a [58] = (a, [], false) := by
  unfold Lib.cut
  rw [idx_no a h, if_neg (by omega)]
/-- the first colon -/
theorem colon_split (l : List UInt8) (h : 58 ∈ l) : ∃ a b, l = a ++ 58 :: b ∧ 58 ∉ a := by
  induction l with
  | nil => cases h
  | cons c t ih =>
    by_cases hc : c = 58
    · exact ⟨[], t, by rw [hc]; rfl, by simp⟩
    · have ht : 58 ∈ t := by
        rcases List.mem_cons.1 h with e | e
        · exact absurd e.symm hc
        · exact e
      obtain ⟨a, b, e, ha⟩ := ih ht
      refine ⟨c :: a, b, by rw [e]; rfl, ?_⟩
      intro hm
      rcases List.mem_cons.1 hm with e2 | e2
      · exact hc e2.symm
      · exact ha e2
theorem split58 : ∀ (a b x y : List UInt8), 58 ∉ a → 58 ∉ b → a ++ 58 :: x = b ++ 58 :: y → a = b ∧ x = y
  | [], [], x, y, _, _, h => by simpa using h
  | [], c :: b, x, y, _, hb, h => by
    simp at h
    exact absurd (by rw [← h.1]; exact List.mem_cons_self) hb
  | c :: a, [], x, y, ha, _, h => by
    simp at h
    exact absurd (by rw [h.1]; exact List.mem_cons_self) ha
  | c :: a, d :: b, x, y, ha, hb, h => by
    simp only [List.cons_append, List.cons.injEq] at h
    obtain ⟨h1, h2⟩ := split58 a b x y (fun e => ha (List.mem_cons_of_mem _ e)) (fun e => hb (List.mem_cons_of_mem _ e)) h.2
    exact ⟨by rw [h.1, h1], h2⟩
theorem dec_no58 (n : Nat) : 58 ∉ Lib.decDigits n := by
  intro h
  have := (isDig_iff _).1 (List.all_eq_true.1 (dec_dig n) _ h)
  exact absurd this (by decide)
theorem fld_eq (z : ByteArray) (A : List UInt8) : fld z ++ A = Lib.decDigits z.size ++ 58 :: (z.data.toList ++ A) := by simp [fld]
theorem fld_inj {z y : ByteArray} {A B : List UInt8} (h : fld z ++ A = fld y ++ B) : z = y ∧ A = B := by
  rw [fld_eq, fld_eq] at h
  obtain ⟨h1, h2⟩ := split58 _ _ _ _ (dec_no58 _) (dec_no58 _) h
  have hs : z.size = y.size := by have := congrArg dval h1; rw [dval_dec, dval_dec] at this; exact this
  obtain ⟨h3, h4⟩ := List.append_inj h2 (by simpa using hs)
  exact ⟨ByteArray.ext (Array.toList_inj.1 h3), h4⟩
theorem recOf_cons (z : ByteArray) (zs : List ByteArray) : recOf (z :: zs) = fld z ++ recOf zs := by simp [recOf]
theorem fld_ne (z : ByteArray) (A : List UInt8) : fld z ++ A ≠ [] := by rw [fld_eq]; simp
theorem rec_pre (zs : List ByteArray) : ∀ (ys : List ByteArray) (r : List UInt8), recOf ys = recOf zs ++ r → ∃ t, ys = zs ++ t ∧ recOf t = r := by
  induction zs with
  | nil => intro ys r h; exact ⟨ys, rfl, h⟩
  | cons z zs ih =>
    intro ys r h
    cases ys with
    | nil =>
      rw [recOf_cons, List.append_assoc] at h
      exact absurd h.symm (fld_ne _ _)
    | cons y t =>
      rw [recOf_cons, recOf_cons, List.append_assoc] at h
      obtain ⟨h1, h2⟩ := fld_inj h
      obtain ⟨u, e, hu⟩ := ih t r h2
      exact ⟨u, by rw [h1, e]; rfl, hu⟩
theorem rec_uniq {ys zs : List ByteArray} (h : recOf ys = recOf zs) : ys = zs := by
  obtain ⟨t, e, ht⟩ := rec_pre zs ys [] (by simpa using h)
  cases t with
  | nil => simpa using e
  | cons y u => rw [recOf_cons] at ht; exact absurd ht (fld_ne _ _)
/-- a text is a record -/
def GetP (l : List UInt8) : Prop := l.length ≤ 2048 ∧ ∃ ys : List ByteArray, ys.length ≤ 60 ∧ recOf ys = l
noncomputable instance (l : List UInt8) : Decidable (GetP l) := Classical.propDecidable _
noncomputable def getB (l : List UInt8) : Bool := decide (GetP l)
noncomputable def getL (l : List UInt8) : List ByteArray := if h : GetP l then Classical.choose h.2 else []
theorem get_yes {l : List UInt8} {ys : List ByteArray} (h0 : l.length ≤ 2048) (h1 : ys.length ≤ 60) (h2 : recOf ys = l) : getB l = true ∧ getL l = ys := by
  have h : GetP l := ⟨h0, ys, h1, h2⟩
  unfold getB getL
  refine ⟨decide_eq_true h, ?_⟩
  rw [dif_pos h]
  exact rec_uniq ((Classical.choose_spec h.2).2.trans h2.symm)
theorem get_no {l : List UInt8} (h : ¬ GetP l) : getB l = false ∧ getL l = [] := by
  unfold getB getL
  exact ⟨decide_eq_false h, dif_neg h⟩
theorem get_of {l : List UInt8} (h : getB l = true) : l.length ≤ 2048 ∧ (getL l).length ≤ 60 ∧ recOf (getL l) = l := by
  have hp : GetP l := by unfold getB at h; exact of_decide_eq_true h
  unfold getL
  rw [dif_pos hp]
  exact ⟨hp.1, Classical.choose_spec hp.2⟩
theorem get_len {l : List UInt8} : (getL l).length ≤ 60 := by
  by_cases h : GetP l
  · exact (get_of (by unfold getB; exact decide_eq_true h)).2.1
  · rw [(get_no h).2]; simp
/-- what is read of a text so far -/
def Got (l : List UInt8) (zs : List ByteArray) (r : List UInt8) : Prop := l.length ≤ 2048 ∧ recOf zs ++ r = l
theorem Got.rest {l : List UInt8} {zs : List ByteArray} {r : List UInt8} (h : Got l zs r) : r.length ≤ 2048 := by
  have := congrArg List.length h.2
  rw [List.length_append] at this
  have := h.1
  omega
theorem Got.next {l : List UInt8} {zs : List ByteArray} {num tail : List UInt8} (h : Got l zs (num ++ 58 :: tail)) (hg : goodN num = true) (hd : dval num ≤ tail.length) :
    Got l (zs ++ [⟨(tail.take (dval num)).toArray⟩]) (tail.drop (dval num)) := by
  refine ⟨h.1, ?_⟩
  rw [recOf_app, ← h.2, List.append_assoc]
  congr 1
  rw [recOf_cons, List.append_assoc, fld_eq]
  have hs : (⟨(tail.take (dval num)).toArray⟩ : ByteArray).size = dval num := by
    show (tail.take (dval num)).toArray.size = _
    rw [List.size_toArray, List.length_take]; omega
  rw [hs, good_back hg]
  simp [recOf]
/-- what stands behind what is read, were the text a record -/
theorem Got.must {l : List UInt8} {zs : List ByteArray} {r : List UInt8} (h : Got l zs r) (hr : r ≠ []) (hp : GetP l) : zs.length < 60 ∧ ∃ (y : ByteArray) (u : List UInt8), y.size ≤ 2048 ∧ r = Lib.decDigits y.size ++ 58 :: (y.data.toList ++ u) := by
  obtain ⟨_, ys, h1, h2⟩ := hp
  obtain ⟨t, e, ht⟩ := rec_pre zs ys r (by rw [h2, h.2])
  cases t with
  | nil => exact absurd ht.symm hr
  | cons y u =>
    have hl := h.rest
    rw [recOf_cons] at ht
    have hy : y.size ≤ 2048 := by
      have := congrArg List.length ht
      rw [List.length_append] at this
      have := fld_len y
      omega
    rw [e, List.length_append, List.length_cons] at h1
    exact ⟨by omega, y, recOf u, hy, by rw [← ht, fld_eq]⟩
theorem Got.fail {l : List UInt8} {zs : List ByteArray} {num tail : List UInt8} (h : Got l zs (num ++ 58 :: tail)) (hn : 58 ∉ num) (hf : goodN num = false ∨ tail.length < dval num ∨ 60 ≤ zs.length) : ¬ GetP l := by
  intro hp
  obtain ⟨h60, y, u, hy, e⟩ := h.must (by simp) hp
  obtain ⟨e1, e2⟩ := split58 _ _ _ _ hn (dec_no58 _) e
  rcases hf with hf | hf | hf
  · rw [e1, good_dec (by omega)] at hf; cases hf
  · rw [e1, dval_dec, e2, List.length_append] at hf
    have : y.data.toList.length = y.size := by simp
    omega
  · omega
theorem Got.fail0 {l : List UInt8} {zs : List ByteArray} {r : List UInt8} (h : Got l zs r) (hr : r ≠ []) (hn : 58 ∉ r) : ¬ GetP l := by
  intro hp
  obtain ⟨h60, y, u, hy, e⟩ := h.must hr hp
  exact hn (by rw [e]; simp)
theorem Got.done {l : List UInt8} {zs : List ByteArray} (h : Got l zs []) (h60 : zs.length ≤ 60) : getB l = true ∧ getL l = zs := get_yes h.1 h60 (by simpa using h.2)
theorem Got.over {l : List UInt8} {zs : List ByteArray} (h : Got l zs []) (h60 : 60 < zs.length) : ¬ GetP l := by
  rintro ⟨_, ys, h1, h2⟩
  have := rec_uniq (h2.trans (show l = recOf zs by simpa using h.2.symm))
  rw [this] at h1
  omega
/-- l1Num at the beginning of a field -/
theorem l1_fld (n : Nat) (hn : n ≤ 999999999) (x : List UInt8) : l1T (Lib.decDigits n ++ 58 :: x) = (n, (Lib.decDigits n).length) := by
  have hp : pre9 (Lib.decDigits n ++ 58 :: x) = (Lib.decDigits n).length := by
    refine pre_of _ _ (by simp) (dec_len9 hn) (by rw [List.take_left]; exact dec_dig n) (.inr (.inr ⟨58, by simp, by decide⟩))
  unfold l1T
  rw [hp, if_neg, List.take_left, dval_dec]
  rintro ⟨a, b⟩
  by_cases h1 : n < 10
  · rw [Lib.decDigits_one h1] at a; simp at a
  · have := dec_head n (by omega)
    obtain ⟨c, t, e⟩ := List.exists_cons_of_ne_nil (dec_ne n)
    rw [e] at b this
    exact this (by simpa using b)
theorem l1_dig {r : List UInt8} {n k : Nat} (h : l1T r = (n, k)) (h0 : k ≠ 0) (hc : r[k]? = some 58) : goodN (r.take k) = true ∧ dval (r.take k) = n ∧ 58 ∉ r.take k := by
  have hd := pre_dig r
  have hl := pre_le r
  have h9 : pre9 r ≤ 9 := by unfold pre9; omega
  unfold l1T at h
  split at h
  · rename_i hh
    have hk : k = 1 := (Prod.mk.inj h).2.symm
    subst hk
    exfalso
    have h1 : isDig 58 = true := by
      refine List.all_eq_true.1 hd 58 ?_
      refine List.mem_of_getElem? (i := 1) ?_
      rw [List.getElem?_take_of_lt hh.1]; exact hc
    exact absurd h1 (by decide)
  · rename_i hh
    obtain ⟨e1, e2⟩ := Prod.mk.inj h
    rw [← e2]
    refine ⟨?_, e1, ?_⟩
    · rw [good_iff]
      refine ⟨?_, ?_, hd, ?_⟩
      · intro e
        have := congrArg List.length e
        rw [List.length_take, List.length_nil] at this
        omega
      · rw [List.length_take]; omega
      · by_cases h1 : 1 < pre9 r
        · refine .inr fun e => hh ⟨h1, ?_⟩
          cases r with
          | nil => simp at hl; omega
          | cons a t =>
            obtain ⟨m, hm⟩ : ∃ m, pre9 (a :: t) = m + 1 := ⟨pre9 (a :: t) - 1, by omega⟩
            rw [hm] at e
            simpa using e
        · exact .inl (by rw [List.length_take]; omega)
    · intro hm
      exact absurd (List.all_eq_true.1 hd 58 hm) (by decide)
theorem at_split {r : List UInt8} {k : Nat} (hc : r[k]? = some 58) : r = r.take k ++ 58 :: r.drop (k + 1) := by
  have hk : k < r.length := by
    rcases Nat.lt_or_ge k r.length with h | h
    · exact h
    · rw [List.getElem?_eq_none h] at hc; cases hc
  have e : r[k] = 58 := by rw [List.getElem?_eq_getElem hk] at hc; exact Option.some.inj hc
  conv => lhs; rw [← List.take_append_drop k r, List.drop_eq_getElem_cons hk, e]
theorem Got.spec {l : List UInt8} {zs : List ByteArray} {r : List UInt8} {n k : Nat} (h : Got l zs r) (hl : l1T r = (n, k)) (h0 : k ≠ 0) (hc : r[k]? = some 58) (hn : n ≤ r.length - k - 1) :
    Got l (zs ++ [⟨((r.drop (k + 1)).take n).toArray⟩]) ((r.drop (k + 1)).drop n) := by
  obtain ⟨h1, h2, h3⟩ := l1_dig hl h0 hc
  rw [at_split hc] at h
  have := h.next h1 (by rw [h2, List.length_drop]; omega)
  rw [h2] at this
  exact this
theorem Got.specFail {l : List UInt8} {zs : List ByteArray} {r : List UInt8} {n k : Nat} (h : Got l zs r) (hr : r ≠ []) (hl : l1T r = (n, k)) (hf : k = 0 ∨ r[k]? ≠ some 58 ∨ r.length - k - 1 < n) : ¬ GetP l := by
  intro hp
  obtain ⟨h60, y, u, hy, e⟩ := h.must hr hp
  rw [e, l1_fld y.size (by omega)] at hl
  obtain ⟨e1, e2⟩ := Prod.mk.inj hl
  rcases hf with hf | hf | hf
  · rw [← e2] at hf
    exact dec_ne _ (List.eq_nil_of_length_eq_zero hf)
  · apply hf
    rw [e, ← e2]; simp
  · rw [e, ← e2, ← e1] at hf
    have : y.data.toList.length = y.size := by simp
    simp at hf
    omega
end Go.Proofs.YtmhbpmacfekhgaaDoor
