/- Number texts, plainly: which texts are decimals of numbers up to 999999999. -/
import Derived.Test.YtmhbpmacfekhgaaDoorNum
import Derived.Lib.Atoi
namespace Go.Proofs.YtmhbpmacfekhgaaDoor
open Go.RowKit
set_option linter.unusedVariables false

def isDig (c : UInt8) : Bool := decide (48 ≤ c.toNat) && decide (c.toNat ≤ 57)
theorem isDig_iff (c : UInt8) : isDig c = true ↔ 48 ≤ c.toNat ∧ c.toNat ≤ 57 := by simp [isDig]
def dstep (n : Nat) (c : UInt8) : Nat := 10 * n + (c.toNat - 48)
def dval (l : List UInt8) : Nat := l.foldl dstep 0
theorem dval_snoc (l : List UInt8) (c : UInt8) : dval (l ++ [c]) = 10 * dval l + (c.toNat - 48) := by simp [dval, dstep, List.foldl_append]
theorem ofNat_dig {d : Nat} (h : d < 10) : (UInt8.ofNat (48 + d)).toNat = 48 + d := by simp; omega
theorem dig_back {c : UInt8} (h : isDig c = true) : UInt8.ofNat (48 + (c.toNat - 48)) = c := by
  obtain ⟨h1, h2⟩ := (isDig_iff c).1 h
  apply UInt8.toNat_inj.1
  rw [ofNat_dig (by omega)]
  omega
theorem dec_dig (n : Nat) : (Lib.decDigits n).all isDig = true := by
  induction n using Nat.strongRecOn with
  | _ n ih =>
    by_cases h : n < 10
    · rw [Lib.decDigits_one h]
      simp only [List.all_cons, List.all_nil, Bool.and_true]
      rw [isDig_iff, ofNat_dig h]; omega
    · rw [dec_more h, List.all_append, ih (n / 10) (by omega)]
      simp only [List.all_cons, List.all_nil, Bool.and_true, Bool.true_and]
      rw [isDig_iff, ofNat_dig (by omega)]; omega
theorem dval_dec (n : Nat) : dval (Lib.decDigits n) = n := by
  induction n using Nat.strongRecOn with
  | _ n ih =>
    by_cases h : n < 10
    · rw [Lib.decDigits_one h]
      simp only [dval, dstep, List.foldl_cons, List.foldl_nil]
      rw [ofNat_dig h]; omega
    · rw [dec_more h, dval_snoc, ih (n / 10) (by omega), ofNat_dig (by omega)]
      omega
theorem dec_ne (n : Nat) : Lib.decDigits n ≠ [] := by
  by_cases h : n < 10
  · rw [Lib.decDigits_one h]; simp
  · rw [dec_more h]; simp
theorem dec_lenk (k : Nat) : ∀ n : Nat, n < 10 ^ (k + 1) → (Lib.decDigits n).length ≤ k + 1 := by
  induction k with
  | zero =>
    intro n h
    rw [Lib.decDigits_one (by simpa using h)]; simp
  | succ k ih =>
    intro n h
    by_cases h1 : n < 10
    · rw [Lib.decDigits_one h1]; simp
    · rw [dec_more h1, List.length_append, List.length_singleton]
      have := ih (n / 10) (by rw [Nat.pow_succ] at h; omega)
      omega
theorem dec_len9 {n : Nat} (h : n ≤ 999999999) : (Lib.decDigits n).length ≤ 9 := dec_lenk 8 n (by omega)
/-- no zero ahead -/
theorem dec_head (n : Nat) : 10 ≤ n → (Lib.decDigits n).head? ≠ some 48 := by
  induction n using Nat.strongRecOn with
  | _ n ih =>
    intro h
    rw [dec_more (by omega)]
    by_cases h2 : n / 10 < 10
    · rw [Lib.decDigits_one h2]
      simp only [List.cons_append, List.head?_cons, ne_eq, Option.some.injEq]
      intro e
      have := congrArg UInt8.toNat e
      rw [ofNat_dig h2] at this
      have h48 : (48 : UInt8).toNat = 48 := rfl
      omega
    · have hi := ih (n / 10) (by omega) (by omega)
      obtain ⟨a, t, e⟩ := List.exists_cons_of_ne_nil (dec_ne (n / 10))
      rw [e] at hi ⊢
      simpa using hi
theorem snoc_ind {α : Type} {P : List α → Prop} (h0 : P []) (h1 : ∀ l c, P l → P (l ++ [c])) (l : List α) : P l := by
  have : ∀ r : List α, P r.reverse := by
    intro r
    induction r with
    | nil => exact h0
    | cons a t ih => rw [List.reverse_cons]; exact h1 _ _ ih
  simpa using this l.reverse
theorem dval_lt (l : List UInt8) (h : l.all isDig = true) : dval l < 10 ^ l.length := by
  induction l using snoc_ind with
  | h0 => simp [dval]
  | h1 l c ih =>
    rw [List.all_append, Bool.and_eq_true] at h
    simp only [List.all_cons, List.all_nil, Bool.and_true] at h
    have h1 := ih h.1
    have h2 := (isDig_iff c).1 h.2
    rw [dval_snoc, List.length_append, List.length_singleton, Nat.pow_succ]
    omega
theorem dval_pos (l : List UInt8) (hne : l ≠ []) (h : l.all isDig = true) (h0 : l.head? ≠ some 48) : 1 ≤ dval l := by
  induction l using snoc_ind with
  | h0 => exact absurd rfl hne
  | h1 l c ih =>
    rw [List.all_append, Bool.and_eq_true] at h
    simp only [List.all_cons, List.all_nil, Bool.and_true] at h
    rw [dval_snoc]
    cases l with
    | nil =>
      have h2 := (isDig_iff c).1 h.2
      simp only [List.nil_append, List.head?_cons, ne_eq, Option.some.injEq] at h0
      have : c.toNat ≠ 48 := fun e => h0 (UInt8.toNat_inj.1 (by rw [e]; rfl))
      omega
    | cons a t =>
      have := ih (by simp) h.1 (by simpa using h0)
      omega
/-- digits with no zero ahead are the decimals of their number -/
theorem dec_dval (l : List UInt8) (hne : l ≠ []) (h : l.all isDig = true) (h0 : l.length ≤ 1 ∨ l.head? ≠ some 48) : Lib.decDigits (dval l) = l := by
  induction l using snoc_ind with
  | h0 => exact absurd rfl hne
  | h1 l c ih =>
    have hh := h
    rw [List.all_append, Bool.and_eq_true] at h
    simp only [List.all_cons, List.all_nil, Bool.and_true] at h
    have h2 := (isDig_iff c).1 h.2
    rw [dval_snoc]
    cases l with
    | nil =>
      rw [show 10 * dval [] + (c.toNat - 48) = c.toNat - 48 by simp [dval], Lib.decDigits_one (by omega), dig_back h.2]; rfl
    | cons a t =>
      have hd : (a :: t).head? ≠ some 48 := by
        rcases h0 with h0 | h0
        · simp at h0
        · simpa using h0
      have hp := dval_pos (a :: t) (by simp) h.1 hd
      rw [dec_more (by omega), show (10 * dval (a :: t) + (c.toNat - 48)) / 10 = dval (a :: t) by omega, show (10 * dval (a :: t) + (c.toNat - 48)) % 10 = c.toNat - 48 by omega, dig_back h.2, ih (by simp) h.1 (.inr hd)]
def goodN (l : List UInt8) : Bool := !l.isEmpty && (decide (l.length ≤ 9) && (l.all isDig && (decide (l.length ≤ 1) || l.head? != some 48)))
theorem good_iff (l : List UInt8) : goodN l = true ↔ l ≠ [] ∧ l.length ≤ 9 ∧ l.all isDig = true ∧ (l.length ≤ 1 ∨ l.head? ≠ some 48) := by
  simp [goodN]
theorem good_dec {n : Nat} (h : n ≤ 999999999) : goodN (Lib.decDigits n) = true := by
  rw [good_iff]
  refine ⟨dec_ne n, dec_len9 h, dec_dig n, ?_⟩
  by_cases h1 : n < 10
  · rw [Lib.decDigits_one h1]; simp
  · exact .inr (dec_head n (by omega))
theorem good_back {l : List UInt8} (h : goodN l = true) : Lib.decDigits (dval l) = l := by
  obtain ⟨h1, h2, h3, h4⟩ := (good_iff l).1 h
  exact dec_dval l h1 h3 h4
theorem good_le {l : List UInt8} (h : goodN l = true) : dval l ≤ 999999999 := by
  obtain ⟨h1, h2, h3, h4⟩ := (good_iff l).1 h
  have := dval_lt l h3
  have h9 : 10 ^ l.length ≤ 10 ^ 9 := Nat.pow_le_pow_right (by decide) h2
  omega
theorem decFrom_all (l : List UInt8) : ∀ acc : Nat, l.all isDig = true → Lib.decFrom acc l = some (l.foldl dstep acc) := by
  induction l with
  | nil => intro acc _; rfl
  | cons a t ih =>
    intro acc h
    rw [List.all_cons, Bool.and_eq_true] at h
    have h2 := (isDig_iff a).1 h.1
    unfold Lib.decFrom
    rw [show Lib.digitVal a = some (a.toNat - 48) from if_pos h2]
    show Lib.decFrom (acc * 10 + (a.toNat - 48)) t = _
    rw [ih _ h.2, List.foldl_cons, dstep, Nat.mul_comm]
theorem atoi_good {l : List UInt8} (h : goodN l = true) : Lib.atoi l = some (dval l : Int) := by
  obtain ⟨h1, h2, h3, h4⟩ := (good_iff l).1 h
  cases l with
  | nil => exact absurd rfl h1
  | cons a t =>
    have ha := (isDig_iff a).1 (by rw [List.all_cons, Bool.and_eq_true] at h3; exact h3.1)
    have n1 : (a == 45) = false := by rw [beq_eq_false_iff_ne]; intro e; rw [e] at ha; exact absurd ha (by decide)
    have n2 : (a == 43) = false := by rw [beq_eq_false_iff_ne]; intro e; rw [e] at ha; exact absurd ha (by decide)
    simp only [Lib.atoi, n1, n2, Bool.false_eq_true, if_false, Lib.decNat, List.isEmpty_cons]
    rw [decFrom_all _ 0 h3]
    rfl
/-- what is no number text is not what NumPut gives of what Atoi reads -/
theorem numT_bad {s : ByteArray} {m : Int} (h : goodN s.data.toList = false) (ha : Lib.atoi s.data.toList = some m) : numT m ≠ s := by
  intro e
  unfold numT at e
  cases hr : inR m 0 999999999
  · rw [hr, if_neg (by simp)] at e
    rw [← e] at ha
    cases ha
  · obtain ⟨k, rfl, hk⟩ := inR_nat hr
    rw [hr, if_pos rfl, Int.toNat_natCast] at e
    have hg := good_dec hk
    rw [← e] at h
    simp only at h
    rw [hg] at h
    cases h
theorem numT_good {s : ByteArray} (h : goodN s.data.toList = true) : numT (dval s.data.toList) = s := by
  unfold numT
  have := good_le h
  rw [if_pos (by simp only [inR, Bool.and_eq_true, decide_eq_true_eq]; omega), Int.toNat_natCast, good_back h]
/-- how many digits stand ahead, at most nine -/
def pre9 (l : List UInt8) : Nat := min 9 (l.takeWhile isDig).length
theorem pre_of (l : List UInt8) (k : Nat) (h1 : k ≤ l.length) (h9 : k ≤ 9) (hd : (l.take k).all isDig = true) (hs : k = l.length ∨ k = 9 ∨ ∃ c, l[k]? = some c ∧ isDig c = false) : pre9 l = k := by
  unfold pre9
  have hl : l = l.take k ++ l.drop k := (List.take_append_drop k l).symm
  have htw : (l.takeWhile isDig).length = k + ((l.drop k).takeWhile isDig).length := by
    have : l.takeWhile isDig = l.take k ++ (l.drop k).takeWhile isDig := by
      rw [← List.takeWhile_append_of_pos (p := isDig) (l₁ := l.take k) (l₂ := l.drop k) (fun a ha => List.all_eq_true.1 hd a ha), List.take_append_drop]
    rw [this, List.length_append, List.length_take]
    omega
  rcases hs with rfl | rfl | ⟨c, hc, hn⟩
  · rw [htw]; simp; omega
  · omega
  · have hk : k < l.length := by
      rcases Nat.lt_or_ge k l.length with h | h
      · exact h
      · rw [List.getElem?_eq_none h] at hc; cases hc
    have : (l.drop k).takeWhile isDig = [] := by
      rw [List.drop_eq_getElem_cons hk, List.takeWhile_cons]
      have : l[k] = c := by rw [List.getElem?_eq_getElem hk] at hc; exact Option.some.inj hc
      rw [this, hn]; simp
    rw [htw, this]; simp; omega
/-- what l1Num gives -/
def l1T (l : List UInt8) : Nat × Nat := if 1 < pre9 l ∧ l.head? = some 48 then (0, 1) else (dval (l.take (pre9 l)), pre9 l)
theorem l1_good {l : List UInt8} (h : goodN l = true) : l1T l = (dval l, l.length) := by
  obtain ⟨h1, h2, h3, h4⟩ := (good_iff l).1 h
  have hp : pre9 l = l.length := pre_of l l.length (Nat.le_refl _) h2 (by rw [List.take_length]; exact h3) (.inl rfl)
  unfold l1T
  rw [hp, if_neg (by rintro ⟨a, b⟩; rcases h4 with h4 | h4; omega; exact h4 b), List.take_length]
theorem pre_le (l : List UInt8) : pre9 l ≤ l.length := by
  have : (l.takeWhile isDig).length ≤ l.length := (List.takeWhile_sublist _).length_le
  unfold pre9; omega
theorem pre_dig (l : List UInt8) : (l.take (pre9 l)).all isDig = true := by
  have h1 : l.takeWhile isDig = l.take (l.takeWhile isDig).length := (List.prefix_iff_eq_take.1 (List.takeWhile_prefix _))
  have h2 : l.take (pre9 l) = (l.takeWhile isDig).take 9 := by
    conv => rhs; rw [h1]
    rw [List.take_take]; rfl
  rw [h2, List.all_eq_true]
  intro x hx
  have := List.all_takeWhile (p := isDig) (l := l)
  exact List.all_eq_true.1 this x (List.mem_of_mem_take hx)
theorem l1_bad {l : List UInt8} (h : goodN l = false) : (l1T l).2 = 0 ∨ (l1T l).2 ≠ l.length := by
  unfold l1T
  split
  · rename_i hh
    have := pre_le l
    exact .inr (by simp only; omega)
  · rename_i hh
    by_cases hk : pre9 l = 0
    · exact .inl hk
    · refine .inr fun e => ?_
      simp only at e
      have : goodN l = true := by
        rw [good_iff]
        have h9 : pre9 l ≤ 9 := by unfold pre9; omega
        refine ⟨fun e2 => hk (by rw [e2] at e ⊢; simpa using e), by omega, by have := pre_dig l; rw [e, List.take_length] at this; exact this, ?_⟩
        by_cases h1 : l.length ≤ 1
        · exact .inl h1
        · exact .inr fun e3 => hh ⟨by omega, e3⟩
      rw [h] at this
      cases this
end Go.Proofs.YtmhbpmacfekhgaaDoor
