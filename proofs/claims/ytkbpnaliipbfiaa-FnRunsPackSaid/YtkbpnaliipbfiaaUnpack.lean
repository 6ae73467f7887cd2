/- Opening what is packed: the plain function that both RunsOpen compute. No program in sight. -/
import Derived.Test.YtkbpnaliipbfiaaPack
import Derived.Lib.Repeat
namespace Go.Proofs.Ytkbpnaliipbfiaa

/-- unpacked, unless it is no packed text -/
def unpk : List UInt8 → Option (List UInt8)
  | [] => some []
  | [c] => if c = 126 then none else some [c]
  | [c, d] => if c = 126 then none else (unpk [d]).map (c :: ·)
  | c :: d :: x :: r => if c = 126 then (if 49 ≤ d.toNat ∧ d.toNat ≤ 57 then (unpk r).map (List.replicate (d.toNat - 48) x ++ ·) else none) else (unpk (d :: x :: r)).map (c :: ·)
theorem unpk_cons (c : UInt8) (l : List UInt8) (h : c ≠ 126) : unpk (c :: l) = (unpk l).map (c :: ·) := by
  match l with
  | [] => unfold unpk; rw [if_neg h]; rfl
  | [d] => simp [unpk, h]
  | d :: x :: r => rw [unpk, if_neg h]
theorem unpk_run (d x : UInt8) (r : List UInt8) (h : 49 ≤ d.toNat ∧ d.toNat ≤ 57) : unpk (126 :: d :: x :: r) = (unpk r).map (List.replicate (d.toNat - 48) x ++ ·) := by rw [unpk, if_pos rfl, if_pos h]
theorem unpk_bad (d x : UInt8) (r : List UInt8) (h : ¬ (49 ≤ d.toNat ∧ d.toNat ≤ 57)) : unpk (126 :: d :: x :: r) = none := by rw [unpk, if_pos rfl, if_neg h]
theorem unpk_short (l : List UInt8) (h : l.length ≤ 1) : unpk (126 :: l) = none := by
  match l, h with
  | [], _ => unfold unpk; rw [if_pos rfl]
  | [d], _ => rw [unpk, if_pos rfl]

theorem lead_take (c : UInt8) : ∀ (m : Nat) (l : List UInt8), l = List.replicate (lead c m l) c ++ l.drop (lead c m l)
  | 0, l => by simp [lead]
  | _ + 1, [] => by simp [lead]
  | m + 1, d :: r => by
    unfold lead
    by_cases h : d = c
    · rw [if_pos h, h]
      have := lead_take c m r
      rw [List.replicate_succ, List.drop_succ_cons, List.cons_append, ← this]
    · rw [if_neg h]; simp
/-- what is packed opens to what it was -/
theorem unpk_pack : ∀ (n : Nat) (l : List UInt8), l.length ≤ n → unpk (pack l) = some l
  | _, [], _ => rfl
  | 0, _ :: _, h => by simp at h
  | n + 1, c :: r, h => by
    simp at h
    rw [pack_cons]
    by_cases h1 : 3 ≤ lead c 8 r ∨ c = 126
    · have hle := (lead_le c 8 r).1
      have hd : (UInt8.ofNat (49 + lead c 8 r)).toNat = 49 + lead c 8 r := by rw [UInt8.toNat_ofNat']; omega
      rw [if_pos h1, unpk_run _ _ _ (by omega), unpk_pack n _ (by rw [List.length_drop]; omega), hd]
      show some (List.replicate (49 + lead c 8 r - 48) c ++ r.drop (lead c 8 r)) = _
      rw [show 49 + lead c 8 r - 48 = lead c 8 r + 1 by omega, List.replicate_succ, List.cons_append, ← lead_take]
    · rw [if_neg h1, unpk_cons _ _ (fun e => h1 (.inr e)), unpk_pack n r h]
      rfl
/-- what a text opens to -/
def opened (p : List UInt8) : Option (List UInt8) := match unpk p with | some out => if pack out = p then some out else none | none => none
theorem opened_pack (l : List UInt8) : opened (pack l) = some l := by
  unfold opened
  rw [unpk_pack l.length l (Nat.le_refl _)]
  simp
theorem opened_back {p out : List UInt8} (h : opened p = some out) : pack out = p := by
  unfold opened at h
  split at h
  · rename_i o _
    by_cases e : pack o = p
    · rw [if_pos e] at h
      injection h with h
      rw [← h]; exact e
    · rw [if_neg e] at h; cases h
  · cases h
theorem opened_none {p : List UInt8} (h : unpk p = none) : opened p = none := by unfold opened; rw [h]
theorem opened_no {p out : List UInt8} (h : unpk p = some out) (e : pack out ≠ p) : opened p = none := by unfold opened; rw [h]; exact if_neg e
theorem opened_yes {p out : List UInt8} (h : unpk p = some out) (e : pack out = p) : opened p = some out := by unfold opened; rw [h]; exact if_pos e

/-- behind i bytes: what is written, and what is left to open -/
def Left (p : List UInt8) (i : Nat) (out : List UInt8) : Prop := unpk p = (unpk (p.drop i)).map (out ++ ·)
theorem Left.start (p : List UInt8) : Left p 0 [] := by unfold Left; rw [List.drop_zero]; cases unpk p <;> rfl
theorem drop_at {p : List UInt8} {i : Nat} {c : UInt8} (h : p[i]? = some c) : p.drop i = c :: p.drop (i + 1) := by
  have hlt := (List.getElem?_eq_some_iff.1 h).1
  rw [List.drop_eq_getElem_cons hlt]
  rw [List.getElem?_eq_getElem hlt] at h
  injection h with h
  rw [h]
theorem Left.one {p out : List UInt8} {i : Nat} {c : UInt8} (H : Left p i out) (h : p[i]? = some c) (hc : c ≠ 126) : Left p (i + 1) (out ++ [c]) := by
  unfold Left at H ⊢
  rw [H, drop_at h, unpk_cons _ _ hc]
  cases unpk (p.drop (i + 1)) <;> simp
theorem Left.run {p out : List UInt8} {i : Nat} {d x : UInt8} (H : Left p i out) (h : p[i]? = some 126) (h1 : p[i + 1]? = some d) (h2 : p[i + 2]? = some x) (hd : 49 ≤ d.toNat ∧ d.toNat ≤ 57) : Left p (i + 3) (out ++ List.replicate (d.toNat - 48) x) := by
  unfold Left at H ⊢
  rw [H, drop_at h, drop_at h1, drop_at h2, unpk_run _ _ _ hd]
  cases unpk (p.drop (i + 3)) <;> simp
theorem Left.bad {p out : List UInt8} {i : Nat} {d : UInt8} (H : Left p i out) (h : p[i]? = some 126) (h1 : p[i + 1]? = some d) (h2 : i + 2 < p.length) (hd : ¬ (49 ≤ d.toNat ∧ d.toNat ≤ 57)) : unpk p = none := by
  unfold Left at H
  rw [H, drop_at h, drop_at h1, drop_at (List.getElem?_eq_getElem h2), unpk_bad _ _ _ hd]
  rfl
theorem Left.short {p out : List UInt8} {i : Nat} (H : Left p i out) (h : p[i]? = some 126) (h2 : p.length ≤ i + 2) : unpk p = none := by
  unfold Left at H
  rw [H, drop_at h, unpk_short _ (by rw [List.length_drop]; omega)]
  rfl
theorem Left.done {p out : List UInt8} {i : Nat} (H : Left p i out) (h : p.length ≤ i) : unpk p = some out := by
  unfold Left at H
  rw [H, List.drop_eq_nil_of_le h]
  simp [unpk]
theorem rep_one (x : UInt8) (n : Nat) : Lib.repeatL [x] n = List.replicate n x := by
  induction n with
  | zero => rfl
  | succ n ih => rw [Lib.repeatL, ih, List.replicate_succ]; rfl
end Go.Proofs.Ytkbpnaliipbfiaa
