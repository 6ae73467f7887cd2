/- Packing by runs: the plain function that both RunsPack compute. No program in sight. -/
import Derived.Test.YtkbpnaliipbfiaaSum
namespace Go.Proofs.Ytkbpnaliipbfiaa

/-- how many bytes of a list, from its head on, are c: at most m -/
def lead (c : UInt8) : Nat → List UInt8 → Nat
  | 0, _ => 0
  | _ + 1, [] => 0
  | m + 1, d :: r => if d = c then lead c m r + 1 else 0
theorem lead_le (c : UInt8) : ∀ (m : Nat) (l : List UInt8), lead c m l ≤ m ∧ lead c m l ≤ l.length
  | 0, _ => by simp [lead]
  | _ + 1, [] => by simp [lead]
  | m + 1, d :: r => by
    have := lead_le c m r
    unfold lead
    split <;> simp <;> omega
theorem lead_step (c : UInt8) : ∀ (k : Nat) (l : List UInt8), lead c k l = k → l[k]? = some c → lead c (k + 1) l = k + 1
  | 0, [], _, h => by simp at h
  | 0, d :: r, _, h => by
    simp at h
    simp [lead, h]
  | k + 1, [], h, _ => by simp [lead] at h
  | k + 1, d :: r, h, h' => by
    unfold lead at h
    by_cases e : d = c
    · rw [if_pos e] at h
      have h2 := lead_step c k r (by omega) (by simpa using h')
      show (if d = c then lead c (k + 1) r + 1 else 0) = k + 1 + 1
      rw [if_pos e, h2]
    · rw [if_neg e] at h
      omega
theorem lead_stop (c : UInt8) : ∀ (k m : Nat) (l : List UInt8), lead c k l = k → k ≤ m → (k = m ∨ l[k]? = none ∨ ∃ d, l[k]? = some d ∧ d ≠ c) → lead c m l = k
  | 0, 0, _, _, _, _ => by simp [lead]
  | 0, m + 1, [], _, _, _ => by simp [lead]
  | 0, m + 1, d :: r, _, _, h => by
    rcases h with h | h | ⟨x, h, hx⟩
    · omega
    · simp at h
    · simp at h
      subst h
      simp [lead, hx]
  | k + 1, 0, _, _, h, _ => by omega
  | k + 1, m + 1, [], h, _, _ => by simp [lead] at h
  | k + 1, m + 1, d :: r, h, hm, h' => by
    unfold lead at h
    by_cases e : d = c
    · rw [if_pos e] at h
      have h2 := lead_stop c k m r (by omega) (by omega) (by
        rcases h' with h' | h' | ⟨x, h', hx⟩
        · exact .inl (by omega)
        · exact .inr (.inl (by simpa using h'))
        · exact .inr (.inr ⟨x, by simpa using h', hx⟩))
      show (if d = c then lead c m r + 1 else 0) = k + 1
      rw [if_pos e, h2]
    · rw [if_neg e] at h
      omega

/-- packed, with fuel -/
def packF : Nat → List UInt8 → List UInt8
  | 0, _ => []
  | _ + 1, [] => []
  | f + 1, c :: r => if 3 ≤ lead c 8 r ∨ c = 126 then 126 :: UInt8.ofNat (49 + lead c 8 r) :: c :: packF f (r.drop (lead c 8 r)) else c :: packF f r
/-- packed -/
def pack (l : List UInt8) : List UInt8 := packF l.length l
theorem packF_fuel : ∀ (f g : Nat) (l : List UInt8), l.length ≤ f → l.length ≤ g → packF f l = packF g l
  | 0, 0, _, _, _ => rfl
  | 0, g + 1, [], _, _ => by simp [packF]
  | 0, _ + 1, _ :: _, h, _ => by simp at h
  | f + 1, 0, [], _, _ => by simp [packF]
  | _ + 1, 0, _ :: _, _, h => by simp at h
  | f + 1, g + 1, [], _, _ => by simp [packF]
  | f + 1, g + 1, c :: r, h, h' => by
    simp at h h'
    unfold packF
    rw [packF_fuel f g r h h', packF_fuel f g (r.drop (lead c 8 r)) (by simp; omega) (by simp; omega)]
theorem pack_nil : pack [] = [] := rfl
theorem pack_cons (c : UInt8) (r : List UInt8) : pack (c :: r) = if 3 ≤ lead c 8 r ∨ c = 126 then 126 :: UInt8.ofNat (49 + lead c 8 r) :: c :: pack (r.drop (lead c 8 r)) else c :: pack r := by
  show packF (r.length + 1) (c :: r) = _
  rw [packF]
  rw [show packF r.length (r.drop (lead c 8 r)) = pack (r.drop (lead c 8 r)) from packF_fuel _ _ _ (by simp) (Nat.le_refl _)]
  rfl
/-- behind i bytes: what is written already, and what is left to pack -/
theorem pack_run (l out : List UInt8) (i n : Nat) (c : UInt8) (hi : l[i]? = some c) (hn : 1 ≤ n) (hl : lead c 8 (l.drop (i + 1)) = n - 1) (h4 : 4 ≤ n ∨ c = 126) (h : out ++ pack (l.drop i) = pack l) :
    (out ++ [126, UInt8.ofNat (48 + n), c]) ++ pack (l.drop (i + n)) = pack l := by
  rw [← h]
  have hlt : i < l.length := (List.getElem?_eq_some_iff.1 hi).1
  have hd : l.drop i = c :: l.drop (i + 1) := by
    rw [List.drop_eq_getElem_cons hlt]
    rw [List.getElem?_eq_getElem hlt] at hi
    injection hi with hi
    rw [hi]
  rw [hd, pack_cons, if_pos (by rw [hl]; exact h4.imp (by omega) id), hl, List.drop_drop]
  rw [show 49 + (n - 1) = 48 + n from by omega, show i + 1 + (n - 1) = i + n from by omega]
  simp
theorem pack_one (l out : List UInt8) (i n : Nat) (c : UInt8) (hi : l[i]? = some c) (hn : 1 ≤ n) (hl : lead c 8 (l.drop (i + 1)) = n - 1) (h4 : n < 4) (hc : c ≠ 126) (h : out ++ pack (l.drop i) = pack l) :
    (out ++ [c]) ++ pack (l.drop (i + 1)) = pack l := by
  rw [← h]
  have hlt : i < l.length := (List.getElem?_eq_some_iff.1 hi).1
  have hd : l.drop i = c :: l.drop (i + 1) := by
    rw [List.drop_eq_getElem_cons hlt]
    rw [List.getElem?_eq_getElem hlt] at hi
    injection hi with hi
    rw [hi]
  rw [hd, pack_cons, if_neg (by rw [hl]; exact fun h => h.elim (by omega) hc)]
  simp
theorem lead_next (l : List UInt8) (i n : Nat) (c : UInt8) (hn : 1 ≤ n) (hl : lead c (n - 1) (l.drop (i + 1)) = n - 1) (h : l[i + n]? = some c) : lead c n (l.drop (i + 1)) = n := by
  have h2 := lead_step c (n - 1) (l.drop (i + 1)) hl (by rw [List.getElem?_drop, show i + 1 + (n - 1) = i + n from by omega]; exact h)
  rwa [show n - 1 + 1 = n from by omega] at h2
theorem lead_done (l : List UInt8) (i n : Nat) (c : UInt8) (hn : 1 ≤ n) (h9 : n ≤ 9) (hl : lead c (n - 1) (l.drop (i + 1)) = n - 1) (h : n = 9 ∨ l[i + n]? = none ∨ ∃ d, l[i + n]? = some d ∧ d ≠ c) : lead c 8 (l.drop (i + 1)) = n - 1 := by
  refine lead_stop c (n - 1) 8 _ hl (by omega) ?_
  rw [List.getElem?_drop, show i + 1 + (n - 1) = i + n from by omega]
  rcases h with h | h
  · exact .inl (by omega)
  · exact .inr h
theorem pack_len : ∀ (f : Nat) (l : List UInt8), l.length ≤ f → (packF f l).length ≤ 3 * l.length
  | 0, _, _ => by simp [packF]
  | _ + 1, [], _ => by simp [packF]
  | f + 1, c :: r, h => by
    simp at h
    have h1 := pack_len f r h
    have h2 := pack_len f (r.drop (lead c 8 r)) (by simp; omega)
    simp at h2
    unfold packF
    split <;> simp <;> omega
end Go.Proofs.Ytkbpnaliipbfiaa
