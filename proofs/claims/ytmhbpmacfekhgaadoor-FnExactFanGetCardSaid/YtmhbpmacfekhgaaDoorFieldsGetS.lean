/- spec's FieldsGet. -/
import Derived.Test.YtmhbpmacfekhgaaDoorFieldsGet
namespace Go.Proofs.YtmhbpmacfekhgaaDoor
open Go.RowKit
set_option linter.unusedVariables false

theorem ext_mid (s : ByteArray) (a n : Nat) : s.extract a (a + n) = ⟨((s.data.toList.drop a).take n).toArray⟩ := by
  apply ByteArray.ext
  apply Array.toList_inj.1
  rw [ByteArray.data_extract, Array.toList_extract, List.extract_eq_take_drop]
  simp
theorem rec_count (zs : List ByteArray) : zs.length ≤ (recOf zs).length := by
  induction zs with
  | nil => simp
  | cons z zs ih =>
    rw [recOf_cons, List.length_append, List.length_cons]
    have := fld_len z
    omega
theorem rec_each {zs : List ByteArray} {z : ByteArray} (h : z ∈ zs) : z.size ≤ (recOf zs).length := by
  induction zs with
  | nil => cases h
  | cons y zs ih =>
    rw [recOf_cons, List.length_append]
    rcases List.mem_cons.1 h with rfl | h
    · have := fld_len z; omega
    · have := ih h; omega
theorem Got.count {l : List UInt8} {zs : List ByteArray} {r : List UInt8} (h : Got l zs r) : zs.length ≤ 2048 ∧ ∀ z ∈ zs, z.size ≤ 1048576 := by
  have h1 := congrArg List.length h.2
  rw [List.length_append] at h1
  have h2 := h.1
  have h3 := rec_count zs
  refine ⟨by omega, fun z hz => ?_⟩
  have := rec_each hz
  omega
theorem own_rds {w : World} {base n : Nat} {A : Option Addr} {c : Nat} {xs : List Value} (h : w.ownsRow base 9 1 (.slice A n c) n xs) : Rd w 1 A n xs := by
  obtain ⟨h1, h2⟩ := h
  rcases h2 with ⟨e, rfl⟩ | ⟨g, cap, cur, e, hb, hg, hnc, _, hsz, htk⟩
  · exact ⟨by rw [h1], fun hn => absurd hn (by omega)⟩
  · injection e with e1 e2 e3
    subst e1
    refine ⟨h1, fun hn => ⟨g, 0, rfl, (Array.getElem?_eq_some_iff.1 hg).1, fun j u hj => ?_⟩⟩
    have hc : w.cell? ⟨g, 0 + j, none⟩ = cur[j]? := by simp [World.cell?, hg]
    rw [hc]
    rw [← htk] at hj
    have hjn : j < n * 1 := by
      rcases Nat.lt_or_ge j (n * 1) with h | h
      · exact h
      · rw [List.getElem?_eq_none (by rw [List.length_take]; omega)] at hj; cases hj
    rw [List.getElem?_take_of_lt hjn] at hj
    simpa using hj
theorem owns_lit (w : World) (base : Nat) (h : base ≤ w.heap.size) : (w.alloc (.cells #[] 9)).ownsRow base 9 1 (.slice (some ⟨w.heap.size, 0, none⟩) 0 0) 0 [] :=
  World.ownsRow_lit (base := base) (e := 9) (size := 1) w #[] 0 h (by simp [maxLen]) rfl
theorem at_drop {s : ByteArray} {k j : Nat} (h : k + j < s.size) : (s.data.toList.drop k)[j]? = some s[k + j] := by
  rw [List.getElem?_drop]; exact byte_at s (k + j) h
theorem u8_58 {c : UInt8} : ((c.toNat : Int) == 58) = decide (c = 58) := by
  by_cases h : c = 58
  · subst h; rfl
  · rw [decide_eq_false h, beq_eq_false_iff_ne]
    intro e
    exact h (UInt8.toNat_inj.1 (by have : c.toNat = 58 := by omega
                                   rw [this]; rfl))

end Go.Proofs.YtmhbpmacfekhgaaDoor
