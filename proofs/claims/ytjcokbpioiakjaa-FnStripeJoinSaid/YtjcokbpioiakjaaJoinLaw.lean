/- The walk of the law FnExactStripeJoin. -/
import Derived.Test.YtjcokbpioiakjaaSJ
import Derived.Test.YtjcokbpioiakjaaIJ
import Derived.Test.YtjcokbpioiakjaaMark
import Derived.Test.YtjcokbpioiakjaaOpen
namespace Go.Proofs.Ytjcokbpioiakjaa
open Go.RowKit
set_option linter.unusedVariables false

theorem join_len {zs : List ByteArray} {size lost : Int} (h : zs.length ≠ 3) : joinV zs size lost = .tuple #[.string ⟨#[]⟩, .bool false] := by
  have e : joinOk zs size lost = false := by
    unfold joinOk
    match zs, h with
    | [], _ => rfl
    | [_], _ => rfl
    | [_, _], _ => rfl
    | [_, _, _], h => exact absurd rfl h
    | _ :: _ :: _ :: _ :: _, _ => rfl
  unfold joinV
  rw [if_neg (by rw [e]; decide)]
theorem joinV_form (zs : List ByteArray) (size lost : Int) : ∃ s v, joinV zs size lost = .tuple #[.string s, .bool v] := by
  unfold joinV
  split
  · exact ⟨_, _, rfl⟩
  · exact ⟨_, _, rfl⟩
theorem szT_fits {left : Int} {zs : List ByteArray} (h0 : 0 ≤ left) (h : 0 ≤ szT left zs) : (zs.length : Int) ≤ left ∧ ∀ z ∈ zs, (z.size : Int) ≤ left := by
  unfold szT at h
  by_cases hl : left < (zs.length : Int)
  · rw [if_pos hl, szT_gone _ _ rfl] at h
    omega
  · rw [if_neg hl] at h
    refine ⟨by omega, ?_⟩
    have key : ∀ (l : Int) (ys : List ByteArray), 0 ≤ l → 0 ≤ ys.foldl (fun l z => if l < 0 then -1 else if l < (z.size : Int) then -1 else l - z.size) l → ∀ z ∈ ys, (z.size : Int) ≤ l := by
      intro l ys
      induction ys generalizing l with
      | nil => intro _ _ z hz; simp at hz
      | cons y ys ih =>
        intro hl hf z hz
        rw [List.foldl_cons, if_neg (by omega)] at hf
        by_cases hy : l < (y.size : Int)
        · rw [if_pos hy, szT_gone _ _ rfl] at hf
          omega
        · rw [if_neg hy] at hf
          rcases List.mem_cons.1 hz with rfl | hz
          · omega
          · have := ih (l - y.size) (by omega) hf z hz
            omega
    intro z hz
    have := key _ zs (by omega) h z hz
    omega
theorem specJoin_v {P : Option Addr} {n c : Nat} {zs : List ByteArray} {size lost : Int} {v : Value} (hv : joinV zs size lost = v) (w : World) (h : Rd w 1 P n (zs.map Value.string)) (hz : ∀ z ∈ zs, z.size ≤ 1000000000) :
    Calls Try.prog 27 #[.slice P n c, .int .i64 size, .int .i64 lost] w fun r w' => r = .returned v ∧ Below w.heap.size w w' := by
  subst hv
  have hl : zs.length = n := by have := h.len; simpa using this
  by_cases h3 : n = 3
  · subst h3
    match zs, hl with
    | [x, y, z], _ => exact specStripeJoin_any P c x y z size lost w h (hz x (by simp)) (hz y (by simp)) (hz z (by simp))
  · rw [join_len (by omega)]
    exact (specStripeJoin_short P n c size lost w h3).mono fun r w' hh => ⟨hh.1, hh.2 ▸ Below.refl _ _⟩
theorem implJoin_v {P : Option Addr} {n c : Nat} {zs : List ByteArray} {size lost : Int} {v : Value} (hv : joinV zs size lost = v) (w : World) (h : Rd w 1 P n (zs.map Value.string)) (hz : ∀ z ∈ zs, z.size ≤ 1000000000) :
    Calls Try.prog 25 #[.slice P n c, .int .i64 size, .int .i64 lost] w fun r w' => r = .returned v ∧ Below w.heap.size w w' := by
  subst hv
  have hl : zs.length = n := by have := h.len; simpa using this
  by_cases h3 : n = 3
  · subst h3
    match zs, hl with
    | [x, y, z], _ => exact implStripeJoin_any P c x y z size lost w h (hz x (by simp)) (hz y (by simp)) (hz z (by simp))
  · rw [join_len (by omega)]
    exact (implStripeJoin_short P n c size lost w h3).mono fun r w' hh => ⟨hh.1, hh.2 ▸ Below.refl _ _⟩

end Go.Proofs.Ytjcokbpioiakjaa
