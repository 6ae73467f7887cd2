/- The walk of the law FnExactStripeJoin. -/
import Derived.Test.YtlflcinlhpjkhaaSJ
import Derived.Test.YtlflcinlhpjkhaaIJ
import Derived.Test.YtlflcinlhpjkhaaMark
import Derived.Test.YtlflcinlhpjkhaaOpen
namespace Go.Proofs.Ytlflcinlhpjkhaa
open Go.RowKit
set_option linter.unusedVariables false

theorem join_len {zs : List ByteArray} {size lost : Int} (h : zs.length ≠ 3) : joinV zs size lost = .tuple #[.string ⟨#[]⟩, .bool false] := by
  have e : joinOk zs size lost = false := by
    unfold joinOk
    match zs, h with
    | [], _ => rfl
    | [_], _ => rfl
    | [_, _], _ => rfl
    | [_, _, _], h => exact absurd rfl h
    | _ :: _ :: _ :: _ :: _, _ => rfl
  unfold joinV
  rw [if_neg (by rw [e]; decide)]
theorem joinV_form (zs : List ByteArray) (size lost : Int) : ∃ s v, joinV zs size lost = .tuple #[.string s, .bool v] := by
  unfold joinV
  split
  · exact ⟨_, _, rfl⟩
  · exact ⟨_, _, rfl⟩
theorem szT_fits {left : Int} {zs : List ByteArray} (h0 : 0 ≤ left) (h : 0 ≤ szT left zs) : (zs.length : Int) ≤ left ∧ ∀ z ∈ zs, (z.size : Int) ≤ left := by
  unfold szT at h
  by_cases hl : left < (zs.length : Int)
  · rw [if_pos hl, szT_gone _ _ rfl] at h
    omega
  · rw [if_neg hl] at h
    refine ⟨by omega, ?_⟩
    have key : ∀ (l : Int) (ys : List ByteArray), 0 ≤ l → 0 ≤ ys.foldl (fun l z => if l < 0 then -1 else if l < (z.size : Int) then -1 else l - z.size) l → ∀ z ∈ ys, (z.size : Int) ≤ l := by
      intro l ys
      induction ys generalizing l with
      | nil => intro _ _ z hz; simp at hz
      | cons y ys ih =>
        intro hl hf z hz
        rw [List.foldl_cons, if_neg (by omega)] at hf
        by_cases hy : l < (y.size : Int)
        · rw [if_pos hy, szT_gone _ _ rfl] at hf
          omega
        · rw [if_neg hy] at hf
          rcases List.mem_cons.1 hz with rfl | hz
          · omega
          · have := ih (l - y.size) (by omega) hf z hz
            omega
    intro z hz
    have := key _ zs (by omega) h z hz
    omega
theorem specJoin_v {P : Option Addr} {n c : Nat} {zs : List ByteArray} {size lost : Int} {v : Value} (hv : joinV zs size lost = v) (w : World) (h : Rd w 1 P n (zs.map Value.string)) (hz : ∀ z ∈ zs, z.size ≤ 1000000000) :
    Calls Try.prog 45 #[.slice P n c, .int .i64 size, .int .i64 lost] w fun r w' => r = .returned v ∧ Below w.heap.size w w' := by
  subst hv
  have hl : zs.length = n := by have := h.len; simpa using this
  by_cases h3 : n = 3
  · subst h3
    match zs, hl with
    | [x, y, z], _ => exact specStripeJoin_any P c x y z size lost w h (hz x (by simp)) (hz y (by simp)) (hz z (by simp))
  · rw [join_len (by omega)]
    exact (specStripeJoin_short P n c size lost w h3).mono fun r w' hh => ⟨hh.1, hh.2 ▸ Below.refl _ _⟩
theorem implJoin_v {P : Option Addr} {n c : Nat} {zs : List ByteArray} {size lost : Int} {v : Value} (hv : joinV zs size lost = v) (w : World) (h : Rd w 1 P n (zs.map Value.string)) (hz : ∀ z ∈ zs, z.size ≤ 1000000000) :
    Calls Try.prog 47 #[.slice P n c, .int .i64 size, .int .i64 lost] w fun r w' => r = .returned v ∧ Below w.heap.size w w' := by
  subst hv
  have hl : zs.length = n := by have := h.len; simpa using this
  by_cases h3 : n = 3
  · subst h3
    match zs, hl with
    | [x, y, z], _ => exact implStripeJoin_any P c x y z size lost w h (hz x (by simp)) (hz y (by simp)) (hz z (by simp))
  · rw [join_len (by omega)]
    exact (implStripeJoin_short P n c size lost w h3).mono fun r w' hh => ⟨hh.1, hh.2 ▸ Below.refl _ _⟩

set_option maxHeartbeats 2000000 in
theorem fnExactStripeJoin_walk (A : Option Addr) (n c : Nat) (zs : List ByteArray) (size : Int) (ws : (Lit.int .i64 size).wf = true) (lost : Int) (wl : (Lit.int .i64 lost).wf = true) (w : World) (h : Strs w A n c zs) :
    Calls Try.prog 14 #[.slice A n c, .int .i64 size, .int .i64 lost] w fun r w' => r = .returned (.bool true) ∧ Below w.heap.size w w' := by
  obtain ⟨hnc, hcm, hlen, hzm, hr⟩ := h
  have H := hide hr
  have HM := hide hzm
  have hnm : n ≤ maxLen := Nat.le_trans hnc hcm
  have HNM := hide hnm
  clear hr hzm hnm
  by_cases hs : szT 1048576 zs < 0
  · have HS := hide hs
    clear hs
    obtain ⟨l, hl⟩ : ∃ l, l = szT 1048576 zs := ⟨_, rfl⟩
    have l0 : l < 0 := by rw [hl]; exact HS.out
    have HL := hide hl
    clear hl
    go_enter Try.func14, Try.ntmps14
    go_wp2_with fail
    refine (szStringS_any _ _ _ zs _ _ HNM.out HM.out H.out (by omega) (by omega)).mono ?_; rintro r w1 ⟨rfl, rfl⟩
    rw [← HL.out]
    go_wp2_with fail
    go_ret
    exact ⟨rfl, Below.refl _ _⟩
  · obtain ⟨f1, f2⟩ := szT_fits (left := 1048576) (by omega) (by omega : 0 ≤ szT 1048576 zs)
    have n1 : n ≤ 1000000000 := by omega
    have F2 := hide f2
    have FZ : Hid (∀ z ∈ zs, z.size ≤ 1000000000) := hide (fun z hz => by have := F2.out z hz; omega)
    obtain ⟨l, hl⟩ : ∃ l, l = szT 1048576 zs := ⟨_, rfl⟩
    have l0 : ¬ l < 0 := by rw [hl]; exact hs
    have HL := hide hl
    clear hl f1 f2 hs
    obtain ⟨s, v, hj⟩ := joinV_form zs size lost
    have HJ := hide hj
    clear hj
    go_enter Try.func14, Try.ntmps14
    go_wp2_with fail
    refine (szStringS_any _ _ _ zs _ _ HNM.out HM.out H.out (by omega) (by omega)).mono ?_; rintro r w1 ⟨rfl, rfl⟩
    rw [← HL.out]
    go_wp2_with fail
    refine (toStringS_any _ _ _ zs _ H.out n1).mono ?_; rintro r w1 ⟨rfl, hk1, hb1, _⟩
    have K1 := hide hk1
    have HB := hide hb1
    have H1 := hide (H.out.after hb1)
    clear hk1 hb1
    go_wp2_with fail
    refine (specJoin_v HJ.out _ (hlen ▸ K1.out.rdT) FZ.out).mono ?_; rintro r w2 ⟨rfl, hb2⟩
    have H1 := hide (H1.out.after hb2)
    have HB := hide (HB.out.trans (hb2.mono HB.out.size))
    clear hb2
    go_wp2_with fail
    refine (toStringS_any _ _ _ zs _ H1.out n1).mono ?_; rintro r w3 ⟨rfl, hk3, hb3, _⟩
    have K3 := hide hk3
    have H1 := hide (H1.out.after hb3)
    have HB := hide (HB.out.trans (hb3.mono HB.out.size))
    clear hk3 hb3
    go_wp2_with fail
    refine (implJoin_v HJ.out _ (hlen ▸ K3.out.rdT) FZ.out).mono ?_; rintro r w4 ⟨rfl, hb4⟩
    have K3 := hide (K3.out.after hb4)
    have H1 := hide (H1.out.after hb4)
    have HB := hide (HB.out.trans (hb4.mono HB.out.size))
    clear hb4
    go_wp2_with fail
    refine (toStringS_any _ _ _ zs _ H1.out n1).mono ?_; rintro r w5 ⟨rfl, hk5, hb5, _⟩
    have K3 := hide (K3.out.after hb5)
    have K5 := hide hk5
    have HB := hide (HB.out.trans (hb5.mono HB.out.size))
    clear hk5 hb5
    go_wp2_with fail
    refine (eqStringS_v (eqT_same zs) _ (hlen ▸ K3.out.rdT) (hlen ▸ K5.out.rdT) HNM.out).mono ?_; rintro r w6 ⟨rfl, hb6⟩
    go_wp2_with fail
    go_ret
    exact ⟨rfl, HB.out.trans (hb6.mono HB.out.size)⟩
end Go.Proofs.Ytlflcinlhpjkhaa
