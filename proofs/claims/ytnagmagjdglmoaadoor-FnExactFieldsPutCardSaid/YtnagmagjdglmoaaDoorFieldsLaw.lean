/- The law FnExactFieldsPut, walked. -/
import Derived.Test.YtnagmagjdglmoaaDoorFields
import Derived.Test.YtnagmagjdglmoaaDoorMark
import Derived.Test.YtnagmagjdglmoaaDoorOpen
namespace Go.Proofs.YtnagmagjdglmoaaDoor
open Go.RowKit
set_option linter.unusedVariables false

theorem szT_fits {left : Int} {zs : List ByteArray} (h0 : 0 ≤ left) (h : 0 ≤ szT left zs) : (zs.length : Int) ≤ left ∧ ∀ z ∈ zs, (z.size : Int) ≤ left := by
  unfold szT at h
  by_cases hl : left < (zs.length : Int)
  · rw [if_pos hl, szT_gone _ _ rfl] at h
    omega
  · rw [if_neg hl] at h
    refine ⟨by omega, ?_⟩
    have key : ∀ (l : Int) (ys : List ByteArray), 0 ≤ l → 0 ≤ ys.foldl (fun l z => if l < 0 then -1 else if l < (z.size : Int) then -1 else l - z.size) l → ∀ z ∈ ys, (z.size : Int) ≤ l := by
      intro l ys
      induction ys generalizing l with
      | nil => intro _ _ z hz; simp at hz
      | cons y ys ih =>
        intro hl hf z hz
        rw [List.foldl_cons, if_neg (by omega)] at hf
        by_cases hy : l < (y.size : Int)
        · rw [if_pos hy, szT_gone _ _ rfl] at hf
          omega
        · rw [if_neg hy] at hf
          rcases List.mem_cons.1 hz with rfl | hz
          · omega
          · have := ih (l - y.size) (by omega) hf z hz
            omega
    intro z hz
    have := key _ zs (by omega) h z hz
    omega
set_option maxHeartbeats 2000000 in
theorem fieldsPutLaw (A : Option Addr) (n c : Nat) (zs : List ByteArray) (w : World) (ht : Tab w) (h : Strs w A n c zs) :
    Calls Tryd.prog 7 #[.slice A n c] w fun r w' => r = .returned (.bool true) ∧ Below w.heap.size w w' := by
  obtain ⟨hnc, hcm, hlen, hzm, hr⟩ := h
  have H := hide hr
  have HM := hide hzm
  have HT := hide ht
  have hnm : n ≤ maxLen := Nat.le_trans hnc hcm
  have HNM := hide hnm
  clear hr hzm hnm ht
  by_cases hs : szT 1048576 zs < 0
  · have HS := hide hs
    clear hs
    obtain ⟨l, hl⟩ : ∃ l, l = szT 1048576 zs := ⟨_, rfl⟩
    have l0 : l < 0 := by rw [hl]; exact HS.out
    have HL := hide hl
    clear hl
    go_enter Tryd.func7, Tryd.ntmps7
    go_wp2_with fail
    refine (szStringS_any _ _ _ zs _ _ HNM.out HM.out H.out (by omega) (by omega)).mono ?_; rintro r w1 ⟨rfl, rfl⟩
    rw [← HL.out]
    go_wp2_with fail
    go_ret
    exact ⟨rfl, Below.refl _ _⟩
  · obtain ⟨f1, f2⟩ := szT_fits (left := 1048576) (by omega) (by omega : 0 ≤ szT 1048576 zs)
    have n1 : n ≤ 1000000000 := by omega
    have n2 : n ≤ 1048576 := by omega
    have F2 := hide f2
    have FZ : Hid (∀ z ∈ zs, z.size ≤ 1048576) := hide (fun z hz => by have := F2.out z hz; omega)
    obtain ⟨l, hl⟩ : ∃ l, l = szT 1048576 zs := ⟨_, rfl⟩
    have l0 : ¬ l < 0 := by rw [hl]; exact hs
    have HL := hide hl
    clear hl f1 f2 hs
    have HSP := hide (specFieldsPut_any (zs := zs))
    have HIP := hide (implFieldsPut_any (zs := zs))
    obtain ⟨T, hT⟩ : ∃ T, putT zs = T := ⟨_, rfl⟩
    obtain ⟨v, hv⟩ : ∃ v, putB zs = v := ⟨_, rfl⟩
    rw [hT, hv] at HSP HIP
    clear hT hv
    have hss := beqT_eq (rfl : T = T)
    have hvv : (v != v) = false := by cases v <;> rfl
    go_enter Tryd.func7, Tryd.ntmps7
    go_wp2_with fail
    refine (szStringS_any _ _ _ zs _ _ HNM.out HM.out H.out (by omega) (by omega)).mono ?_; rintro r w1 ⟨rfl, rfl⟩
    rw [← HL.out]
    go_wp2_with fail
    refine (toStringS_any _ _ _ zs _ H.out n1).mono ?_; rintro r w1 ⟨rfl, hk1, hb1, _⟩
    have K1 := hide hk1
    have HB := hide hb1
    have H1 := hide (H.out.after hb1)
    clear hk1 hb1
    go_wp2_with fail
    refine (HSP.out _ _ _ _ (hlen ▸ K1.out.rdT) n2 FZ.out).mono ?_; rintro r w2 ⟨rfl, hb2⟩
    have H1 := hide (H1.out.after hb2)
    have HB := hide (HB.out.trans (hb2.mono HB.out.size))
    clear hb2
    go_wp2_with fail
    refine (toStringS_any _ _ _ zs _ H1.out n1).mono ?_; rintro r w3 ⟨rfl, hk3, hb3, _⟩
    have K3 := hide hk3
    have H1 := hide (H1.out.after hb3)
    have HB := hide (HB.out.trans (hb3.mono HB.out.size))
    clear hk3 hb3
    go_wp2_with fail
    refine (HIP.out _ _ _ _ (HT.out.after HB.out) (hlen ▸ K3.out.rdT) n2 FZ.out).mono ?_; rintro r w4 ⟨rfl, hb4⟩
    have K3 := hide (K3.out.after hb4)
    have H1 := hide (H1.out.after hb4)
    have HB := hide (HB.out.trans (hb4.mono HB.out.size))
    clear hb4
    go_wp2_with fail
    refine (toStringS_any _ _ _ zs _ H1.out n1).mono ?_; rintro r w5 ⟨rfl, hk5, hb5, _⟩
    have K3 := hide (K3.out.after hb5)
    have K5 := hide hk5
    have HB := hide (HB.out.trans (hb5.mono HB.out.size))
    clear hk5 hb5
    go_wp2_with fail
    refine (eqStringS_v (eqT_same zs) _ (hlen ▸ K3.out.rdT) (hlen ▸ K5.out.rdT) HNM.out).mono ?_; rintro r w6 ⟨rfl, hb6⟩
    go_wp2_with fail
    go_ret
    exact ⟨rfl, HB.out.trans (hb6.mono HB.out.size)⟩
end Go.Proofs.YtnagmagjdglmoaaDoor
