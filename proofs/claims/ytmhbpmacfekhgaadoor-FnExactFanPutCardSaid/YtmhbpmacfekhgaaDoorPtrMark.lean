/- Rows of pointers are marked: markPtrS, heldPtrS. -/
import Derived.Test.YtmhbpmacfekhgaaDoorFanGet
namespace Go.Proofs.YtmhbpmacfekhgaaDoor
open Go.RowKit
set_option linter.unusedVariables false

theorem mark_put {cs : Array Value} {k k0 Q : Nat} (hQ : Q = k0 + k * 5) (hs : k * 5 + 4 < cs.size) (h : ∀ j, j < k * 5 → cs[j]? = some (.int .i64 ((k0 : Int) + j))) :
    ∀ j, j < (k + 1) * 5 → (((((cs.setIfInBounds (k * 5) (.int .i64 (Q : Int))).setIfInBounds (k * 5 + 1) (.int .i64 ((Q : Int) + 1))).setIfInBounds (k * 5 + 2) (.int .i64 ((Q : Int) + 1 + 1))).setIfInBounds (k * 5 + 3) (.int .i64 ((Q : Int) + 1 + 1 + 1))).setIfInBounds (k * 5 + 4) (.int .i64 ((Q : Int) + 1 + 1 + 1 + 1)))[j]? = some (.int .i64 ((k0 : Int) + j)) := by
  intro j hj
  simp only [Array.getElem?_setIfInBounds, Array.size_setIfInBounds]
  by_cases h0 : j < k * 5
  · rw [if_neg (by omega), if_neg (by omega), if_neg (by omega), if_neg (by omega), if_neg (by omega)]
    exact h j h0
  · obtain ⟨i, rfl⟩ : ∃ i, j = k * 5 + i := ⟨j - k * 5, by omega⟩
    have hi : i < 5 := by omega
    match i, hi with
    | 0, _ => rw [if_neg (by omega), if_neg (by omega), if_neg (by omega), if_neg (by omega), if_pos (by omega), if_pos (by omega)]; exact congrArg some (int_eq (by omega))
    | 1, _ => rw [if_neg (by omega), if_neg (by omega), if_neg (by omega), if_pos (by omega), if_pos (by omega)]; exact congrArg some (int_eq (by omega))
    | 2, _ => rw [if_neg (by omega), if_neg (by omega), if_pos (by omega), if_pos (by omega)]; exact congrArg some (int_eq (by omega))
    | 3, _ => rw [if_neg (by omega), if_pos (by omega), if_pos (by omega)]; exact congrArg some (int_eq (by omega))
    | 4, _ => rw [if_pos (by omega), if_pos (by omega)]; exact congrArg some (int_eq (by omega))
set_option maxHeartbeats 4000000 in
theorem markPtrS_any (g n c : Nat) (cs : Array Value) (k0 : Nat) (w : World) (hb : Bk w g 25 cs) (hn : n * 5 ≤ cs.size) (hm : n ≤ 1000000) (h1 : k0 ≤ 1000000) :
    Calls Tryd.prog 35 #[.slice (some ⟨g, 0, none⟩) n c, .int .i64 k0] w fun r w' => r = .returned (.int .i64 ((k0 + n * 5 : Nat) : Int)) ∧
      (∃ cs', Bk w' g 25 cs' ∧ cs'.size = cs.size ∧ ∀ j, j < n * 5 → cs'[j]? = some (.int .i64 ((k0 : Int) + j))) ∧ Fr (· = g) w w' := by
  have HB := hide hb
  have HN := hide hn
  clear hb hn
  go_enter Tryd.func35, Tryd.ntmps35
  go_wp2
  go_loopw [1, 5] (fun q i wr => ∃ (k Q : Nat) (cs' : Array Value), k ≤ n ∧ Q ≤ 6000000 ∧ Hid (Q = k0 + k * 5) ∧ Hid (Bk wr g 25 cs') ∧ Hid (cs'.size = cs.size) ∧ Hid (∀ j, j < k * 5 → cs'[j]? = some (.int .i64 ((k0 : Int) + j))) ∧ Hid (Fr (· = g) w wr) ∧ q = .int .i64 Q ∧ i = .int .i64 k) (fun _ i _ => n - (intOf i).toNat)
  case atStart => exact ⟨0, k0, cs, by omega, by omega, hide (by omega), HB, hide rfl, hide (fun j hj => absurd hj (by omega)), hide (Fr.refl _ _), rfl, rfl⟩
  case round =>
    obtain ⟨k, Q, cs', hk, hQ, HQ, HB, HS, HM, HF, rfl, rfl⟩ := hrel
    by_cases hlt : k < n
    · have hkc : k * 5 + 4 < cs'.size := by have := HS.out; have := HN.out; omega
      have cat : ∀ j, j < 5 → ∃ u, wr.cell? ⟨g, k * 5 + j, none⟩ = some u := fun j hj => ⟨cs'[k * 5 + j]'(by omega), by rw [HB.out.cell]; exact Array.getElem?_eq_getElem _⟩
      obtain ⟨u0, d0⟩ := cat 0 (by omega)
      obtain ⟨u1, d1⟩ := cat 1 (by omega)
      obtain ⟨u2, d2⟩ := cat 2 (by omega)
      obtain ⟨u3, d3⟩ := cat 3 (by omega)
      obtain ⟨u4, d4⟩ := cat 4 (by omega)
      rw [Nat.add_zero] at d0
      have f0 := HB.out.frozen (k * 5)
      have f1 := HB.out.frozen (k * 5 + 1)
      have f2 := HB.out.frozen (k * 5 + 2)
      have f3 := HB.out.frozen (k * 5 + 3)
      have f4 := HB.out.frozen (k * 5 + 4)
      have i0 : (0 : Int) ≤ (k : Int) := by omega
      have i1 : (k : Int) < (n : Int) := by omega
      have HP := hide (putP5 (i := k * 5) HB.out (.int .i64 Q) (.int .i64 ((Q : Int) + 1)) (.int .i64 ((Q : Int) + 1 + 1)) (.int .i64 ((Q : Int) + 1 + 1 + 1)) (.int .i64 ((Q : Int) + 1 + 1 + 1 + 1)))
      have HF1 := hide (((((HF.out.setCell (p := ⟨g, k * 5, none⟩) (.inl rfl) (.int .i64 Q)).setCell (p := ⟨g, k * 5 + 1, none⟩) (.inl rfl) (.int .i64 ((Q : Int) + 1))).setCell (p := ⟨g, k * 5 + 2, none⟩) (.inl rfl) (.int .i64 ((Q : Int) + 1 + 1))).setCell (p := ⟨g, k * 5 + 3, none⟩) (.inl rfl) (.int .i64 ((Q : Int) + 1 + 1 + 1))).setCell (p := ⟨g, k * 5 + 4, none⟩) (.inl rfl) (.int .i64 ((Q : Int) + 1 + 1 + 1 + 1)))
      have HMP := hide (mark_put (k0 := k0) (Q := Q) HQ.out (show k * 5 + 4 < cs'.size from hkc) HM.out)
      clear cat hkc
      go_wp2_with fail
      go_roundw
      case rel => exact ⟨k + 1, Q + 5, _, by omega, by have := HQ.out; omega, hide (by have := HQ.out; omega), HP, hide (by simp only [Array.size_setIfInBounds]; exact HS.out), HMP, HF1, int_eq (by omega), int_eq (by omega)⟩
      case measure => simp [intOf]; omega
    · go_wp2
      go_ret
      have e : k = n := by omega
      subst e
      exact ⟨ret_int (by have := HQ.out; omega), ⟨cs', HB.out, HS.out, HM.out⟩, HF.out⟩
set_option maxHeartbeats 4000000 in
theorem heldPtrS_any (A : Option Addr) (n c : Nat) (k0 : Nat) (w : World) (h : Rd w 5 A n (marksI k0 (n * 5))) (hm : n ≤ 1000000) (h1 : k0 ≤ 1000000) :
    Calls Tryd.prog 36 #[.slice A n c, .int .i64 k0] w fun r w' => r = .returned (.int .i64 ((k0 + n * 5 : Nat) : Int)) ∧ w = w' := by
  have H := hide h
  clear h
  go_enter Tryd.func36, Tryd.ntmps36
  go_wp2
  go_loop [1, 5] (fun q i => ∃ k Q : Nat, k ≤ n ∧ Q ≤ 6000000 ∧ Hid (Q = k0 + k * 5) ∧ q = .int .i64 Q ∧ i = .int .i64 k) (fun _ i => n - (intOf i).toNat)
  case atStart => exact ⟨0, k0, by omega, by omega, hide (by omega), rfl, rfl⟩
  case round =>
    obtain ⟨k, Q, hk, hQ, HQ, rfl, rfl⟩ := hrel
    by_cases hlt : k < n
    · obtain ⟨b, o, rfl, hb, hcc⟩ := H.out.at_ (by omega)
      have at_ : ∀ j, j < 5 → w.cell? ⟨b, o + (k * 5 + j), none⟩ = some (.int .i64 ((Q : Int) + j)) := fun j hj => by
        rw [hcc _ _ (marksI_at k0 (n * 5) (k * 5 + j) (by omega))]
        exact congrArg some (int_eq (by have := HQ.out; omega))
      have c0 : w.cell? ⟨b, o + k * 5, none⟩ = some (.int .i64 (Q : Int)) := (at_ 0 (by omega)).trans (congrArg some (int_eq (by omega)))
      have c1 : w.cell? ⟨b, o + k * 5 + 1, none⟩ = some (.int .i64 ((Q : Int) + 1)) := (at_ 1 (by omega)).trans (congrArg some (int_eq (by omega)))
      have c2 : w.cell? ⟨b, o + k * 5 + 2, none⟩ = some (.int .i64 ((Q : Int) + 1 + 1)) := (at_ 2 (by omega)).trans (congrArg some (int_eq (by omega)))
      have c3 : w.cell? ⟨b, o + k * 5 + 3, none⟩ = some (.int .i64 ((Q : Int) + 1 + 1 + 1)) := (at_ 3 (by omega)).trans (congrArg some (int_eq (by omega)))
      have c4 : w.cell? ⟨b, o + k * 5 + 4, none⟩ = some (.int .i64 ((Q : Int) + 1 + 1 + 1 + 1)) := (at_ 4 (by omega)).trans (congrArg some (int_eq (by omega)))
      have i0 : (0 : Int) ≤ (k : Int) := by omega
      have i1 : (k : Int) < (n : Int) := by omega
      clear hcc at_
      go_wp2_with fail
      go_round
      case rel => exact ⟨k + 1, Q + 5, by omega, by have := HQ.out; omega, hide (by have := HQ.out; omega), int_eq (by omega), int_eq (by omega)⟩
      case measure => simp [intOf]; omega
    · go_wp2
      go_ret
      have e : k = n := by omega
      subst e
      exact ⟨ret_int (by have := HQ.out; omega), rfl⟩
theorem markPtrS_nil (A : Option Addr) (c : Nat) (i : Int) (w : World) :
    Calls Tryd.prog 35 #[.slice A 0 c, .int .i64 i] w fun r w' => r = .returned (.int .i64 i) ∧ w = w' := by
  go_enter Tryd.func35, Tryd.ntmps35
  go_wp2
  go_loop [1, 5] (fun q j => q = .int .i64 i ∧ j = .int .i64 0) (fun _ _ => 0)
  case atStart => exact ⟨rfl, rfl⟩
  case round =>
    obtain ⟨rfl, rfl⟩ := hrel
    go_wp2
    go_ret
    exact ⟨rfl, rfl⟩
/-- marking a row of the call's own -/
theorem mark_ownP {w : World} {base n c : Nat} {A : Option Addr} {xs : List Value} (h : w.ownsRow base 25 5 (.slice A n c) n xs) (hbw : base ≤ w.heap.size) (hm : n ≤ 1000000) :
    Calls Tryd.prog 35 #[.slice A n c, .int .i64 1] w fun r w' => r = .returned (.int .i64 ((1 + n * 5 : Nat) : Int)) ∧ Rd w' 5 A n (marksI (1 : Nat) (n * 5)) ∧ Below base w w' := by
  rcases h.2 with ⟨e, rfl⟩ | ⟨g, cap, cur, e, hb, hg, hnc, _, hsz, htk⟩
  · refine (markPtrS_nil A c 1 w).mono ?_
    rintro r w' ⟨rfl, rfl⟩
    exact ⟨rfl, ⟨by rw [marksI_len], fun h => absurd h (by omega)⟩, Below.refl _ _⟩
  · injection e with e1 e2 e3
    subst e1
    refine (markPtrS_any g n c cur 1 w hg (by have := Nat.mul_le_mul_right 5 hnc; omega) hm (by omega)).mono ?_
    rintro r w' ⟨rfl, ⟨cs', hk, hsz', hcs⟩, hf⟩
    refine ⟨rfl, ?_, hf.below hbw (fun i e => by rw [e]; exact hb)⟩
    refine hk.rd (by rw [marksI_len]) (fun j u hu => ?_)
    have hj : j < n * 5 := by rw [← marksI_len (1 : Nat) (n * 5)]; exact (List.getElem?_eq_some_iff.1 hu).1
    rw [marksI_at _ _ _ hj] at hu
    rw [hcs j hj, ← hu]
end Go.Proofs.YtmhbpmacfekhgaaDoor
