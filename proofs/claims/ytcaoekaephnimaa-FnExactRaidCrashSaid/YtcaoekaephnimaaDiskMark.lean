/- Disks are marked, whatever waits on them. -/
import Derived.Test.YtcaoekaephnimaaDiskFlush
import Derived.Test.YtcaoekaephnimaaDiskLaw
namespace Go.Proofs.Ytcaoekaephnimaa
open Go.RowKit
set_option linter.unusedVariables false
set_option maxRecDepth 100000

set_option maxHeartbeats 2000000 in
theorem markWaitS_fr (g n c : Nat) (cs : Array Value) (k0 : Nat) (w : World) (hb : Bk w g 74 cs) (hn : n * 2 ≤ cs.size) (hm : n ≤ 100000000) (h1 : k0 ≤ 100000000) :
    Calls Try.prog 59 #[.slice (some ⟨g, 0, none⟩) n c, .int .i64 k0] w fun r w' => (∃ v : Nat, r = .returned (.int .i64 v)) ∧ Fr (· = g) w w' := by
  have HB := hide hb
  have HN := hide hn
  have hg := hb.lt
  clear hb hn
  go_enter Try.func59, Try.ntmps59
  go_wp2
  go_loopw [1, 5] (fun q i wr => ∃ (k q' : Nat) (cs' : Array Value), k ≤ n ∧ Hid (q' = k0 + 2 * k) ∧ Hid (Bk wr g 74 cs') ∧ Hid (cs'.size = cs.size) ∧ Hid (Fr (· = g) w wr) ∧ q = .int .i64 q' ∧ i = .int .i64 k) (fun _ i _ => n - (intOf i).toNat)
  case atStart => exact ⟨0, k0, cs, by omega, hide rfl, HB, hide rfl, hide (Fr.refl _ _), rfl, rfl⟩
  case round =>
    obtain ⟨k, q', cs', hk, hq, HB, HS, HF, rfl, rfl⟩ := hrel
    have qb : q' ≤ 500000000 := by have := hq.out; omega
    by_cases hlt : k < n
    · have hs0 : k * 2 + 1 < cs'.size := by have := HS.out; have := HN.out; omega
      have HS0 := hide hs0
      obtain ⟨u0, d0⟩ : ∃ u, wr.cell? ⟨g, k * 2, none⟩ = some u := ⟨cs'[k * 2], by rw [HB.out.cell]; exact Array.getElem?_eq_getElem (by omega)⟩
      have f0 := HB.out.frozen (k * 2)
      have HP := hide (HB.out.put (k * 2) (.int .i64 q'))
      have HF1 := hide (HF.out.setCell (p := ⟨g, k * 2, none⟩) (.inl rfl) (.int .i64 q'))
      have i0 : (0 : Int) ≤ (k : Int) := by omega
      have i1 : (k : Int) < (n : Int) := by omega
      obtain ⟨q1, hq1⟩ : ∃ q1 : Nat, q1 = q' + 1 := ⟨_, rfl⟩
      have qw : IntKind.i64.wrap (q1 : Int) = (q1 : Int) := by rw [IntKind.wrap_i64]; omega
      have qq : (q' : Int) + 1 = (q1 : Int) := by omega
      have HQ1 := hide hq1
      clear hq1
      clear hs0
      go_upto_region 6 with fail
      clear d0 f0
      obtain ⟨W1, hW1⟩ : ∃ X : World, X = wr.setCell ⟨g, k * 2, none⟩ (.int .i64 q') := ⟨_, rfl⟩
      rw [← hW1] at HP HF1
      rw [← hW1]
      clear hW1
      go_wp2_with fail
      refine (markText_any q1 _ (by have := HQ1.out; omega)).mono ?_; rintro r w1 ⟨rfl, hb1⟩
      have HB2 := HP.out.after hb1
      obtain ⟨cs2, hcs2⟩ : ∃ x, x = cs'.setIfInBounds (k * 2) (.int .i64 q') := ⟨_, rfl⟩
      have hsz2 : cs2.size = cs'.size := by rw [hcs2, Array.size_setIfInBounds]
      rw [← hcs2] at HB2
      obtain ⟨u1, d1⟩ : ∃ u, w1.cell? ⟨g, k * 2 + 1, none⟩ = some u := ⟨cs2[k * 2 + 1]'(by rw [hsz2]; exact HS0.out), by rw [HB2.cell]; exact Array.getElem?_eq_getElem _⟩
      have f1 := HB2.frozen (k * 2 + 1)
      have HP2 := hide (HB2.put (k * 2 + 1) (.string (mtext q1)))
      have HF2 := hide ((HF1.out.trans (Fr.of_below _ hb1)).setCell (p := ⟨g, k * 2 + 1, none⟩) (.inl rfl) (.string (mtext q1)))
      have HSZ2 := hide hsz2
      clear hb1 HB2 hcs2 hsz2
      have qb1 : q1 ≤ 500000001 := by have := HQ1.out; omega
      go_wp2_with fail
      go_roundw
      case rel => exact ⟨k + 1, q1 + 1, _, by omega, hide (by have := hq.out; have := HQ1.out; omega), HP2, hide (by rw [Array.size_setIfInBounds, HSZ2.out]; exact HS.out), HF2, int_eq (by omega), int_eq (by omega)⟩
      case measure => simp [intOf]; omega
    · go_wp2
      go_ret
      exact ⟨⟨q', rfl⟩, HF.out⟩

end Go.Proofs.Ytcaoekaephnimaa
