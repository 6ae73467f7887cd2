/- Disks are marked, whatever waits on them. -/
import Derived.Test.YtadeifimhoaanaaDiskFlush
import Derived.Test.YtadeifimhoaanaaDiskLaw
namespace Go.Proofs.Ytadeifimhoaanaa
open Go.RowKit
set_option linter.unusedVariables false

set_option maxHeartbeats 2000000 in
theorem markWaitS_fr (g n c : Nat) (cs : Array Value) (k0 : Nat) (w : World) (hb : Bk w g 51 cs) (hn : n * 2 ≤ cs.size) (hm : n ≤ 100000000) (h1 : k0 ≤ 100000000) :
    Calls Try.prog 40 #[.slice (some ⟨g, 0, none⟩) n c, .int .i64 k0] w fun r w' => (∃ v : Nat, r = .returned (.int .i64 v)) ∧ Fr (· = g) w w' := by
  have HB := hide hb
  have HN := hide hn
  have hg := hb.lt
  clear hb hn
  go_enter Try.func40, Try.ntmps40
  go_wp2
  go_loopw [1, 5] (fun q i wr => ∃ (k q' : Nat) (cs' : Array Value), k ≤ n ∧ Hid (q' = k0 + 2 * k) ∧ Hid (Bk wr g 51 cs') ∧ Hid (cs'.size = cs.size) ∧ Hid (Fr (· = g) w wr) ∧ q = .int .i64 q' ∧ i = .int .i64 k) (fun _ i _ => n - (intOf i).toNat)
  case atStart => exact ⟨0, k0, cs, by omega, hide rfl, HB, hide rfl, hide (Fr.refl _ _), rfl, rfl⟩
  case round =>
    obtain ⟨k, q', cs', hk, hq, HB, HS, HF, rfl, rfl⟩ := hrel
    have qb : q' ≤ 500000000 := by have := hq.out; omega
    by_cases hlt : k < n
    · have hs0 : k * 2 + 1 < cs'.size := by have := HS.out; have := HN.out; omega
      have HS0 := hide hs0
      obtain ⟨u0, d0⟩ : ∃ u, wr.cell? ⟨g, k * 2, none⟩ = some u := ⟨cs'[k * 2], by rw [HB.out.cell]; exact Array.getElem?_eq_getElem (by omega)⟩
      have f0 := HB.out.frozen (k * 2)
      have HP := hide (HB.out.put (k * 2) (.int .i64 q'))
      have HF1 := hide (HF.out.setCell (p := ⟨g, k * 2, none⟩) (.inl rfl) (.int .i64 q'))
      have i0 : (0 : Int) ≤ (k : Int) := by omega
      have i1 : (k : Int) < (n : Int) := by omega
      obtain ⟨q1, hq1⟩ : ∃ q1 : Nat, q1 = q' + 1 := ⟨_, rfl⟩
      have qw : IntKind.i64.wrap (q1 : Int) = (q1 : Int) := by rw [IntKind.wrap_i64]; omega
      have qq : (q' : Int) + 1 = (q1 : Int) := by omega
      have HQ1 := hide hq1
      clear hq1
      clear hs0
      go_upto_region 6 with fail
      clear d0 f0
      obtain ⟨W1, hW1⟩ : ∃ X : World, X = wr.setCell ⟨g, k * 2, none⟩ (.int .i64 q') := ⟨_, rfl⟩
      rw [← hW1] at HP HF1
      rw [← hW1]
      clear hW1
      go_wp2_with fail
      refine (markText_any q1 _ (by have := HQ1.out; omega)).mono ?_; rintro r w1 ⟨rfl, hb1⟩
      have HB2 := HP.out.after hb1
      obtain ⟨cs2, hcs2⟩ : ∃ x, x = cs'.setIfInBounds (k * 2) (.int .i64 q') := ⟨_, rfl⟩
      have hsz2 : cs2.size = cs'.size := by rw [hcs2, Array.size_setIfInBounds]
      rw [← hcs2] at HB2
      obtain ⟨u1, d1⟩ : ∃ u, w1.cell? ⟨g, k * 2 + 1, none⟩ = some u := ⟨cs2[k * 2 + 1]'(by rw [hsz2]; exact HS0.out), by rw [HB2.cell]; exact Array.getElem?_eq_getElem _⟩
      have f1 := HB2.frozen (k * 2 + 1)
      have HP2 := hide (HB2.put (k * 2 + 1) (.string (mtext q1)))
      have HF2 := hide ((HF1.out.trans (Fr.of_below _ hb1)).setCell (p := ⟨g, k * 2 + 1, none⟩) (.inl rfl) (.string (mtext q1)))
      have HSZ2 := hide hsz2
      clear hb1 HB2 hcs2 hsz2
      have qb1 : q1 ≤ 500000001 := by have := HQ1.out; omega
      go_wp2_with fail
      go_roundw
      case rel => exact ⟨k + 1, q1 + 1, _, by omega, hide (by have := hq.out; have := HQ1.out; omega), HP2, hide (by rw [Array.size_setIfInBounds, HSZ2.out]; exact HS.out), HF2, int_eq (by omega), int_eq (by omega)⟩
      case measure => simp [intOf]; omega
    · go_wp2
      go_ret
      exact ⟨⟨q', rfl⟩, HF.out⟩

/-- marks on a disk: no word on what they are -/
theorem markDisk_x (g1 g2 n1 n2 c1 c2 : Nat) (cs1 cs2 : Array Value) (g : Bool) (w : World) (b1 : Bk w g1 9 cs1) (b2 : Bk w g2 51 cs2) (hn1 : n1 ≤ cs1.size) (hn2 : n2 * 2 ≤ cs2.size) (m1 : n1 ≤ 1048576) (m2 : n2 ≤ 1048576) :
    Calls Try.prog 17 #[.agg #[.slice (some ⟨g1, 0, none⟩) n1 c1, .slice (some ⟨g2, 0, none⟩) n2 c2, .bool g], .int .i64 1] w fun r w' => (∃ v : Nat, r = .returned (.int .i64 v)) ∧ Fr (fun k => k = g1 ∨ k = g2) w w' := by
  have hb0 := bel1 w (.cells #[.slice (some ⟨g1, 0, none⟩) n1 c1, .slice (some ⟨g2, 0, none⟩) n2 c2, .bool g] 25)
  have K0 := hide (Bk.fresh w 25 #[.slice (some ⟨g1, 0, none⟩) n1 c1, .slice (some ⟨g2, 0, none⟩) n2 c2, .bool g])
  have B1 := hide (b1.after hb0)
  have B2 := hide (b2.after hb0)
  have lt1 := hide b1.lt
  have hne := hide (b2.ne_type b1 (by decide))
  clear b1 b2
  go_enter Try.func17, Try.ntmps17
  go_wp2_with fail
  refine (markStringS_at (j := 1 + (n1 : Int)) 1 (by rfl) (by rfl) _ B1.out hn1 (by omega) (by omega)).mono ?_; rintro r w1 ⟨rfl, _, hf1⟩
  obtain ⟨q0, q1, q2⟩ := (K0.out.fr hf1 (fun e => by have := lt1.out; omega)).c3
  have B2 := hide (B2.out.fr hf1 hne.out)
  have HF := hide hf1
  have HB0 := hide hb0
  obtain ⟨k1, hk1⟩ : ∃ k1 : Nat, k1 = 1 + n1 := ⟨_, rfl⟩
  have hi : (1 : Int) + (n1 : Int) = (k1 : Int) := by omega
  rw [hi]
  have HK1 := hide hk1
  clear hf1 hb0 hi hk1
  go_wp2_with fail
  refine (markWaitS_fr g2 n2 c2 cs2 k1 _ B2.out hn2 (by omega) (by have := HK1.out; omega)).mono ?_; rintro r w2 ⟨⟨v, rfl⟩, hf2⟩
  go_wp2_with fail
  go_ret
  exact ⟨⟨v, rfl⟩, ((Fr.of_below _ HB0.out).trans (HF.out.mono (fun k _ e => .inl e))).trans (hf2.mono (fun k _ e => .inr e))⟩
/-- marks on a disk of 64 cells on which nothing waits -/
theorem markDisk_c (g1 ca : Nat) (B : Option Addr) (cs : Array Value) (g : Bool) (w : World) (b1 : Bk w g1 9 cs) (hs : 64 ≤ cs.size) :
    Calls Try.prog 17 #[.agg #[.slice (some ⟨g1, 0, none⟩) 64 ca, .slice B 0 0, .bool g], .int .i64 1] w fun r w' => r = .returned (.int .i64 65) ∧
      Rd w' 1 (some ⟨g1, 0, none⟩) 64 (marksT 1 64) ∧ Fr (· = g1) w w' := by
  have hb0 := bel1 w (.cells #[.slice (some ⟨g1, 0, none⟩) 64 ca, .slice B 0 0, .bool g] 25)
  have K0 := hide (Bk.fresh w 25 #[.slice (some ⟨g1, 0, none⟩) 64 ca, .slice B 0 0, .bool g])
  have B1 := hide (b1.after hb0)
  have lt1 := hide b1.lt
  clear b1
  go_enter Try.func17, Try.ntmps17
  go_wp2_with fail
  refine (markStringS_at (j := 65) 1 (by rfl) (by rfl) _ B1.out (by omega) (by omega) (by omega)).mono ?_; rintro r w1 ⟨rfl, ⟨t1, T1, ts1, tm1⟩, hf1⟩
  obtain ⟨q0, q1, q2⟩ := (K0.out.fr hf1 (fun e => by have := lt1.out; omega)).c3
  have HM := hide (marksT_rd T1 tm1)
  have HF := hide hf1
  have HB0 := hide hb0
  clear T1 ts1 tm1 hf1 hb0
  go_wp2_with fail
  refine (markWaitS_nil _ _ _ _).mono ?_; rintro r w2 ⟨rfl, rfl⟩
  go_wp2_with fail
  go_ret
  exact ⟨rfl, HM.out, (Fr.of_below _ HB0.out).trans HF.out⟩
theorem heldDisk_c (ca : Nat) (A : Option Addr) (B : Option Addr) (g : Bool) (w : World) (h1 : Rd w 1 A 64 (marksT 1 64)) :
    Calls Try.prog 18 #[.agg #[.slice A 64 ca, .slice B 0 0, .bool g], .int .i64 1] w fun r w' => r = .returned (.int .i64 65) ∧ Below w.heap.size w w' := by
  have hb0 := bel1 w (.cells #[.slice A 64 ca, .slice B 0 0, .bool g] 25)
  have K0 := hide (Bk.fresh w 25 #[.slice A 64 ca, .slice B 0 0, .bool g])
  have H1 := hide (h1.after hb0)
  clear h1
  go_enter Try.func18, Try.ntmps18
  go_wp2_with fail
  refine (heldStringS_at (j := 65) 1 (by rfl) (by rfl) _ H1.out (by omega) (by omega)).mono ?_; rintro r w1 ⟨rfl, hb1⟩
  obtain ⟨q0, q1, q2⟩ := (K0.out.after hb1).c3
  go_wp2_with fail
  refine (heldWaitS_nil _ _ _ _).mono ?_; rintro r w2 ⟨rfl, rfl⟩
  go_wp2_with fail
  go_ret
  exact ⟨rfl, bnext hb0 (Nat.le_refl _) hb1⟩
/-- marks on the empty disk -/
theorem markDisk_n (g : Bool) (w : World) :
    Calls Try.prog 17 #[.agg #[.slice none 0 0, .slice none 0 0, .bool g], .int .i64 1] w fun r w' => r = .returned (.int .i64 1) ∧ Below w.heap.size w w' := by
  have hb0 := bel1 w (.cells #[.slice none 0 0, .slice none 0 0, .bool g] 25)
  go_enter Try.func17, Try.ntmps17
  go_wp2_with fail
  refine (markStringS_nil _ _ _ _).mono ?_; rintro r w1 ⟨rfl, rfl⟩
  go_wp2_with fail
  refine (markWaitS_nil _ _ _ _).mono ?_; rintro r w2 ⟨rfl, rfl⟩
  go_wp2_with fail
  go_ret
  exact ⟨rfl, hb0⟩
theorem heldDisk_n (g : Bool) (w : World) :
    Calls Try.prog 18 #[.agg #[.slice none 0 0, .slice none 0 0, .bool g], .int .i64 1] w fun r w' => r = .returned (.int .i64 1) ∧ Below w.heap.size w w' := by
  have hb0 := bel1 w (.cells #[.slice none 0 0, .slice none 0 0, .bool g] 25)
  have K0 := hide (Bk.fresh w 25 #[.slice none 0 0, .slice none 0 0, .bool g])
  go_enter Try.func18, Try.ntmps18
  go_wp2_with fail
  refine (heldStringS_at (j := 1) 1 (by rfl) (by rfl) _ (Rd.nil _ _ _) (by omega) (by omega)).mono ?_; rintro r w1 ⟨rfl, hb1⟩
  obtain ⟨q0, q1, q2⟩ := (K0.out.after hb1).c3
  go_wp2_with fail
  refine (heldWaitS_nil _ _ _ _).mono ?_; rintro r w2 ⟨rfl, rfl⟩
  go_wp2_with fail
  go_ret
  exact ⟨rfl, bnext hb0 (Nat.le_refl _) hb1⟩
end Go.Proofs.Ytadeifimhoaanaa
