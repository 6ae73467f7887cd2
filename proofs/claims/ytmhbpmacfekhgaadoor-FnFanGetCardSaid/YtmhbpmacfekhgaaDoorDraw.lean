/- The reader of a code: l6Open and pick; l91Text draws a text of a bounded length. -/
import Derived.Test.YtmhbpmacfekhgaaDoorInts
import Derived.Test.YtmhbpmacfekhgaaDoorOpen
import Derived.Laws.BitsAllLaws
import Derived.Laws.BitsLemmas
namespace Go.Proofs.YtmhbpmacfekhgaaDoor
open Go.RowKit

/-- block R is a reader that has made p picks; its code lies in a block before it -/
def Rdr (w : World) (R p : Nat) : Prop := ∃ (A : Option Addr) (n c : Nat) (zs : List Int), Bk w R 84 #[.slice A n c, .int .i64 p] ∧ zs.length = n ∧ n ≤ 2000 ∧ (∀ z ∈ zs, 0 ≤ z ∧ z ≤ 255) ∧
  (0 < n → ∃ b o, A = some ⟨b, o, none⟩ ∧ b < R ∧ ∀ (j : Nat) (z : Int), zs[j]? = some z → w.cell? ⟨b, o + j, none⟩ = some (.int .u8 z))
theorem Rdr.lt {w : World} {R p : Nat} (h : Rdr w R p) : R < w.heap.size := by
  obtain ⟨_, _, _, _, hb, _⟩ := h
  exact hb.lt
theorem Rdr.fr {S : Nat → Prop} {w w' : World} {R p : Nat} (h : Rdr w R p) (hf : Fr S w w') (hS : ∀ b, b ≤ R → ¬ S b) : Rdr w' R p := by
  have hlt := h.lt
  obtain ⟨A, n, c, zs, hb, h1, h2, h3, h4⟩ := h
  refine ⟨A, n, c, zs, hb.fr hf (hS R (Nat.le_refl _)), h1, h2, h3, fun hn => ?_⟩
  obtain ⟨b, o, e, hbR, hc⟩ := h4 hn
  exact ⟨b, o, e, hbR, fun j z hz => (World.cell?_of_block (w := w) (a := ⟨b, o + j, none⟩) (hf.block b (by omega) (hS b (by omega)))).trans (hc j z hz)⟩
theorem Rdr.after {w w' : World} {R p : Nat} (h : Rdr w R p) (hb : Below w.heap.size w w') : Rdr w' R p := h.fr (Fr.of_below (fun _ => False) hb) (fun _ _ h => h)

/-- what pick answers -/
def Picked (R p : Nat) (m : Int) (w : World) (r : Ending) (w' : World) : Prop :=
  ∃ v : Int, r = .returned (.int .i64 v) ∧ 0 ≤ v ∧ (1 ≤ m → v < m) ∧ (m < 1 → v = 0) ∧ Rdr w' R (p + 1) ∧ Fr (· = R) w w'

theorem ofInt_i64' (a : Nat) (ha : a < 9223372036854775808) : (BitVec.ofInt 64 (a : Int)).toNat = a := by
  rw [BitVec.ofInt_natCast, BitVec.toNat_ofNat]; exact Nat.mod_eq_of_lt (by omega)
theorem xor_i64 (a b : Nat) (ha : a < 9223372036854775808) (hb : b < 9223372036854775808) : bits .xor .i64 (a : Int) (b : Int) = ((a ^^^ b : Nat) : Int) := by
  have hx : a ^^^ b < 2 ^ 63 := Nat.xor_lt_two_pow (by omega) (by omega)
  show IntKind.i64.wrap ((BitVec.ofInt 64 (a : Int) ^^^ BitVec.ofInt 64 (b : Int)).toNat : Int) = _
  rw [BitVec.toNat_xor, ofInt_i64' a ha, ofInt_i64' b hb, IntKind.wrap_i64]
  omega
theorem xor_bd (x y : Int) (hx : 0 ≤ x) (hx2 : x ≤ 4000000000) (hy : 0 ≤ y) (hy2 : y ≤ 4000000000) : 0 ≤ bits .xor .i64 x y ∧ bits .xor .i64 x y ≤ 4294967296 := by
  obtain ⟨a, rfl⟩ := Int.eq_ofNat_of_zero_le hx
  obtain ⟨b, rfl⟩ := Int.eq_ofNat_of_zero_le hy
  have h : a ^^^ b < 2 ^ 32 := Nat.xor_lt_two_pow (by omega) (by omega)
  rw [xor_i64 a b (by omega) (by omega)]
  omega

set_option maxHeartbeats 1000000 in
theorem pick_any (R p : Nat) (m : Int) (w : World) (h : Rdr w R p) (hp : p ≤ 1000000) (hm0 : -1000000 ≤ m) (hm1 : m ≤ 1000000) :
    Calls Tryd.prog 50 #[.pointer (some ⟨R, 0, none⟩), .int .i64 m] w (Picked R p m w) := by
  obtain ⟨A, n, c, zs, hk, hl, h2000, hz, hat⟩ := h
  obtain ⟨q0, q1⟩ := hk.c2
  have f1 := hk.frozen 1
  have HF := hide ((Fr.refl (· = R) w).setCell (p := ⟨R, 1, none⟩) (.inl rfl) (.int .i64 ((p : Int) + 1)))
  have HR : Hid (Rdr (w.setCell ⟨R, 1, none⟩ (.int .i64 ((p : Int) + 1))) R (p + 1)) := ⟨A, n, c, zs, hk.put 1 _, hl, h2000, hz, fun hn => by
    obtain ⟨b, o, e, hbR, hc⟩ := hat hn
    refine ⟨b, o, e, hbR, fun j z hj => ?_⟩
    rw [World.cell?_setCell_other w _ _ _ (fun e => by injection e with e; omega)]
    exact hc j z hj⟩
  have HL := hide hl
  have HZ := hide hz
  have HAT := hide hat
  clear hl hz hat hk
  by_cases h1 : m < 1
  · go_enter Tryd.func50, Tryd.ntmps50
    go_wp2_with fail
    go_ret
    exact ⟨0, rfl, by omega, fun h => by omega, fun _ => rfl, HR.out, HF.out⟩
  · have h1' : (1 : Int) ≤ m := by omega
    by_cases hn : n = 0
    · subst hn
      go_enter Tryd.func50, Tryd.ntmps50
      go_wp2_with fail
      go_ret
      exact ⟨0, rfl, by omega, fun h => by omega, fun _ => rfl, HR.out, HF.out⟩
    · obtain ⟨b, o, rfl, hbR, hcc⟩ := HAT.out (by omega)
      have hne : ¬ b = R := by omega
      have hn0 : ((n : Int) == 0) = false := by simp; omega
      have hnp : (0 : Int) < (n : Int) := by omega
      by_cases hpn : p < n
      · have hpl : p < zs.length := by have := HL.out; omega
        have hc := hcc p zs[p] (List.getElem?_eq_getElem hpl)
        have hzb := HZ.out zs[p] (List.getElem_mem hpl)
        obtain ⟨z, hzz⟩ : ∃ z, z = zs[p] := ⟨_, rfl⟩
        rw [← hzz] at hc hzb
        obtain ⟨z0, z1⟩ := hzb
        clear hcc hzz
        go_enter Tryd.func50, Tryd.ntmps50
        go_wp2_with fail
        go_ret
        exact ⟨z % m, rfl, Int.emod_nonneg _ (by omega), fun _ => Int.emod_lt_of_pos _ (by omega), fun h => by omega, HR.out, HF.out⟩
      · have hm1' : p % n < n := Nat.mod_lt _ (by omega)
        have hm2' : (p * 7 + 3) % n < n := Nat.mod_lt _ (by omega)
        have hl1 : p % n < zs.length := by have := HL.out; omega
        have hl2 : (p * 7 + 3) % n < zs.length := by have := HL.out; omega
        have hc1 := hcc _ zs[p % n] (List.getElem?_eq_getElem hl1)
        have hc2 := hcc _ zs[(p * 7 + 3) % n] (List.getElem?_eq_getElem hl2)
        have hz1 := HZ.out _ (List.getElem_mem hl1)
        have hz2 := HZ.out _ (List.getElem_mem hl2)
        generalize zs[p % n] = x at hc1 hz1
        generalize zs[(p * 7 + 3) % n] = y at hc2 hz2
        obtain ⟨x0, x1⟩ := hz1
        obtain ⟨y0, y1⟩ := hz2
        obtain ⟨i1, hi1⟩ : ∃ i, i = p % n := ⟨_, rfl⟩
        obtain ⟨i2, hi2⟩ : ∃ i, i = (p * 7 + 3) % n := ⟨_, rfl⟩
        rw [← hi1] at hc1 hm1'
        rw [← hi2] at hc2 hm2'
        have e1 : (p : Int) % (n : Int) = (i1 : Int) := by rw [hi1]; omega
        have e2 : ((p : Int) * 7 + 3) % (n : Int) = (i2 : Int) := by rw [hi2]; push_cast; rfl
        have hq := Nat.div_le_self p n
        obtain ⟨d, hd⟩ : ∃ d, d = p / n := ⟨_, rfl⟩
        rw [← hd] at hq
        have e3 : (p : Int) / (n : Int) = (d : Int) := by rw [hd]; rfl
        obtain ⟨W1, HW1⟩ : ∃ W : World, W = w.setCell ⟨R, 1, none⟩ (.int .i64 ((p : Int) + 1)) := ⟨_, rfl⟩
        have k0 : W1.cell? ⟨R, 0, none⟩ = some (.slice (some ⟨b, o, none⟩) n c) := by rw [HW1, World.cell?_setCell_other w _ _ _ (by simp)]; exact q0
        have k1 : W1.cell? ⟨b, o + i1, none⟩ = some (.int .u8 x) := by rw [HW1, World.cell?_setCell_other w _ _ _ (fun e => by injection e with e; omega)]; exact hc1
        have k2 : W1.cell? ⟨b, o + i2, none⟩ = some (.int .u8 y) := by rw [HW1, World.cell?_setCell_other w _ _ _ (fun e => by injection e with e; omega)]; exact hc2
        have b1 : (0 : Int) ≤ (i1 : Int) := by omega
        have b2 : (i1 : Int) < (n : Int) := by omega
        have b3 : (0 : Int) ≤ (i2 : Int) := by omega
        have b4 : (i2 : Int) < (n : Int) := by omega
        have b5 : ¬ (p : Int) < (n : Int) := by omega
        have b6 : (d : Int) ≤ 1000000 := by omega
        clear hcc hl1 hl2 hi1 hi2 hd hc1 hc2
        go_enter Tryd.func50, Tryd.ntmps50
        go_wp2_with fail
        rw [← HW1]
        rw [← HW1] at HF HR
        clear HW1 q0 q1 f1
        go_quiet (fail)
        have g0 : 0 ≤ x * 131 + y * 1117 + (p : Int) * 29 + (d : Int) * 53 := by omega
        have g1 : x * 131 + y * 1117 + (p : Int) * 29 + (d : Int) * 53 ≤ 4000000000 := by omega
        generalize x * 131 + y * 1117 + (p : Int) * 29 + (d : Int) * 53 = X at g0 g1 ⊢
        obtain ⟨g2, g3⟩ := xor_bd X (X / 64) g0 g1 (by omega) (by omega)
        have HX := hide g2
        clear e1 e2 e3 k0 k1 k2
        go_wp2_with fail
        go_ret
        exact ⟨_, rfl, Int.emod_nonneg _ (by omega), fun _ => Int.emod_lt_of_pos _ (by omega), fun h => by omega, HR.out.fr ((Fr.refl (fun _ => False) _).drewN _) (fun _ _ h => h), HF.out.drewN _⟩
end Go.Proofs.YtmhbpmacfekhgaaDoor
