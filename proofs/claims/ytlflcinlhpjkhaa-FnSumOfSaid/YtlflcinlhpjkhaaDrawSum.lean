/- DrawSumOf draws a text; the walk of the law FnSumOf. -/
import Derived.Test.YtlflcinlhpjkhaaText
import Derived.Test.YtlflcinlhpjkhaaSumPlain
import Derived.Lib.ConvBytes
import Derived.Deep.RegionHeld
namespace Go.Proofs.Ytlflcinlhpjkhaa
open Go.RowKit

set_option maxHeartbeats 400000 in
theorem drawSumOf_any (A : Option Addr) (n c : Nat) (zs : List Int) (w : World) (h : U8s w A n c zs) :
    Calls Try.prog 38 #[.slice A n c] w (DrawnS 40 w) := by
  go_enter Try.func38, Try.ntmps38
  go_wp2_with fail
  refine (l6Open_any _ _ _ _ _ h).mono ?_; rintro r w1 ⟨rfl, hr, hb⟩
  go_wp2_with fail
  refine (l91Text_any _ 0 40 _ hr (by omega) (by omega)).mono ?_; rintro r w2 ⟨out, q, rfl, hl, _, _, hf⟩
  go_wp2_with fail
  go_ret
  exact ⟨_, rfl, by show out.toArray.size ≤ 40; simpa using hl, fr_new hb (Nat.le_refl _) hf⟩

/-- a row of bytes of the call's own, that may be written -/
def ByteRow (w : World) (g : Nat) (l : List UInt8) : Prop := ∀ (j : Nat) (b : UInt8), l[j]? = some b → w.cell? ⟨g, j, none⟩ = some (.int .u8 b.toNat) ∧ w.frozen? ⟨g, j, none⟩ = false
theorem ByteRow.set_ {w : World} {g : Nat} {l : List UInt8} (h : ByteRow w g l) {j : Nat} (hj : j < l.length) (c : UInt8) : ByteRow (w.setCell ⟨g, j, none⟩ (.int .u8 c.toNat)) g (l.set j c) := by
  intro i b hi
  rw [World.frozen?_setCell]
  by_cases e : j = i
  · subst e
    rw [List.getElem?_set_self hj] at hi
    injection hi with hi
    subst hi
    obtain ⟨h1, h2⟩ := h j _ (List.getElem?_eq_getElem hj)
    exact ⟨World.cell?_setCell_same' w _ _ (by rw [h1]; rfl), h2⟩
  · rw [List.getElem?_set_ne e] at hi
    rw [World.cell?_setCell_other w _ _ _ (fun ee => by injection ee with _ ee; exact e ee)]
    exact h i b hi
theorem ByteRow.str {w : World} {g c : Nat} {l : List UInt8} {n : Nat} (h : ByteRow w g l) (hn : n = l.length) :
    (convert 49 9 (.slice (some ⟨g, 0, none⟩) n c)).run Try.prog w = .ok (.string ⟨l.toArray⟩) w := by
  subst hn
  refine run_convert_bytes_back w 49 9 5 _ c l Try.underlying49 Try.underlying5 Try.underlying9 (fun j hj => ?_)
  rw [Addr.add_lit, Nat.zero_add]
  exact (h j _ (List.getElem?_eq_getElem hj)).1
theorem to_bytes (w : World) (s : ByteArray) : ∃ (W : World) (c : Nat), (convert 9 49 (.string s)).run Try.prog w = .ok (.slice (some ⟨w.heap.size, 0, none⟩) s.size c) W ∧ ByteRow W w.heap.size s.data.toList ∧ Below w.heap.size w W ∧ W.heap.size = w.heap.size + 1 ∧ s.size ≤ c := by
  refine ⟨_, _, Lib.run_convert_string_bytes w 9 49 5 s Try.underlying9 Try.underlying49 Try.underlying5, ?_, ?_, Lib.bytesWorld_size _ _ _, grownCap_ge _ _ _ _⟩
  · intro j b hj
    have hlt : j < s.size := by
      have := (List.getElem?_eq_some_iff.1 hj).1
      simpa using this
    refine ⟨?_, ?_⟩
    · rw [Lib.bytesWorld_cell w _ s j hlt, List.getD_eq_getElem?_getD, hj]
      rfl
    · simp only [World.frozen?, Lib.bytesWorld_at_new]
      simp [Lib.bytesCells]
      omega
  · exact ⟨rfl, rfl, rfl, by rw [Lib.bytesWorld_size]; omega, fun k hk => Lib.bytesWorld_at_old w _ s k hk⟩

theorem list_split {l : List UInt8} {k : Nat} {b : UInt8} (h : l[k]? = some b) : l = l.take k ++ b :: l.drop (k + 1) := by
  have hlt : k < l.length := (List.getElem?_eq_some_iff.1 h).1
  rw [List.getElem?_eq_getElem hlt] at h
  injection h with h
  conv => lhs; rw [← List.take_append_drop k l, List.drop_eq_getElem_cons hlt, h]
theorem set_split {l : List UInt8} {k : Nat} (hlt : k < l.length) (y : UInt8) : l.set k y = l.take k ++ y :: l.drop (k + 1) := by
  rw [List.set_eq_take_append_cons_drop, if_pos hlt]
theorem sum_changed {s : ByteArray} {k : Nat} {b y : UInt8} (h : s.data.toList[k]? = some b) (hne : b ≠ y) : sumOf (ByteArray.mk (s.data.toList.set k y).toArray).data.toList ≠ sumOf s.data.toList := by
  show sumOf (s.data.toList.set k y) ≠ _
  rw [set_split (List.getElem?_eq_some_iff.1 h).1]
  conv => rhs; rw [list_split h]
  exact fun e => sumOf_set _ _ _ _ hne e.symm
theorem sum_swapped {s : ByteArray} {k : Nat} (hk : k + 1 < s.size) (hne : s[k] ≠ s[k + 1]) : sumOf ((s.data.toList.set k s[k + 1]).set (k + 1) s[k]) ≠ sumOf s.data.toList := by
  have hl : s.data.toList.length = s.size := Array.length_toList
  have h0 : s.data.toList[k]? = some s[k] := by rw [Array.getElem?_toList]; exact Array.getElem?_eq_getElem (show k < s.data.size from Nat.lt_of_succ_lt hk)
  have h1 : s.data.toList[k + 1]? = some s[k + 1] := by rw [Array.getElem?_toList]; exact Array.getElem?_eq_getElem (show k + 1 < s.data.size from hk)
  have e0 := list_split h0
  have e1 : s.data.toList.drop (k + 1) = s[k + 1] :: s.data.toList.drop (k + 1 + 1) := by
    rw [List.drop_eq_getElem_cons (by omega : k + 1 < s.data.toList.length)]
    rw [List.getElem?_eq_getElem (by omega : k + 1 < s.data.toList.length)] at h1
    injection h1 with h1
    rw [h1]
  have e2 : (s.data.toList.set k s[k + 1]).set (k + 1) s[k] = s.data.toList.take k ++ s[k + 1] :: s[k] :: s.data.toList.drop (k + 1 + 1) := by
    rw [show s.data.toList.set k s[k + 1] = s.data.toList.take k ++ s[k + 1] :: s[k + 1] :: s.data.toList.drop (k + 1 + 1) from by rw [set_split (by omega), e1]]
    rw [List.set_append_right _ _ (by simp; omega)]
    simp
    rw [show k + 1 - min k s.size = 1 from by omega]
    rfl
  rw [e2]
  conv => rhs; rw [e0, e1]
  exact fun e => sumOf_swap _ _ _ _ hne e.symm

set_option maxRecDepth 100000 in
set_option maxHeartbeats 2000000 in
theorem fnSumOf_walk (A1 : Option Addr) (n1 c1 : Nat) (z1 : List Int) (A2 : Option Addr) (n2 c2 : Nat) (z2 : List Int) (w : World) (h1 : U8s w A1 n1 c1 z1) (h2 : U8s w A2 n2 c2 z2) :
    Calls Try.prog 12 #[.slice A1 n1 c1, .slice A2 n2 c2] w fun r w' => r = .returned (.bool true) ∧ Below w.heap.size w w' := by
  have m1 : n1 ≤ maxLen := Nat.le_trans h1.1 h1.2.1
  have m2 : n2 ≤ maxLen := Nat.le_trans h2.1 h2.2.1
  have H1 := hide h1
  clear h1 h2
  unfold maxLen at m1 m2
  by_cases g1 : (1048576 : Int) < (n1 : Int)
  · go_enter Try.func12, Try.ntmps12
    go_wp2_with fail
    go_ret
    exact ⟨rfl, Below.refl _ _⟩
  · by_cases g2 : (1048576 : Int) < (n2 : Int)
    · go_enter Try.func12, Try.ntmps12
      go_wp2_with fail
      go_ret
      exact ⟨rfl, Below.refl _ _⟩
    · go_enter Try.func12, Try.ntmps12
      go_wp2_with fail
      refine (drawSumOf_any _ _ _ _ _ H1.out).mono ?_; rintro r w1 ⟨s, rfl, hs, hb1⟩
      have HB1 := hide hb1
      have hsm : s.size ≤ maxLen := by unfold maxLen; omega
      clear hb1
      go_wp2_with fail
      refine (implSum_any _ _ hsm).mono ?_; rintro r w2 ⟨rfl, rfl⟩
      go_wp2_with fail
      refine (specSum_any _ _ hsm).mono ?_; rintro r w2 ⟨rfl, rfl⟩
      by_cases h0 : s.size = 0
      · have p0 : ¬ (0 : Int) < (s.size : Int) := by omega
        have p1 : decide (0 < s.size) = false := decide_eq_false (by omega)
        clear h0
        go_wp2_with fail
        go_ret
        exact ⟨rfl, HB1.out⟩
      · have p0 : (0 : Int) < (s.size : Int) := by omega
        have p1 : decide (0 < s.size) = true := decide_eq_true (by omega)
        obtain ⟨k, hk⟩ : ∃ k, k = n2 % s.size := ⟨_, rfl⟩
        have kl : k < s.size := by rw [hk]; exact Nat.mod_lt _ (by omega)
        have ek : (n2 : Int) % (s.size : Int) = (k : Int) := by rw [hk]; rfl
        obtain ⟨d, hd⟩ : ∃ d, d = n2 / s.size := ⟨_, rfl⟩
        have dl : d ≤ n2 := by rw [hd]; exact Nat.div_le_self _ _
        have ed : (n2 : Int) / (s.size : Int) = (d : Int) := by rw [hd]; rfl
        obtain ⟨W, c, hconv, BR, hbW, zW, cW⟩ := to_bytes w1 s
        have kl' : k < s.data.toList.length := by simpa using kl
        obtain ⟨b, hb⟩ : ∃ b, s.data.toList[k]? = some b := ⟨_, List.getElem?_eq_getElem kl'⟩
        obtain ⟨q0, f0⟩ := BR k b hb
        have b256 := b.toNat_lt
        have k0 : (0 : Int) ≤ (k : Int) := by omega
        have k1 : (k : Int) < (s.size : Int) := by omega
        have HB := hide hb
        have HBW := hide hbW
        have HZ := hide zW
        have HBR := hide BR
        clear hk hd hb hbW zW BR kl' h0
        go_wp2_with fail
        go_region
        obtain ⟨y, hy, hne⟩ : ∃ y : UInt8, ((b.toNat : Int) + 1 + (d : Int) % 255) % 256 = (y.toNat : Int) ∧ b ≠ y := by
          refine ⟨UInt8.ofNat ((b.toNat + 1 + d % 255) % 256), ?_, ?_⟩
          · rw [UInt8.toNat_ofNat']
            omega
          · intro e
            have e2 := congrArg UInt8.toNat e
            rw [UInt8.toNat_ofNat'] at e2
            omega
        rw [hy]
        obtain ⟨W2, HW2⟩ : ∃ X : World, X = (W.setCell ⟨w1.heap.size, k, none⟩ (.int .u8 (y.toNat : Int))).drew := ⟨_, rfl⟩
        rw [← HW2]
        have R2 : ByteRow W2 w1.heap.size (s.data.toList.set k y) := by rw [HW2]; exact HBR.out.set_ (by simpa using kl) y
        have HB2 := hide (show Below w.heap.size w W2 by rw [HW2]; exact ((HB1.out.trans (HBW.out.mono HB1.out.size)).setCell HB1.out.size _).drew)
        have hcv := R2.str (n := s.size) (c := c) (by rw [List.length_set]; exact (Array.length_toList).symm)
        have hsne := hide (sum_changed HB.out hne)
        clear HW2 hy hne q0 f0 R2 HBR HBW HZ hconv
        have hsz2 : (ByteArray.mk (s.data.toList.set k y).toArray).size ≤ maxLen := by
          show (s.data.toList.set k y).toArray.size ≤ maxLen
          simpa using hsm
        obtain ⟨W3, c3, hconv3, BR3, hb3, z3, cW3⟩ := to_bytes W2 s
        have HB3 := hide (HB2.out.trans (hb3.mono HB2.out.size))
        have HL3 := hide HB2.out.size
        have HR3 := hide BR3
        clear hb3 z3 BR3
        go_wp2_with fail
        refine (implSum_any _ _ hsz2).mono ?_; rintro r w3 ⟨rfl, rfl⟩
        have t1 : (sumOf (ByteArray.mk (s.data.toList.set k y).toArray).data.toList == sumOf s.data.toList) = false := beq_eq_false_iff_ne.2 hsne.out
        clear hcv
        by_cases hk1 : k + 1 < s.size
        · have j1 : (k : Int) + 1 < (s.size : Int) := by omega
          have jw : IntKind.i64.wrap ((k : Int) + 1) = (k : Int) + 1 := by rw [IntKind.wrap_i64]; omega
          have jn : ((k : Int) + 1).toNat = k + 1 := by omega
          have jp : (0 : Int) ≤ (k : Int) + 1 := by omega
          by_cases he : s[k] = s[k + 1]
          · have je : ((s[k].toNat : Int) == (s[k + 1].toNat : Int)) = true := by rw [he]; simp
            clear he
            obtain ⟨b1, b2⟩ := sumOf_bd s.data.toList
            go_wp2_with fail
            go_quiet (fail)
            go_wp2_with fail
            go_ret
            exact ⟨rfl, below_drewN HB3.out _⟩
          · have je : ((s[k].toNat : Int) == (s[k + 1].toNat : Int)) = false := by rw [beq_eq_false_iff_ne]; intro e; exact he (UInt8.toNat_inj.1 (by omega))
            have jm : ((s[k].toNat : Int) != (s[k + 1].toNat : Int)) = true := by rw [bne_iff_ne]; intro e; exact he (UInt8.toNat_inj.1 (by omega))
            have hsw := hide (sum_swapped hk1 he)
            go_wp2_with fail
            go_quiet (fail)
            have l0 : k < s.data.toList.length := by simpa using kl
            have l1 : k + 1 < s.data.toList.length := by simpa using hk1
            have e0 : s.data.toList[k]? = some s[k] := by rw [Array.getElem?_toList]; exact Array.getElem?_eq_getElem (show k < s.data.size from kl)
            have e1 : s.data.toList[k + 1]? = some s[k + 1] := by rw [Array.getElem?_toList]; exact Array.getElem?_eq_getElem (show k + 1 < s.data.size from hk1)
            obtain ⟨W4, HW4⟩ : ∃ X : World, X = W3.drewN nq := ⟨_, rfl⟩
            rw [← HW4]
            have HR4 := hide (show ByteRow W4 W2.heap.size s.data.toList by rw [HW4]; exact HR3.out)
            have HB4 := hide (show Below w.heap.size w W4 by rw [HW4]; exact below_drewN HB3.out nq)
            clear HW4 HR3 HB3
            obtain ⟨c0, d0⟩ := HR4.out k _ e0
            obtain ⟨c1', d1⟩ := HR4.out (k + 1) _ e1
            have R4 : ByteRow ((W4.setCell ⟨W2.heap.size, k, none⟩ (.int .u8 s[k + 1].toNat)).setCell ⟨W2.heap.size, k + 1, none⟩ (.int .u8 s[k].toNat)) W2.heap.size ((s.data.toList.set k s[k + 1]).set (k + 1) s[k]) :=
              (HR4.out.set_ l0 s[k + 1]).set_ (by rw [List.length_set]; exact l1) s[k]
            have hcv := R4.str (n := s.size) (c := c3) (by rw [List.length_set, List.length_set]; exact (Array.length_toList).symm)
            have HB5 := hide ((HB4.out.setCell (p := ⟨W2.heap.size, k, none⟩) HL3.out (.int .u8 s[k + 1].toNat)).setCell (p := ⟨W2.heap.size, k + 1, none⟩) HL3.out (.int .u8 s[k].toNat))
            have hsz5 : (ByteArray.mk ((s.data.toList.set k s[k + 1]).set (k + 1) s[k]).toArray).size ≤ maxLen := by
              show ((s.data.toList.set k s[k + 1]).set (k + 1) s[k]).toArray.size ≤ maxLen
              simpa using hsm
            have t2 : (sumOf (ByteArray.mk ((s.data.toList.set k s[k + 1]).set (k + 1) s[k]).toArray).data.toList == sumOf s.data.toList) = false := beq_eq_false_iff_ne.2 hsw.out
            clear e0 e1 R4 he je hconv3 t1
            go_wp2_with fail
            refine (implSum_any _ _ hsz5).mono ?_; rintro r w6 ⟨rfl, rfl⟩
            go_wp2_with fail
            go_ret
            exact ⟨ret_bool (bne_iff_ne.2 hsw.out), HB5.out⟩
        · have j1 : decide ((k : Int) + 1 < (s.size : Int)) = false := by simp; omega
          have jw : IntKind.i64.wrap ((k : Int) + 1) = (k : Int) + 1 := by rw [IntKind.wrap_i64]; omega
          obtain ⟨b1, b2⟩ := sumOf_bd s.data.toList
          go_wp2_with fail
          go_quiet (fail)
          go_wp2_with fail
          go_ret
          exact ⟨rfl, below_drewN HB3.out _⟩
end Go.Proofs.Ytlflcinlhpjkhaa
