/- The laws FnFieldsJoin and FnFieldsApart, walked. -/
import Derived.Test.YtnagmagjdglmoaaDoorFieldsSeen
namespace Go.Proofs.YtnagmagjdglmoaaDoor
open Go.RowKit
set_option linter.unusedVariables false

theorem rd_news {w : World} {b m : Nat} {ys : List ByteArray} (h : Rd w 1 (some ⟨b, 0, none⟩) m (ys.map Value.string)) : ∀ j u, (ys.map Value.string)[j]? = some u → w.cell? ((⟨b, 0, none⟩ : Addr).add j) = some u := by
  intro j u hj
  have hj2 := (List.getElem?_eq_some_iff.1 hj).1
  have hl := h.len
  obtain ⟨b', o', e, _, hc⟩ := h.at_ (by omega)
  injection e with e
  injection e with e1 e2
  subst e1 e2
  rw [Addr.add_lit]
  exact hc j u hj
theorem own_some {w : World} {base n : Nat} {e : TypeId} {v : Value} {xs : List Value} (h : w.ownsRow base e 1 v n xs) (hv : v ≠ .slice none 0 0) : ∃ g c, v = .slice (some ⟨g, 0, none⟩) n c := by
  rcases h.2 with ⟨e, _⟩ | ⟨g, cap, cur, e, _⟩
  · exact absurd e hv
  · exact ⟨g, cap, e⟩
theorem own_cat {w : World} {base : Nat} {v : Value} {a b : List ByteArray} (h : w.ownsRow base 9 1 v (a.length + b.length) (a.map Value.string ++ b.map Value.string)) : w.ownsRow base 9 1 v (a ++ b).length ((a ++ b).map Value.string) := by
  rw [List.length_append, List.map_append]
  exact h
theorem put_join {a b : List ByteArray} (h : putB (a ++ b) = true) : putB a = true ∧ putB b = true ∧ putT (a ++ b) = putT a ++ putT b ∧ (putT a).size ≤ 2048 ∧ (putT b).size ≤ 2048 := by
  simp only [putB, Bool.and_eq_true, decide_eq_true_eq] at h
  rw [recOf_app, List.length_append, List.length_append] at h
  obtain ⟨e1, f1⟩ := put_yes (zs := a) (by omega) (by omega)
  obtain ⟨e2, f2⟩ := put_yes (zs := b) (by omega) (by omega)
  obtain ⟨e3, f3⟩ := put_yes (zs := a ++ b) (by rw [List.length_append]; omega) (by rw [recOf_app, List.length_append]; omega)
  refine ⟨f1, f2, ?_, ?_, ?_⟩
  · rw [e1, e2, e3, ba_app, recOf_app]
  · rw [e1, bsz]; omega
  · rw [e2, bsz]; omega
theorem put_inj {a b : List ByteArray} (ha : putB a = true) (hb : putB b = true) : (putT a = putT b) ↔ a = b := by
  constructor
  · intro h
    have h1 := (put_get ha).1
    have h2 := (put_get hb).1
    rw [h] at h1
    exact rec_uniq (h1.symm.trans h2)
  · intro h; rw [h]
theorem mem_cat {a b : List ByteArray} {n : Nat} (ha : ∀ z ∈ a, z.size ≤ n) (hb : ∀ z ∈ b, z.size ≤ n) : ∀ z ∈ a ++ b, z.size ≤ n := by
  intro z hz
  rcases List.mem_append.1 hz with h | h
  · exact ha z h
  · exact hb z h

theorem U8s.after' {w w' : World} {A : Option Addr} {n c : Nat} {zs : List Int} (h : U8s w A n c zs) (hb : Below w.heap.size w w') : U8s w' A n c zs := by
  obtain ⟨h1, h2, h3, h4, h5⟩ := h
  exact ⟨h1, h2, h3, h4, h5.after hb⟩
theorem own_lt {w : World} {base n : Nat} {e : TypeId} {k : Nat} {v : Value} {xs : List Value} (h : w.ownsRow base e k v n xs) {i : Nat} (hi : some i = v.ownBlock ∨ v.ownBlock = some i) : base ≤ i := by
  rcases hi with hi | hi
  · exact (h.lt i hi.symm).1
  · exact (h.lt i hi).1

set_option maxHeartbeats 4000000 in
set_option maxRecDepth 100000 in
theorem fnFieldsApart_walk (A1 : Option Addr) (n1 c1 : Nat) (z1 : List Int) (A2 : Option Addr) (n2 c2 : Nat) (z2 : List Int) (w : World) (ht : Tab w) (h1 : U8s w A1 n1 c1 z1) (h2 : U8s w A2 n2 c2 z2) :
    Calls Tryd.prog 12 #[.slice A1 n1 c1, .slice A2 n2 c2] w fun r w' => r = .returned (.bool true) ∧ Below w.heap.size w w' := by
  have m1 : n1 ≤ maxLen := Nat.le_trans h1.1 h1.2.1
  have m2 : n2 ≤ maxLen := Nat.le_trans h2.1 h2.2.1
  have H1 := hide h1
  have H2 := hide h2
  have HT := hide ht
  clear h1 h2 ht
  unfold maxLen at m1 m2
  by_cases g1 : (1048576 : Int) < (n1 : Int)
  · have j1 : decide ((1048576 : Int) < (n1 : Int)) = true := decide_eq_true g1
    go_enter Tryd.func12, Tryd.ntmps12
    go_wp2_with fail
    go_ret
    exact ⟨rfl, Below.refl _ _⟩
  · have j1 : decide ((1048576 : Int) < (n1 : Int)) = false := decide_eq_false g1
    by_cases g2 : (1048576 : Int) < (n2 : Int)
    · have j2 : decide ((1048576 : Int) < (n2 : Int)) = true := decide_eq_true g2
      go_enter Tryd.func12, Tryd.ntmps12
      go_wp2_with fail
      go_ret
      exact ⟨rfl, Below.refl _ _⟩
    · have j2 : decide ((1048576 : Int) < (n2 : Int)) = false := decide_eq_false g2
      go_enter Tryd.func12, Tryd.ntmps12
      go_wp2_with fail
      refine (drawFieldsPut_any _ _ _ _ _ H1.out).mono ?_; rintro r w1 ⟨v1, za, rfl, _, ho1, hla, hza, hb1⟩
      obtain ⟨Aa, ca, rfl⟩ := own_shape ho1
      have Ra := hide (own_rds ho1)
      have HB := hide hb1
      have HZA : Hid (∀ z ∈ za, z.size ≤ 1048576) := hide (fun z hz => Nat.le_trans (hza z hz) (by decide))
      clear ho1 hb1 hza
      go_wp2_with fail
      refine (drawFieldsPut_any _ _ _ _ _ (U8s.after' H2.out HB.out)).mono ?_; rintro r w2 ⟨v2, zb, rfl, _, ho2, hlb, hzb, hb2⟩
      obtain ⟨Ab, cb, rfl⟩ := own_shape ho2
      have Rb := hide (own_rds ho2)
      have Ra := hide (Ra.out.after hb2)
      have HB := hide (HB.out.trans (hb2.mono HB.out.size))
      have HZB : Hid (∀ z ∈ zb, z.size ≤ 1048576) := hide (fun z hz => Nat.le_trans (hzb z hz) (by decide))
      clear ho2 hb2 hzb
      have HIA := hide (fun w ht h => implFieldsPut_any Aa za.length ca za w ht h (by omega) HZA.out)
      have HIB := hide (fun w ht h => implFieldsPut_any Ab zb.length cb zb w ht h (by omega) HZB.out)
      have HSA := hide (fun w h => specFieldsPut_any Aa za.length ca za w h (by omega) HZA.out)
      have HJ := hide (put_inj (a := za) (b := zb))
      obtain ⟨X, hX⟩ : ∃ T, putT za = T := ⟨_, rfl⟩
      obtain ⟨p, hp⟩ : ∃ v, putB za = v := ⟨_, rfl⟩
      obtain ⟨Y, hY⟩ : ∃ T, putT zb = T := ⟨_, rfl⟩
      obtain ⟨q, hq⟩ : ∃ v, putB zb = v := ⟨_, rfl⟩
      rw [hX, hp] at HIA HSA
      rw [hY, hq] at HIB
      rw [hX, hp, hY, hq] at HJ
      have nm : Hid (za.length ≤ maxLen) := hide (by unfold maxLen; omega)
      have hss := beqT_eq (rfl : X = X)
      clear hX hp hY hq
      go_wp2_with fail
      refine (HIA.out _ (HT.out.after HB.out) Ra.out).mono ?_; rintro r w3 ⟨rfl, hb3⟩
      have Ra := hide (Ra.out.after hb3)
      have Rb := hide (Rb.out.after hb3)
      have HB := hide (HB.out.trans (hb3.mono HB.out.size))
      clear hb3
      go_wp2_with fail
      refine (HIB.out _ (HT.out.after HB.out) Rb.out).mono ?_; rintro r w4 ⟨rfl, hb4⟩
      have Ra := hide (Ra.out.after hb4)
      have Rb := hide (Rb.out.after hb4)
      have HB := hide (HB.out.trans (hb4.mono HB.out.size))
      clear hb4
      go_wp2_with fail
      refine (HSA.out _ Ra.out).mono ?_; rintro r w5 ⟨rfl, hb5⟩
      have Ra := hide (Ra.out.after hb5)
      have Rb := hide (Rb.out.after hb5)
      have HB := hide (HB.out.trans (hb5.mono HB.out.size))
      clear hb5
      cases p
      · go_wp2_with fail
        go_ret
        exact ⟨rfl, HB.out⟩
      · cases q
        · go_wp2_with fail
          go_ret
          exact ⟨rfl, HB.out⟩
        · have hj := HJ.out rfl rfl
          by_cases e : za = zb
          · have hxy := beqT_eq (hj.2 e)
            have HQ := hide (show eqT za zb = true by unfold eqT; exact decide_eq_true e)
            clear hj e
            go_wp2_with fail
            refine (pfTexts_v HQ.out _ Ra.out Rb.out nm.out).mono ?_; rintro r w6 ⟨rfl, hb6⟩
            have HB := hide (HB.out.trans (hb6.mono HB.out.size))
            clear hb6
            go_wp2_with fail
            go_ret
            exact ⟨rfl, HB.out⟩
          · have hxy := beqT_ne (fun h => e (hj.1 h))
            have HQ := hide (show eqT za zb = false by unfold eqT; exact decide_eq_false e)
            clear hj e
            go_wp2_with fail
            refine (pfTexts_v HQ.out _ Ra.out Rb.out nm.out).mono ?_; rintro r w6 ⟨rfl, hb6⟩
            have HB := hide (HB.out.trans (hb6.mono HB.out.size))
            clear hb6
            go_wp2_with fail
            go_ret
            exact ⟨rfl, HB.out⟩
end Go.Proofs.YtnagmagjdglmoaaDoor
