/- The law FnFieldsJoin, walked. -/
import Derived.Test.YtnagmagjdglmoaaDoorFieldsSeen2
namespace Go.Proofs.YtnagmagjdglmoaaDoor
open Go.RowKit
set_option linter.unusedVariables false


set_option maxHeartbeats 4000000 in
set_option maxRecDepth 100000 in
theorem fnFieldsJoin_walk (A1 : Option Addr) (n1 c1 : Nat) (z1 : List Int) (A2 : Option Addr) (n2 c2 : Nat) (z2 : List Int) (w : World) (ht : Tab w) (h1 : U8s w A1 n1 c1 z1) (h2 : U8s w A2 n2 c2 z2) :
    Calls Tryd.prog 11 #[.slice A1 n1 c1, .slice A2 n2 c2] w fun r w' => r = .returned (.bool true) ∧ Below w.heap.size w w' := by
  obtain ⟨i0, hi, hz0, hz1, hz2⟩ := info_parts info_str
  have m1 : n1 ≤ maxLen := Nat.le_trans h1.1 h1.2.1
  have m2 : n2 ≤ maxLen := Nat.le_trans h2.1 h2.2.1
  have H1 := hide h1
  have H2 := hide h2
  have HT := hide ht
  clear h1 h2 ht
  unfold maxLen at m1 m2
  by_cases g1 : (1048576 : Int) < (n1 : Int)
  · have j1 : decide ((1048576 : Int) < (n1 : Int)) = true := decide_eq_true g1
    go_enter Tryd.func11, Tryd.ntmps11
    go_wp2_with fail
    go_ret
    exact ⟨rfl, Below.refl _ _⟩
  · have j1 : decide ((1048576 : Int) < (n1 : Int)) = false := decide_eq_false g1
    by_cases g2 : (1048576 : Int) < (n2 : Int)
    · have j2 : decide ((1048576 : Int) < (n2 : Int)) = true := decide_eq_true g2
      go_enter Tryd.func11, Tryd.ntmps11
      go_wp2_with fail
      go_ret
      exact ⟨rfl, Below.refl _ _⟩
    · have j2 : decide ((1048576 : Int) < (n2 : Int)) = false := decide_eq_false g2
      go_enter Tryd.func11, Tryd.ntmps11
      go_wp2_with fail
      refine (drawFieldsPut_any _ _ _ _ _ H1.out).mono ?_; rintro r w1 ⟨v1, za, rfl, hn1, ho1, hla, hza, hb1⟩
      obtain ⟨ga, ca, rfl⟩ := own_some ho1 hn1
      have Ra := hide (own_rds ho1)
      have HB := hide hb1
      have HZA : Hid (∀ z ∈ za, z.size ≤ 1048576) := hide (fun z hz => Nat.le_trans (hza z hz) (by decide))
      clear ho1 hb1 hza hn1
      go_wp2_with fail
      refine (drawFieldsPut_any _ _ _ _ _ (U8s.after' H2.out HB.out)).mono ?_; rintro r w2 ⟨v2, zb, rfl, hn2, ho2, hlb, hzb, hb2⟩
      obtain ⟨gb, cb, rfl⟩ := own_some ho2 hn2
      have Rb := hide (own_rds ho2)
      have Ra := hide (Ra.out.after hb2)
      have HB := hide (HB.out.trans (hb2.mono HB.out.size))
      have HZB : Hid (∀ z ∈ zb, z.size ≤ 1048576) := hide (fun z hz => Nat.le_trans (hzb z hz) (by decide))
      clear ho2 hb2 hzb hn2
      have HZC := hide (mem_cat HZA.out HZB.out)
      have HLC := hide (show (za ++ zb).length ≤ 1048576 by rw [List.length_append]; omega)
      have HIA := hide (fun w ht h => implFieldsPut_any (some ⟨ga, 0, none⟩) za.length ca za w ht h (by omega) HZA.out)
      have HIB := hide (fun w ht h => implFieldsPut_any (some ⟨gb, 0, none⟩) zb.length cb zb w ht h (by omega) HZB.out)
      have HIC := hide (fun A c w ht h => implFieldsPut_any A (za ++ zb).length c (za ++ zb) w ht h HLC.out HZC.out)
      have HSC := hide (fun A c w h => specFieldsPut_any A (za ++ zb).length c (za ++ zb) w h HLC.out HZC.out)
      have HJ := hide (put_join (a := za) (b := zb))
      obtain ⟨X, hX⟩ : ∃ T, putT za = T := ⟨_, rfl⟩
      obtain ⟨p, hp⟩ : ∃ v, putB za = v := ⟨_, rfl⟩
      obtain ⟨Y, hY⟩ : ∃ T, putT zb = T := ⟨_, rfl⟩
      obtain ⟨q, hq⟩ : ∃ v, putB zb = v := ⟨_, rfl⟩
      obtain ⟨Z, hZ⟩ : ∃ T, putT (za ++ zb) = T := ⟨_, rfl⟩
      obtain ⟨v, hv⟩ : ∃ v, putB (za ++ zb) = v := ⟨_, rfl⟩
      rw [hX, hp] at HIA
      rw [hY, hq] at HIB
      rw [hZ, hv] at HIC HSC
      rw [hX, hp, hY, hq, hZ, hv] at HJ
      have hss := beqT_eq (rfl : Z = Z)
      clear hX hp hY hq hZ hv
      go_wp2_with fail
      refine (HIA.out _ (HT.out.after HB.out) Ra.out).mono ?_; rintro r w3 ⟨rfl, hb3⟩
      have Ra := hide (Ra.out.after hb3)
      have Rb := hide (Rb.out.after hb3)
      have HB := hide (HB.out.trans (hb3.mono HB.out.size))
      clear hb3
      go_wp2_with fail
      refine (HIB.out _ (HT.out.after HB.out) Rb.out).mono ?_; rintro r w4 ⟨rfl, hb4⟩
      have Ra := hide (Ra.out.after hb4)
      have Rb := hide (Rb.out.after hb4)
      have HB := hide (HB.out.trans (hb4.mono HB.out.size))
      clear hb4
      go_wp2_with (at_builtin; first | (refine wpList_append_own _ (by rfl) _ _ 31 (by rfl) w4.heap.size 9 i0 (.string ⟨#[]⟩) 1 16 Tryd.underlying31 hi hz0 hz1 hz2 rfl (by decide) _ 0 [] (by rfl) (owns_lit w4 w4.heap.size (Nat.le_refl _)) ⟨ga, 0, none⟩ za.length ca (za.map Value.string) (by rfl) (by simp) (rd_news (Ra.out.after (bel1 w4 (.cells #[] 9)))) (fun u hu => by obtain ⟨s, _, rfl⟩ := List.mem_map.1 hu; rfl) (by unfold maxLen; omega) (by omega) (by simp) ?_; intro v5 w5 hown' hgrow _; have HC5 := hide (bel_grown (bel1 w4 (.cells #[] 9)) (owns_lit w4 w4.heap.size (Nat.le_refl _)) hgrow); have HO5 := hide (show w5.ownsRow w4.heap.size 9 1 v5 za.length (za.map Value.string) by simpa using hown'); have Rb5 := hide (Rb.out.after HC5.out); clear hown' hgrow) | (refine wpList_append_own _ (by rfl) _ _ 31 (by rfl) w4.heap.size 9 i0 (.string ⟨#[]⟩) 1 16 Tryd.underlying31 hi hz0 hz1 hz2 rfl (by decide) _ za.length (za.map Value.string) (by rfl) HO5.out ⟨gb, 0, none⟩ zb.length cb (zb.map Value.string) (by rfl) (by simp) (rd_news Rb5.out) (fun u hu => by obtain ⟨s, _, rfl⟩ := List.mem_map.1 hu; rfl) (by unfold maxLen; omega) (by omega) HC5.out.size ?_; intro v6 w6 hown' hgrow _; have HC6 := hide (bel_grown HC5.out HO5.out hgrow); have HO6 := hide (own_cat hown'); clear hown' hgrow))
      obtain ⟨Av6, cv6, hv6⟩ := own_shape HO6.out
      subst hv6
      have R6 := hide (own_rds HO6.out)
      have Ra := hide (Ra.out.after HC6.out)
      have Rb := hide (Rb.out.after HC6.out)
      have HB := hide (HB.out.trans (HC6.out.mono HB.out.size))
      clear HC5 HO5 Rb5 HC6 HO6
      refine (HIC.out _ _ _ (HT.out.after HB.out) R6.out).mono ?_; rintro r w7 ⟨rfl, hb7⟩
      have Ra := hide (Ra.out.after hb7)
      have Rb := hide (Rb.out.after hb7)
      have HB := hide (HB.out.trans (hb7.mono HB.out.size))
      clear hb7 R6
      go_wp2_with (at_builtin; first | (refine wpList_append_own _ (by rfl) _ _ 31 (by rfl) w7.heap.size 9 i0 (.string ⟨#[]⟩) 1 16 Tryd.underlying31 hi hz0 hz1 hz2 rfl (by decide) _ 0 [] (by rfl) (owns_lit w7 w7.heap.size (Nat.le_refl _)) ⟨ga, 0, none⟩ za.length ca (za.map Value.string) (by rfl) (by simp) (rd_news (Ra.out.after (bel1 w7 (.cells #[] 9)))) (fun u hu => by obtain ⟨s, _, rfl⟩ := List.mem_map.1 hu; rfl) (by unfold maxLen; omega) (by omega) (by simp) ?_; intro v8 w8 hown' hgrow _; have HC5 := hide (bel_grown (bel1 w7 (.cells #[] 9)) (owns_lit w7 w7.heap.size (Nat.le_refl _)) hgrow); have HO5 := hide (show w8.ownsRow w7.heap.size 9 1 v8 za.length (za.map Value.string) by simpa using hown'); have Rb5 := hide (Rb.out.after HC5.out); clear hown' hgrow) | (refine wpList_append_own _ (by rfl) _ _ 31 (by rfl) w7.heap.size 9 i0 (.string ⟨#[]⟩) 1 16 Tryd.underlying31 hi hz0 hz1 hz2 rfl (by decide) _ za.length (za.map Value.string) (by rfl) HO5.out ⟨gb, 0, none⟩ zb.length cb (zb.map Value.string) (by rfl) (by simp) (rd_news Rb5.out) (fun u hu => by obtain ⟨s, _, rfl⟩ := List.mem_map.1 hu; rfl) (by unfold maxLen; omega) (by omega) HC5.out.size ?_; intro v9 w9 hown' hgrow _; have HC6 := hide (bel_grown HC5.out HO5.out hgrow); have HO6 := hide (own_cat hown'); clear hown' hgrow))
      obtain ⟨Av9, cv9, hv9⟩ := own_shape HO6.out
      subst hv9
      have R6 := hide (own_rds HO6.out)
      have Ra := hide (Ra.out.after HC6.out)
      have Rb := hide (Rb.out.after HC6.out)
      have HB := hide (HB.out.trans (HC6.out.mono HB.out.size))
      clear HC5 HO5 Rb5 HC6 HO6
      refine (HSC.out _ _ _ R6.out).mono ?_; rintro r wz ⟨rfl, hbz⟩
      have HB := hide (HB.out.trans (hbz.mono HB.out.size))
      clear hbz R6
      cases v
      · go_wp2_with fail
        go_ret
        exact ⟨rfl, HB.out⟩
      · obtain ⟨rfl, rfl, e, l1, l2⟩ := HJ.out rfl
        have hxy : (Z.toList == (X ++ Y).toList) = true := beqT_eq e
        have hsum : ¬ 9223372036854775807 < X.size + Y.size := by omega
        clear e
        go_wp2_with fail
        go_ret
        exact ⟨rfl, HB.out⟩
end Go.Proofs.YtnagmagjdglmoaaDoor
