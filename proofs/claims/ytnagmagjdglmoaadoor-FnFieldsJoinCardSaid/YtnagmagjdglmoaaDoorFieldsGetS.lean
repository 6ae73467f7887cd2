/- spec's FieldsGet. -/
import Derived.Test.YtnagmagjdglmoaaDoorFieldsGet
namespace Go.Proofs.YtnagmagjdglmoaaDoor
open Go.RowKit
set_option linter.unusedVariables false

theorem ext_mid (s : ByteArray) (a n : Nat) : s.extract a (a + n) = ⟨((s.data.toList.drop a).take n).toArray⟩ := by
  apply ByteArray.ext
  apply Array.toList_inj.1
  rw [ByteArray.data_extract, Array.toList_extract, List.extract_eq_take_drop]
  simp
theorem rec_count (zs : List ByteArray) : zs.length ≤ (recOf zs).length := by
  induction zs with
  | nil => simp
  | cons z zs ih =>
    rw [recOf_cons, List.length_append, List.length_cons]
    have := fld_len z
    omega
theorem rec_each {zs : List ByteArray} {z : ByteArray} (h : z ∈ zs) : z.size ≤ (recOf zs).length := by
  induction zs with
  | nil => cases h
  | cons y zs ih =>
    rw [recOf_cons, List.length_append]
    rcases List.mem_cons.1 h with rfl | h
    · have := fld_len z; omega
    · have := ih h; omega
theorem Got.count {l : List UInt8} {zs : List ByteArray} {r : List UInt8} (h : Got l zs r) : zs.length ≤ 2048 ∧ ∀ z ∈ zs, z.size ≤ 1048576 := by
  have h1 := congrArg List.length h.2
  rw [List.length_append] at h1
  have h2 := h.1
  have h3 := rec_count zs
  refine ⟨by omega, fun z hz => ?_⟩
  have := rec_each hz
  omega
theorem own_rds {w : World} {base n : Nat} {A : Option Addr} {c : Nat} {xs : List Value} (h : w.ownsRow base 9 1 (.slice A n c) n xs) : Rd w 1 A n xs := by
  obtain ⟨h1, h2⟩ := h
  rcases h2 with ⟨e, rfl⟩ | ⟨g, cap, cur, e, hb, hg, hnc, _, hsz, htk⟩
  · exact ⟨by rw [h1], fun hn => absurd hn (by omega)⟩
  · injection e with e1 e2 e3
    subst e1
    refine ⟨h1, fun hn => ⟨g, 0, rfl, (Array.getElem?_eq_some_iff.1 hg).1, fun j u hj => ?_⟩⟩
    have hc : w.cell? ⟨g, 0 + j, none⟩ = cur[j]? := by simp [World.cell?, hg]
    rw [hc]
    rw [← htk] at hj
    have hjn : j < n * 1 := by
      rcases Nat.lt_or_ge j (n * 1) with h | h
      · exact h
      · rw [List.getElem?_eq_none (by rw [List.length_take]; omega)] at hj; cases hj
    rw [List.getElem?_take_of_lt hjn] at hj
    simpa using hj
theorem owns_lit (w : World) (base : Nat) (h : base ≤ w.heap.size) : (w.alloc (.cells #[] 9)).ownsRow base 9 1 (.slice (some ⟨w.heap.size, 0, none⟩) 0 0) 0 [] :=
  World.ownsRow_lit (base := base) (e := 9) (size := 1) w #[] 0 h (by simp [maxLen]) rfl
theorem at_drop {s : ByteArray} {k j : Nat} (h : k + j < s.size) : (s.data.toList.drop k)[j]? = some s[k + j] := by
  rw [List.getElem?_drop]; exact byte_at s (k + j) h
theorem u8_58 {c : UInt8} : ((c.toNat : Int) == 58) = decide (c = 58) := by
  by_cases h : c = 58
  · subst h; rfl
  · rw [decide_eq_false h, beq_eq_false_iff_ne]
    intro e
    exact h (UInt8.toNat_inj.1 (by have : c.toNat = 58 := by omega
                                   rw [this]; rfl))

set_option maxHeartbeats 8000000 in
set_option maxRecDepth 100000 in
theorem specFieldsGet_any (s : ByteArray) (w : World) (hs : s.size ≤ 1048576) :
    Calls Tryd.prog 24 #[.string s] w (GetR s.data.toList w) := by
  obtain ⟨i0, hi, hz0, hz1, hz2⟩ := info_parts info_str
  have HSL := hide (show s.data.toList.length = s.size by simp)
  have HO0 := hide (owns_lit w w.heap.size (Nat.le_refl _))
  have HB0 := hide (bel1 w (.cells #[] 9))
  by_cases hbig : 2048 < s.size
  · have HN := hide (show ¬ GetP s.data.toList from fun h => by have := h.1; rw [HSL.out] at this; omega)
    have HSP := hide (fun n c => specFieldsPut_any (some ⟨w.heap.size, 0, none⟩) 0 c [] n)
    rw [show putT [] = ⟨#[]⟩ from (put_yes (zs := []) (by simp) (by simp [recOf])).1, show putB [] = true from (put_yes (zs := []) (by simp) (by simp [recOf])).2] at HSP
    have hne : ((⟨#[]⟩ : ByteArray).toList == s.toList) = false := beqT_ne (fun e => by rw [← e] at hbig; exact absurd hbig (by decide))
    have hne2 : (([] : List UInt8) == s.toList) = false := by rw [← hne, ByteArray.toList_eq, ByteArray.toList_eq]
    have j1 : decide ((s.size : Int) ≤ 2048) = false := decide_eq_false (by omega)
    have j2 : decide ((0 : Int) < (s.size : Int)) = true := decide_eq_true (by omega)
    go_enter Tryd.func24, Tryd.ntmps24
    go_wp2_with fail
    go_loopw [4, 5] (fun v x wr => v = .slice (some ⟨w.heap.size, 0, none⟩) 0 0 ∧ x = .int .i64 0 ∧ (w.alloc (.cells #[] 9)) = wr) (fun _ _ _ => 0)
    case atStart => exact ⟨rfl, rfl, rfl⟩
    case round =>
      obtain ⟨rfl, rfl, rfl⟩ := hrel
      go_wp2_with fail
      refine (HSP.out _ 0 ⟨rfl, fun h => absurd h (by omega)⟩ (by omega) (fun z hz => by cases hz)).mono ?_; rintro r x1 ⟨rfl, hb1⟩
      have HB1 := hide (HB0.out.trans (hb1.mono HB0.out.size))
      have HO1 := hide (owns_lit x1 w.heap.size HB1.out.size)
      have HB2 := hide (HB1.out.alloc HB1.out.size (.cells #[] 9))
      clear hb1
      go_wp2_with fail
      go_ret2
      exact GetR.no HN.out HO1.out HB2.out
  · have j1 : decide ((s.size : Int) ≤ 2048) = true := decide_eq_true (by omega)
    go_enter Tryd.func24, Tryd.ntmps24
    go_wp2_with fail
    go_loopw [4, 5] (fun v x wr => ∃ (zs : List ByteArray) (k : Nat), k ≤ s.size ∧ Hid (Got s.data.toList zs (s.data.toList.drop k)) ∧ Hid (wr.ownsRow w.heap.size 9 1 v zs.length (zs.map Value.string)) ∧ Hid (Below w.heap.size w wr) ∧ x = .int .i64 k) (fun _ x _ => s.size - (intOf x).toNat)
    case atStart => exact ⟨[], 0, by omega, hide ⟨by rw [HSL.out]; omega, by simp [recOf]⟩, HO0, HB0, rfl⟩
    case round =>
      obtain ⟨zs, k, hk, HG, HO, HB, rfl⟩ := hrel
      obtain ⟨A, c, rfl⟩ := own_shape HO.out
      obtain ⟨hcnt, hec⟩ := HG.out.count
      have HEC := hide hec
      clear hec
      by_cases hlt : k < s.size
      · have j2 : decide ((k : Int) < (s.size : Int)) = true := decide_eq_true (by omega)
        have HR := hide (ext_drop s k)
        have HRL := hide (show (s.data.toList.drop k).length = s.size - k by rw [List.length_drop, HSL.out])
        have HNE := hide (show s.data.toList.drop k ≠ [] from fun e => by have := HRL.out; rw [e] at this; simp at this; omega)
        obtain ⟨n, k1, e1⟩ : ∃ n k1 : Nat, l1T (s.data.toList.drop k) = (n, k1) := ⟨_, _, rfl⟩
        have hk9 : k1 ≤ 9 := by
          have h2 := congrArg Prod.snd e1
          unfold l1T at h2
          split at h2
          · simp only at h2; omega
          · simp only at h2; unfold pre9 at h2; omega
        have hn9 : n ≤ 999999999 := by
          have h2 := congrArg Prod.fst e1
          unfold l1T at h2
          split at h2
          · simp only at h2; omega
          · simp only at h2
            have hp := pre_dig (s.data.toList.drop k)
            have hd := dval_lt _ hp
            rw [h2] at hd
            have h9 : pre9 (s.data.toList.drop k) ≤ 9 := by unfold pre9; omega
            have : 10 ^ ((s.data.toList.drop k).take (pre9 (s.data.toList.drop k))).length ≤ 10 ^ 9 := Nat.pow_le_pow_right (by decide) (by rw [List.length_take]; omega)
            omega
        have HL := hide e1
        have HC := hide (fun (w : World) => show Calls Tryd.prog 35 #[.string (s.extract k s.size)] w fun r w' => r = .returned (.tuple #[.int .i64 n, .int .i64 k1]) ∧ w = w' by
          have := l1Num_any (s.extract k s.size) (by rw [ByteArray.size_extract]; omega) w
          rw [ext_drop, e1] at this
          exact this)
        clear e1
        go_wp2_with fail
        refine (HC.out _).mono ?_; rintro r x1 ⟨rfl, rfl⟩
        have HO1 := hide (owns_lit wr w.heap.size HB.out.size)
        have HB1 := hide (HB.out.alloc HB.out.size (.cells #[] 9))
        go_upto_region 5 with fail
        by_cases h0 : k1 = 0
        · have HF := hide (HG.out.specFail HNE.out HL.out (.inl h0))
          have q0 : ((k1 : Int) == 0) = true := by rw [beq_iff_eq]; omega
          clear h0
          go_wp2_with fail
          go_ret2
          exact GetR.no HF.out HO1.out HB1.out
        · have q0 : ((k1 : Int) == 0) = false := by rw [beq_eq_false_iff_ne]; omega
          have w1 : IntKind.i64.wrap ((k : Int) + (k1 : Int)) = (k : Int) + (k1 : Int) := by rw [IntKind.wrap_i64]; omega
          by_cases hin : k + k1 < s.size
          · have q1 : decide ((s.size : Int) ≤ (k : Int) + (k1 : Int)) = false := decide_eq_false (by omega)
            have jn1 : ((k : Int) + (k1 : Int)).toNat = k + k1 := by omega
            have p1 : (0 : Int) ≤ (k : Int) + (k1 : Int) := by omega
            have p5 : (k : Int) + (k1 : Int) < (s.size : Int) := by omega
            by_cases hc : s[k + k1] = 58
            · have q2 : ((s[k + k1].toNat : Int) == 58) = true := by rw [u8_58]; exact decide_eq_true hc
              have q2b : ((s[k + k1].toNat : Int) != 58) = false := by rw [bne, q2]; rfl
              have HC58 := hide (show (s.data.toList.drop k)[k1]? = some 58 by rw [at_drop hin, hc])
              have w2 : IntKind.i64.wrap ((s.size : Int) - (k : Int)) = (s.size : Int) - (k : Int) := by rw [IntKind.wrap_i64]; omega
              have w3 : IntKind.i64.wrap ((s.size : Int) - (k : Int) - (k1 : Int)) = (s.size : Int) - (k : Int) - (k1 : Int) := by rw [IntKind.wrap_i64]; omega
              have w4 : IntKind.i64.wrap ((s.size : Int) - (k : Int) - (k1 : Int) - 1) = (s.size : Int) - (k : Int) - (k1 : Int) - 1 := by rw [IntKind.wrap_i64]; omega
              clear hc
              by_cases hn : n ≤ s.size - k - k1 - 1
              · have q3 : decide ((s.size : Int) - (k : Int) - (k1 : Int) - 1 < (n : Int)) = false := decide_eq_false (by omega)
                have HX := hide (HG.out.spec HL.out h0 HC58.out (by rw [HRL.out]; exact hn))
                rw [List.drop_drop, List.drop_drop, show k + (k1 + 1) = k + k1 + 1 by omega, ← ext_mid] at HX
                clear h0
                go_upto_region 7 with fail
                have w5 : IntKind.i64.wrap ((k : Int) + (k1 : Int) + 1) = (k : Int) + (k1 : Int) + 1 := by rw [IntKind.wrap_i64]; omega
                have w6 : IntKind.i64.wrap ((k : Int) + (k1 : Int) + 1 + (n : Int)) = (k : Int) + (k1 : Int) + 1 + (n : Int) := by rw [IntKind.wrap_i64]; omega
                have jn2 : ((k : Int) + (k1 : Int) + 1).toNat = k + k1 + 1 := by omega
                have jn3 : ((k : Int) + (k1 : Int) + 1 + (n : Int)).toNat = k + k1 + 1 + n := by omega
                have p2 : (0 : Int) ≤ (k : Int) + (k1 : Int) + 1 := by omega
                have p3 : (k : Int) + (k1 : Int) + 1 ≤ (k : Int) + (k1 : Int) + 1 + (n : Int) := by omega
                have p4 : (k : Int) + (k1 : Int) + 1 + (n : Int) ≤ (s.size : Int) := by omega
                obtain ⟨z, hz⟩ : ∃ z, s.extract (k + k1 + 1) (k + k1 + 1 + n) = z := ⟨_, rfl⟩
                rw [hz] at HX
                go_wp2_with (at_builtin; refine wpList_append_own _ (by rfl) _ _ 31 (by rfl) w.heap.size 9 i0 (.string ⟨#[]⟩) 1 16 Tryd.underlying31 hi hz0 hz1 hz2 rfl (by decide) _ zs.length (zs.map Value.string) (by rfl) (HO.out.alloc (.cells #[.string z] 9)) ⟨wr.heap.size, 0, none⟩ 1 1 [.string z] (by rfl) rfl (World.news_of_block (heap_alloc_new _ _)) (fun u hu => by simp only [List.mem_singleton] at hu; subst hu; rfl) (by unfold maxLen; omega) (by omega) (by have := HB.out.size; simp; omega) ?_; intro v' w2 hown' hgrow _; have HB4 := hide (bel_grown (HB.out.alloc HB.out.size (.cells #[.string z] 9)) (HO.out.alloc (.cells #[.string z] 9)) hgrow); have HO4 := hide (own_more_s hown'); clear hown' hgrow)
                go_roundw
                case rel => exact ⟨zs ++ [z], k + k1 + 1 + n, by omega, HX, HO4, HB4, int_eq (by omega)⟩
                case measure => simp [intOf]; omega
              · have q3 : decide ((s.size : Int) - (k : Int) - (k1 : Int) - 1 < (n : Int)) = true := decide_eq_true (by omega)
                have HF := hide (HG.out.specFail HNE.out HL.out (.inr (.inr (by rw [HRL.out]; omega))))
                clear h0 hn
                go_wp2_with fail
                go_ret2
                exact GetR.no HF.out HO1.out HB1.out
            · have q2 : ((s[k + k1].toNat : Int) == 58) = false := by rw [u8_58]; exact decide_eq_false hc
              have q2b : ((s[k + k1].toNat : Int) != 58) = true := by rw [bne, q2]; rfl
              have HF := hide (HG.out.specFail HNE.out HL.out (.inr (.inl (by rw [at_drop hin]; intro e; exact hc (Option.some.inj e)))))
              clear h0 hc
              go_wp2_with fail
              go_ret2
              exact GetR.no HF.out HO1.out HB1.out
          · have q1 : decide ((s.size : Int) ≤ (k : Int) + (k1 : Int)) = true := decide_eq_true (by omega)
            have HF := hide (HG.out.specFail HNE.out HL.out (.inr (.inl (by rw [List.getElem?_eq_none (by rw [HRL.out]; omega)]; intro e; cases e))))
            clear h0
            go_wp2_with fail
            go_ret2
            exact GetR.no HF.out HO1.out HB1.out
      · have j2 : decide ((k : Int) < (s.size : Int)) = false := decide_eq_false (by omega)
        have HE := hide (show Got s.data.toList zs [] by have := HG.out; rw [List.drop_eq_nil_of_le (by rw [HSL.out]; omega)] at this; exact this)
        by_cases h60 : zs.length ≤ 60
        · have HY := hide (HE.out.done h60)
          have hT : putT zs = s := by
            rw [(put_yes h60 (by have := HE.out.2; rw [List.append_nil] at this; rw [this]; exact HE.out.1)).1]
            have := HE.out.2
            rw [List.append_nil] at this
            rw [this]
          have HSP := hide (fun w => specFieldsPut_any A zs.length c zs w)
          rw [hT, (put_yes h60 (by have := HE.out.2; rw [List.append_nil] at this; rw [this]; exact HE.out.1)).2] at HSP
          have hss := beqT_eq (rfl : s = s)
          clear hT h60
          go_wp2_with fail
          refine (HSP.out _ (own_rds HO.out) (by omega) HEC.out).mono ?_; rintro r x1 ⟨rfl, hb1⟩
          have HO1 := hide (own_bel HO.out hb1)
          have HB1 := hide (HB.out.trans (hb1.mono HB.out.size))
          clear hb1
          go_wp2_with fail
          go_ret2
          exact GetR.yes HY.out HO1.out HB1.out
        · have HN := hide (HE.out.over (by omega))
          have HSP := hide (fun w => specFieldsPut_any A zs.length c zs w)
          rw [(put_no (zs := zs) (.inl (by omega))).1, (put_no (zs := zs) (.inl (by omega))).2] at HSP
          clear h60
          go_wp2_with fail
          refine (HSP.out _ (own_rds HO.out) (by omega) HEC.out).mono ?_; rintro r x1 ⟨rfl, hb1⟩
          have HB1 := hide (HB.out.trans (hb1.mono HB.out.size))
          have HO1 := hide (owns_lit x1 w.heap.size HB1.out.size)
          have HB2 := hide (HB1.out.alloc HB1.out.size (.cells #[] 9))
          clear hb1
          go_wp2_with fail
          go_ret2
          exact GetR.no HN.out HO1.out HB2.out
end Go.Proofs.YtnagmagjdglmoaaDoor
