/- The laws FnDiskNew and FnDiskRead, walked. -/
import Derived.Test.YtadeifimhoaanaaDiskSeen
import Derived.Test.YtadeifimhoaanaaDiskRead
namespace Go.Proofs.Ytadeifimhoaanaa
open Go.RowKit
set_option linter.unusedVariables false

theorem ok64 : diskOk (List.replicate 64 (ByteArray.mk #[])) [] false = true := ok_yes (by simp) (by simp) (by simp [cellB]; show 0 ≤ 200; omega) rfl rfl
theorem readOk64 {k : Int} (h : inR k 0 63 = true) : readOk (List.replicate 64 (ByteArray.mk #[])) [] false k = true := by unfold readOk; rw [ok64, h]; rfl
theorem readS64 {k : Int} (h : inR k 0 63 = true) : readS (List.replicate 64 (ByteArray.mk #[])) [] false k = ⟨#[]⟩ := by
  unfold readS
  rw [if_pos (readOk64 h)]
  show (List.replicate 64 (ByteArray.mk #[])).getD k.toNat ⟨#[]⟩ = _
  rw [List.getD_eq_getElem?_getD, List.getElem?_replicate]
  split <;> rfl
theorem look_cons (z : Int × ByteArray) (zs : List (Int × ByteArray)) (k : Int) (d : ByteArray) : lookT (z :: zs) k d = lookT zs k (if z.1 = k then z.2 else d) := by
  unfold lookT
  rw [List.reverse_cons, List.find?_append]
  cases zs.reverse.find? (fun z => z.1 == k) with
  | some y => rfl
  | none =>
    by_cases h : z.1 = k
    · simp [h]
    · simp [h]
/-- what is read is what is there when all has been written -/
theorem settle_look {k : Nat} : ∀ (zs : List (Int × ByteArray)) (i : Nat) (cs : List ByteArray) (d : ByteArray), (∀ z ∈ zs, 0 ≤ z.1) → cs[k]? = some d → (settleT (fun _ z _ => z.2) i zs cs)[k]? = some (lookT zs k d) := by
  intro zs
  induction zs with
  | nil => intro i cs d _ h; exact h
  | cons z zs ih =>
    intro i cs d h0 h
    have hz := h0 z (List.mem_cons_self ..)
    rw [settleT, look_cons]
    refine ih (i + 1) _ _ (fun y hy => h0 y (List.mem_cons_of_mem _ hy)) ?_
    have hl := (List.getElem?_eq_some_iff.1 h).1
    rw [List.getElem?_set]
    by_cases e : z.1 = (k : Int)
    · rw [if_pos (by omega), if_pos (by omega), if_pos e]
    · rw [if_neg (by omega), if_neg e]
      exact h
theorem flush_read {z1 R : List ByteArray} {z2 : List (Int × ByteArray)} {k : Nat} (h : readOk z1 z2 false k = true) (hR : settleT (fun _ z _ => z.2) 0 z2 z1 = R) : R[k]? = some (readS z1 z2 false k) := by
  have h0 := h
  unfold readOk at h
  simp only [Bool.and_eq_true, inR, decide_eq_true_eq] at h
  obtain ⟨h1, _, _, h5, h6⟩ := diskOk_parts h.1.1
  rw [List.all_eq_true] at h6
  have hl : k < z1.length := by have := h.2.2; omega
  unfold readS
  rw [if_pos h0, ← hR]
  refine settle_look z2 0 z1 _ (fun z hz => ?_) ?_
  · have h7 := h6 z hz
    unfold waitB at h7
    simp only [inR, Bool.and_eq_true, decide_eq_true_eq] at h7
    omega
  · show z1[k]? = some (z1.getD k ⟨#[]⟩)
    rw [List.getD_eq_getElem?_getD, List.getElem?_eq_getElem hl]
    rfl
theorem readOk_parts {z1 : List ByteArray} {z2 : List (Int × ByteArray)} {g : Bool} {k : Int} (h : readOk z1 z2 g k = true) : diskOk z1 z2 g = true ∧ g = false ∧ 0 ≤ k ∧ k ≤ 63 := by
  unfold readOk at h
  simp only [Bool.and_eq_true, inR, decide_eq_true_eq, Bool.not_eq_true'] at h
  exact ⟨h.1.1, h.1.2, h.2.1, h.2.2⟩

set_option maxHeartbeats 2000000 in
theorem fnDiskNew_walk (A1 : Option Addr) (n1 c1 : Nat) (z1 : List Int) (w : World) (h1 : U8s w A1 n1 c1 z1) :
    Calls Try.prog 9 #[.slice A1 n1 c1] w fun r w' => r = .returned (.bool true) ∧ Below w.heap.size w w' := by
  have m1 : n1 ≤ maxLen := Nat.le_trans h1.1 h1.2.1
  unfold maxLen at m1
  clear h1
  by_cases g1 : (1048576 : Int) < (n1 : Int)
  · go_enter Try.func9, Try.ntmps9
    go_wp2_with fail
    go_ret
    exact ⟨rfl, Below.refl _ _⟩
  · obtain ⟨k, hk⟩ : ∃ k : Int, (n1 : Int) % 64 = k := ⟨_, rfl⟩
    have HK := hide (show inR k 0 63 = true by simp only [inR, Bool.and_eq_true, decide_eq_true_eq]; omega)
    have HR := hide (readOk64 HK.out)
    have HS := hide (readS64 HK.out)
    go_enter Try.func9, Try.ntmps9
    go_wp2_with fail
    refine (implDiskNew_any _).mono ?_; rintro r w1 ⟨g1, B, rfl, hg, hB, hb⟩
    have K := hide (Bk.fresh w1 25 #[.slice (some ⟨g1, 0, none⟩) 64 64, .slice B 0 0, .bool false])
    have HB := hide (hb.alloc hb.size (.cells #[.slice (some ⟨g1, 0, none⟩) 64 64, .slice B 0 0, .bool false] 25))
    have R1 := hide (hB.alloc (.cells #[.slice (some ⟨g1, 0, none⟩) 64 64, .slice B 0 0, .bool false] 25))
    clear hg hB hb
    go_wp2_with fail
    refine (specDiskNew_any _).mono ?_; rintro r w2 ⟨g2, B2, rfl, hg, hB, hb⟩
    have K2 := hide (Bk.fresh w2 25 #[.slice (some ⟨g2, 0, none⟩) 64 64, .slice B2 0 0, .bool false])
    have K := hide ((K.out.after hb).alloc (.cells #[.slice (some ⟨g2, 0, none⟩) 64 64, .slice B2 0 0, .bool false] 25))
    have R1 := hide ((R1.out.after hb).alloc (.cells #[.slice (some ⟨g2, 0, none⟩) 64 64, .slice B2 0 0, .bool false] 25))
    have R2 := hide (hB.alloc (.cells #[.slice (some ⟨g2, 0, none⟩) 64 64, .slice B2 0 0, .bool false] 25))
    have HB := hide ((HB.out.trans (hb.mono HB.out.size)).alloc (Nat.le_trans HB.out.size hb.size) (.cells #[.slice (some ⟨g2, 0, none⟩) 64 64, .slice B2 0 0, .bool false] 25))
    clear hg hB hb
    obtain ⟨q0, q1, q2⟩ := K.out.c3
    obtain ⟨p0, p1, p2⟩ := K2.out.c3
    go_wp2_with fail
    refine (pfDisk_0 (some ⟨g1, 0, none⟩) B (some ⟨g2, 0, none⟩) B2 64 64 64 0 0 _ false _ (es64_rd R1.out) (es64_rd R2.out) (by decide)).mono ?_; rintro r w3 ⟨rfl, hb⟩
    have K := hide (K.out.after hb)
    have R1 := hide (R1.out.after hb)
    have HB := hide (HB.out.trans (hb.mono HB.out.size))
    clear hb q0 q1 q2 p0 p1 p2 R2 K2
    obtain ⟨q0, q1, q2⟩ := K.out.c3
    go_wp2_with fail
    refine (implRead_any (some ⟨g1, 0, none⟩) B 64 0 64 0 k _ [] false true ⟨#[]⟩ _ (es64_rd R1.out) (rd_none _ B 2) (by decide) (by decide) HR.out HS.out).mono ?_; rintro r w4 ⟨rfl, hb⟩
    have K := hide (K.out.after hb)
    have R1 := hide (R1.out.after hb)
    have HB := hide (HB.out.trans (hb.mono HB.out.size))
    clear hb q0 q1 q2
    obtain ⟨q0, q1, q2⟩ := K.out.c3
    go_wp2_with fail
    refine (implDiskOk_v ok64 _ (es64_rd R1.out) (rd_none _ B 2) (by decide) (by decide)).mono ?_; rintro r w5 ⟨rfl, hb⟩
    go_wp2_with fail
    go_ret
    exact ⟨rfl, HB.out.trans (hb.mono HB.out.size)⟩

set_option maxHeartbeats 2000000 in
theorem fnDiskRead_walk (A1 : Option Addr) (n1 c1 : Nat) (z1 : List Int) (w : World) (h1 : U8s w A1 n1 c1 z1) :
    Calls Try.prog 11 #[.slice A1 n1 c1] w fun r w' => r = .returned (.bool true) ∧ Below w.heap.size w w' := by
  have m1 : n1 ≤ maxLen := Nat.le_trans h1.1 h1.2.1
  have H1 := hide h1
  clear h1
  unfold maxLen at m1
  by_cases g1 : (1048576 : Int) < (n1 : Int)
  · go_enter Try.func11, Try.ntmps11
    go_wp2_with fail
    go_ret
    exact ⟨rfl, Below.refl _ _⟩
  · go_enter Try.func11, Try.ntmps11
    go_wp2_with fail
    refine (drawDiskRead_any _ _ _ _ _ H1.out).mono ?_; rintro r w1 ⟨b1, o1, n3, c3, b2, n2, c2, g, y1, y2, a, rfl, hIn, a0, a1⟩
    have K := hide (Bk.fresh w1 25 #[.slice (some ⟨b1, o1, none⟩) n3 c3, .slice (some ⟨b2, 0, none⟩) n2 c2, .bool g])
    have HI := hide (hIn.after (bel1 w1 (.cells #[.slice (some ⟨b1, o1, none⟩) n3 c3, .slice (some ⟨b2, 0, none⟩) n2 c2, .bool g] 25)))
    clear hIn H1
    obtain ⟨q0, q1, q2⟩ := K.out.c3
    obtain ⟨v, hv⟩ : ∃ v, readOk y1 y2 g a = v := ⟨_, rfl⟩
    obtain ⟨S, hS⟩ : ∃ S, readS y1 y2 g a = S := ⟨_, rfl⟩
    have HV := hide hv
    have HS := hide hS
    have hss := beqT_eq (rfl : S = S)
    clear hv hS
    cases v
    all_goals
      go_wp2_with fail
      refine (implRead_any _ _ n3 n2 c3 c2 a y1 y2 g _ S _ HI.out.r1 HI.out.r2 HI.out.m1 HI.out.m2 HV.out HS.out).mono ?_; rintro r w2 ⟨rfl, hb⟩
      have K := hide (K.out.after hb)
      have HI := hide (HI.out.after hb)
      clear hb q0 q1 q2
      obtain ⟨q0, q1, q2⟩ := K.out.c3
      go_wp2_with fail
      refine (specRead_any _ _ n3 n2 c3 c2 a y1 y2 g _ S _ HI.out.r1 HI.out.r2 HI.out.m1 HI.out.m2 HV.out HS.out).mono ?_; rintro r w3 ⟨rfl, hb⟩
      have K := hide (K.out.after hb)
      have HI := hide (HI.out.after hb)
      clear hb q0 q1 q2
      obtain ⟨q0, q1, q2⟩ := K.out.c3
    · go_wp2_with fail
      go_ret
      exact ⟨rfl, HI.out.be⟩
    · obtain ⟨hok, hg, ha0, ha1⟩ := readOk_parts HV.out
      subst hg
      obtain ⟨k, rfl⟩ : ∃ j : Nat, a = (j : Int) := ⟨a.toNat, by omega⟩
      obtain ⟨R, hR⟩ : ∃ R, settleT (fun _ z _ => z.2) 0 y2 y1 = R := ⟨_, rfl⟩
      have HRK := hide (show R[k]? = some S by rw [← HS.out]; exact flush_read HV.out hR)
      have HL := hide (show R.length = 64 by rw [← hR, settle_len]; exact (diskOk_parts hok).1)
      have HOK := hide hok
      have HR := hide hR
      have k0 : (0 : Int) ≤ (k : Int) := by omega
      have k1 : (k : Int) < 64 := by omega
      clear hR hok a0 a1 ha0 ha1
      go_wp2_with fail
      refine (implFlush_yes b1 o1 n3 c3 b2 0 n2 c2 y1 R y2 false _ HI.out.r1 HI.out.r2 HI.out.m2 HI.out.l1 HI.out.l2 HOK.out HR.out).mono ?_; rintro r w4 ⟨g1, ca, B, rfl, hg1, hrow, hb⟩
      have HI := hide (HI.out.after hb)
      obtain ⟨b, o, z, e1, _, hz, hc⟩ := (row_rd64 hrow HL.out).str_at (show k < 64 by omega)
      injection e1 with e1
      injection e1 with e1 e2
      subst e1 e2
      have hzS : z = S := by
        have h := HRK.out
        rw [hz] at h
        injection h
      subst hzS
      rw [Nat.zero_add] at hc
      clear hb q0 q1 q2 hrow hg1 hz
      have hfd : ∀ w : World, (Instr.field 25 (.agg #[.slice (some ⟨g1, 0, none⟩) 64 ca, .slice B 0 0, .bool false]) 0).run Try.prog w = .ok (.slice (some ⟨g1, 0, none⟩) 64 ca) w := fun _ => rfl
      go_wp2_with fail
      go_ret
      exact ⟨rfl, HI.out.be⟩
end Go.Proofs.Ytadeifimhoaanaa
