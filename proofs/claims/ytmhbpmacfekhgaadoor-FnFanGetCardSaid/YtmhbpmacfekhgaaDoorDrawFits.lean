/- l91Ptr draws a pointer; DrawPtrFits draws what PtrFits is asked. -/
import Derived.Test.YtmhbpmacfekhgaaDoorDrawPtr
import Derived.Deep.CutBlock
namespace Go.Proofs.YtmhbpmacfekhgaaDoor
open Go.RowKit
set_option linter.unusedVariables false

/-- a pointer is drawn -/
def PtrPost (R p d : Nat) (w : World) (r : Ending) (w' : World) : Prop := ∃ (a b c e f : Int) (q : Nat), r = .returned (.agg #[.int .i64 a, .int .i64 b, .int .i64 c, .int .i64 e, .int .i64 f]) ∧ q ≤ p + d ∧ Rdr w' R q ∧ Fr (· = R) w w'
/-- a pointer that is being drawn: block g3; block g0 is still empty -/
def PtrIn (w0 : World) (R g0 g3 qm : Nat) (w : World) : Prop := ∃ (a b c d e : Int) (q : Nat), q ≤ qm ∧ Bk w g3 25 #[.int .i64 a, .int .i64 b, .int .i64 c, .int .i64 d, .int .i64 e] ∧ Bk w g0 25 #[.int .i64 0, .int .i64 0, .int .i64 0, .int .i64 0, .int .i64 0] ∧ Rdr w R q ∧ Fr (· = R) w0 w
theorem of_form {a b e : Int} {s : ByteArray} {w : World} {r : Ending} {w' : World} (hp : OfPost a b e s w r w') : ∃ (x0 x1 x2 x3 x4 : Int) (ok : Bool), r = .returned (.tuple #[.agg #[.int .i64 x0, .int .i64 x1, .int .i64 x2, .int .i64 x3, .int .i64 x4], .bool ok]) ∧ Below w.heap.size w w' := by
  obtain ⟨h1, h2⟩ := hp
  cases h : ofB a b e s
  · rw [h] at h1
    exact ⟨0, 0, 0, 0, 0, false, h1, h2⟩
  · rw [h, if_pos rfl] at h1
    exact ⟨_, _, _, _, _, true, h1, h2⟩
theorem put5 {w : World} {g : Nat} (h : Bk w g 25 #[.int .i64 0, .int .i64 0, .int .i64 0, .int .i64 0, .int .i64 0]) (a b c d e : Int) : Bk (((((w.setCell ⟨g, 0, none⟩ (.int .i64 a)).setCell ⟨g, 1, none⟩ (.int .i64 b)).setCell ⟨g, 2, none⟩ (.int .i64 c)).setCell ⟨g, 3, none⟩ (.int .i64 d)).setCell ⟨g, 4, none⟩ (.int .i64 e)) g 25 #[.int .i64 a, .int .i64 b, .int .i64 c, .int .i64 d, .int .i64 e] :=
  ((((h.put 0 (.int .i64 a)).put 1 (.int .i64 b)).put 2 (.int .i64 c)).put 3 (.int .i64 d)).put 4 (.int .i64 e)
theorem fr5 {w0 w : World} {S : Nat → Prop} {g : Nat} (h : Fr S w0 w) (hg : S g ∨ w0.heap.size ≤ g) (a b c d e : Value) : Fr S w0 (((((w.setCell ⟨g, 0, none⟩ a).setCell ⟨g, 1, none⟩ b).setCell ⟨g, 2, none⟩ c).setCell ⟨g, 3, none⟩ d).setCell ⟨g, 4, none⟩ e) :=
  ((((h.setCell (p := ⟨g, 0, none⟩) hg a).setCell (p := ⟨g, 1, none⟩) hg b).setCell (p := ⟨g, 2, none⟩) hg c).setCell (p := ⟨g, 3, none⟩) hg d).setCell (p := ⟨g, 4, none⟩) hg e

set_option maxHeartbeats 4000000 in
theorem l91Ptr_any (R p : Nat) (w : World) (hr : Rdr w R p) (hp : p ≤ 700000) :
    Calls Tryd.prog 49 #[.pointer (some ⟨R, 0, none⟩)] w (PtrPost R p 60 w) := by
  have hRlt := hr.lt
  have HR := hide (hr.after (bel1 w (.cells #[.int .i64 0, .int .i64 0, .int .i64 0, .int .i64 0, .int .i64 0] 25)))
  have K0 := hide (Bk.fresh w 25 #[.int .i64 0, .int .i64 0, .int .i64 0, .int .i64 0, .int .i64 0])
  have HF := hide ((Fr.refl (· = R) w).alloc (.cells #[.int .i64 0, .int .i64 0, .int .i64 0, .int .i64 0, .int .i64 0] 25))
  clear hr
  go_enter Tryd.func49, Tryd.ntmps49
  go_wp2_with fail
  refine (pick_any R p 5 _ HR.out (by omega) (by omega) (by omega)).mono ?_; rintro r w1 ⟨v, rfl, v0, v1, _, hr1, hf1⟩
  have K0 := hide (K0.out.fr hf1 (by omega))
  have HR := hide hr1
  have HF := hide (HF.out.trans hf1)
  clear hr1 hf1 v1
  obtain ⟨g0, hg0⟩ : ∃ g0, g0 = w.heap.size := ⟨_, rfl⟩
  rw [← hg0] at K0
  have HG0 := hide hg0
  by_cases e0 : v = 0
  · subst e0
    rw [← hg0]
    obtain ⟨q0, q1, q2, q3, q4⟩ := K0.out.c5
    have f0 := K0.out.frozen 0
    have f1 := K0.out.frozen 1
    have f2 := K0.out.frozen 2
    have f3 := K0.out.frozen 3
    have f4 := K0.out.frozen 4
    have P5 := hide (put5 K0.out 0 0 0 0 0)
    have PF := hide (fr5 HF.out (.inr (Nat.le_of_eq HG0.out.symm)) (.int .i64 0) (.int .i64 0) (.int .i64 0) (.int .i64 0) (.int .i64 0))
    have PR := hide (HR.out.fr (fr5 (Fr.refl (fun b => b = g0) w1) (.inl rfl) (.int .i64 0) (.int .i64 0) (.int .i64 0) (.int .i64 0) (.int .i64 0)) (fun b hb => by omega))
    clear hg0
    go_wp2_with fail
    clear q0 q1 q2 q3 q4 f0 f1 f2 f3 f4
    obtain ⟨X, hX⟩ : ∃ X : World, X = ((((w1.setCell ⟨g0, 0, none⟩ (.int .i64 0)).setCell ⟨g0, 1, none⟩ (.int .i64 0)).setCell ⟨g0, 2, none⟩ (.int .i64 0)).setCell ⟨g0, 3, none⟩ (.int .i64 0)).setCell ⟨g0, 4, none⟩ (.int .i64 0) := ⟨_, rfl⟩
    rw [← hX] at P5 PF PR
    rw [← hX]
    clear hX
    obtain ⟨r0, r1, r2, r3, r4⟩ := P5.out.c5
    refine bodyPost_ret (v := .agg #[.int .i64 0, .int .i64 0, .int .i64 0, .int .i64 0, .int .i64 0]) (by simp [results, Tryd.results49, go_sem, r0, r1, r2, r3, r4]) rfl ?_
    exact ⟨_, _, _, _, _, p + 1, rfl, by omega, PR.out, PF.out⟩
  · have z0 : (v == 0) = false := by rw [beq_eq_false_iff_ne]; exact e0
    rw [← hg0]
    clear hg0
    go_wp2_with fail
    refine (pick_any R (p + 1) 12 _ HR.out (by omega) (by omega) (by omega)).mono ?_; rintro r w2 ⟨x, rfl, xa, xb, _, hr, hf⟩
    have xc := xb (by omega)
    have xw : IntKind.i64.wrap (8 + x) = 8 + x := by rw [IntKind.wrap_i64]; omega
    have K0 := hide (K0.out.fr hf (by have := HG0.out; omega))
    have HR := hide hr
    have HF := hide (HF.out.trans hf)
    clear hr hf xb
    go_wp2_with fail
    refine (pick_any R (p + 1 + 1) 9 _ HR.out (by omega) (by omega) (by omega)).mono ?_; rintro r w3 ⟨y, rfl, ya, yb, _, hr, hf⟩
    have yc := yb (by omega)
    have yw : IntKind.i64.wrap (1 + y) = 1 + y := by rw [IntKind.wrap_i64]; omega
    have K0 := hide (K0.out.fr hf (by have := HG0.out; omega))
    have HR := hide hr
    have HF := hide (HF.out.trans hf)
    clear hr hf yb
    go_wp2_with fail
    refine (pick_any R (p + 1 + 1 + 1) 3 _ HR.out (by omega) (by omega) (by omega)).mono ?_; rintro r w4 ⟨z, rfl, za, zb, _, hr, hf⟩
    have K0 := hide (K0.out.fr hf (by have := HG0.out; omega))
    have HR := hide hr
    have HF := hide (HF.out.trans hf)
    clear hr hf zb
    go_wp2_with fail
    refine (l91Text_any R (p + 1 + 1 + 1 + 1) 9 _ HR.out (by omega) (by decide)).mono ?_; rintro r w5 ⟨out, q, rfl, hl, hq, hr, hf⟩
    obtain ⟨T, hT⟩ : ∃ T : ByteArray, T = ⟨out.toArray⟩ := ⟨_, rfl⟩
    rw [← hT]
    have hTs : T.size ≤ 9 := by rw [hT]; show out.toArray.size ≤ 9; rw [List.size_toArray]; exact hl
    have hcat : ¬ 9223372036854775807 < 1 + T.size := by omega
    have K0 := hide (K0.out.fr hf (by have := HG0.out; omega))
    have HR := hide hr
    have HF := hide (HF.out.trans hf)
    clear hr hf hT
    go_wp2_with fail
    refine (specPtrOf_any _ _ _ _ (by rw [ByteArray.size_append]; show 1 + T.size ≤ maxLen; unfold maxLen; omega) _).mono ?_; intro r w6 hp6; obtain ⟨a, b, c, d, e, ok, rfl, hb6⟩ := of_form hp6; clear hp6
    have hgw : Hid (g0 < w6.heap.size) := hide (Nat.lt_of_lt_of_le K0.out.lt hb6.size)
    have K0 := hide ((K0.out.after hb6).alloc (.cells #[.int .i64 a, .int .i64 b, .int .i64 c, .int .i64 d, .int .i64 e] 25))
    have HF := hide ((HF.out.trans (Fr.of_below _ hb6)).alloc (.cells #[.int .i64 a, .int .i64 b, .int .i64 c, .int .i64 d, .int .i64 e] 25))
    have HR := hide ((HR.out.after hb6).after (bel1 w6 (.cells #[.int .i64 a, .int .i64 b, .int .i64 c, .int .i64 d, .int .i64 e] 25)))
    have K3 := hide (Bk.fresh w6 25 #[.int .i64 a, .int .i64 b, .int .i64 c, .int .i64 d, .int .i64 e])
    clear hb6
    go_wp2_with fail
    refine (pick_any R q 24 _ HR.out (by omega) (by omega) (by omega)).mono ?_; rintro r x0 ⟨v, rfl, va, vb, _, hr, hf⟩
    obtain ⟨g3, hg3⟩ : ∃ g3, g3 = w6.heap.size := ⟨_, rfl⟩
    rw [← hg3] at K3
    rw [← hg3]
    have h03 : g0 < g3 := by rw [hg3]; exact hgw.out
    have h0R : R < g0 := by have := HG0.out; omega
    have h0w : w.heap.size ≤ g0 := Nat.le_of_eq HG0.out.symm
    have K0 := hide (K0.out.fr hf (by omega))
    have K3 := hide (K3.out.fr hf (by omega))
    have HR := hide hr
    have HF := hide (HF.out.trans hf)
    clear hr hf vb hg3 hgw
    obtain ⟨q, hq'⟩ : ∃ q', q' = q + 1 := ⟨_, rfl⟩
    rw [← hq'] at HR
    go_upto_block 0 with fail
    go_cut [4] (fun c4 wx => c4 = .bool ok ∧ Hid (PtrIn w R g0 g3 (p + 59) wx))
    case first =>
      have hvv : v = 0 ∨ v = 1 ∨ v = 2 ∨ v = 3 ∨ v = 4 ∨ (¬ v = 0 ∧ ¬ v = 1 ∧ ¬ v = 2 ∧ ¬ v = 3 ∧ ¬ v = 4) := by omega
      rcases hvv with rfl | rfl | rfl | rfl | rfl | ⟨e0, e1, e2, e3, e4⟩
      · go_wp2_with fail
        refine (l91Row_any R q _ HR.out (by omega)).mono ?_; rintro r x1 ⟨y, q2, rfl, hq2, hr, hf⟩
        have K3 := hide (K3.out.fr hf (by omega))
        have K0 := hide (K0.out.fr hf (by omega))
        have HF := hide (HF.out.trans hf)
        have HR := hide hr
        clear hr hf
        have cz := K3.out.cell 0
        have fz := K3.out.frozen 0
        have PK := hide (show Bk (x1.setCell ⟨g3, 0, none⟩ (.int .i64 y)) g3 25 #[.int .i64 y, .int .i64 b, .int .i64 c, .int .i64 d, .int .i64 e] from K3.out.put 0 (.int .i64 y))
        have PK0 := hide (K0.out.far (p := ⟨g3, 0, none⟩) (by show g0 ≠ g3; omega) (.int .i64 y))
        have PF := hide (HF.out.setCell (p := ⟨g3, 0, none⟩) (.inr (by show w.heap.size ≤ g3; omega)) (.int .i64 y))
        have PR := hide (HR.out.fr ((Fr.refl (fun b => b = g3) x1).setCell (p := ⟨g3, 0, none⟩) (.inl rfl) (.int .i64 y)) (fun b hb => by omega))
        go_wp2_with fail
        go_meet
        exact ⟨rfl, hide ⟨y, b, c, d, e, _, by omega, PK.out, PK0.out, PR.out, PF.out⟩⟩
      · have hRn : ¬ x0.heap.size = R := by have := HR.out.lt; omega
        have MK := hide (Bk.fresh x0 3 #[.int .i64 0, .int .i64 (-1), .int .i64 900, .int .i64 901])
        have K3 := hide (K3.out.alloc (.cells #[.int .i64 0, .int .i64 (-1), .int .i64 900, .int .i64 901] 3))
        have K0 := hide (K0.out.alloc (.cells #[.int .i64 0, .int .i64 (-1), .int .i64 900, .int .i64 901] 3))
        have HF := hide (HF.out.alloc (.cells #[.int .i64 0, .int .i64 (-1), .int .i64 900, .int .i64 901] 3))
        have HR := hide (HR.out.after (bel1 x0 (.cells #[.int .i64 0, .int .i64 (-1), .int .i64 900, .int .i64 901] 3)))
        go_wp2_with fail
        refine (pick_any R q 4 _ HR.out (by omega) (by omega) (by omega)).mono ?_; rintro r x1 ⟨x, rfl, xa, xb, _, hr, hf⟩
        have xc := xb (by omega)
        obtain ⟨j, rfl⟩ : ∃ j : Nat, x = (j : Int) := ⟨x.toNat, by omega⟩
        obtain ⟨y, hy⟩ := pickI (l := [0, -1, 900, 901]) (MK.out.fr hf hRn) (show j < 4 by omega)
        have K3 := hide (K3.out.fr hf (by omega))
        have K0 := hide (K0.out.fr hf (by omega))
        have HF := hide (HF.out.trans hf)
        have HR := hide hr
        clear hr hf xb
        have q2 := q + 1
        obtain ⟨q2, hq2⟩ : ∃ q2, q2 = q + 1 := ⟨_, rfl⟩
        rw [← hq2] at HR
        have cz := K3.out.cell 1
        have fz := K3.out.frozen 1
        have PK := hide (show Bk (x1.setCell ⟨g3, 1, none⟩ (.int .i64 y)) g3 25 #[.int .i64 a, .int .i64 y, .int .i64 c, .int .i64 d, .int .i64 e] from K3.out.put 1 (.int .i64 y))
        have PK0 := hide (K0.out.far (p := ⟨g3, 1, none⟩) (by show g0 ≠ g3; omega) (.int .i64 y))
        have PF := hide (HF.out.setCell (p := ⟨g3, 1, none⟩) (.inr (by show w.heap.size ≤ g3; omega)) (.int .i64 y))
        have PR := hide (HR.out.fr ((Fr.refl (fun b => b = g3) x1).setCell (p := ⟨g3, 1, none⟩) (.inl rfl) (.int .i64 y)) (fun b hb => by omega))
        go_wp2_with fail
        go_meet
        exact ⟨rfl, hide ⟨a, y, c, d, e, _, by omega, PK.out, PK0.out, PR.out, PF.out⟩⟩
      · have hRn : ¬ x0.heap.size = R := by have := HR.out.lt; omega
        have MK := hide (Bk.fresh x0 3 #[.int .i64 0, .int .i64 (-1), .int .i64 128, .int .i64 129])
        have K3 := hide (K3.out.alloc (.cells #[.int .i64 0, .int .i64 (-1), .int .i64 128, .int .i64 129] 3))
        have K0 := hide (K0.out.alloc (.cells #[.int .i64 0, .int .i64 (-1), .int .i64 128, .int .i64 129] 3))
        have HF := hide (HF.out.alloc (.cells #[.int .i64 0, .int .i64 (-1), .int .i64 128, .int .i64 129] 3))
        have HR := hide (HR.out.after (bel1 x0 (.cells #[.int .i64 0, .int .i64 (-1), .int .i64 128, .int .i64 129] 3)))
        go_wp2_with fail
        refine (pick_any R q 4 _ HR.out (by omega) (by omega) (by omega)).mono ?_; rintro r x1 ⟨x, rfl, xa, xb, _, hr, hf⟩
        have xc := xb (by omega)
        obtain ⟨j, rfl⟩ : ∃ j : Nat, x = (j : Int) := ⟨x.toNat, by omega⟩
        obtain ⟨y, hy⟩ := pickI (l := [0, -1, 128, 129]) (MK.out.fr hf hRn) (show j < 4 by omega)
        have K3 := hide (K3.out.fr hf (by omega))
        have K0 := hide (K0.out.fr hf (by omega))
        have HF := hide (HF.out.trans hf)
        have HR := hide hr
        clear hr hf xb
        have q2 := q + 1
        obtain ⟨q2, hq2⟩ : ∃ q2, q2 = q + 1 := ⟨_, rfl⟩
        rw [← hq2] at HR
        have cz := K3.out.cell 2
        have fz := K3.out.frozen 2
        have PK := hide (show Bk (x1.setCell ⟨g3, 2, none⟩ (.int .i64 y)) g3 25 #[.int .i64 a, .int .i64 b, .int .i64 y, .int .i64 d, .int .i64 e] from K3.out.put 2 (.int .i64 y))
        have PK0 := hide (K0.out.far (p := ⟨g3, 2, none⟩) (by show g0 ≠ g3; omega) (.int .i64 y))
        have PF := hide (HF.out.setCell (p := ⟨g3, 2, none⟩) (.inr (by show w.heap.size ≤ g3; omega)) (.int .i64 y))
        have PR := hide (HR.out.fr ((Fr.refl (fun b => b = g3) x1).setCell (p := ⟨g3, 2, none⟩) (.inl rfl) (.int .i64 y)) (fun b hb => by omega))
        go_wp2_with fail
        go_meet
        exact ⟨rfl, hide ⟨a, b, y, d, e, _, by omega, PK.out, PK0.out, PR.out, PF.out⟩⟩
      · have hRn : ¬ x0.heap.size = R := by have := HR.out.lt; omega
        have MK := hide (Bk.fresh x0 3 #[.int .i64 (-1), .int .i64 99460728, .int .i64 99460729, .int .i64 0])
        have K3 := hide (K3.out.alloc (.cells #[.int .i64 (-1), .int .i64 99460728, .int .i64 99460729, .int .i64 0] 3))
        have K0 := hide (K0.out.alloc (.cells #[.int .i64 (-1), .int .i64 99460728, .int .i64 99460729, .int .i64 0] 3))
        have HF := hide (HF.out.alloc (.cells #[.int .i64 (-1), .int .i64 99460728, .int .i64 99460729, .int .i64 0] 3))
        have HR := hide (HR.out.after (bel1 x0 (.cells #[.int .i64 (-1), .int .i64 99460728, .int .i64 99460729, .int .i64 0] 3)))
        go_wp2_with fail
        refine (pick_any R q 4 _ HR.out (by omega) (by omega) (by omega)).mono ?_; rintro r x1 ⟨x, rfl, xa, xb, _, hr, hf⟩
        have xc := xb (by omega)
        obtain ⟨j, rfl⟩ : ∃ j : Nat, x = (j : Int) := ⟨x.toNat, by omega⟩
        obtain ⟨y, hy⟩ := pickI (l := [-1, 99460728, 99460729, 0]) (MK.out.fr hf hRn) (show j < 4 by omega)
        have K3 := hide (K3.out.fr hf (by omega))
        have K0 := hide (K0.out.fr hf (by omega))
        have HF := hide (HF.out.trans hf)
        have HR := hide hr
        clear hr hf xb
        have q2 := q + 1
        obtain ⟨q2, hq2⟩ : ∃ q2, q2 = q + 1 := ⟨_, rfl⟩
        rw [← hq2] at HR
        have cz := K3.out.cell 3
        have fz := K3.out.frozen 3
        have PK := hide (show Bk (x1.setCell ⟨g3, 3, none⟩ (.int .i64 y)) g3 25 #[.int .i64 a, .int .i64 b, .int .i64 c, .int .i64 y, .int .i64 e] from K3.out.put 3 (.int .i64 y))
        have PK0 := hide (K0.out.far (p := ⟨g3, 3, none⟩) (by show g0 ≠ g3; omega) (.int .i64 y))
        have PF := hide (HF.out.setCell (p := ⟨g3, 3, none⟩) (.inr (by show w.heap.size ≤ g3; omega)) (.int .i64 y))
        have PR := hide (HR.out.fr ((Fr.refl (fun b => b = g3) x1).setCell (p := ⟨g3, 3, none⟩) (.inl rfl) (.int .i64 y)) (fun b hb => by omega))
        go_wp2_with fail
        go_meet
        exact ⟨rfl, hide ⟨a, b, c, y, e, _, by omega, PK.out, PK0.out, PR.out, PF.out⟩⟩
      · have hRn : ¬ x0.heap.size = R := by have := HR.out.lt; omega
        have MK := hide (Bk.fresh x0 3 #[.int .i64 (-1), .int .i64 3, .int .i64 2])
        have K3 := hide (K3.out.alloc (.cells #[.int .i64 (-1), .int .i64 3, .int .i64 2] 3))
        have K0 := hide (K0.out.alloc (.cells #[.int .i64 (-1), .int .i64 3, .int .i64 2] 3))
        have HF := hide (HF.out.alloc (.cells #[.int .i64 (-1), .int .i64 3, .int .i64 2] 3))
        have HR := hide (HR.out.after (bel1 x0 (.cells #[.int .i64 (-1), .int .i64 3, .int .i64 2] 3)))
        go_wp2_with fail
        refine (pick_any R q 3 _ HR.out (by omega) (by omega) (by omega)).mono ?_; rintro r x1 ⟨x, rfl, xa, xb, _, hr, hf⟩
        have xc := xb (by omega)
        obtain ⟨j, rfl⟩ : ∃ j : Nat, x = (j : Int) := ⟨x.toNat, by omega⟩
        obtain ⟨y, hy⟩ := pickI (l := [-1, 3, 2]) (MK.out.fr hf hRn) (show j < 3 by omega)
        have K3 := hide (K3.out.fr hf (by omega))
        have K0 := hide (K0.out.fr hf (by omega))
        have HF := hide (HF.out.trans hf)
        have HR := hide hr
        clear hr hf xb
        have q2 := q + 1
        obtain ⟨q2, hq2⟩ : ∃ q2, q2 = q + 1 := ⟨_, rfl⟩
        rw [← hq2] at HR
        have cz := K3.out.cell 4
        have fz := K3.out.frozen 4
        have PK := hide (show Bk (x1.setCell ⟨g3, 4, none⟩ (.int .i64 y)) g3 25 #[.int .i64 a, .int .i64 b, .int .i64 c, .int .i64 d, .int .i64 y] from K3.out.put 4 (.int .i64 y))
        have PK0 := hide (K0.out.far (p := ⟨g3, 4, none⟩) (by show g0 ≠ g3; omega) (.int .i64 y))
        have PF := hide (HF.out.setCell (p := ⟨g3, 4, none⟩) (.inr (by show w.heap.size ≤ g3; omega)) (.int .i64 y))
        have PR := hide (HR.out.fr ((Fr.refl (fun b => b = g3) x1).setCell (p := ⟨g3, 4, none⟩) (.inl rfl) (.int .i64 y)) (fun b hb => by omega))
        go_wp2_with fail
        go_meet
        exact ⟨rfl, hide ⟨a, b, c, d, y, _, by omega, PK.out, PK0.out, PR.out, PF.out⟩⟩
      · have z0 : (v == 0) = false := by rw [beq_eq_false_iff_ne]; exact e0
        have z1 : (v == 1) = false := by rw [beq_eq_false_iff_ne]; exact e1
        have z2 : (v == 2) = false := by rw [beq_eq_false_iff_ne]; exact e2
        have z3 : (v == 3) = false := by rw [beq_eq_false_iff_ne]; exact e3
        have z4 : (v == 4) = false := by rw [beq_eq_false_iff_ne]; exact e4
        go_wp2_with fail
        go_meet
        exact ⟨rfl, hide ⟨a, b, c, d, e, q, by omega, K3.out, K0.out, HR.out, HF.out⟩⟩
    clear K0 K3 HR HF
    obtain ⟨rfl, hcut⟩ := hcut
    obtain ⟨a, b, c, d, e, q2, hq2, hK3, hK0, hr, hf⟩ := hcut.out
    obtain ⟨s0, s1, s2, s3, s4⟩ := hK3.c5
    obtain ⟨q0, q1, q2', q3, q4⟩ := hK0.c5
    have f0 := hK0.frozen 0
    have f1 := hK0.frozen 1
    have f2 := hK0.frozen 2
    have f3 := hK0.frozen 3
    have f4 := hK0.frozen 4
    have P5 := hide (put5 hK0 a b c d e)
    have PF := hide (fr5 hf (.inr h0w) (.int .i64 a) (.int .i64 b) (.int .i64 c) (.int .i64 d) (.int .i64 e))
    have PR := hide (hr.fr (fr5 (Fr.refl (fun b => b = g0) wc) (.inl rfl) (.int .i64 a) (.int .i64 b) (.int .i64 c) (.int .i64 d) (.int .i64 e)) (fun b hb => by omega))
    clear hK3 hK0 hr hf hcut
    go_wp2_with fail
    clear q0 q1 q2' q3 q4 f0 f1 f2 f3 f4 s0 s1 s2 s3 s4
    obtain ⟨X, hX⟩ : ∃ X : World, X = ((((wc.setCell ⟨g0, 0, none⟩ (.int .i64 a)).setCell ⟨g0, 1, none⟩ (.int .i64 b)).setCell ⟨g0, 2, none⟩ (.int .i64 c)).setCell ⟨g0, 3, none⟩ (.int .i64 d)).setCell ⟨g0, 4, none⟩ (.int .i64 e) := ⟨_, rfl⟩
    rw [← hX] at P5 PF PR
    rw [← hX]
    clear hX
    obtain ⟨r0, r1, r2, r3, r4⟩ := P5.out.c5
    refine bodyPost_ret (v := .agg #[.int .i64 a, .int .i64 b, .int .i64 c, .int .i64 d, .int .i64 e]) (by simp [results, Tryd.results49, go_sem, r0, r1, r2, r3, r4]) rfl ?_
    exact ⟨_, _, _, _, _, q2, rfl, by omega, PR.out, PF.out⟩
end Go.Proofs.YtmhbpmacfekhgaaDoor
