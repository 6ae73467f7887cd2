/- l3Write: one waiting write more. -/
import Derived.Test.YtcaoekaephnimaaRaidFlM
import Derived.Test.YtcaoekaephnimaaQO
namespace Go.Proofs.Ytcaoekaephnimaa
open Go.RowKit
set_option linter.unusedVariables false
set_option maxRecDepth 100000

theorem wp_app_waitsO {op : Oper} {a : Act} {w : World} {K : Act → World → Prop} {Q : Exit → Act → World → Prop} {base e1 b o n c : Nat} {zs : List (Int × ByteArray)} (s x : Operand) (ho : op.op = .call { callee := .builtin .append, args := #[s, x], argTypes := #[47, 47] }) (hs : a.eval s = .slice (some ⟨e1, 0, none⟩) 0 0) (hx : a.eval x = .slice (some ⟨b, o, none⟩) n c) (hE : Bk w e1 74 #[]) (hb : base ≤ e1) (h : Rd w 2 (some ⟨b, o, none⟩) n (waitCells zs)) (hn : n ≤ 1048576)
    (k : ∀ g ca w', base ≤ g → w'.ownsRow base 74 2 (.slice (some ⟨g, 0, none⟩) n ca) n (waitCells zs) → Fr (· = e1) w w' → K (a.put op.dst (.slice (some ⟨g, 0, none⟩) n ca)) w') : op.wp Try.prog a w K Q := by
  obtain ⟨i, hi, hz, hsz, hby⟩ := info_parts info_wait
  have hown : w.ownsRow base 74 2 (.slice (some ⟨e1, 0, none⟩) 0 0) 0 [] := ⟨rfl, .inr ⟨e1, 0, #[], rfl, hb, hE, Nat.le_refl _, by simp [maxLen], rfl, rfl⟩⟩
  have hl : (waitCells zs).length = n * 2 := h.len
  have hnews : ∀ j u, (waitCells zs)[j]? = some u → w.cell? ((⟨b, o, none⟩ : Addr).add j) = some u := by
    intro j u hj
    have hj2 := (List.getElem?_eq_some_iff.1 hj).1
    obtain ⟨b', o', e, _, hc⟩ := h.at_ (by omega)
    injection e with e
    injection e with e1 e2
    subst e1 e2
    rw [Addr.add_lit]
    exact hc j u hj
  refine wp_append_own w s x 47 ho base 74 i _ 2 24 Try.underlying47 hi hz hsz hby rfl (by decide) _ 0 [] hs hown ⟨b, o, none⟩ n c (waitCells zs) hx hl hnews (fun u hu => by
    obtain ⟨z, _, hz⟩ := List.mem_flatMap.1 hu
    simp only [List.mem_cons, List.not_mem_nil, or_false] at hz
    rcases hz with rfl | rfl <;> rfl) (by unfold maxLen; omega) (by omega) (by have := hE.lt; omega) ?_
  intro v' w' hown' hg hv
  have hne : v' ≠ .slice none 0 0 := fun e => by have := (hv.1 e).1; cases this
  obtain ⟨g, ca, rfl, hbg, hrow⟩ := row_of_own hown' hne
  rw [Nat.zero_add] at hown' ⊢
  exact k g ca w' hbg hown' ⟨hg.os, hg.tape, hg.output, hg.size, fun k hk hn => hg.block k hk (fun e => by injection e with e; exact hn e)⟩
theorem wpList_app_waitsO {ops : Array Oper} {rest : List Oper} {op : Oper} {a : Act} {w : World} {Q : Exit → Act → World → Prop} (hgd : op.guard = none) {base e1 b o n c : Nat} {zs : List (Int × ByteArray)} (s x : Operand) (ho : op.op = .call { callee := .builtin .append, args := #[s, x], argTypes := #[47, 47] }) (hs : a.eval s = .slice (some ⟨e1, 0, none⟩) 0 0) (hx : a.eval x = .slice (some ⟨b, o, none⟩) n c) (hE : Bk w e1 74 #[]) (hb : base ≤ e1) (h : Rd w 2 (some ⟨b, o, none⟩) n (waitCells zs)) (hn : n ≤ 1048576)
    (k : ∀ g ca w', base ≤ g → w'.ownsRow base 74 2 (.slice (some ⟨g, 0, none⟩) n ca) n (waitCells zs) → Fr (· = e1) w w' → wpList Try.prog ops Q rest (a.put op.dst (.slice (some ⟨g, 0, none⟩) n ca)) w') : wpList Try.prog ops Q (op :: rest) a w :=
  wpList_plain hgd fun _ hK => wp_app_waitsO s x ho hs hx hE hb h hn (fun g ca w' h1 h2 h3 => hK _ _ (k g ca w' h1 h2 h3))

theorem own_row {w : World} {base k n b2 c : Nat} {e : TypeId} {xs : List Value} (h : w.ownsRow base e k (.slice (some ⟨b2, 0, none⟩) n c) n xs) : Row w b2 e xs ∧ base ≤ b2 := by
  obtain ⟨g, ca, e1, hb, hrow⟩ := row_of_own h (fun e => by cases e)
  injection e1 with e1 _ _
  injection e1 with e1
  injection e1 with e1 _ _
  subst e1
  exact ⟨hrow, hb⟩
/-- a disk on which one write more waits -/
def WriteM (b1 c1 n2 : Nat) (z2 : List (Int × ByteArray)) (w : World) (r : Ending) (w' : World) : Prop :=
  ∃ e c, r = .returned (.tuple #[.agg #[.slice (some ⟨b1, 0, none⟩) 64 c1, .slice (some ⟨e, 0, none⟩) (n2 + 1) c, .bool false], .bool true]) ∧ w.heap.size ≤ e ∧ Row w' e 74 (waitCells z2) ∧ Below w.heap.size w w'
set_option maxHeartbeats 4000000 in
theorem l3WriteM (b1 c1 b2 n2 c2 : Nat) (z2 : List (Int × ByteArray)) (y : Int) (s : ByteArray) (w : World) (h2 : Rd w 2 (some ⟨b2, 0, none⟩) n2 (waitCells z2)) (hy : inR y 0 63 = true) (hs : s.size ≤ 200) (hn : n2 < 120) :
    Calls Try.prog 95 #[.agg #[.slice (some ⟨b1, 0, none⟩) 64 c1, .slice (some ⟨b2, 0, none⟩) n2 c2, .bool false], .int .i64 y, .string s] w (WriteM b1 c1 n2 (z2 ++ [(y, s)]) w) := by
  obtain ⟨W0, HW0⟩ : ∃ W : World, W = ((w.alloc (.cells #[.slice (some ⟨b1, 0, none⟩) 64 c1, .slice (some ⟨b2, 0, none⟩) n2 c2, .bool false] 49)).alloc (.cells #[.slice none 0 0, .slice none 0 0, .bool false] 49)) := ⟨_, rfl⟩
  have hb : Below w.heap.size w W0 := by rw [HW0]; exact (((Below.refl _ _).alloc (Nat.le_refl _) _).alloc (by simp) _)
  have z0 : W0.heap.size = w.heap.size + 1 + 1 := by rw [HW0]; simp
  have K1 := (show Bk W0 w.heap.size 49 #[.slice (some ⟨b1, 0, none⟩) 64 c1, .slice (some ⟨b2, 0, none⟩) n2 c2, .bool false] by rw [HW0]; exact ((Bk.fresh _ _ _).alloc _))
  have K2 := (show Bk W0 (w.heap.size + 1) 49 #[.slice none 0 0, .slice none 0 0, .bool false] by
    rw [HW0]
    have h := Bk.fresh (w.alloc (.cells #[.slice (some ⟨b1, 0, none⟩) 64 c1, .slice (some ⟨b2, 0, none⟩) n2 c2, .bool false] 49)) 49 #[.slice none 0 0, .slice none 0 0, .bool false]
    rw [show (w.alloc (.cells #[.slice (some ⟨b1, 0, none⟩) 64 c1, .slice (some ⟨b2, 0, none⟩) n2 c2, .bool false] 49)).heap.size = w.heap.size + 1 by simp] at h
    exact h)
  have hzl : z2.length = n2 := by have := h2.len; rw [waitCells_len] at this; omega
  have H2 := hide (h2.after hb)
  have HB := hide hb
  have HZ := hide z0
  have HY := hide hy
  have HN := hide hn
  have HZL := hide hzl
  have q1 : ¬ (200 : Int) < (s.size : Int) := by omega
  have q2 : ¬ (120 : Int) ≤ (n2 : Int) := by omega
  clear h2 hb z0 hy hs hn hzl
  have K1 := hide K1
  have K2 := hide K2
  have HQ := hide (fun w => l3Cell_v (n := y) HY.out w)
  go_enter Try.func95, Try.ntmps95
  go_upto_region 1 with fail
  rw [← HW0]
  clear HW0
  obtain ⟨t0, t1, t2⟩ := K1.out.c3
  go_wp2_with fail
  refine (HQ.out _).mono ?_; rintro r x1 ⟨rfl, rfl⟩
  have KE := hide (Bk.fresh W0 74 #[])
  have HEB := hide (show w.heap.size ≤ W0.heap.size from HB.out.size)
  have KA := hide (K1.out.alloc (.cells #[] 74))
  have KB := hide (K2.out.alloc (.cells #[] 74))
  have H2 := hide (H2.out.after (bel1 W0 (.cells #[] 74)))
  have HB := hide (HB.out.alloc HB.out.size (.cells #[] 74))
  clear K1 K2
  obtain ⟨a0, a1, a2⟩ := KA.out.c3
  go_upto_region 4 with (at_builtin; first | (refine wpList_app_waitsO (base := w.heap.size) (by rfl) _ _ (by rfl) (by rfl) (by rfl) KE.out HEB.out H2.out (by have := HN.out; omega) ?_; intro g ca x2 hbg ho hf; have HO := hide (own_aftR ho (bel1 x2 (.cells #[.int .i64 y, .string s] 74))); have HS2 := hide (Nat.le_trans HB.out.size (Nat.le_trans hf.size (bel1 x2 (.cells #[.int .i64 y, .string s] 74)).size)); have MK := hide (Bk.fresh x2 74 #[.int .i64 y, .string s]); have KA := hide ((KA.out.fr hf (KA.out.ne_type KE.out (by decide))).alloc (.cells #[.int .i64 y, .string s] 74)); have KB := hide ((KB.out.fr hf (KB.out.ne_type KE.out (by decide))).alloc (.cells #[.int .i64 y, .string s] 74)); have HB := hide ((HB.out.trans (hf.below HB.out.size (fun i e => by rw [e]; exact HEB.out))).alloc (Nat.le_trans HB.out.size hf.size) (.cells #[.int .i64 y, .string s] 74)); clear hf ho hbg a0 a1 a2) | (refine wpList_app_wait (zs := z2) (y := y) (s := s) (base := w.heap.size) (by rfl) _ _ (by rfl) (by rfl) (by rfl) (by rw [HZL.out]; exact HO.out) MK.out (by have := HN.out; have := HZL.out; omega) HS2.out ?_; intro b3 c3 x3 ho hf; have HO3 := hide ho; have KA := hide (KA.out.fr hf (fun e => absurd (own_ty HO.out e KA.out) (by decide))); have KB := hide (KB.out.fr hf (fun e => absurd (own_ty HO.out e KB.out) (by decide))); have HB := hide (HB.out.trans (hf.below HB.out.size (fun i e => (HO.out.lt i e.symm).1))); clear hf ho; obtain ⟨a0, a1, a2⟩ := KA.out.c3; have f1 := KA.out.frozen 1))
  clear a0 a1 a2 f1
  obtain ⟨X, hX⟩ : ∃ X : World, X = x3.setCell ⟨w.heap.size, 1, none⟩ (.slice (some ⟨b3, 0, none⟩) (z2.length + 1) c3) := ⟨_, rfl⟩
  have KA2 : Bk X w.heap.size 49 #[.slice (some ⟨b1, 0, none⟩) 64 c1, .slice (some ⟨b3, 0, none⟩) (z2.length + 1) c3, .bool false] := by rw [hX]; exact KA.out.put 1 _
  have KB2 : Bk X (w.heap.size + 1) 49 #[.slice none 0 0, .slice none 0 0, .bool false] := by rw [hX]; exact KB.out.far (p := ⟨w.heap.size, 1, none⟩) (show w.heap.size + 1 ≠ w.heap.size by omega) _
  obtain ⟨hrow, hbe⟩ := own_row HO3.out
  have hrow1 := hrow
  obtain ⟨xr, hxr, _⟩ := hrow
  have hf := (Fr.refl (fun i => i = w.heap.size) x3).setCell (p := ⟨w.heap.size, 1, none⟩) (.inl rfl) (.slice (some ⟨b3, 0, none⟩) (z2.length + 1) c3)
  have RX := hide (show Row X b3 74 (waitCells (z2 ++ [(y, s)])) by rw [hX]; exact hrow1.fr hf (hxr.ne_type KA.out (by decide)))
  have HB := hide (show Below w.heap.size w X by rw [hX]; exact HB.out.setCell (p := ⟨w.heap.size, 1, none⟩) (Nat.le_refl _) _)
  have HBE := hide hbe
  rw [← hX]
  clear hX hrow1 hxr hf hbe
  obtain ⟨s0, s1, s2⟩ := KA2.c3
  obtain ⟨q0, q3, q4⟩ := KB2.c3
  have f0 := KB2.frozen 0
  have f1 := KB2.frozen 1
  have f2 := KB2.frozen 2
  have P3 := hide (put3 KB2 (.slice (some ⟨b1, 0, none⟩) 64 c1) (.slice (some ⟨b3, 0, none⟩) (z2.length + 1) c3) (.bool false))
  have PB := hide (((HB.out.setCell (p := ⟨w.heap.size + 1, 0, none⟩) (Nat.le_succ _) (.slice (some ⟨b1, 0, none⟩) 64 c1)).setCell (p := ⟨w.heap.size + 1, 1, none⟩) (Nat.le_succ _) (.slice (some ⟨b3, 0, none⟩) (z2.length + 1) c3)).setCell (p := ⟨w.heap.size + 1, 2, none⟩) (Nat.le_succ _) (.bool false))
  have PR := hide (RX.out.fr (fr3 (Fr.refl (fun b => b = w.heap.size + 1) X) (.inl rfl) (.slice (some ⟨b1, 0, none⟩) 64 c1) (.slice (some ⟨b3, 0, none⟩) (z2.length + 1) c3) (.bool false)) (by obtain ⟨x, hx, _⟩ := RX.out; exact hx.ne_type KB2 (by decide)))
  clear KA2 KB2
  go_wp2_with fail
  clear s0 s1 s2 q0 q3 q4 f0 f1 f2
  obtain ⟨Y, hY⟩ : ∃ Y : World, Y = ((X.setCell ⟨w.heap.size + 1, 0, none⟩ (.slice (some ⟨b1, 0, none⟩) 64 c1)).setCell ⟨w.heap.size + 1, 1, none⟩ (.slice (some ⟨b3, 0, none⟩) (z2.length + 1) c3)).setCell ⟨w.heap.size + 1, 2, none⟩ (.bool false) := ⟨_, rfl⟩
  rw [← hY] at P3 PR PB
  rw [← hY]
  clear hY
  obtain ⟨r0, r1, r2⟩ := P3.out.c3
  refine bodyPost_ret (v := .tuple #[.agg #[.slice (some ⟨b1, 0, none⟩) 64 c1, .slice (some ⟨b3, 0, none⟩) (z2.length + 1) c3, .bool false], .bool true]) (by simp [results, Try.results95, go_sem, r0, r1, r2]) rfl ?_
  exact ⟨b3, c3, by rw [HZL.out], HBE.out, PR.out, PB.out⟩
end Go.Proofs.Ytcaoekaephnimaa
