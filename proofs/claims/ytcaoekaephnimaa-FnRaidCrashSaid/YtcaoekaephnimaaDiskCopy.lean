/- Copies of rows and of disks: slices.Clone, l3Copy. -/
import Derived.Test.YtcaoekaephnimaaDiskSz
import Derived.Lib.SliceRun
import Derived.Deep.DeepCutAuto
namespace Go.Proofs.Ytcaoekaephnimaa
open Go.RowKit
set_option linter.unusedVariables false
set_option maxRecDepth 100000

theorem Bk.ne_type {w : World} {g g' : Nat} {t t' : TypeId} {cs cs' : Array Value} (h : Bk w g t cs) (h' : Bk w g' t' cs') (ht : t ≠ t') : g ≠ g' := by
  intro e
  subst e
  have e2 := h.symm.trans h'
  injection e2 with e2
  injection e2 with _ e3
  exact ht e3
/-- a row that begins with xs -/
def Row (w : World) (g : Nat) (t : TypeId) (xs : List Value) : Prop := ∃ cs : Array Value, Bk w g t cs ∧ xs.length ≤ cs.size ∧ ∀ j, j < xs.length → cs[j]? = xs[j]?
theorem Row.alloc {w : World} {g : Nat} {t : TypeId} {xs : List Value} (h : Row w g t xs) (o : Obj) : Row (w.alloc o) g t xs := by
  obtain ⟨cs, h1, h2⟩ := h
  exact ⟨cs, h1.alloc o, h2⟩
theorem Row.fr {S : Nat → Prop} {w w' : World} {g : Nat} {t : TypeId} {xs : List Value} (h : Row w g t xs) (hf : Fr S w w') (hS : ¬ S g) : Row w' g t xs := by
  obtain ⟨cs, h1, h2⟩ := h
  exact ⟨cs, h1.fr hf hS, h2⟩
theorem Row.after {w w' : World} {g : Nat} {t : TypeId} {xs : List Value} (h : Row w g t xs) (hb : Below w.heap.size w w') : Row w' g t xs := by
  obtain ⟨cs, h1, h2⟩ := h
  exact ⟨cs, h1.after hb, h2⟩
theorem Row.rd {w : World} {g k n : Nat} {t : TypeId} {xs : List Value} (h : Row w g t xs) (hl : xs.length = n * k) : Rd w k (some ⟨g, 0, none⟩) n xs := by
  obtain ⟨cs, h1, h2, h3⟩ := h
  exact h1.rd hl (fun j u hu => by rw [h3 j (List.getElem?_eq_some_iff.1 hu).1]; exact hu)
theorem Row.lt {w : World} {g : Nat} {t : TypeId} {xs : List Value} (h : Row w g t xs) : g < w.heap.size := by
  obtain ⟨cs, h1, _⟩ := h
  exact h1.lt
theorem row_of_own {w : World} {base n k : Nat} {t : TypeId} {v : Value} {xs : List Value} (h : w.ownsRow base t k v n xs) (hv : v ≠ .slice none 0 0) : ∃ g c, v = .slice (some ⟨g, 0, none⟩) n c ∧ base ≤ g ∧ Row w g t xs := by
  obtain ⟨h1, h2⟩ := h
  rcases h2 with ⟨e, _⟩ | ⟨g, cap, cur, e, hb, hg, hnc, _, hsz, htk⟩
  · exact absurd e hv
  · have hle : n * k ≤ cur.size := by rw [hsz]; exact Nat.mul_le_mul hnc (Nat.le_refl _)
    refine ⟨g, cap, e, hb, cur, hg, by rw [h1]; exact hle, fun j hj => ?_⟩
    rw [← htk, List.getElem?_take_of_lt (by rw [h1] at hj; exact hj), Array.getElem?_toList]
theorem wp_app_strs {op : Oper} {a : Act} {w : World} {K : Act → World → Prop} {Q : Exit → Act → World → Prop} {base e1 b o n c : Nat} {zs : List ByteArray} (s x : Operand) (ho : op.op = .call { callee := .builtin .append, args := #[s, x], argTypes := #[46, 46] }) (hs : a.eval s = .slice (some ⟨e1, 0, none⟩) 0 0) (hx : a.eval x = .slice (some ⟨b, o, none⟩) n c) (hE : Bk w e1 9 #[]) (hb : base ≤ e1) (h : Rd w 1 (some ⟨b, o, none⟩) n (zs.map Value.string)) (hn : n ≤ 1048576)
    (k : ∀ g ca w', base ≤ g → Row w' g 9 (zs.map Value.string) → Fr (· = e1) w w' → K (a.put op.dst (.slice (some ⟨g, 0, none⟩) n ca)) w') : op.wp Try.prog a w K Q := by
  obtain ⟨i, hi, hz, hsz, hby⟩ := info_parts info_str
  have hown : w.ownsRow base 9 1 (.slice (some ⟨e1, 0, none⟩) 0 0) 0 [] := ⟨rfl, .inr ⟨e1, 0, #[], rfl, hb, hE, Nat.le_refl _, by simp [maxLen], rfl, rfl⟩⟩
  have hl : (zs.map Value.string).length = n * 1 := h.len
  have hnews : ∀ j u, (zs.map Value.string)[j]? = some u → w.cell? ((⟨b, o, none⟩ : Addr).add j) = some u := by
    intro j u hj
    have hj2 := (List.getElem?_eq_some_iff.1 hj).1
    obtain ⟨b', o', e, _, hc⟩ := h.at_ (by omega)
    injection e with e
    injection e with e1 e2
    subst e1 e2
    rw [Addr.add_lit]
    exact hc j u hj
  refine wp_append_own w s x 46 ho base 9 i _ 1 16 Try.underlying46 hi hz hsz hby rfl (by decide) _ 0 [] hs hown ⟨b, o, none⟩ n c (zs.map Value.string) hx hl hnews (fun u hu => by obtain ⟨s, _, rfl⟩ := List.mem_map.1 hu; rfl) (by unfold maxLen; omega) (by omega) (by have := hE.lt; omega) ?_
  intro v' w' hown' hg hv
  have hne : v' ≠ .slice none 0 0 := fun e => by have := (hv.1 e).1; cases this
  obtain ⟨g, ca, rfl, hbg, hrow⟩ := row_of_own hown' hne
  rw [Nat.zero_add]
  exact k g ca w' hbg hrow ⟨hg.os, hg.tape, hg.output, hg.size, fun k hk hn => hg.block k hk (fun e => by injection e with e; exact hn e)⟩
theorem wpList_app_strs {ops : Array Oper} {rest : List Oper} {op : Oper} {a : Act} {w : World} {Q : Exit → Act → World → Prop} (hgd : op.guard = none) {base e1 b o n c : Nat} {zs : List ByteArray} (s x : Operand) (ho : op.op = .call { callee := .builtin .append, args := #[s, x], argTypes := #[46, 46] }) (hs : a.eval s = .slice (some ⟨e1, 0, none⟩) 0 0) (hx : a.eval x = .slice (some ⟨b, o, none⟩) n c) (hE : Bk w e1 9 #[]) (hb : base ≤ e1) (h : Rd w 1 (some ⟨b, o, none⟩) n (zs.map Value.string)) (hn : n ≤ 1048576)
    (k : ∀ g ca w', base ≤ g → Row w' g 9 (zs.map Value.string) → Fr (· = e1) w w' → wpList Try.prog ops Q rest (a.put op.dst (.slice (some ⟨g, 0, none⟩) n ca)) w') : wpList Try.prog ops Q (op :: rest) a w :=
  wpList_plain hgd fun _ hK => wp_app_strs s x ho hs hx hE hb h hn (fun g ca w' h1 h2 h3 => hK _ _ (k g ca w' h1 h2 h3))
theorem wp_app_waits {op : Oper} {a : Act} {w : World} {K : Act → World → Prop} {Q : Exit → Act → World → Prop} {base e1 b o n c : Nat} {zs : List (Int × ByteArray)} (s x : Operand) (ho : op.op = .call { callee := .builtin .append, args := #[s, x], argTypes := #[47, 47] }) (hs : a.eval s = .slice (some ⟨e1, 0, none⟩) 0 0) (hx : a.eval x = .slice (some ⟨b, o, none⟩) n c) (hE : Bk w e1 74 #[]) (hb : base ≤ e1) (h : Rd w 2 (some ⟨b, o, none⟩) n (waitCells zs)) (hn : n ≤ 1048576)
    (k : ∀ g ca w', base ≤ g → Row w' g 74 (waitCells zs) → Fr (· = e1) w w' → K (a.put op.dst (.slice (some ⟨g, 0, none⟩) n ca)) w') : op.wp Try.prog a w K Q := by
  obtain ⟨i, hi, hz, hsz, hby⟩ := info_parts info_wait
  have hown : w.ownsRow base 74 2 (.slice (some ⟨e1, 0, none⟩) 0 0) 0 [] := ⟨rfl, .inr ⟨e1, 0, #[], rfl, hb, hE, Nat.le_refl _, by simp [maxLen], rfl, rfl⟩⟩
  have hl : (waitCells zs).length = n * 2 := h.len
  have hnews : ∀ j u, (waitCells zs)[j]? = some u → w.cell? ((⟨b, o, none⟩ : Addr).add j) = some u := by
    intro j u hj
    have hj2 := (List.getElem?_eq_some_iff.1 hj).1
    obtain ⟨b', o', e, _, hc⟩ := h.at_ (by omega)
    injection e with e
    injection e with e1 e2
    subst e1 e2
    rw [Addr.add_lit]
    exact hc j u hj
  refine wp_append_own w s x 47 ho base 74 i _ 2 24 Try.underlying47 hi hz hsz hby rfl (by decide) _ 0 [] hs hown ⟨b, o, none⟩ n c (waitCells zs) hx hl hnews (fun u hu => by
    obtain ⟨z, _, hz⟩ := List.mem_flatMap.1 hu
    simp only [List.mem_cons, List.not_mem_nil, or_false] at hz
    rcases hz with rfl | rfl <;> rfl) (by unfold maxLen; omega) (by omega) (by have := hE.lt; omega) ?_
  intro v' w' hown' hg hv
  have hne : v' ≠ .slice none 0 0 := fun e => by have := (hv.1 e).1; cases this
  obtain ⟨g, ca, rfl, hbg, hrow⟩ := row_of_own hown' hne
  rw [Nat.zero_add]
  exact k g ca w' hbg hrow ⟨hg.os, hg.tape, hg.output, hg.size, fun k hk hn => hg.block k hk (fun e => by injection e with e; exact hn e)⟩
theorem wpList_app_waits {ops : Array Oper} {rest : List Oper} {op : Oper} {a : Act} {w : World} {Q : Exit → Act → World → Prop} (hgd : op.guard = none) {base e1 b o n c : Nat} {zs : List (Int × ByteArray)} (s x : Operand) (ho : op.op = .call { callee := .builtin .append, args := #[s, x], argTypes := #[47, 47] }) (hs : a.eval s = .slice (some ⟨e1, 0, none⟩) 0 0) (hx : a.eval x = .slice (some ⟨b, o, none⟩) n c) (hE : Bk w e1 74 #[]) (hb : base ≤ e1) (h : Rd w 2 (some ⟨b, o, none⟩) n (waitCells zs)) (hn : n ≤ 1048576)
    (k : ∀ g ca w', base ≤ g → Row w' g 74 (waitCells zs) → Fr (· = e1) w w' → wpList Try.prog ops Q rest (a.put op.dst (.slice (some ⟨g, 0, none⟩) n ca)) w') : wpList Try.prog ops Q (op :: rest) a w :=
  wpList_plain hgd fun _ hK => wp_app_waits s x ho hs hx hE hb h hn (fun g ca w' h1 h2 h3 => hK _ _ (k g ca w' h1 h2 h3))

set_option maxHeartbeats 1000000 in
theorem cloneS_any (b o n c : Nat) (zs : List ByteArray) (w : World) (h : Rd w 1 (some ⟨b, o, none⟩) n (zs.map Value.string)) (hn : n ≤ 1048576) :
    Calls Try.prog 81 #[.slice (some ⟨b, o, none⟩) n c] w fun r w' => ∃ g ca, r = .returned (.slice (some ⟨g, 0, none⟩) n ca) ∧ w.heap.size ≤ g ∧ Row w' g 9 (zs.map Value.string) ∧ Below w.heap.size w w' := by
  have qT : ∀ (w : World) (a : Option Addr) (n c n' c' : Nat), (binOp .eql 46 (.slice a n c) (.slice none n' c')).run Try.prog w = .ok (.bool a.isNone) w := fun w a n c n' c' => Lib.run_eql_slice_nil w _ _ a n c n' c' Try.underlying46
  have H := hide (h.after (bel1 w (.cells #[] 9)))
  clear h
  go_enter Try.func81, Try.ntmps81
  go_wp2_with (at_builtin; refine wpList_app_strs (base := w.heap.size) (by rfl) _ _ (by rfl) (by rfl) (by rfl) (Bk.fresh w 9 #[]) (Nat.le_refl _) H.out hn ?_; intro g ca w1 hg hrow hf; have HROW := hide hrow; have HB := hide ((bel1 w (.cells #[] 9)).trans (hf.below (by simp) (fun i e => by rw [e]; exact Nat.le_refl _))); clear hrow hf)
  go_ret
  exact ⟨g, ca, rfl, hg, HROW.out, HB.out⟩

/-- a copy of a disk -/
def CopyPost (z1 : List ByteArray) (z2 : List (Int × ByteArray)) (n1 n2 : Nat) (g : Bool) (w : World) (r : Ending) (w' : World) : Prop :=
  ∃ g1 g2 c1 c2 : Nat, r = .returned (.agg #[.slice (some ⟨g1, 0, none⟩) n1 c1, .slice (some ⟨g2, 0, none⟩) n2 c2, .bool g]) ∧ g1 ≠ g2 ∧ w.heap.size ≤ g1 ∧ w.heap.size ≤ g2 ∧
    Row w' g1 9 (z1.map Value.string) ∧ Row w' g2 74 (waitCells z2) ∧ Below w.heap.size w w'
theorem Bk.at_ {w : World} {g g' : Nat} {t : TypeId} {cs : Array Value} (h : Bk w g t cs) (e : g = g') : Bk w g' t cs := e ▸ h
theorem fresh_fr {S : Nat → Prop} {w0 w : World} (_ : Fr S w0 w) (t : TypeId) (cs : Array Value) : Bk (w.alloc (.cells cs t)) w.heap.size t cs := Bk.fresh _ _ _
theorem put3 {w : World} {g : Nat} {t : TypeId} {a b c : Value} (h : Bk w g t #[a, b, c]) (x y z : Value) : Bk (((w.setCell ⟨g, 0, none⟩ x).setCell ⟨g, 1, none⟩ y).setCell ⟨g, 2, none⟩ z) g t #[x, y, z] := ((h.put 0 x).put 1 y).put 2 z
theorem fr3 {w0 w : World} {S : Nat → Prop} {g : Nat} (h : Fr S w0 w) (hg : S g ∨ w0.heap.size ≤ g) (x y z : Value) : Fr S w0 (((w.setCell ⟨g, 0, none⟩ x).setCell ⟨g, 1, none⟩ y).setCell ⟨g, 2, none⟩ z) :=
  ((h.setCell (p := ⟨g, 0, none⟩) hg x).setCell (p := ⟨g, 1, none⟩) hg y).setCell (p := ⟨g, 2, none⟩) hg z
theorem Rd.fr1 {S : Nat → Prop} {w w' : World} {k b o n : Nat} {xs : List Value} (h : Rd w k (some ⟨b, o, none⟩) n xs) (hf : Fr S w w') (hb : ¬ S b) : Rd w' k (some ⟨b, o, none⟩) n xs :=
  h.fr hf (fun b' o' e => by injection e with e; injection e with e1 e2; rw [← e1]; exact hb)

set_option maxHeartbeats 8000000 in
theorem l3Copy_any (b1 o1 b2 o2 n1 n2 c1 c2 : Nat) (z1 : List ByteArray) (z2 : List (Int × ByteArray)) (g : Bool) (w : World) (h1 : Rd w 1 (some ⟨b1, o1, none⟩) n1 (z1.map Value.string)) (h2 : Rd w 2 (some ⟨b2, o2, none⟩) n2 (waitCells z2)) (m1 : n1 ≤ 1048576) (m2 : n2 ≤ 1048576) (lb1 : b1 < w.heap.size) (lb2 : b2 < w.heap.size) :
    Calls Try.prog 70 #[.agg #[.slice (some ⟨b1, o1, none⟩) n1 c1, .slice (some ⟨b2, o2, none⟩) n2 c2, .bool g]] w (CopyPost z1 z2 n1 n2 g w) := by
  obtain ⟨W0, HW0⟩ : ∃ W : World, W = ((w.alloc (.cells #[.slice (some ⟨b1, o1, none⟩) n1 c1, .slice (some ⟨b2, o2, none⟩) n2 c2, .bool g] 49)).alloc (.cells #[.slice none 0 0, .slice none 0 0, .bool false] 49)) := ⟨_, rfl⟩
  have hb : Below w.heap.size w W0 := by rw [HW0]; exact (((Below.refl _ _).alloc (Nat.le_refl _) _).alloc (by simp) _)
  have z0 : W0.heap.size = w.heap.size + 1 + 1 := by rw [HW0]; simp
  have K0 := hide (show Bk W0 w.heap.size 49 #[.slice (some ⟨b1, o1, none⟩) n1 c1, .slice (some ⟨b2, o2, none⟩) n2 c2, .bool g] by rw [HW0]; exact ((Bk.fresh _ _ _).alloc _))
  have K2 := hide (show Bk W0 (w.heap.size + 1) 49 #[.slice none 0 0, .slice none 0 0, .bool false] by
    rw [HW0]
    have h := Bk.fresh (w.alloc (.cells #[.slice (some ⟨b1, o1, none⟩) n1 c1, .slice (some ⟨b2, o2, none⟩) n2 c2, .bool g] 49)) 49 #[.slice none 0 0, .slice none 0 0, .bool false]
    rw [show (w.alloc (.cells #[.slice (some ⟨b1, o1, none⟩) n1 c1, .slice (some ⟨b2, o2, none⟩) n2 c2, .bool g] 49)).heap.size = w.heap.size + 1 by simp] at h
    exact h)
  have H1 := hide (h1.after hb)
  have H2 := hide (h2.after hb)
  have hb0 := hide hb
  have N1 := hide m1
  have N2 := hide m2
  clear h1 h2 hb m1 m2
  go_enter Try.func70, Try.ntmps70
  go_upto_region 1 with fail
  rw [← HW0]
  clear HW0
  have HZ0 := hide z0
  clear z0
  have K2 := hide (show Bk W0.drew (w.heap.size + 1) 49 #[.slice none 0 0, .slice none 0 0, .bool false] from K2.out)
  refine wp_region_held_drew (S := fun x => Fr (· = w.heap.size + 1) W0.drew x) (by kernel_rfl) (Fr.refl _ _) (fun hH0 => ?_)
  refine wpAnyH_take (i := 1) (v := ?_) rfl (by kernel_rfl) (by kernel_rfl) (by kernel_rfl) (fun _ _ _ h => h) (Or.inl ⟨by rfl, fun wS hS => ?_⟩) hH0 ?_
  rotate_left
  · have hKK := (show Bk W0.drew w.heap.size _ _ from K0.out).fr hS (show ¬ w.heap.size = w.heap.size + 1 by omega); obtain ⟨t0, t1, t2⟩ := hKK.c3; go_simp; try exact rfl
  simp only [Act.put, List.setIfInBounds_toArray, List.set_cons_zero, List.set_cons_succ, List.getElem_toArray, List.getElem_cons_zero, List.getElem_cons_succ]
  refine wpAnyH_take (i := 2) (v := ?_) rfl (by kernel_rfl) (by kernel_rfl) (by kernel_rfl) (fun _ _ _ h => h) (Or.inl ⟨by rfl, fun wS hS => ?_⟩) hH0 ?_
  rotate_left
  · have hKK := (show Bk W0.drew w.heap.size _ _ from K0.out).fr hS (show ¬ w.heap.size = w.heap.size + 1 by omega); obtain ⟨t0, t1, t2⟩ := hKK.c3; go_simp; try exact rfl
  simp only [Act.put, List.setIfInBounds_toArray, List.set_cons_zero, List.set_cons_succ, List.getElem_toArray, List.getElem_cons_zero, List.getElem_cons_succ]
  refine wpAnyH_take (i := 5) (v := ?_) rfl (by kernel_rfl) (by kernel_rfl) (by kernel_rfl) (fun _ _ _ h => h) (Or.inl ⟨by rfl, fun wS hS => ?_⟩) hH0 ?_
  rotate_left
  · have hKK := (show Bk W0.drew w.heap.size _ _ from K0.out).fr hS (show ¬ w.heap.size = w.heap.size + 1 by omega); obtain ⟨t0, t1, t2⟩ := hKK.c3; go_simp; try exact rfl
  simp only [Act.put, List.setIfInBounds_toArray, List.set_cons_zero, List.set_cons_succ, List.getElem_toArray, List.getElem_cons_zero, List.getElem_cons_succ]
  refine wpAnyH_take (i := 6) (v := ?_) rfl (by kernel_rfl) (by kernel_rfl) (by kernel_rfl) (fun _ _ _ h => h) (Or.inl ⟨by rfl, fun wS hS => ?_⟩) hH0 ?_
  rotate_left
  · have hKK := (show Bk W0.drew w.heap.size _ _ from K0.out).fr hS (show ¬ w.heap.size = w.heap.size + 1 by omega); obtain ⟨t0, t1, t2⟩ := hKK.c3; go_simp; try exact rfl
  simp only [Act.put, List.setIfInBounds_toArray, List.set_cons_zero, List.set_cons_succ, List.getElem_toArray, List.getElem_cons_zero, List.getElem_cons_succ]
  refine wpAnyH_take (i := 8) (v := ?_) rfl (by kernel_rfl) (by kernel_rfl) (by kernel_rfl) (fun _ _ _ h => h) (Or.inl ⟨by rfl, fun wS hS => ?_⟩) hH0 ?_
  rotate_left
  · have hKK := (show Bk W0.drew w.heap.size _ _ from K0.out).fr hS (show ¬ w.heap.size = w.heap.size + 1 by omega); obtain ⟨t0, t1, t2⟩ := hKK.c3; go_simp; try exact rfl
  simp only [Act.put, List.setIfInBounds_toArray, List.set_cons_zero, List.set_cons_succ, List.getElem_toArray, List.getElem_cons_zero, List.getElem_cons_succ]
  refine wpAnyH_take (i := 9) (v := ?_) rfl (by kernel_rfl) (by kernel_rfl) (by kernel_rfl) (fun _ _ _ h => h) (Or.inl ⟨by rfl, fun wS hS => ?_⟩) hH0 ?_
  rotate_left
  · have hKK := (show Bk W0.drew w.heap.size _ _ from K0.out).fr hS (show ¬ w.heap.size = w.heap.size + 1 by omega); obtain ⟨t0, t1, t2⟩ := hKK.c3; go_simp; try exact rfl
  simp only [Act.put, List.setIfInBounds_toArray, List.set_cons_zero, List.set_cons_succ, List.getElem_toArray, List.getElem_cons_zero, List.getElem_cons_succ]
  refine wpAnyH_ready (rs := [0, 4]) (by kernel_rfl) (by simp) (AllReadyH.cons rfl (fun K hK => ?_) (AllReadyH.cons rfl (fun K hK => ?_) (AllReadyH.nil)))
  · go_simp
    refine hK.out _ _ (hH0.alloc (.cells #[] 9)) (fun hH1 => ?_)
    clear hK K
    try simp only [Act.put]
    have HE1 : Hid (W0.heap.size ≤ W0.heap.size) := hide (by have := hH0.size; simp at this; omega)
    have K2 := hide (K2.out.alloc (.cells #[] 9))
    have E1 := hide ((fresh_fr hH0 9 #[]).at_ (g' := W0.heap.size) (by simp))
    refine wpAnyH_ready (rs := [3, 4]) (by kernel_rfl) (by simp) (AllReadyH.cons rfl (fun K hK => ?_) (AllReadyH.cons rfl (fun K hK => ?_) (AllReadyH.nil)))
    · rw [if_pos (by kernel_rfl)]
      refine wp_app_strs (base := W0.heap.size) _ _ (by rfl) (by rfl) (by rfl) E1.out HE1.out ((show Rd W0.drew _ _ _ _ from H1.out.after (Below.refl _ _).drew).fr1 hH1 (by omega)) N1.out ?_; intro g1 ca1 x1 hg1 hrow hf
      have C1 := hide hrow
      have HF := hide hf
      have hK2n : ¬ w.heap.size + 1 = _ := K2.out.ne_type E1.out (by decide)
      have K2 := hide (K2.out.fr hf hK2n)
      clear hrow hf hK2n
      refine hK.out _ _ (hH1.next HF.out (fun i _ e => .inr (by rw [e]; exact HE1.out))) (fun hH2 => ?_)
      clear hK K
      try simp only [Act.put]
      refine wpAnyH_ready (rs := [4]) (by kernel_rfl) (by simp) (AllReadyH.cons rfl (fun K hK => ?_) (AllReadyH.nil))
      go_simp
      refine hK.out _ _ (hH2.alloc (.cells #[] 74)) (fun hH3 => ?_)
      clear hK K
      try simp only [Act.put]
      have HE2 : Hid (W0.heap.size ≤ x1.heap.size) := hide (by have := hH2.size; simp at this; omega)
      have C1 := hide (C1.out.alloc (.cells #[] 74))
      have K2 := hide (K2.out.alloc (.cells #[] 74))
      have E2 := hide ((fresh_fr hH2 74 #[]).at_ (g' := x1.heap.size) (by simp))
      refine wpAnyH_ready (rs := [7]) (by kernel_rfl) (by simp) (AllReadyH.cons rfl (fun K hK => ?_) (AllReadyH.nil))
      rw [if_pos (by kernel_rfl)]
      refine wp_app_waits (base := W0.heap.size) _ _ (by rfl) (by rfl) (by rfl) E2.out HE2.out ((show Rd W0.drew _ _ _ _ from H2.out.after (Below.refl _ _).drew).fr1 hH3 (by omega)) N2.out ?_; intro g2 ca2 x2 hg2 hrow hf
      have C2 := hide hrow
      have HF := hide hf
      obtain ⟨cs1, hcs1, _⟩ := C1.out
      have hC1 := hcs1.ne_type E2.out (by decide)
      have C1 := hide (C1.out.fr hf hC1)
      clear hcs1
      have hK2n : ¬ w.heap.size + 1 = _ := K2.out.ne_type E2.out (by decide)
      have K2 := hide (K2.out.fr hf hK2n)
      clear hrow hf hK2n
      refine hK.out _ _ (hH3.next HF.out (fun i _ e => .inr (by rw [e]; exact HE2.out))) (fun hH4 => ?_)
      clear hK K
      try simp only [Act.put]
      refine wpAnyH_take (i := 10) (v := ?_) rfl (by kernel_rfl) (by kernel_rfl) (by kernel_rfl) (fun _ _ _ h => h) (Or.inl ⟨by rfl, fun wS hS => ?_⟩) hH4 ?_
      rotate_left
      · have hKK := (show Bk W0.drew w.heap.size _ _ from K0.out).fr hS (show ¬ w.heap.size = w.heap.size + 1 by omega); obtain ⟨t0, t1, t2⟩ := hKK.c3; go_simp; try exact rfl
      simp only [Act.put, List.setIfInBounds_toArray, List.set_cons_zero, List.set_cons_succ, List.getElem_toArray, List.getElem_cons_zero, List.getElem_cons_succ]
      refine wpAnyH_ready (rs := [11]) (by kernel_rfl) (by simp) (AllReadyH.cons rfl (fun K hK => ?_) (AllReadyH.nil))
      obtain ⟨s0, s1, s2⟩ := K2.out.c3
      have f0 := K2.out.frozen 0
      have f1 := K2.out.frozen 1
      have f2 := K2.out.frozen 2
      have P3 := hide (put3 K2.out (.slice (some ⟨g1, 0, none⟩) n1 ca1) (.slice (some ⟨g2, 0, none⟩) n2 ca2) (.bool g))
      have hgn : Hid (g1 ≠ g2) := by obtain ⟨cs1, hcs1, _⟩ := C1.out; obtain ⟨cs2, hcs2, _⟩ := C2.out; exact hide (hcs1.ne_type hcs2 (by decide))
      have P1 := hide (C1.out.fr (fr3 (Fr.refl (· = w.heap.size + 1) _) (.inl rfl) (.slice (some ⟨g1, 0, none⟩) n1 ca1) (.slice (some ⟨g2, 0, none⟩) n2 ca2) (.bool g)) (by have := hg1; have := HZ0.out; omega))
      have P2 := hide (C2.out.fr (fr3 (Fr.refl (· = w.heap.size + 1) _) (.inl rfl) (.slice (some ⟨g1, 0, none⟩) n1 ca1) (.slice (some ⟨g2, 0, none⟩) n2 ca2) (.bool g)) (by have := hg2; have := HZ0.out; omega))
      go_simp
      refine hK.out _ _ (fr3 hH4 (.inl rfl) (.slice (some ⟨g1, 0, none⟩) n1 ca1) (.slice (some ⟨g2, 0, none⟩) n2 ca2) (.bool g)) (fun hH5 => ?_)
      clear hK K
      try simp only [Act.put]
      clear s0 s1 s2 f0 f1 f2
      refine wpAnyH_done (by kernel_rfl) ?_ _
      go_wp2_with fail
      have hfin := hH5
      have HP3 := P3.out
      have HP1 := P1.out
      have HP2 := P2.out
      revert hfin HP3 HP1 HP2
      generalize hX : World.setCell (World.setCell (World.setCell _ _ _) _ _) _ _ = X
      intro hfin HP3 HP1 HP2
      obtain ⟨r0, r1, r2⟩ := HP3.c3
      refine bodyPost_ret (v := .agg #[.slice (some ⟨g1, 0, none⟩) n1 ca1, .slice (some ⟨g2, 0, none⟩) n2 ca2, .bool g]) (by simp [results, Try.results70, go_sem, r0, r1, r2]) rfl ?_
      exact ⟨g1, g2, ca1, ca2, rfl, hgn.out, (by have := HZ0.out; omega), (by have := HZ0.out; omega), HP1, HP2, hb0.out.drew.trans (hfin.below (show w.heap.size ≤ W0.drew.heap.size from hb0.out.size) (fun i e => by omega))⟩
    · go_simp
      refine hK.out _ _ (hH1.alloc (.cells #[] 74)) (fun hH2 => ?_)
      clear hK K
      try simp only [Act.put]
      have HE2 : Hid (W0.heap.size ≤ W0.heap.size + 1) := hide (by have := hH1.size; simp at this; omega)
      have E1 := hide (E1.out.alloc (.cells #[] 74))
      have K2 := hide (K2.out.alloc (.cells #[] 74))
      have E2 := hide ((fresh_fr hH1 74 #[]).at_ (g' := W0.heap.size + 1) (by simp))
      refine wpAnyH_ready (rs := [3]) (by kernel_rfl) (by simp) (AllReadyH.cons rfl (fun K hK => ?_) (AllReadyH.nil))
      rw [if_pos (by kernel_rfl)]
      refine wp_app_strs (base := W0.heap.size) _ _ (by rfl) (by rfl) (by rfl) E1.out HE1.out ((show Rd W0.drew _ _ _ _ from H1.out.after (Below.refl _ _).drew).fr1 hH2 (by omega)) N1.out ?_; intro g1 ca1 x1 hg1 hrow hf
      have C1 := hide hrow
      have HF := hide hf
      have hE2 := E2.out.ne_type E1.out (by decide)
      have E2 := hide (E2.out.fr hf hE2)
      have hK2n : ¬ w.heap.size + 1 = _ := K2.out.ne_type E1.out (by decide)
      have K2 := hide (K2.out.fr hf hK2n)
      clear hrow hf hK2n
      refine hK.out _ _ (hH2.next HF.out (fun i _ e => .inr (by rw [e]; exact HE1.out))) (fun hH3 => ?_)
      clear hK K
      try simp only [Act.put]
      refine wpAnyH_ready (rs := [7]) (by kernel_rfl) (by simp) (AllReadyH.cons rfl (fun K hK => ?_) (AllReadyH.nil))
      rw [if_pos (by kernel_rfl)]
      refine wp_app_waits (base := W0.heap.size) _ _ (by rfl) (by rfl) (by rfl) E2.out HE2.out ((show Rd W0.drew _ _ _ _ from H2.out.after (Below.refl _ _).drew).fr1 hH3 (by omega)) N2.out ?_; intro g2 ca2 x2 hg2 hrow hf
      have C2 := hide hrow
      have HF := hide hf
      obtain ⟨cs1, hcs1, _⟩ := C1.out
      have hC1 := hcs1.ne_type E2.out (by decide)
      have C1 := hide (C1.out.fr hf hC1)
      clear hcs1
      have hK2n : ¬ w.heap.size + 1 = _ := K2.out.ne_type E2.out (by decide)
      have K2 := hide (K2.out.fr hf hK2n)
      clear hrow hf hK2n
      refine hK.out _ _ (hH3.next HF.out (fun i _ e => .inr (by rw [e]; exact HE2.out))) (fun hH4 => ?_)
      clear hK K
      try simp only [Act.put]
      refine wpAnyH_take (i := 10) (v := ?_) rfl (by kernel_rfl) (by kernel_rfl) (by kernel_rfl) (fun _ _ _ h => h) (Or.inl ⟨by rfl, fun wS hS => ?_⟩) hH4 ?_
      rotate_left
      · have hKK := (show Bk W0.drew w.heap.size _ _ from K0.out).fr hS (show ¬ w.heap.size = w.heap.size + 1 by omega); obtain ⟨t0, t1, t2⟩ := hKK.c3; go_simp; try exact rfl
      simp only [Act.put, List.setIfInBounds_toArray, List.set_cons_zero, List.set_cons_succ, List.getElem_toArray, List.getElem_cons_zero, List.getElem_cons_succ]
      refine wpAnyH_ready (rs := [11]) (by kernel_rfl) (by simp) (AllReadyH.cons rfl (fun K hK => ?_) (AllReadyH.nil))
      obtain ⟨s0, s1, s2⟩ := K2.out.c3
      have f0 := K2.out.frozen 0
      have f1 := K2.out.frozen 1
      have f2 := K2.out.frozen 2
      have P3 := hide (put3 K2.out (.slice (some ⟨g1, 0, none⟩) n1 ca1) (.slice (some ⟨g2, 0, none⟩) n2 ca2) (.bool g))
      have hgn : Hid (g1 ≠ g2) := by obtain ⟨cs1, hcs1, _⟩ := C1.out; obtain ⟨cs2, hcs2, _⟩ := C2.out; exact hide (hcs1.ne_type hcs2 (by decide))
      have P1 := hide (C1.out.fr (fr3 (Fr.refl (· = w.heap.size + 1) _) (.inl rfl) (.slice (some ⟨g1, 0, none⟩) n1 ca1) (.slice (some ⟨g2, 0, none⟩) n2 ca2) (.bool g)) (by have := hg1; have := HZ0.out; omega))
      have P2 := hide (C2.out.fr (fr3 (Fr.refl (· = w.heap.size + 1) _) (.inl rfl) (.slice (some ⟨g1, 0, none⟩) n1 ca1) (.slice (some ⟨g2, 0, none⟩) n2 ca2) (.bool g)) (by have := hg2; have := HZ0.out; omega))
      go_simp
      refine hK.out _ _ (fr3 hH4 (.inl rfl) (.slice (some ⟨g1, 0, none⟩) n1 ca1) (.slice (some ⟨g2, 0, none⟩) n2 ca2) (.bool g)) (fun hH5 => ?_)
      clear hK K
      try simp only [Act.put]
      clear s0 s1 s2 f0 f1 f2
      refine wpAnyH_done (by kernel_rfl) ?_ _
      go_wp2_with fail
      have hfin := hH5
      have HP3 := P3.out
      have HP1 := P1.out
      have HP2 := P2.out
      revert hfin HP3 HP1 HP2
      generalize hX : World.setCell (World.setCell (World.setCell _ _ _) _ _) _ _ = X
      intro hfin HP3 HP1 HP2
      obtain ⟨r0, r1, r2⟩ := HP3.c3
      refine bodyPost_ret (v := .agg #[.slice (some ⟨g1, 0, none⟩) n1 ca1, .slice (some ⟨g2, 0, none⟩) n2 ca2, .bool g]) (by simp [results, Try.results70, go_sem, r0, r1, r2]) rfl ?_
      exact ⟨g1, g2, ca1, ca2, rfl, hgn.out, (by have := HZ0.out; omega), (by have := HZ0.out; omega), HP1, HP2, hb0.out.drew.trans (hfin.below (show w.heap.size ≤ W0.drew.heap.size from hb0.out.size) (fun i e => by omega))⟩
  · go_simp
    refine hK.out _ _ (hH0.alloc (.cells #[] 74)) (fun hH1 => ?_)
    clear hK K
    try simp only [Act.put]
    have HE2 : Hid (W0.heap.size ≤ W0.heap.size) := hide (by have := hH0.size; simp at this; omega)
    have K2 := hide (K2.out.alloc (.cells #[] 74))
    have E2 := hide ((fresh_fr hH0 74 #[]).at_ (g' := W0.heap.size) (by simp))
    refine wpAnyH_ready (rs := [0]) (by kernel_rfl) (by simp) (AllReadyH.cons rfl (fun K hK => ?_) (AllReadyH.nil))
    go_simp
    refine hK.out _ _ (hH1.alloc (.cells #[] 9)) (fun hH2 => ?_)
    clear hK K
    try simp only [Act.put]
    have HE1 : Hid (W0.heap.size ≤ W0.heap.size + 1) := hide (by have := hH1.size; simp at this; omega)
    have E2 := hide (E2.out.alloc (.cells #[] 9))
    have K2 := hide (K2.out.alloc (.cells #[] 9))
    have E1 := hide ((fresh_fr hH1 9 #[]).at_ (g' := W0.heap.size + 1) (by simp))
    refine wpAnyH_ready (rs := [3]) (by kernel_rfl) (by simp) (AllReadyH.cons rfl (fun K hK => ?_) (AllReadyH.nil))
    rw [if_pos (by kernel_rfl)]
    refine wp_app_strs (base := W0.heap.size) _ _ (by rfl) (by rfl) (by rfl) E1.out HE1.out ((show Rd W0.drew _ _ _ _ from H1.out.after (Below.refl _ _).drew).fr1 hH2 (by omega)) N1.out ?_; intro g1 ca1 x1 hg1 hrow hf
    have C1 := hide hrow
    have HF := hide hf
    have hE2 := E2.out.ne_type E1.out (by decide)
    have E2 := hide (E2.out.fr hf hE2)
    have hK2n : ¬ w.heap.size + 1 = _ := K2.out.ne_type E1.out (by decide)
    have K2 := hide (K2.out.fr hf hK2n)
    clear hrow hf hK2n
    refine hK.out _ _ (hH2.next HF.out (fun i _ e => .inr (by rw [e]; exact HE1.out))) (fun hH3 => ?_)
    clear hK K
    try simp only [Act.put]
    refine wpAnyH_ready (rs := [7]) (by kernel_rfl) (by simp) (AllReadyH.cons rfl (fun K hK => ?_) (AllReadyH.nil))
    rw [if_pos (by kernel_rfl)]
    refine wp_app_waits (base := W0.heap.size) _ _ (by rfl) (by rfl) (by rfl) E2.out HE2.out ((show Rd W0.drew _ _ _ _ from H2.out.after (Below.refl _ _).drew).fr1 hH3 (by omega)) N2.out ?_; intro g2 ca2 x2 hg2 hrow hf
    have C2 := hide hrow
    have HF := hide hf
    obtain ⟨cs1, hcs1, _⟩ := C1.out
    have hC1 := hcs1.ne_type E2.out (by decide)
    have C1 := hide (C1.out.fr hf hC1)
    clear hcs1
    have hK2n : ¬ w.heap.size + 1 = _ := K2.out.ne_type E2.out (by decide)
    have K2 := hide (K2.out.fr hf hK2n)
    clear hrow hf hK2n
    refine hK.out _ _ (hH3.next HF.out (fun i _ e => .inr (by rw [e]; exact HE2.out))) (fun hH4 => ?_)
    clear hK K
    try simp only [Act.put]
    refine wpAnyH_take (i := 10) (v := ?_) rfl (by kernel_rfl) (by kernel_rfl) (by kernel_rfl) (fun _ _ _ h => h) (Or.inl ⟨by rfl, fun wS hS => ?_⟩) hH4 ?_
    rotate_left
    · have hKK := (show Bk W0.drew w.heap.size _ _ from K0.out).fr hS (show ¬ w.heap.size = w.heap.size + 1 by omega); obtain ⟨t0, t1, t2⟩ := hKK.c3; go_simp; try exact rfl
    simp only [Act.put, List.setIfInBounds_toArray, List.set_cons_zero, List.set_cons_succ, List.getElem_toArray, List.getElem_cons_zero, List.getElem_cons_succ]
    refine wpAnyH_ready (rs := [11]) (by kernel_rfl) (by simp) (AllReadyH.cons rfl (fun K hK => ?_) (AllReadyH.nil))
    obtain ⟨s0, s1, s2⟩ := K2.out.c3
    have f0 := K2.out.frozen 0
    have f1 := K2.out.frozen 1
    have f2 := K2.out.frozen 2
    have P3 := hide (put3 K2.out (.slice (some ⟨g1, 0, none⟩) n1 ca1) (.slice (some ⟨g2, 0, none⟩) n2 ca2) (.bool g))
    have hgn : Hid (g1 ≠ g2) := by obtain ⟨cs1, hcs1, _⟩ := C1.out; obtain ⟨cs2, hcs2, _⟩ := C2.out; exact hide (hcs1.ne_type hcs2 (by decide))
    have P1 := hide (C1.out.fr (fr3 (Fr.refl (· = w.heap.size + 1) _) (.inl rfl) (.slice (some ⟨g1, 0, none⟩) n1 ca1) (.slice (some ⟨g2, 0, none⟩) n2 ca2) (.bool g)) (by have := hg1; have := HZ0.out; omega))
    have P2 := hide (C2.out.fr (fr3 (Fr.refl (· = w.heap.size + 1) _) (.inl rfl) (.slice (some ⟨g1, 0, none⟩) n1 ca1) (.slice (some ⟨g2, 0, none⟩) n2 ca2) (.bool g)) (by have := hg2; have := HZ0.out; omega))
    go_simp
    refine hK.out _ _ (fr3 hH4 (.inl rfl) (.slice (some ⟨g1, 0, none⟩) n1 ca1) (.slice (some ⟨g2, 0, none⟩) n2 ca2) (.bool g)) (fun hH5 => ?_)
    clear hK K
    try simp only [Act.put]
    clear s0 s1 s2 f0 f1 f2
    refine wpAnyH_done (by kernel_rfl) ?_ _
    go_wp2_with fail
    have hfin := hH5
    have HP3 := P3.out
    have HP1 := P1.out
    have HP2 := P2.out
    revert hfin HP3 HP1 HP2
    generalize hX : World.setCell (World.setCell (World.setCell _ _ _) _ _) _ _ = X
    intro hfin HP3 HP1 HP2
    obtain ⟨r0, r1, r2⟩ := HP3.c3
    refine bodyPost_ret (v := .agg #[.slice (some ⟨g1, 0, none⟩) n1 ca1, .slice (some ⟨g2, 0, none⟩) n2 ca2, .bool g]) (by simp [results, Try.results70, go_sem, r0, r1, r2]) rfl ?_
    exact ⟨g1, g2, ca1, ca2, rfl, hgn.out, (by have := HZ0.out; omega), (by have := HZ0.out; omega), HP1, HP2, hb0.out.drew.trans (hfin.below (show w.heap.size ≤ W0.drew.heap.size from hb0.out.size) (fun i e => by omega))⟩
end Go.Proofs.Ytcaoekaephnimaa
