/- What the draw of a disk keeps: new disks of the reference, a disk that is being drawn, one waiting write more. -/
import Derived.Test.YtcaoekaephnimaaQT
import Derived.Test.YtcaoekaephnimaaDiskFl
import Derived.Test.YtcaoekaephnimaaQT
import Derived.Deep.CutBlock
namespace Go.Proofs.Ytcaoekaephnimaa
open Go.RowKit
set_option linter.unusedVariables false
set_option maxRecDepth 100000

/-- a new disk of the reference: its waiting writes are never nil -/
def NewS (gone : Bool) (w : World) (r : Ending) (w' : World) : Prop :=
  ∃ g1 e : Nat, r = .returned (.agg #[.slice (some ⟨g1, 0, none⟩) 64 64, .slice (some ⟨e, 0, none⟩) 0 0, .bool gone]) ∧ w.heap.size ≤ g1 ∧ w.heap.size ≤ e ∧ Bk w' g1 9 (es64 ()) ∧ Bk w' e 74 #[] ∧ Below w.heap.size w w'
theorem newC (w : World) (o : Obj) (z : Array Value) (t : TypeId) (z2 : Array Value) (t2 : TypeId) : Bk (((w.alloc o).alloc (.cells z t)).alloc (.cells z2 t2)) (w.heap.size + 1) t z ∧ Bk (((w.alloc o).alloc (.cells z t)).alloc (.cells z2 t2)) (w.heap.size + 1 + 1) t2 z2 ∧ Below w.heap.size w (((w.alloc o).alloc (.cells z t)).alloc (.cells z2 t2)) := by
  obtain ⟨a, b⟩ := newA w o z t
  have h := Bk.fresh ((w.alloc o).alloc (.cells z t)) t2 z2
  rw [show ((w.alloc o).alloc (.cells z t)).heap.size = w.heap.size + 1 + 1 by simp] at h
  exact ⟨a.alloc _, h, b.alloc b.size _⟩
set_option maxHeartbeats 400000 in
theorem specDiskNewS (w : World) : Calls Try.prog 32 #[] w (NewS false w) := by
  have hmk : ∀ w, (Instr.makeSlice 46 (.int .i64 64) (.int .i64 64)).run Try.prog w = .ok (.slice (some ⟨w.heap.size, 0, none⟩) 64 64) (w.alloc (.cells (es64 ()) 9)) := fun w => make_strs 64 (by omega) w
  go_enter Try.func32, Try.ntmps32
  go_wp2
  obtain ⟨b1, b2, hb⟩ := newC w (.cells #[.slice (some ⟨w.heap.size + 1, 0, none⟩) 64 64, .slice (some ⟨w.heap.size + 1 + 1, 0, none⟩) 0 0, .bool false] 49) (es64 ()) 9 #[] 74
  refine bodyPost_ret (v := .agg #[.slice (some ⟨w.heap.size + 1, 0, none⟩) 64 64, .slice (some ⟨w.heap.size + 1 + 1, 0, none⟩) 0 0, .bool false]) (by simp [results, Try.results32, go_sem]) rfl ?_
  exact ⟨_, _, rfl, by omega, by omega, b1, b2, hb⟩
set_option maxHeartbeats 400000 in
theorem specDiskLoseS (w : World) : Calls Try.prog 78 #[] w (NewS true w) := by
  go_enter Try.func78, Try.ntmps78
  go_wp2_with fail
  refine (specDiskNewS _).mono ?_; rintro r w1 ⟨g1, e, rfl, hg, hge, hB, hE, hb⟩
  have K := hide hB
  have KE := hide hE
  have HB := hide hb
  have K0 := ((Bk.fresh w 49 #[.slice none 0 0, .slice none 0 0, .bool false]).after hb).alloc (.cells #[.slice (some ⟨g1, 0, none⟩) 64 64, .slice (some ⟨e, 0, none⟩) 0 0, .bool true] 49)
  obtain ⟨q0, q1, q2⟩ := K0.c3
  have f0 := K0.frozen 0
  have f1 := K0.frozen 1
  have f2 := K0.frozen 2
  have P := hide (((K0.put 0 (.slice (some ⟨g1, 0, none⟩) 64 64)).put 1 (.slice (some ⟨e, 0, none⟩) 0 0)).put 2 (.bool true))
  have hs := hb.size
  have he : (w.alloc (.cells #[.slice none 0 0, .slice none 0 0, .bool false] 49)).heap.size = w.heap.size + 1 := by simp
  rw [he] at hg hge hs
  clear hB hE hb K0
  go_wp2
  clear q0 q1 q2 f0 f1 f2
  obtain ⟨X, hX⟩ : ∃ X : World, X = (((w1.alloc (.cells #[.slice (some ⟨g1, 0, none⟩) 64 64, .slice (some ⟨e, 0, none⟩) 0 0, .bool true] 49)).setCell ⟨w.heap.size, 0, none⟩ (.slice (some ⟨g1, 0, none⟩) 64 64)).setCell ⟨w.heap.size, 1, none⟩ (.slice (some ⟨e, 0, none⟩) 0 0)).setCell ⟨w.heap.size, 2, none⟩ (.bool true) := ⟨_, rfl⟩
  rw [← hX] at P
  rw [← hX]
  obtain ⟨r0, r1, r2⟩ := Bk.c3 (a := .slice (some ⟨g1, 0, none⟩) 64 64) (b := .slice (some ⟨e, 0, none⟩) 0 0) (c := .bool true) P.out
  have hfin : Bk X g1 9 (es64 ()) ∧ Bk X e 74 #[] ∧ Below w.heap.size w X := by
    rw [hX]
    refine ⟨?_, ?_, ?_⟩
    · refine (((K.out.alloc _).far (p := ⟨w.heap.size, 0, none⟩) ?_ _).far (p := ⟨w.heap.size, 1, none⟩) ?_ _).far (p := ⟨w.heap.size, 2, none⟩) ?_ _
      all_goals
        show ¬ g1 = w.heap.size
        omega
    · refine (((KE.out.alloc _).far (p := ⟨w.heap.size, 0, none⟩) ?_ _).far (p := ⟨w.heap.size, 1, none⟩) ?_ _).far (p := ⟨w.heap.size, 2, none⟩) ?_ _
      all_goals
        show ¬ e = w.heap.size
        omega
    · have h1 := ((bel1 w (.cells #[.slice none 0 0, .slice none 0 0, .bool false] 49)).trans (HB.out.mono (by rw [he]; omega))).alloc (by omega) (.cells #[.slice (some ⟨g1, 0, none⟩) 64 64, .slice (some ⟨e, 0, none⟩) 0 0, .bool true] 49)
      exact ((h1.setCell (p := ⟨w.heap.size, 0, none⟩) (Nat.le_refl _) _).setCell (p := ⟨w.heap.size, 1, none⟩) (Nat.le_refl _) _).setCell (p := ⟨w.heap.size, 2, none⟩) (Nat.le_refl _) _
  clear hX
  refine bodyPost_ret (v := .agg #[.slice (some ⟨g1, 0, none⟩) 64 64, .slice (some ⟨e, 0, none⟩) 0 0, .bool true]) (by simp [results, Try.results78, go_sem, r0, r1, r2]) rfl ?_
  exact ⟨g1, e, rfl, by omega, by omega, hfin.1, hfin.2.1, hfin.2.2⟩

theorem es64_row {w : World} {g : Nat} (h : Bk w g 9 (es64 ())) : Row w g 9 ((List.replicate 64 (ByteArray.mk #[])).map Value.string) :=
  ⟨es64 (), h, by rw [es64_size]; simp, fun j hj => by
    have hj2 : j < 64 := by simpa using hj
    rw [List.getElem?_map, List.getElem?_replicate, if_pos hj2, Array.getElem?_eq_getElem (by rw [es64_size]; exact hj2)]
    simp [es64, madeCells, Nat.mod_one]⟩
theorem own_block_ty {w : World} {base n k : Nat} {e : TypeId} {v : Value} {xs : List Value} (h : w.ownsRow base e k v n xs) {i : Nat} (hi : some i = v.ownBlock) : base ≤ i ∧ ∃ cs, Bk w i e cs := by
  rcases h.2 with ⟨rfl, _⟩ | ⟨g, cap, cur, rfl, hb, hg, _⟩
  · simp [Value.ownBlock] at hi
  · simp only [Value.ownBlock, Option.some.injEq] at hi
    subst hi
    exact ⟨hb, cur, hg⟩
/-- a block of another type is not the row's -/
theorem own_block_ne {w : World} {base n k g : Nat} {e t : TypeId} {v : Value} {xs : List Value} {cs : Array Value} (h : w.ownsRow base e k v n xs) (hb : Bk w g t cs) (ht : t ≠ e) : ¬ some g = v.ownBlock := fun hi => by
  obtain ⟨_, cs', h'⟩ := own_block_ty h hi
  exact hb.ne_type h' ht rfl
theorem own_fr2 {S : Nat → Prop} {w w' : World} {base : Nat} {e : TypeId} {k n : Nat} {v : Value} {xs : List Value} (h : w.ownsRow base e k v n xs) (hf : Fr S w w') (hS : ∀ i, some i = v.ownBlock → ¬ S i) : w'.ownsRow base e k v n xs := by
  refine ⟨h.1, ?_⟩
  rcases h.2 with h2 | ⟨g, cap, cur, hv, hg, hh, r⟩
  · exact .inl h2
  · refine .inr ⟨g, cap, cur, hv, hg, ?_, r⟩
    rw [hf.block g (Array.getElem?_eq_some_iff.1 hh).1 (hS g (by rw [hv]; rfl))]
    exact hh
theorem waitCells_snoc (zs : List (Int × ByteArray)) (y : Int) (s : ByteArray) : waitCells (zs ++ [(y, s)]) = waitCells zs ++ [.int .i64 y, .string s] := by
  simp [waitCells, List.flatMap_append]

/-- a disk that is being drawn: the variable d is block g3, the result's is g2; U: the waits that d names, V: those that are laid -/
structure DkP (w0 : World) (R g2 g3 b1 : Nat) (U V : Value) (qm nm : Nat) (w : World) : Prop where
  k3 : Bk w g3 49 #[.slice (some ⟨b1, 0, none⟩) 64 64, U, .bool false]
  k2 : Bk w g2 49 #[.slice none 0 0, .slice none 0 0, .bool false]
  row : ∃ z1 : List ByteArray, Row w b1 9 (z1.map Value.string) ∧ z1.length = 64
  own : ∃ z2 : List (Int × ByteArray), (∃ b2 c, V = .slice (some ⟨b2, 0, none⟩) z2.length c) ∧ w.ownsRow w0.heap.size 74 2 V z2.length (waitCells z2) ∧ z2.length ≤ nm
  rd : ∃ q, q ≤ qm ∧ Rdr w R q
  fr : Fr (· = R) w0 w
  hR : R < w0.heap.size
  h2 : w0.heap.size ≤ g2
  h3 : g2 < g3
  h1 : w0.heap.size ≤ b1
section
variable {w0 w w' : World} {R g2 g3 b1 qm nm : Nat} {U V : Value}
theorem DkP.step (h : DkP w0 R g2 g3 b1 U V qm nm w) {S : Nat → Prop} (hf : Fr S w w') (hS : ∀ i, w0.heap.size ≤ i → ¬ S i) {q : Nat} (hr : Rdr w' R q) (hf0 : Fr (· = R) w w') : DkP w0 R g2 g3 b1 U V q nm w' := by
  obtain ⟨k3, k2, ⟨z1, hz1, hl⟩, ⟨z2, hv, ho, hn⟩, _, fr, hR, h2, h3, h1⟩ := h
  exact ⟨k3.fr hf (hS _ (by omega)), k2.fr hf (hS _ h2), ⟨z1, hz1.fr hf (hS _ h1), hl⟩, ⟨z2, hv, own_fr2 ho hf (fun i hi => hS i (own_block_ty ho hi).1), hn⟩, ⟨q, Nat.le_refl _, hr⟩, fr.trans hf0, hR, h2, h3, h1⟩
theorem DkP.call (h : DkP w0 R g2 g3 b1 U V qm nm w) (hf : Fr (· = R) w w') {q : Nat} (hr : Rdr w' R q) : DkP w0 R g2 g3 b1 U V q nm w' :=
  h.step hf (fun i hi e => by have := h.hR; omega) hr hf
theorem DkP.alloc (h : DkP w0 R g2 g3 b1 U V qm nm w) (o : Obj) : DkP w0 R g2 g3 b1 U V qm nm (w.alloc o) := by
  obtain ⟨q, hq, hr⟩ := h.rd
  have h2 := h.call ((Fr.refl (· = R) w).alloc o) (hr.after (bel1 w o))
  exact ⟨h2.k3, h2.k2, h2.row, h2.own, ⟨q, hq, h2.rd.elim fun q' hq' => hr.after (bel1 w o)⟩, h2.fr, h2.hR, h2.h2, h2.h3, h2.h1⟩
theorem DkP.drew (h : DkP w0 R g2 g3 b1 U V qm nm w) : DkP w0 R g2 g3 b1 U V qm nm w.drew := by
  obtain ⟨q, hq, hr⟩ := h.rd
  have hr2 : Rdr w.drew R q := hr.after (Below.refl _ w).drew
  have h2 := h.call (Fr.refl (· = R) w).drew hr2
  exact ⟨h2.k3, h2.k2, h2.row, h2.own, ⟨q, hq, hr2⟩, h2.fr, h2.hR, h2.h2, h2.h3, h2.h1⟩
theorem DkP.more (h : DkP w0 R g2 g3 b1 U V qm nm w) {qm' nm' : Nat} (hq : qm ≤ qm') (hn : nm ≤ nm') : DkP w0 R g2 g3 b1 U V qm' nm' w := by
  obtain ⟨k3, k2, rw_, ⟨z2, hv, ho, hn2⟩, ⟨q, hq2, hr⟩, fr, hR, h2, h3, h1⟩ := h
  exact ⟨k3, k2, rw_, ⟨z2, hv, ho, by omega⟩, ⟨q, by omega, hr⟩, fr, hR, h2, h3, h1⟩
/-- a cell is written -/
theorem DkP.put (h : DkP w0 R g2 g3 b1 U V qm nm w) (a : Nat) (s : ByteArray) : DkP w0 R g2 g3 b1 U V qm nm (w.setCell ⟨b1, a, none⟩ (.string s)) := by
  obtain ⟨k3, k2, ⟨z1, hz1, hl⟩, ⟨z2, hv, ho, hn⟩, ⟨q, hq, hr⟩, fr, hR, h2, h3, h1⟩ := h
  have hf : Fr (· = b1) w (w.setCell ⟨b1, a, none⟩ (.string s)) := (Fr.refl (fun x => x = b1) w).setCell (.inl rfl) _
  obtain ⟨cs, hcs, _⟩ := id hz1
  have n3 : g3 ≠ b1 := k3.ne_type hcs (by decide)
  have n2 : g2 ≠ b1 := k2.ne_type hcs (by decide)
  exact ⟨k3.fr hf n3, k2.fr hf n2, ⟨z1.set a s, hz1.put s, by rw [List.length_set]; exact hl⟩, ⟨z2, hv, own_fr2 ho hf (fun i hi e => own_block_ne ho hcs (by decide) (e ▸ hi)), hn⟩, ⟨q, hq, hr.fr hf (fun b hb => by omega)⟩, fr.setCell (p := ⟨b1, a, none⟩) (.inr h1) _, hR, h2, h3, h1⟩
/-- the variable takes the waits that are laid -/
theorem DkP.store (h : DkP w0 R g2 g3 b1 U V qm nm w) : DkP w0 R g2 g3 b1 V V qm nm (w.setCell ⟨g3, 1, none⟩ V) := by
  obtain ⟨k3, k2, ⟨z1, hz1, hl⟩, ⟨z2, hv, ho, hn⟩, ⟨q, hq, hr⟩, fr, hR, h2, h3, h1⟩ := h
  have hf : Fr (· = g3) w (w.setCell ⟨g3, 1, none⟩ V) := (Fr.refl (fun x => x = g3) w).setCell (.inl rfl) _
  obtain ⟨cs, hcs, _⟩ := id hz1
  have n3 : b1 ≠ g3 := fun e => k3.ne_type hcs (by decide) e.symm
  exact ⟨k3.put 1 V, k2.fr hf (by omega), ⟨z1, hz1.fr hf n3, hl⟩, ⟨z2, hv, own_fr2 ho hf (fun i hi e => own_block_ne ho k3 (by decide) (e ▸ hi)), hn⟩, ⟨q, hq, hr.fr hf (fun b hb => by omega)⟩, fr.setCell (p := ⟨g3, 1, none⟩) (.inr (by show w0.heap.size ≤ g3; omega)) _, hR, h2, h3, h1⟩
/-- one write more is laid -/
theorem DkP.app {V' : Value} {z2 : List (Int × ByteArray)} {b2 c : Nat} {y : Int} {s : ByteArray} (h : DkP w0 R g2 g3 b1 U V qm nm w) (ho : w.ownsRow w0.heap.size 74 2 V z2.length (waitCells z2)) (hn : z2.length ≤ nm) (hv : V' = .slice (some ⟨b2, 0, none⟩) (z2.length + 1) c)
    (ho' : w'.ownsRow w0.heap.size 74 2 V' (z2.length + 1) (waitCells (z2 ++ [(y, s)]))) (hf : Fr (fun i => some i = V.ownBlock) w w') : DkP w0 R g2 g3 b1 U V' qm (nm + 1) w' := by
  obtain ⟨k3, k2, ⟨z1, hz1, hl⟩, _, ⟨q, hq, hr⟩, fr, hR, h2, h3, h1⟩ := h
  obtain ⟨cs, hcs, _⟩ := id hz1
  exact ⟨k3.fr hf (own_block_ne ho k3 (by decide)), k2.fr hf (own_block_ne ho k2 (by decide)), ⟨z1, hz1.fr hf (own_block_ne ho hcs (by decide)), hl⟩,
    ⟨z2 ++ [(y, s)], ⟨b2, c, by rw [hv]; simp⟩, by rw [show (z2 ++ [(y, s)]).length = z2.length + 1 by simp]; exact ho', by simp; omega⟩, ⟨q, hq, hr.fr hf (fun b hb e => by have := (own_block_ty ho e).1; omega)⟩,
    fr.next hf (fun i _ e => .inr (own_block_ty ho e).1), hR, h2, h3, h1⟩
end
theorem DkP.mk_ {w0 w : World} {R g2 g3 b1 e q : Nat} (k3 : Bk w g3 49 #[.slice (some ⟨b1, 0, none⟩) 64 64, .slice (some ⟨e, 0, none⟩) 0 0, .bool false]) (k2 : Bk w g2 49 #[.slice none 0 0, .slice none 0 0, .bool false])
    (hb : Bk w b1 9 (es64 ())) (he : Bk w e 74 #[]) (hr : Rdr w R q) (hf : Fr (· = R) w0 w) (hR : R < w0.heap.size) (h2 : w0.heap.size ≤ g2) (h3 : g2 < g3) (h1 : w0.heap.size ≤ b1) (h4 : w0.heap.size ≤ e) :
    DkP w0 R g2 g3 b1 (.slice (some ⟨e, 0, none⟩) 0 0) (.slice (some ⟨e, 0, none⟩) 0 0) q 0 w :=
  ⟨k3, k2, ⟨_, es64_row hb, by simp⟩, ⟨[], ⟨e, 0, rfl⟩, ⟨rfl, .inr ⟨e, 0, #[], rfl, h4, he, Nat.le_refl _, by simp [maxLen], rfl, rfl⟩⟩, Nat.le_refl _⟩, ⟨q, Nat.le_refl _, hr⟩, hf, hR, h2, h3, h1⟩

/-- append(waits, one write) -/
theorem wp_app_wait {op : Oper} {a : Act} {w : World} {K : Act → World → Prop} {Q : Exit → Act → World → Prop} {base g : Nat} {V : Value} {zs : List (Int × ByteArray)} {y : Int} {s : ByteArray} (so xo : Operand) (ho : op.op = .call { callee := .builtin .append, args := #[so, xo], argTypes := #[47, 47] }) (hs : a.eval so = V) (hx : a.eval xo = .slice (some ⟨g, 0, none⟩) 1 1)
    (hown : w.ownsRow base 74 2 V zs.length (waitCells zs)) (hg : Bk w g 74 #[.int .i64 y, .string s]) (hn : zs.length ≤ 1000) (hb : base ≤ w.heap.size)
    (k : ∀ b2 c w', w'.ownsRow base 74 2 (.slice (some ⟨b2, 0, none⟩) (zs.length + 1) c) (zs.length + 1) (waitCells (zs ++ [(y, s)])) → Fr (fun i => some i = V.ownBlock) w w' → K (a.put op.dst (.slice (some ⟨b2, 0, none⟩) (zs.length + 1) c)) w') : op.wp Try.prog a w K Q := by
  obtain ⟨i, hi, hz, hsz, hby⟩ := info_parts info_wait
  refine wp_append_own w so xo 47 ho base 74 i _ 2 24 Try.underlying47 hi hz hsz hby rfl (by decide) _ _ _ hs hown ⟨g, 0, none⟩ 1 1 [.int .i64 y, .string s] hx rfl (fun j u hj => ?_) (fun u hu => ?_) (by unfold maxLen; omega) (by omega) hb ?_
  · rw [Addr.add_lit, Nat.zero_add, hg.cell]
    match j, hj with
    | 0, hj => exact hj
    | 1, hj => exact hj
    | j + 2, hj => simp at hj
  · simp only [List.mem_cons, List.not_mem_nil, or_false] at hu
    rcases hu with rfl | rfl <;> rfl
  · intro v' w' hown' hg' hv
    have hne : v' ≠ .slice none 0 0 := fun e => by have := (hv.1 e).2; cases this
    obtain ⟨b2, ca, rfl, hbg, hrow⟩ := row_of_own hown' hne
    rw [← waitCells_snoc] at hown'
    exact k b2 ca w' hown' ⟨hg'.os, hg'.tape, hg'.output, hg'.size, fun k hk hn => hg'.block k hk (fun e => hn e)⟩
theorem wpList_app_wait {ops : Array Oper} {rest : List Oper} {op : Oper} {a : Act} {w : World} {Q : Exit → Act → World → Prop} (hgd : op.guard = none) {base g : Nat} {V : Value} {zs : List (Int × ByteArray)} {y : Int} {s : ByteArray} (so xo : Operand) (ho : op.op = .call { callee := .builtin .append, args := #[so, xo], argTypes := #[47, 47] }) (hs : a.eval so = V) (hx : a.eval xo = .slice (some ⟨g, 0, none⟩) 1 1)
    (hown : w.ownsRow base 74 2 V zs.length (waitCells zs)) (hg : Bk w g 74 #[.int .i64 y, .string s]) (hn : zs.length ≤ 1000) (hb : base ≤ w.heap.size)
    (k : ∀ b2 c w', w'.ownsRow base 74 2 (.slice (some ⟨b2, 0, none⟩) (zs.length + 1) c) (zs.length + 1) (waitCells (zs ++ [(y, s)])) → Fr (fun i => some i = V.ownBlock) w w' → wpList Try.prog ops Q rest (a.put op.dst (.slice (some ⟨b2, 0, none⟩) (zs.length + 1) c)) w') : wpList Try.prog ops Q (op :: rest) a w :=
  wpList_plain hgd fun _ hK => wp_app_wait so xo ho hs hx hown hg hn hb (fun g ca w' h1 h2 => hK _ _ (k g ca w' h1 h2))

/-- a drawn disk -/
def DiskPost (R p d : Nat) (w : World) (r : Ending) (w' : World) : Prop :=
  ∃ (b1 o1 n1 c1 b2 n2 c2 : Nat) (g : Bool) (z1 : List ByteArray) (z2 : List (Int × ByteArray)) (q : Nat), r = .returned (.agg #[.slice (some ⟨b1, o1, none⟩) n1 c1, .slice (some ⟨b2, 0, none⟩) n2 c2, .bool g]) ∧
    n1 ≤ 64 ∧ n2 ≤ 1000 ∧ w.heap.size ≤ b1 ∧ w.heap.size ≤ b2 ∧ b1 < w'.heap.size ∧ b2 < w'.heap.size ∧ Rd w' 1 (some ⟨b1, o1, none⟩) n1 (z1.map Value.string) ∧ Rd w' 2 (some ⟨b2, 0, none⟩) n2 (waitCells z2) ∧ q ≤ p + d ∧ Rdr w' R q ∧ Fr (· = R) w w'
/-- behind the switch -/
structure DkO (w0 : World) (R g2 g3 b1 o1 n1 c1 b2 n2 c2 : Nat) (g : Bool) (qm : Nat) (w : World) : Prop where
  k3 : Bk w g3 49 #[.slice (some ⟨b1, o1, none⟩) n1 c1, .slice (some ⟨b2, 0, none⟩) n2 c2, .bool g]
  k2 : Bk w g2 49 #[.slice none 0 0, .slice none 0 0, .bool false]
  row : ∃ z1 : List ByteArray, Rd w 1 (some ⟨b1, o1, none⟩) n1 (z1.map Value.string)
  own : ∃ z2 : List (Int × ByteArray), Rd w 2 (some ⟨b2, 0, none⟩) n2 (waitCells z2)
  n1 : n1 ≤ 64
  n2 : n2 ≤ 1000
  b1 : w0.heap.size ≤ b1 ∧ b1 < w.heap.size ∧ b1 ≠ g2
  b2 : w0.heap.size ≤ b2 ∧ b2 < w.heap.size ∧ b2 ≠ g2
  rd : ∃ q, q ≤ qm ∧ Rdr w R q
  fr : Fr (· = R) w0 w
  hR : R < w0.heap.size
  h2 : w0.heap.size ≤ g2
theorem own_rd {w : World} {base n : Nat} {e : TypeId} {b2 c : Nat} {xs : List Value} (h : w.ownsRow base e 2 (.slice (some ⟨b2, 0, none⟩) n c) n xs) : Rd w 2 (some ⟨b2, 0, none⟩) n xs ∧ base ≤ b2 ∧ b2 < w.heap.size := by
  obtain ⟨g, ca, e1, hb, hrow⟩ := row_of_own h (fun e => by cases e)
  injection e1 with e1
  injection e1 with e1
  injection e1 with e1
  subst e1
  exact ⟨hrow.rd h.1, hb, hrow.lt⟩
theorem Row.rd_tail {w : World} {g : Nat} {t : TypeId} {z1 : List ByteArray} (h : Row w g t (z1.map Value.string)) (hl : z1.length = 64) : Rd w 1 (some ⟨g, 1, none⟩) 63 ((z1.drop 1).map Value.string) := by
  obtain ⟨cs, h1, h2, h3⟩ := h
  refine ⟨by simp [hl], fun _ => ⟨g, 1, rfl, h1.lt, fun j u hu => ?_⟩⟩
  have hj := (List.getElem?_eq_some_iff.1 hu).1
  rw [List.length_map, List.length_drop] at hj
  rw [h1.cell, h3 (1 + j) (by rw [List.length_map]; omega), ← hu, List.getElem?_map, List.getElem?_map, List.getElem?_drop]
theorem DkO.set {w0 w : World} {R g2 g3 b1 o1 n1 c1 b2 n2 c2 qm o1' n1' c1' : Nat} {g g' : Bool} (h : DkO w0 R g2 g3 b1 o1 n1 c1 b2 n2 c2 g qm w) (hb1 : b1 ≠ g3) (hb2 : b2 ≠ g3) (h3 : g2 < g3) (i : Nat) (u : Value)
    (hk : (#[.slice (some ⟨b1, o1, none⟩) n1 c1, .slice (some ⟨b2, 0, none⟩) n2 c2, .bool g].setIfInBounds i u : Array Value) = #[.slice (some ⟨b1, o1', none⟩) n1' c1', .slice (some ⟨b2, 0, none⟩) n2 c2, .bool g'])
    (hrow : ∃ z1 : List ByteArray, Rd w 1 (some ⟨b1, o1', none⟩) n1' (z1.map Value.string)) (hn1 : n1' ≤ 64) : DkO w0 R g2 g3 b1 o1' n1' c1' b2 n2 c2 g' qm (w.setCell ⟨g3, i, none⟩ u) := by
  have hf : Fr (· = g3) w (w.setCell ⟨g3, i, none⟩ u) := (Fr.refl (fun x => x = g3) w).setCell (.inl rfl) _
  obtain ⟨q, hq, hr⟩ := h.rd
  have hR := h.hR
  have h2 := h.h2
  exact ⟨by have := h.k3.put i u; rw [hk] at this; exact this, h.k2.fr hf (by omega), hrow.imp fun z hz => hz.fr1 hf hb1, h.own.imp fun z hz => hz.fr1 hf hb2, hn1, h.n2,
    ⟨h.b1.1, Nat.lt_of_lt_of_le h.b1.2.1 hf.size, h.b1.2.2⟩, ⟨h.b2.1, Nat.lt_of_lt_of_le h.b2.2.1 hf.size, h.b2.2.2⟩, ⟨q, hq, hr.fr hf (fun b hb => by omega)⟩, h.fr.setCell (p := ⟨g3, i, none⟩) (.inr (by show w0.heap.size ≤ g3; omega)) u, hR, h2⟩
/-- a disk is drawn, whatever it is -/
def DkX (w0 : World) (R g2 g3 qm : Nat) (w : World) : Prop := ∃ (b1 o1 n1 c1 b2 n2 c2 : Nat) (g : Bool), DkO w0 R g2 g3 b1 o1 n1 c1 b2 n2 c2 g qm w
theorem DkP.out_ {w0 w : World} {R g2 g3 b1 qm nm : Nat} {V : Value} (h : DkP w0 R g2 g3 b1 V V qm nm w) (hn : nm ≤ 1000) : ∃ b2 n2 c2, V = .slice (some ⟨b2, 0, none⟩) n2 c2 ∧ b1 ≠ g3 ∧ b2 ≠ g3 ∧ DkO w0 R g2 g3 b1 0 64 64 b2 n2 c2 false qm w := by
  obtain ⟨k3, k2, ⟨z1, hz1, hl⟩, ⟨z2, ⟨b2, c2, rfl⟩, ho, hn2⟩, rd, fr, hR, h2, h3, h1⟩ := h
  obtain ⟨hrd, hb, hlt⟩ := own_rd ho
  obtain ⟨cs, hcs, _⟩ := id hz1
  exact ⟨b2, z2.length, c2, rfl, fun e => k3.ne_type hcs (by decide) e.symm, fun e => own_block_ne ho k3 (by decide) (by rw [← e]; rfl), k3, k2, ⟨z1, hz1.rd (by simp [hl])⟩, ⟨z2, hrd⟩, Nat.le_refl _, by omega, ⟨h1, hcs.lt, hcs.ne_type k2 (by decide)⟩, ⟨hb, hlt, fun e => own_block_ne ho k2 (by decide) (by rw [← e]; rfl)⟩, rd, fr, hR, h2⟩
theorem DkP.x {w0 w : World} {R g2 g3 b1 qm nm qx : Nat} {V : Value} (h : DkP w0 R g2 g3 b1 V V qm nm w) (hq : qm ≤ qx) (hn : nm ≤ 1000) : DkX w0 R g2 g3 qx w := by
  obtain ⟨b2, n2, c2, _, _, _, hO⟩ := (h.more hq hn).out_ (Nat.le_refl _)
  exact ⟨_, _, _, _, _, _, _, _, hO⟩
theorem DkP.cut0 {w0 w : World} {R g2 g3 b1 qm nm qx : Nat} {V : Value} (h : DkP w0 R g2 g3 b1 V V qm nm w) (hq : qm ≤ qx) (hn : nm ≤ 1000) : DkX w0 R g2 g3 qx (w.setCell ⟨g3, 0, none⟩ (.slice (some ⟨b1, 1, none⟩) 63 63)) := by
  obtain ⟨b2, n2, c2, rfl, e1, e2, hO⟩ := (h.more hq hn).out_ (Nat.le_refl _)
  obtain ⟨z1, hz1, hl⟩ := h.row
  exact ⟨_, _, _, _, _, _, _, _, hO.set e1 e2 h.h3 0 _ rfl ⟨_, hz1.rd_tail hl⟩ (by omega)⟩
theorem DkP.gone {w0 w : World} {R g2 g3 b1 qm nm qx : Nat} {V : Value} (h : DkP w0 R g2 g3 b1 V V qm nm w) (hq : qm ≤ qx) (hn : nm ≤ 1000) : DkX w0 R g2 g3 qx (w.setCell ⟨g3, 2, none⟩ (.bool true)) := by
  obtain ⟨b2, n2, c2, rfl, e1, e2, hO⟩ := (h.more hq hn).out_ (Nat.le_refl _)
  exact ⟨_, _, _, _, _, _, _, _, hO.set e1 e2 h.h3 2 _ rfl hO.row (by omega)⟩
/-- a disk that is being drawn, between two rounds -/
def DkI (w0 : World) (R g2 g3 qm nm : Nat) (w : World) : Prop := ∃ b1 V, DkP w0 R g2 g3 b1 V V qm nm w
/-- the same with the number of waits -/
def DkN (w0 : World) (R g2 g3 qm n : Nat) (w : World) : Prop := ∃ b1 b2 c, DkP w0 R g2 g3 b1 (.slice (some ⟨b2, 0, none⟩) n c) (.slice (some ⟨b2, 0, none⟩) n c) qm n w
theorem DkI.n {w0 w : World} {R g2 g3 qm nm : Nat} (h : DkI w0 R g2 g3 qm nm w) : ∃ n, n ≤ nm ∧ DkN w0 R g2 g3 qm n w := by
  obtain ⟨b1, V, h⟩ := h
  obtain ⟨z2, ⟨b2, c, rfl⟩, ho, hn⟩ := id h.own
  exact ⟨z2.length, hn, b1, b2, c, h.k3, h.k2, h.row, ⟨z2, ⟨b2, c, rfl⟩, ho, Nat.le_refl _⟩, h.rd, h.fr, h.hR, h.h2, h.h3, h.h1⟩
/-- how many waits the variable names -/
def lenAt (g3 : Nat) (w : World) : Nat := match w.cell? ⟨g3, 1, none⟩ with | some v => lenOf v | none => 0
theorem DkP.len_ {w0 w : World} {R g2 g3 b1 qm nm b2 n c : Nat} (h : DkP w0 R g2 g3 b1 (.slice (some ⟨b2, 0, none⟩) n c) (.slice (some ⟨b2, 0, none⟩) n c) qm nm w) : lenAt g3 w = n := by
  unfold lenAt
  rw [h.k3.cell 1]
  rfl
theorem pickW {j : Nat} {l : List Int} (hj : j < l.length) : ∃ y : Int, (l.map (Value.int .i64))[j]? = some (.int .i64 y) := ⟨l[j], by simp [List.getElem?_eq_getElem hj]⟩
theorem fresh_w {w : World} {R p : Nat} (_ : Rdr w R p) (t : TypeId) (cs : Array Value) : Bk (w.alloc (.cells cs t)) w.heap.size t cs := Bk.fresh _ _ _
end Go.Proofs.Ytcaoekaephnimaa
