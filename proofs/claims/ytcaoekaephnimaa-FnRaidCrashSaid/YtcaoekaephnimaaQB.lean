/- What the draw of a raid keeps. -/
import Derived.Test.YtcaoekaephnimaaRaidPut
import Derived.Test.YtcaoekaephnimaaDrawDisk
import Derived.Test.YtcaoekaephnimaaQS
import Derived.Test.YtcaoekaephnimaaQP
import Derived.Test.YtcaoekaephnimaaQU
namespace Go.Proofs.Ytcaoekaephnimaa
open Go.RowKit
set_option linter.unusedVariables false
set_option maxRecDepth 100000

/-- a row of pointers: the first one's place is a cell of a disk -/
def Row5 (B : Nat) (w : World) (V : Value) (m : Nat) : Prop := ∃ xs : List Value, w.ownsRow B 95 5 V m xs ∧ (0 < m → ∃ a : Nat, a < 64 ∧ xs[0]? = some (.int .i64 a))
theorem Row5.after {B m : Nat} {w w' : World} {V : Value} (h : Row5 B w V m) (hb : Below w.heap.size w w') : Row5 B w' V m := by
  obtain ⟨xs, h1, h2⟩ := h
  exact ⟨xs, own_aftR h1 hb, h2⟩
theorem Row5.fr {B m : Nat} {S : Nat → Prop} {w w' : World} {V : Value} (h : Row5 B w V m) (hf : Fr S w w') (hS : ∀ i cs, Bk w i 95 cs → B ≤ i → ¬ S i) : Row5 B w' V m := by
  obtain ⟨xs, h1, h2⟩ := h
  refine ⟨xs, ⟨h1.1, ?_⟩, h2⟩
  rcases h1.2 with h3 | ⟨g, cap, cur, hv, hg, hb, r⟩
  · exact .inl h3
  · exact .inr ⟨g, cap, cur, hv, hg, Bk.fr hb hf (hS g cur hb hg), r⟩
theorem GR.not {B K : Nat} {w : World} {g c n i : Nat} {es : List DV} {t : TypeId} {cs : Array Value} (h : GR B K w g c n es) (hk : Bk w i t cs) (h1 : t ≠ 49) (h2 : t ≠ 9) : ¬ MB g es i := by
  rintro (rfl | ⟨d, hd, rfl⟩)
  · obtain ⟨x, hx, _⟩ := h.pl
    exact hk.ne_type hx.1 h1 rfl
  · obtain ⟨x, hx, _⟩ := (h.each d hd).1.r1
    exact hk.ne_type hx h2 rfl
theorem GR.ge {B K : Nat} {w : World} {g c n i : Nat} {es : List DV} (h : GR B K w g c n es) (hi : MB g es i) : B ≤ i := by
  rcases hi with rfl | ⟨d, hd, rfl⟩
  · exact h.base
  · exact (h.each d hd).1.base
/-- the state of the draw -/
structure RS (w0 : World) (R g2 g4 g c K q m : Nat) (V5 : Value) (es : List DV) (w : World) : Prop where
  gr : GR w0.heap.size K w g c 3 es
  k2 : Bk w g2 24 #[.slice none 0 0]
  k4 : Bk w g4 24 #[.slice (some ⟨g, 0, none⟩) 3 c]
  r5 : Row5 w0.heap.size w V5 m
  rd : Rdr w R q
  lt : R < w0.heap.size
  fr : Fr (· = R) w0 w
theorem RS.after {w0 : World} {R g2 g4 g c K q m : Nat} {V5 : Value} {es : List DV} {w w' : World} (h : RS w0 R g2 g4 g c K q m V5 es w) (hb : Below w.heap.size w w') : RS w0 R g2 g4 g c K q m V5 es w' :=
  ⟨h.gr.after hb, h.k2.after hb, h.k4.after hb, h.r5.after hb, h.rd.after hb, h.lt, h.fr.trans (Fr.of_below _ hb)⟩
/-- a step on the raid -/
theorem RS.step {w0 : World} {R g2 g4 g c K K' q m : Nat} {V5 : Value} {es es' : List DV} {w w' : World} (h : RS w0 R g2 g4 g c K q m V5 es w) (hg : GR w0.heap.size K' w' g c 3 es') (hf : Fr (MB g es) w w') : RS w0 R g2 g4 g c K' q m V5 es' w' :=
  ⟨hg, h.k2.fr hf (h.gr.not h.k2 (by decide) (by decide)), h.k4.fr hf (h.gr.not h.k4 (by decide) (by decide)), h.r5.fr hf (fun i cs hk _ => h.gr.not hk (by decide) (by decide)), h.rd.fr hf (fun b hb hm => by have := h.gr.ge hm; have := h.lt; omega), h.lt, h.fr.next hf (fun i _ hm => .inr (h.gr.ge hm))⟩
/-- a step of the reader -/
theorem RS.read {w0 : World} {R g2 g4 g c K q q' m : Nat} {V5 : Value} {es : List DV} {w w' : World} (h : RS w0 R g2 g4 g c K q m V5 es w) (hr : Rdr w' R q') (hf : Fr (· = R) w w') (h2 : w0.heap.size ≤ g2) (h4 : w0.heap.size ≤ g4) : RS w0 R g2 g4 g c K q' m V5 es w' := by
  have hlt := h.lt
  refine ⟨?_, h.k2.fr hf (by omega), h.k4.fr hf (by omega), h.r5.fr hf (fun i cs _ hi => by omega), hr, h.lt, h.fr.trans hf⟩
  obtain ⟨x, h1, h3⟩ := h.gr.pl
  refine ⟨⟨x, h1.fr hf (by have := h.gr.base; omega), h3⟩, h.gr.nc, h.gr.cm, h.gr.base, fun d hd => ⟨?_, (h.gr.each d hd).2⟩, h.gr.apart⟩
  have hm := (h.gr.each d hd).1
  exact hm.fr hf (by have := hm.base; omega) (by have := hm.base2; omega)
theorem info_ptr5 : (Try.prog.info? 95).map (fun i => (i.zero, i.size, i.bytes)) = some (some (.agg #[.int .i64 0, .int .i64 0, .int .i64 0, .int .i64 0, .int .i64 0]), 5, 40) := by kernel_rfl
/-- one pointer more -/
theorem wp_app_ptr5 {op : Oper} {a : Act} {w : World} {K : Act → World → Prop} {Q : Exit → Act → World → Prop} {base g m p1 : Nat} {p2 p3 p4 p5 : Int} {V : Value} (so xo : Operand) (ho : op.op = .call { callee := .builtin .append, args := #[so, xo], argTypes := #[68, 68] }) (hs : a.eval so = V) (hx : a.eval xo = .slice (some ⟨g, 0, none⟩) 1 1)
    (hr : Row5 base w V m) (hg : Bk w g 95 #[.int .i64 (p1 : Int), .int .i64 p2, .int .i64 p3, .int .i64 p4, .int .i64 p5]) (hp : p1 < 64) (hn : m ≤ 1000) (hb : base ≤ w.heap.size)
    (k : ∀ V' w', Row5 base w' V' (m + 1) → Fr (fun i => some i = V.ownBlock) w w' → K (a.put op.dst V') w') : op.wp Try.prog a w K Q := by
  obtain ⟨i, hi, hz, hsz, hby⟩ := info_parts info_ptr5
  obtain ⟨xs, hown, h0⟩ := hr
  refine wp_append_own w so xo 68 ho base 95 i _ 5 40 Try.underlying68 hi hz hsz hby rfl (by decide) _ _ _ hs hown ⟨g, 0, none⟩ 1 1 [.int .i64 (p1 : Int), .int .i64 p2, .int .i64 p3, .int .i64 p4, .int .i64 p5] hx rfl (fun j u hj => ?_) (fun u hu => ?_) (by unfold maxLen; omega) (by omega) hb ?_
  · rw [Addr.add_lit, Nat.zero_add, hg.cell]
    match j, hj with
    | 0, hj => exact hj
    | 1, hj => exact hj
    | 2, hj => exact hj
    | 3, hj => exact hj
    | 4, hj => exact hj
    | j + 5, hj => simp at hj
  · simp only [List.mem_cons, List.not_mem_nil, or_false] at hu
    rcases hu with rfl | rfl | rfl | rfl | rfl <;> rfl
  · intro v' w' hown' hg' hv
    refine k v' w' ⟨_, hown', fun _ => ?_⟩ ⟨hg'.os, hg'.tape, hg'.output, hg'.size, fun k hk hn => hg'.block k hk (fun e => hn e)⟩
    have hl : xs.length = m * 5 := hown.1
    by_cases hm : 0 < m
    · obtain ⟨a, ha, e⟩ := h0 hm
      exact ⟨a, ha, by rw [List.getElem?_append_left (by omega)]; exact e⟩
    · exact ⟨p1, hp, by rw [List.getElem?_append_right (by omega), show 0 - xs.length = 0 by omega]; rfl⟩
theorem wpList_app_ptr5 {ops : Array Oper} {rest : List Oper} {op : Oper} {a : Act} {w : World} {Q : Exit → Act → World → Prop} (hgd : op.guard = none) {base g m p1 : Nat} {p2 p3 p4 p5 : Int} {V : Value} (so xo : Operand) (ho : op.op = .call { callee := .builtin .append, args := #[so, xo], argTypes := #[68, 68] }) (hs : a.eval so = V) (hx : a.eval xo = .slice (some ⟨g, 0, none⟩) 1 1)
    (hr : Row5 base w V m) (hg : Bk w g 95 #[.int .i64 (p1 : Int), .int .i64 p2, .int .i64 p3, .int .i64 p4, .int .i64 p5]) (hp : p1 < 64) (hn : m ≤ 1000) (hb : base ≤ w.heap.size)
    (k : ∀ V' w', Row5 base w' V' (m + 1) → Fr (fun i => some i = V.ownBlock) w w' → wpList Try.prog ops Q rest (a.put op.dst V') w') : wpList Try.prog ops Q (op :: rest) a w :=
  wpList_plain hgd fun _ hK => wp_app_ptr5 so xo ho hs hx hr hg hp hn hb (fun V' w' h1 h2 => hK _ _ (k V' w' h1 h2))
theorem Row5.own {B m i : Nat} {w : World} {V : Value} (h : Row5 B w V m) (hi : some i = V.ownBlock) : B ≤ i ∧ ∃ cs, Bk w i 95 cs := by
  obtain ⟨xs, h1, _⟩ := h
  rcases h1.2 with ⟨e, _⟩ | ⟨g, cap, cur, e, hb, hg, _⟩
  · rw [e] at hi; cases hi
  · rw [e] at hi
    cases hi
    exact ⟨hb, cur, hg⟩
/-- one pointer more in the state -/
theorem RS.app {w0 : World} {R g2 g4 g c K q m m' : Nat} {V5 V' : Value} {es : List DV} {w w' : World} (h : RS w0 R g2 g4 g c K q m V5 es w) (hr : Row5 w0.heap.size w' V' m') (hf : Fr (fun i => some i = V5.ownBlock) w w') : RS w0 R g2 g4 g c K q m' V' es w' := by
  have hT : ∀ (t : TypeId) i cs, Bk w i t cs → t ≠ 95 → ¬ some i = V5.ownBlock := fun t i cs hk ht hi => by
    obtain ⟨_, cs', hk'⟩ := h.r5.own hi
    exact hk.ne_type hk' ht rfl
  refine ⟨?_, h.k2.fr hf (hT _ _ _ h.k2 (by decide)), h.k4.fr hf (hT _ _ _ h.k4 (by decide)), hr, h.rd.fr hf (fun b hb hi => by have := (h.r5.own hi).1; have := h.lt; omega), h.lt, h.fr.next hf (fun i _ hi => .inr (h.r5.own hi).1)⟩
  obtain ⟨x, h1, h3⟩ := h.gr.pl
  refine ⟨⟨x, h1.fr hf (hT _ _ _ h1.1 (by decide)), h3⟩, h.gr.nc, h.gr.cm, h.gr.base, fun d hd => ⟨?_, (h.gr.each d hd).2⟩, h.gr.apart⟩
  have hm := (h.gr.each d hd).1
  obtain ⟨y1, hy1, _⟩ := hm.r1
  obtain ⟨y2, hy2, _⟩ := hm.r2
  exact hm.fr hf (hT _ _ _ hy1 (by decide)) (hT _ _ _ hy2 (by decide))
/-- the raid's box written anew with the same value -/
theorem RS.box {w0 : World} {R g2 g4 g c K q m : Nat} {V5 : Value} {es : List DV} {w : World} (h : RS w0 R g2 g4 g c K q m V5 es w) (h4 : w0.heap.size ≤ g4) : RS w0 R g2 g4 g c K q m V5 es (w.setCell ⟨g4, 0, none⟩ (.slice (some ⟨g, 0, none⟩) 3 c)) := by
  have hf := (Fr.refl (fun i => i = g4) w).setCell (p := ⟨g4, 0, none⟩) (.inl rfl) (.slice (some ⟨g, 0, none⟩) 3 c)
  have hne : g2 ≠ g4 := fun e => by
    have e1 := h.k4
    rw [← e] at e1
    have e2 := h.k2
    unfold Bk at e1 e2
    rw [e1] at e2
    simp at e2
  exact ⟨h.gr.box h.k4, h.k2.fr hf hne, h.k4.put 0 _, h.r5.fr hf (fun i cs hk _ hi => by subst hi; exact hk.ne_type h.k4 (by decide) rfl), h.rd.fr hf (fun b hb hi => by have := h.lt; omega), h.lt, h.fr.next hf (fun i _ hi => .inr (by rw [hi]; exact h4))⟩
end Go.Proofs.Ytcaoekaephnimaa

/- What the draw of a raid ends with. -/
namespace Go.Proofs.Ytcaoekaephnimaa
open Go.RowKit
set_option linter.unusedVariables false
set_option maxRecDepth 100000

/-- every block of a disk lies behind B and is neither g nor h -/
def DV.Up (B g h : Nat) (d : DV) : Prop := ∀ b o, (d.A1 = some ⟨b, o, none⟩ ∨ d.A2 = some ⟨b, o, none⟩) → B < b ∧ b ≠ g ∧ b ≠ h
theorem DV.In.frU {S : Nat → Prop} {w w' : World} {d : DV} (h : d.In w) (hf : Fr S w w') (hS : ∀ b o, (d.A1 = some ⟨b, o, none⟩ ∨ d.A2 = some ⟨b, o, none⟩) → ¬ S b) : d.In w' :=
  ⟨h.1.fr hf (fun b o e => hS b o (.inl e)), h.2.1.fr hf (fun b o e => hS b o (.inr e)), h.2.2⟩
theorem DV.Src.frU {S : Nat → Prop} {w w' : World} {d : DV} (h : d.Src w) (hf : Fr S w w') (hS : ∀ b o, (d.A1 = some ⟨b, o, none⟩ ∨ d.A2 = some ⟨b, o, none⟩) → ¬ S b) : d.Src w' := by
  obtain ⟨b1, o1, e1, l1⟩ := h.a1
  obtain ⟨b2, o2, e2, l2⟩ := h.a2
  exact ⟨h.in_.frU hf hS, ⟨b1, o1, e1, Nat.lt_of_lt_of_le l1 hf.size⟩, ⟨b2, o2, e2, Nat.lt_of_lt_of_le l2 hf.size⟩, h.m1, h.m2⟩
theorem DV.Src.has {w : World} {d : DV} (h : d.Src w) : d.Has w := ⟨h.in_, h.m2, .inl h.a2⟩
/-- the state behind the draw's first switch -/
structure PS (w0 : World) (R g2 g4 g c q : Nat) (es : List DV) (w : World) : Prop where
  pl : ∃ cs, PlS w g cs 3 es ∧ cs.size = c * 3
  nc : 3 ≤ c
  cm : c ≤ maxLen
  gb : w0.heap.size < g
  each : ∀ d ∈ es, d.Src w ∧ d.Up w0.heap.size g g4
  k2 : Bk w g2 24 #[.slice none 0 0]
  k4 : Bk w g4 24 #[.slice (some ⟨g, 0, none⟩) 3 c]
  rd : Rdr w R q
  lt : R < w0.heap.size
  fr : Fr (· = R) w0 w
theorem RS.ps {w0 : World} {R g2 g4 g c K q m : Nat} {V5 : Value} {es : List DV} {w : World} (h : RS w0 R g2 g4 g c K q m V5 es w) (h2 : g2 = w0.heap.size) : PS w0 R g2 g4 g c q es w := by
  obtain ⟨cs, h1, h3⟩ := h.gr.pl
  have hg : g ≠ g2 := h1.1.ne_type h.k2 (by decide)
  refine ⟨⟨cs, h1, h3⟩, h.gr.nc, h.gr.cm, by have := h.gr.base; omega, fun d hd => ?_, h.k2, h.k4, h.rd, h.lt, h.fr⟩
  have hm := (h.gr.each d hd).1
  refine ⟨hm.src, ?_⟩
  obtain ⟨y1, hy1, _⟩ := hm.r1
  obtain ⟨y2, hy2, _⟩ := hm.r2
  have n1 : d.b ≠ g2 := hy1.ne_type h.k2 (by decide)
  have n2 : d.b2 ≠ g2 := hy2.ne_type h.k2 (by decide)
  have m1 := hm.base
  have m2 := hm.base2
  rintro b o (e | e)
  · rw [hm.a1] at e
    injection e with e
    injection e with e
    rw [← e]
    exact ⟨by omega, hy1.ne_type h1.1 (by decide), hy1.ne_type h.k4 (by decide)⟩
  · rw [hm.a2] at e
    injection e with e
    injection e with e
    rw [← e]
    exact ⟨by omega, hy2.ne_type h1.1 (by decide), hy2.ne_type h.k4 (by decide)⟩
theorem PS.fr_ {w0 : World} {R g2 g4 g c q q' : Nat} {es : List DV} {w w' : World} {S : Nat → Prop} (h : PS w0 R g2 g4 g c q es w) (hf : Fr S w w') (hS : ∀ i, w0.heap.size ≤ i → i < w.heap.size → ¬ S i) (h2 : w0.heap.size ≤ g2) (h4 : w0.heap.size ≤ g4) (hR : ∀ i, S i → i = R ∨ w.heap.size ≤ i) (hr : Rdr w' R q') : PS w0 R g2 g4 g c q' es w' := by
  obtain ⟨cs, h1, h3⟩ := h.pl
  refine ⟨⟨cs, h1.fr hf (hS g (Nat.le_of_lt h.gb) h1.1.lt), h3⟩, h.nc, h.cm, h.gb, fun d hd => ?_, h.k2.fr hf (hS _ h2 h.k2.lt), h.k4.fr hf (hS _ h4 h.k4.lt), hr, h.lt, h.fr.next hf (fun i _ hi => ?_)⟩
  · obtain ⟨hs, hu⟩ := h.each d hd
    refine ⟨hs.frU hf (fun b o e => hS b (Nat.le_of_lt (hu b o e).1) ?_), hu⟩
    obtain ⟨b1, o1, e1, l1⟩ := hs.a1
    obtain ⟨b2, o2, e2, l2⟩ := hs.a2
    rcases e with e | e
    · rw [e1] at e; injection e with e; injection e with e; omega
    · rw [e2] at e; injection e with e; injection e with e; omega
  · rcases hR i hi with e | e
    · exact .inl e
    · exact .inr (Nat.le_trans h.fr.size e)
theorem PS.after {w0 : World} {R g2 g4 g c q : Nat} {es : List DV} {w w' : World} (h : PS w0 R g2 g4 g c q es w) (hb : Below w.heap.size w w') (h2 : w0.heap.size ≤ g2) (h4 : w0.heap.size ≤ g4) : PS w0 R g2 g4 g c q es w' :=
  h.fr_ (Fr.of_below (fun _ => False) hb) (fun _ _ _ e => e) h2 h4 (fun _ e => e.elim) (h.rd.after hb)
theorem PS.read {w0 : World} {R g2 g4 g c q q' : Nat} {es : List DV} {w w' : World} (h : PS w0 R g2 g4 g c q es w) (hr : Rdr w' R q') (hf : Fr (· = R) w w') (h2 : w0.heap.size ≤ g2) (h4 : w0.heap.size ≤ g4) : PS w0 R g2 g4 g c q' es w' :=
  h.fr_ hf (fun i hi _ e => by have := h.lt; omega) h2 h4 (fun i e => .inl e) hr
/-- one disk put anew -/
theorem PS.put {w0 : World} {R g2 g4 g c q k : Nat} {es : List DV} {e : DV} {w : World} (h : PS w0 R g2 g4 g c q es w) (hk : k < 3) (he : e.Src w) (hu : e.Up w0.heap.size g g4) :
    PS w0 R g2 g4 g c q (es.set k e) (((w.setCell ⟨g, k * 3, none⟩ (.slice e.A1 e.n1 e.c1)).setCell ⟨g, k * 3 + 1, none⟩ (.slice e.A2 e.n2 e.c2)).setCell ⟨g, k * 3 + 2, none⟩ (.bool e.g)) := by
  obtain ⟨cs, h1, h3⟩ := h.pl
  have hf : Fr (fun i => i = g) w (((w.setCell ⟨g, k * 3, none⟩ (.slice e.A1 e.n1 e.c1)).setCell ⟨g, k * 3 + 1, none⟩ (.slice e.A2 e.n2 e.c2)).setCell ⟨g, k * 3 + 2, none⟩ (.bool e.g)) := (((Fr.refl (fun i => i = g) w).setCell (p := ⟨g, k * 3, none⟩) (.inl rfl) _).setCell (p := ⟨g, k * 3 + 1, none⟩) (.inl rfl) _).setCell (p := ⟨g, k * 3 + 2, none⟩) (.inl rfl) _
  refine ⟨⟨_, h1.put hk e, by simp only [Array.size_setIfInBounds]; exact h3⟩, h.nc, h.cm, h.gb, fun d hd => ?_, h.k2.fr hf (h.k2.ne_type h1.1 (by decide)), h.k4.fr hf (h.k4.ne_type h1.1 (by decide)), h.rd.fr hf (fun b hb hi => by have := h.lt; have := h.gb; omega), h.lt, h.fr.next hf (fun i _ hi => .inr (by have := h.gb; omega))⟩
  have key : ∀ d : DV, d.Src w ∧ d.Up w0.heap.size g g4 → d.Src (((w.setCell ⟨g, k * 3, none⟩ (.slice e.A1 e.n1 e.c1)).setCell ⟨g, k * 3 + 1, none⟩ (.slice e.A2 e.n2 e.c2)).setCell ⟨g, k * 3 + 2, none⟩ (.bool e.g)) ∧ d.Up w0.heap.size g g4 := fun d hd => ⟨hd.1.frU hf (fun b o eb => (hd.2 b o eb).2.1), hd.2⟩
  rcases List.mem_or_eq_of_mem_set hd with hx | rfl
  · exact key d (h.each d hx)
  · exact key _ ⟨he, hu⟩
theorem PS.rin {w0 : World} {R g2 g4 g c q : Nat} {es : List DV} {w : World} (h : PS w0 R g2 g4 g c q es w) : RIn w (some ⟨g, 0, none⟩) 3 es := by
  obtain ⟨cs, ⟨h1, h2, h3, h4⟩, _⟩ := h.pl
  have hl : (rCells es).length = 9 := by rw [rCells_len, h3]
  exact ⟨h1.rd hl (fun j u hu => by rw [h4 j (by have := (List.getElem?_eq_some_iff.1 hu).1; omega)]; exact hu), fun d hd => (h.each d hd).1.in_⟩
theorem rCells_tail (es : List DV) (j : Nat) : (rCells es.tail)[j]? = (rCells es)[3 + j]? ∨ es = [] := by
  match es with
  | [] => exact .inr rfl
  | e :: es =>
    refine .inl ?_
    show (rCells es)[j]? = (e.cells ++ rCells es)[3 + j]?
    rw [List.getElem?_append_right (by show 3 ≤ 3 + j; omega)]
    congr 1
    show j = 3 + j - 3
    omega
theorem PS.rin1 {w0 : World} {R g2 g4 g c q : Nat} {es : List DV} {w : World} (h : PS w0 R g2 g4 g c q es w) : RIn w (some ⟨g, 3, none⟩) 2 es.tail := by
  obtain ⟨cs, ⟨h1, h2, h3, h4⟩, _⟩ := h.pl
  have hl : (rCells es.tail).length = 6 := by rw [rCells_len, List.length_tail, h3]
  refine ⟨⟨hl, fun _ => ⟨g, 3, rfl, h1.lt, fun j u hu => ?_⟩⟩, fun d hd => (h.each d (List.mem_of_mem_tail hd)).1.in_⟩
  have hj := (List.getElem?_eq_some_iff.1 hu).1
  rw [h1.cell, h4 (3 + j) (by omega)]
  rcases rCells_tail es j with e | e
  · rw [← e]; exact hu
  · subst e; cases h3
theorem RIn.frU {S : Nat → Prop} {w w' : World} {A : Option Addr} {n : Nat} {es : List DV} (h : RIn w A n es) (hf : Fr S w w') (hA : ∀ b o, A = some ⟨b, o, none⟩ → ¬ S b) (hS : ∀ d ∈ es, ∀ b o, (d.A1 = some ⟨b, o, none⟩ ∨ d.A2 = some ⟨b, o, none⟩) → ¬ S b) : RIn w' A n es :=
  ⟨h.1.fr hf hA, fun d hd => (h.2 d hd).frU hf (hS d hd)⟩
/-- a drawn raid in memory: behind the block B -/
structure RDn (B : Nat) (w : World) (A : Option Addr) (n : Nat) (es : List DV) : Prop where
  n3 : n ≤ 3
  rin : RIn w A n es
  src : ∀ d ∈ es, d.Src w
  up : ∀ d ∈ es, ∀ b o, (d.A1 = some ⟨b, o, none⟩ ∨ d.A2 = some ⟨b, o, none⟩) → B < b
  upA : ∀ b o, A = some ⟨b, o, none⟩ → B < b
theorem RDn.after {B : Nat} {w w' : World} {A : Option Addr} {n : Nat} {es : List DV} (h : RDn B w A n es) (hb : Below w.heap.size w w') : RDn B w' A n es := ⟨h.n3, h.rin.after hb, fun d hd => (h.src d hd).after hb, h.up, h.upA⟩
theorem RDn.fr_ {B : Nat} {S : Nat → Prop} {w w' : World} {A : Option Addr} {n : Nat} {es : List DV} (h : RDn B w A n es) (hf : Fr S w w') (hS : ∀ b, B < b → ¬ S b) : RDn B w' A n es :=
  ⟨h.n3, h.rin.frU hf (fun b o e => hS b (h.upA b o e)) (fun d hd b o e => hS b (h.up d hd b o e)), fun d hd => (h.src d hd).frU hf (fun b o e => hS b (h.up d hd b o e)), h.up, h.upA⟩
/-- what the draw hands back -/
theorem PS.fin {w0 : World} {R g2 g4 g c q : Nat} {es : List DV} {w w' : World} (h : PS w0 R g2 g4 g c q es w) (h2 : g2 = w0.heap.size) (h4 : w0.heap.size ≤ g4) (hf : Fr (fun i => i = g2 ∨ i = g4) w w') :
    RDn w0.heap.size w' (some ⟨g, 0, none⟩) 3 es ∧ RDn w0.heap.size w' (some ⟨g, 3, none⟩) 2 es.tail ∧ Rdr w' R q ∧ Fr (· = R) w0 w' := by
  obtain ⟨cs, h1, _⟩ := h.pl
  have hg : ¬ (g = g2 ∨ g = g4) := by have := h.gb; have := h1.1.ne_type h.k4 (by decide); omega
  have hA : ∀ o b o', (some ⟨g, o, none⟩ : Option Addr) = some ⟨b, o', none⟩ → b = g := fun o b o' e => by injection e with e; injection e with e; exact e.symm
  have hS : ∀ d ∈ es, ∀ b o, (d.A1 = some ⟨b, o, none⟩ ∨ d.A2 = some ⟨b, o, none⟩) → ¬ (b = g2 ∨ b = g4) := fun d hd b o e => by have h := (h.each d hd).2 b o e; omega
  have hm : ∀ d ∈ es.tail, d ∈ es := fun d hd => List.mem_of_mem_tail hd
  refine ⟨⟨Nat.le_refl _, h.rin.frU hf (fun b o e => by rw [hA _ _ _ e]; exact hg) hS, fun d hd => (h.each d hd).1.frU hf (hS d hd), fun d hd b o e => ((h.each d hd).2 b o e).1, fun b o e => by rw [hA _ _ _ e]; exact h.gb⟩, ⟨by omega, h.rin1.frU hf (fun b o e => by rw [hA _ _ _ e]; exact hg) (fun d hd => hS d (hm d hd)), fun d hd => (h.each d (hm d hd)).1.frU hf (hS d (hm d hd)), fun d hd b o e => ((h.each d (hm d hd)).2 b o e).1, fun b o e => by rw [hA _ _ _ e]; exact h.gb⟩, h.rd.fr hf (fun b hb hi => by have := h.lt; omega), h.fr.next hf (fun i _ hi => .inr (by omega))⟩
theorem rCells_same : ∀ (es : List DV) (k : Nat) (d e : DV), es[k]? = some d → e.cells = d.cells → rCells (es.set k e) = rCells es
  | [], k, d, e, h, _ => by simp at h
  | x :: es, 0, d, e, h, he => by
    obtain rfl : x = d := by simpa using h
    show e.cells ++ rCells es = x.cells ++ rCells es
    rw [he]
  | x :: es, k + 1, d, e, h, he => by
    show x.cells ++ rCells (es.set k e) = x.cells ++ rCells es
    rw [rCells_same es k d e (by simpa using h) he]
/-- one cell of a disk written -/
theorem GR.cell {B K : Nat} {w : World} {g c n k a : Nat} {es : List DV} {d : DV} (h : GR B K w g c n es) (hd : es[k]? = some d) (s : ByteArray) :
    GR B K (w.setCell ⟨d.b, a, none⟩ (.string s)) g c n (es.set k ⟨d.A1, d.n1, d.c1, d.A2, d.n2, d.c2, d.g, d.z1.set a s, d.z2⟩) := by
  obtain ⟨cs, ⟨h1, h2, h3, h4⟩, h5⟩ := h.pl
  obtain ⟨hm, hg⟩ := h.each d (List.mem_of_getElem? hd)
  obtain ⟨xd, hxd, _⟩ := hm.r1
  have hf := (Fr.refl (fun i => i = d.b) w).setCell (p := ⟨d.b, a, none⟩) (.inl rfl) (.string s)
  have hgd : g ≠ d.b := h1.ne_type hxd (by decide)
  refine ⟨⟨cs, ⟨h1.fr hf hgd, h2, by rw [List.length_set]; exact h3, fun j hj => by rw [rCells_same es k d (⟨d.A1, d.n1, d.c1, d.A2, d.n2, d.c2, d.g, d.z1.set a s, d.z2⟩ : DV) hd rfl]; exact h4 j hj⟩, h5⟩, h.nc, h.cm, h.base, fun d' hd' => ?_, ?_⟩
  · obtain ⟨j, hj, rfl⟩ := List.getElem_of_mem hd'
    have hj' := List.getElem?_eq_getElem hj
    rw [List.getElem?_set] at hj'
    rw [List.length_set] at hj
    by_cases q : k = j
    · rw [if_pos q, if_pos (by omega)] at hj'
      rw [← Option.some.inj hj']
      obtain ⟨x2, hx2, _⟩ := hm.r2
      exact ⟨⟨hm.a1, hm.a2, hm.base, hm.base2, by show (d.z1.set a s).length = d.n1; rw [List.length_set]; exact hm.l1, hm.l2, hm.m1, hm.m2, hm.r1.put s, hm.r2.fr hf (hx2.ne_type hxd (by decide))⟩, ⟨hg.n1, hg.g, hg.ok, hg.n2⟩⟩
    · rw [if_neg q] at hj'
      obtain ⟨hm', hg'⟩ := h.each _ (List.mem_of_getElem? hj')
      obtain ⟨y2, hy2, _⟩ := hm'.r2
      exact ⟨hm'.fr hf (apart_ne h.apart hj' hd (fun e => q e.symm)) (hy2.ne_type hxd (by decide)), hg'⟩
  · have hp := h.apart
    rw [List.pairwise_iff_getElem] at hp ⊢
    intro i j hi hj hij
    rw [List.length_set] at hi hj
    rw [List.getElem_set, List.getElem_set]
    have hx : ∀ i (hi : i < es.length), k = i → es[i].b = d.b := fun i hi e => by subst e; rw [List.getElem?_eq_getElem hi] at hd; rw [Option.some.inj hd]
    by_cases q : k = i
    · rw [if_pos q, if_neg (by omega)]
      intro e
      exact hp i j hi hj hij ((hx i hi q).trans e)
    · rw [if_neg q]
      by_cases q2 : k = j
      · rw [if_pos q2]
        intro e
        exact hp i j hi hj hij (e.trans (hx j hj q2).symm)
      · rw [if_neg q2]
        exact hp i j hi hj hij
theorem PS.upn {w0 : World} {R g2 g4 g c q : Nat} {es : List DV} {w : World} {d : DV} (h : PS w0 R g2 g4 g c q es w) (h4 : w0.heap.size ≤ g4) (hd : ∀ b o, (d.A1 = some ⟨b, o, none⟩ ∨ d.A2 = some ⟨b, o, none⟩) → w.heap.size ≤ b) : d.Up w0.heap.size g g4 := fun b o e => by
  obtain ⟨cs, h1, _⟩ := h.pl
  have h2 := h1.1.lt
  have h3 := h.k4.lt
  have h5 := hd b o e
  omega
/-- a disk as the draws make it -/
def mkDV (b1 o1 n1 c1 b2 n2 c2 : Nat) (g : Bool) (z1 : List ByteArray) (z2 : List (Int × ByteArray)) : DV := ⟨some ⟨b1, o1, none⟩, n1, c1, some ⟨b2, 0, none⟩, n2, c2, g, z1, z2⟩
theorem mkDV_src {b1 o1 n1 c1 b2 n2 c2 : Nat} {g : Bool} {z1 : List ByteArray} {z2 : List (Int × ByteArray)} {w : World} (h1 : Rd w 1 (some ⟨b1, o1, none⟩) n1 (z1.map Value.string)) (h2 : Rd w 2 (some ⟨b2, 0, none⟩) n2 (waitCells z2)) (m1 : n1 ≤ 64) (m2 : n2 ≤ 1000) (l1 : b1 < w.heap.size) (l2 : b2 < w.heap.size) : (mkDV b1 o1 n1 c1 b2 n2 c2 g z1 z2).Src w :=
  ⟨⟨h1, h2, by show n1 ≤ maxLen; unfold maxLen; omega, by show n2 ≤ maxLen; unfold maxLen; omega⟩, ⟨b1, o1, rfl, l1⟩, ⟨b2, 0, rfl, l2⟩, by show n1 ≤ 1048576; omega, by show n2 ≤ 1048576; omega⟩
theorem mkDV_new {b1 o1 n1 c1 b2 n2 c2 N : Nat} {g : Bool} {z1 : List ByteArray} {z2 : List (Int × ByteArray)} (h1 : N ≤ b1) (h2 : N ≤ b2) : ∀ b o, ((mkDV b1 o1 n1 c1 b2 n2 c2 g z1 z2).A1 = some ⟨b, o, none⟩ ∨ (mkDV b1 o1 n1 c1 b2 n2 c2 g z1 z2).A2 = some ⟨b, o, none⟩) → N ≤ b := by
  rintro b o (e | e)
  · injection e with e; injection e with e; omega
  · injection e with e; injection e with e; omega
theorem lose_src {w : World} {g1 e1 : Nat} (h1 : Bk w g1 9 (es64 ())) (h2 : Bk w e1 74 #[]) : (mkDV g1 0 64 64 e1 0 0 true (List.replicate 64 ⟨#[]⟩) []).Src w :=
  mkDV_src (es64_rd h1) (Rd.nil _ _ _) (Nat.le_refl _) (by omega) h1.lt h2.lt
theorem Row5.shape {B m : Nat} {w : World} {V : Value} (h : Row5 B w V m) (hm : 0 < m) : ∃ (g5 cap a : Nat) (cur : Array Value), V = .slice (some ⟨g5, 0, none⟩) m cap ∧ Bk w g5 95 cur ∧ cur[0]? = some (.int .i64 a) ∧ a < 64 ∧ B ≤ g5 := by
  obtain ⟨xs, h1, h2⟩ := h
  obtain ⟨a, ha, hx⟩ := h2 hm
  rcases h1.2 with ⟨_, e⟩ | ⟨g, cap, cur, e, hb, hg, _, _, _, hxs⟩
  · omega
  · refine ⟨g, cap, a, cur, e, hg, ?_, ha, hb⟩
    rw [← hxs, List.getElem?_take, if_pos (by omega)] at hx
    simpa using hx
theorem PS.ne24 {w0 : World} {R g2 g4 g c q : Nat} {es : List DV} {w : World} (h : PS w0 R g2 g4 g c q es w) : g2 ≠ g4 := fun e => by
  have e1 := h.k4
  rw [← e] at e1
  have e2 := h.k2
  unfold Bk at e1 e2
  rw [e1] at e2
  simp at e2
end Go.Proofs.Ytcaoekaephnimaa
