/- slices.Backward over waiting writes, and what a cell has: look of the program. -/
import Derived.Test.YtadeifimhoaanaaDiskOkS
import Derived.Test.YtadeifimhoaanaaDiskCopy
import Derived.RangeFuncNested
import Derived.RangeFuncBound
import Derived.RangeFuncCalls
import Derived.RangeFuncLeaves
import Derived.RangeFuncBox
import Derived.Shelf.Abstract
import Derived.OwnWalkIn
import Derived.TacticsInMore
import Derived.LoopNIn
import Derived.LoopIn
namespace Go.Proofs.Ytadeifimhoaanaa
open Go.RowKit Go.Shelf
set_option linter.unusedVariables false
attribute [local go_sem] Oper.semAt_some

/-- what has come when k rounds are over -/
def uptoB {α : Type} (f : Nat → α) (k : Nat) : List α := (List.range k).map f
theorem uptoB_succ {α : Type} (f : Nat → α) (k : Nat) : uptoB f (k + 1) = uptoB f k ++ [f k] := by simp [uptoB, List.range_succ]
theorem uptoB_length {α : Type} (f : Nat → α) (k : Nat) : (uptoB f k).length = k := by simp [uptoB]
/-- the k-th from the end -/
def backF (zs : List (Int × ByteArray)) (k : Nat) : Nat × (Int × ByteArray) := (zs.length - 1 - k, zs[zs.length - 1 - k]?.getD (0, ⟨#[]⟩))
abbrev encB (x : Nat × (Int × ByteArray)) : Array Value := #[.int .i64 (x.1 : Int), .agg #[.int .i64 x.2.1, .string x.2.2]]

set_option maxRecDepth 100000 in
set_option maxHeartbeats 2000000 in
theorem back1_in (F : Fence) (n : Nat) (h7 : F.fn 76) (hro : F.round = none) (hn : 1 ≤ n) (l Bs len cap : Nat) (A2 : Option Addr) (zs : List (Int × ByteArray)) (W0 : World) (hm : len ≤ 1048576) (hB0 : Bs < W0.heap.size) (J Jx : List (Nat × (Int × ByteArray)) → World → Prop)
    (hY : ∀ pre x W, J pre W → pre.length < len → YieldAt F (n - 1) Try.prog l (encB x) W fun e W' =>
      (e = .returned (.bool true) ∧ J (pre ++ [x]) W' ∧ Below W0.heap.size W W') ∨ (e = .returned (.bool false) ∧ Jx (pre ++ [x]) W'))
    (W : World) (hW : Below W0.heap.size W0 W) (hBs : W0.cell? ⟨Bs, 0, none⟩ = some (.slice A2 len cap)) (hR : Rd W0 2 A2 len (waitCells zs)) (h0 : J [] W) :
    CallsIn F n Try.prog 76 #[.func (.yield l) #[] #[], .pointer (some ⟨Bs, 0, none⟩)] W fun e W' => (∃ v, e = .returned v) ∧
      ((∃ ys, ys = uptoB (backF zs) len ∧ J ys W') ∨ (∃ pre, (∃ k, k ≤ len ∧ pre = uptoB (backF zs) k) ∧ Jx pre W')) := by
  have hzl : zs.length = len := by have := hR.len; rw [waitCells_len] at this; omega
  have HZL := hide hzl
  have HR := hide hR
  have HBS := hide hBs
  have hBW : W.cell? ⟨Bs, 0, none⟩ = some (.slice A2 len cap) := (hW.cell (p := ⟨Bs, 0, none⟩) hB0).trans hBs
  clear hzl hR hBs
  refine callsIn_of_wp Try.func76 rfl h7 ?_ hro
  simp only [Try.ntmps76, List.size_toArray, List.length_cons, List.length_nil, Nat.reduceAdd, Nat.reduceSub, Array.replicate_succ, Array.replicate_zero, List.push_toArray, List.append_toArray, List.nil_append, List.cons_append]
  gi_wp2
  gi_loopw [3] (fun i wr => ∃ (m : Nat) (q : Int), m ≤ len ∧ i = .int .i64 q ∧ q + 1 = m ∧ J (uptoB (backF zs) (len - m)) wr ∧ Hid (Below W0.heap.size W0 wr))
    (fun i _ => (intOf i + 1).toNat)
  case atStart => exact ⟨len, _, Nat.le_refl _, rfl, by omega, by rw [Nat.sub_self]; exact h0, hide hW⟩
  case round =>
    obtain ⟨m, q, hk, rfl, hq, hJs, HX⟩ := hrel
    have hBr : wr.cell? ⟨Bs, 0, none⟩ = some (.slice A2 len cap) := (HX.out.cell (p := ⟨Bs, 0, none⟩) hB0).trans HBS.out
    by_cases hlt : 0 < m
    · obtain ⟨j, rfl⟩ : ∃ j, m = j + 1 := ⟨m - 1, by omega⟩
      obtain rfl : q = (j : Int) := by omega
      obtain ⟨b, o, z, rfl, _, hz, hc0, hc1⟩ := (HR.out.after HX.out).wait_at (show j < len by omega)
      have hbk : backF zs (len - (j + 1)) = (j, z) := by
        unfold backF
        rw [HZL.out, show len - 1 - (len - (j + 1)) = j by omega, hz]
        rfl
      obtain ⟨fn, tmps, assign, body, hy, hR2⟩ := hY _ (j, z) wr hJs (by rw [uptoB_length]; omega)
      simp only [encB] at hy
      have HZ := hide hbk
      have j0 : (0 : Int) ≤ (j : Int) := by omega
      have j1 : (j : Int) < (len : Int) := by omega
      clear hz hbk
      gi_wp2
      refine hR2.mono ?_
      rintro e W3 (⟨rfl, hJ3, hk3⟩ | ⟨rfl, hJx3⟩)
      · gi_wp2
        go_roundw
        case rel => exact ⟨j, (j : Int) - 1, by omega, rfl, by omega, by rw [show len - j = len - (j + 1) + 1 by omega, uptoB_succ, HZ.out]; exact hJ3, hide (HX.out.trans hk3)⟩
        case measure => simp [intOf]
      · gi_wp2
        refine bodyPost_ret (results_none rfl _ _ _) rfl ?_
        exact ⟨⟨_, rfl⟩, .inr ⟨_, ⟨len - (j + 1) + 1, by omega, by rw [uptoB_succ, HZ.out]⟩, hJx3⟩⟩
    · obtain rfl : m = 0 := by omega
      obtain rfl : q = -1 := by omega
      gi_wp2
      go_end0
      exact ⟨⟨_, rfl⟩, .inl ⟨_, rfl, by rw [Nat.sub_zero] at hJs; exact hJs⟩⟩

set_option maxHeartbeats 1000000 in
theorem back_in (F : Fence) (n : Nat) (h5 : F.fn 71) (hro : F.round = none) (a : Option Addr) (len cap : Nat) (w : World) :
    CallsIn F n Try.prog 71 #[.slice a len cap] w fun e w' => e = .returned (.func (.func 76) #[] #[.pointer (some ⟨w.heap.size, 0, none⟩)]) ∧ w' = w.alloc (.cells #[.slice a len cap] 23) := by
  refine callsIn_of_wp Try.func71 rfl h5 ?_ hro
  simp only [Try.ntmps71, List.size_toArray, List.length_cons, List.length_nil, Nat.reduceAdd, Nat.reduceSub, Array.replicate_succ, Array.replicate_zero, List.push_toArray, List.append_toArray, List.nil_append, List.cons_append]
  gi_wp2
  go_ret
  exact ⟨rfl, rfl⟩

theorem back_stops (F : Fence) (n : Nat) (h7 : F.fn 76) (hro : F.round = none) (hn : 1 ≤ n) (Bs len cap : Nat) (A2 : Option Addr) (zs : List (Int × ByteArray)) (W0 : World) (hm : len ≤ 1048576) (hB0 : Bs < W0.heap.size) (hBs : W0.cell? ⟨Bs, 0, none⟩ = some (.slice A2 len cap)) (hR : Rd W0 2 A2 len (waitCells zs)) :
    SeqStopsK F n Try.prog 76 #[.pointer (some ⟨Bs, 0, none⟩)] encB (Below W0.heap.size) (fun ys => ys = uptoB (backF zs) len)
      (fun pre => ∃ k, k ≤ len ∧ pre = uptoB (backF zs) k) len W0 := fun l J Jx W hW _ _ hY h0 =>
  back1_in F n h7 hro hn l Bs len cap A2 zs W0 hm hB0 J Jx hY W hW hBs hR h0

/-- the text of the last waiting write to a cell, or what the cell has -/
def lookT (zs : List (Int × ByteArray)) (k : Int) (d : ByteArray) : ByteArray := match zs.reverse.find? (fun z => z.1 == k) with | some z => z.2 | none => d
theorem look_none {zs : List (Int × ByteArray)} {k : Int} {d : ByteArray} (h : ∀ y ∈ uptoB (backF zs) zs.length, y.2.1 ≠ k) : lookT zs k d = d := by
  unfold lookT
  rw [List.find?_eq_none.2 (fun z hz => ?_)]
  rw [List.mem_reverse] at hz
  obtain ⟨i, hi, rfl⟩ := List.mem_iff_getElem.1 hz
  have h2 := h (backF zs (zs.length - 1 - i)) (by simp only [uptoB, List.mem_map, List.mem_range]; exact ⟨_, by omega, rfl⟩)
  unfold backF at h2
  rw [show zs.length - 1 - (zs.length - 1 - i) = i by omega, List.getElem?_eq_getElem hi] at h2
  simpa using h2
theorem look_some {zs : List (Int × ByteArray)} {k : Int} {d : ByteArray} {m : Nat} (hm : m < zs.length) (h : ∀ y ∈ uptoB (backF zs) m, y.2.1 ≠ k) (hl : (backF zs m).2.1 = k) : lookT zs k d = (backF zs m).2.2 := by
  have hb : ∀ i, i < zs.length → (backF zs i).2 = zs.reverse[i]?.getD (0, ⟨#[]⟩) := by
    intro i hi
    rw [List.getElem?_reverse hi]
    rfl
  have hml : m < zs.reverse.length := by simpa using hm
  have e : zs.reverse.find? (fun z => z.1 == k) = some (zs.reverse[m]) := by
    rw [List.find?_eq_some_iff_getElem]
    refine ⟨?_, m, hml, rfl, fun j hj => ?_⟩
    · rw [hb m hm, List.getElem?_eq_getElem hml] at hl
      simpa using hl
    · have h2 := h (backF zs j) (by simp only [uptoB, List.mem_map, List.mem_range]; exact ⟨_, hj, rfl⟩)
      rw [hb j (by omega), List.getElem?_eq_getElem (by omega)] at h2
      simpa using h2
  unfold lookT
  rw [e, hb m hm, List.getElem?_eq_getElem hml]
  rfl

theorem bk_keep {X Y : World} {row : Option Nat} {B : Nat} {t : TypeId} {cs : Array Value} (hs : Bk X B t cs) (hg : X.grownBy Y row) (hrow : ∀ r, row = some r → ∃ o : Obj, X.heap[r]? = some o ∧ o.isCells = false) : Bk Y B t cs :=
  (hg.block B hs.lt (fun e' => by obtain ⟨o, ho, hc⟩ := hrow B e'.symm; rw [show X.heap[B]? = _ from hs] at ho; cases ho; cases hc)).trans hs

set_option maxRecDepth 100000 in
set_option maxHeartbeats 4000000 in
theorem look_in (F : Fence) (n : Nat) (h3 : F.fn 52) (h4 : F.fn 71) (h5 : F.fn 76) (hro : F.round = none) (hn : 3 ≤ n)
    (A1 A2 : Option Addr) (n1 n2 c1 c2 k : Nat) (z1 : List ByteArray) (z2 : List (Int × ByteArray)) (d : ByteArray) (g : Bool) (w : World) (h1 : Rd w 1 A1 n1 (z1.map Value.string)) (h2 : Rd w 2 A2 n2 (waitCells z2)) (m1 : n1 ≤ 1048576) (m2 : n2 ≤ 1048576) (hk : k < n1) (hd : z1[k]? = some d) :
    CallsIn F n Try.prog 52 #[.agg #[.slice A1 n1 c1, .slice A2 n2 c2, .bool g], .int .i64 k] w fun e W' => e = .returned (.string (lookT z2 k d)) ∧ Below w.heap.size w W' := by
  have h1n : 1 ≤ n := by omega
  have HD := hide hd
  have H1 := hide h1
  have H2 := hide h2
  have HZL : Hid (z2.length = n2) := hide (by have := h2.len; rw [waitCells_len] at this; omega)
  clear hd h1 h2
  refine callsIn_of_wp_marks Try.func52 rfl h3 ?_ hro
  simp only [Try.ntmps52, List.size_toArray, List.length_cons, List.length_nil, Nat.reduceAdd, Nat.reduceSub, Array.replicate_succ, Array.replicate_zero, List.push_toArray, List.append_toArray, List.nil_append, List.cons_append]
  gi_wp2_with (gi_at_call 71; refine (back_in F (n - 1) h4 hro _ _ _ _).mono ?_; rintro e w' ⟨rfl, rfl⟩)
  obtain ⟨W0, hW0⟩ : ∃ W : World, W = ((((w.alloc (.cells #[.slice A1 n1 c1, .slice A2 n2 c2, .bool g] 25)).alloc (.cells #[.int .i64 k] 3)).alloc (.cells #[.string ⟨#[]⟩] 9)).alloc (.cells #[.slice A2 n2 c2] 23)) := ⟨_, rfl⟩
  have hB0 : Below w.heap.size w W0 := by rw [hW0]; exact ((((Below.refl _ w).alloc (Nat.le_refl _) _).alloc (by simp) _).alloc (by simp; omega) _).alloc (by simp; omega) _
  have hsz : W0.heap.size = w.heap.size + 4 := by rw [hW0]; simp
  have KD : Bk W0 w.heap.size 25 #[.slice A1 n1 c1, .slice A2 n2 c2, .bool g] := by rw [hW0]; exact (((Bk.fresh _ _ _).alloc _).alloc _).alloc _
  have KK : Bk W0 (w.heap.size + 1) 3 #[.int .i64 k] := by rw [hW0]; exact (((Bk.fresh (w.alloc (.cells #[.slice A1 n1 c1, .slice A2 n2 c2, .bool g] 25)) 3 #[.int .i64 k]).alloc _).alloc _).at_ (by simp)
  have KS : Bk W0 (w.heap.size + 1 + 1) 9 #[.string ⟨#[]⟩] := by rw [hW0]; exact ((Bk.fresh ((w.alloc (.cells #[.slice A1 n1 c1, .slice A2 n2 c2, .bool g] 25)).alloc (.cells #[.int .i64 k] 3)) 9 #[.string ⟨#[]⟩]).alloc _).at_ (by simp)
  have KB : Bk W0 (w.heap.size + 1 + 1 + 1) 23 #[.slice A2 n2 c2] := by rw [hW0]; exact (Bk.fresh (((w.alloc (.cells #[.slice A1 n1 c1, .slice A2 n2 c2, .bool g] 25)).alloc (.cells #[.int .i64 k] 3)).alloc (.cells #[.string ⟨#[]⟩] 9)) 23 #[.slice A2 n2 c2]).at_ (by simp)
  rw [← hW0]
  clear hW0
  refine wpIn_rangeFunc_ownH hro h1n (gf := 76) (lb := #[.pointer (some ⟨w.heap.size + 1 + 1 + 1, 0, none⟩)]) rfl h5 (enters_of Try.func76 (by kernel_rfl) rfl)
    (back_stops F (n - 1) h5 hro (by omega) (w.heap.size + 1 + 1 + 1) n2 c2 A2 z2 W0 m2 (by omega) KB.c1 (H2.out.after hB0)) belowK_t (belowK_b (by omega)) (Below.refl _ _) (fun _ => rfl)
    (fun pre W => ((∀ y ∈ pre, y.2.1 ≠ (k : Int)) ∧ Bk W w.heap.size 25 #[.slice A1 n1 c1, .slice A2 n2 c2, .bool g] ∧ Bk W (w.heap.size + 1) 3 #[.int .i64 k] ∧ Bk W (w.heap.size + 1 + 1) 9 #[.string ⟨#[]⟩] ∧ W0.heap.size ≤ W.heap.size) ∧ Below w.heap.size w W)
    (fun c pre W => (c = .ret ∧ ∃ ini last, pre = ini ++ [last] ∧ (∀ y ∈ ini, y.2.1 ≠ (k : Int)) ∧ last.2.1 = (k : Int) ∧ Bk W (w.heap.size + 1 + 1) 9 #[.string last.2.2]) ∧ Below w.heap.size w W)
    (OwnFrom.and (Own.from (fun s A B row hs hg hr => ⟨hs.1, bk_keep hs.2.1 hg hr, bk_keep hs.2.2.1 hg hr, bk_keep hs.2.2.2.1 hg hr, Nat.le_trans hs.2.2.2.2 hg.size⟩) _) (ownFrom_below (Nat.le_refl _) (by omega)))
    (fun c => OwnFrom.and (Own.from (fun s A B row hs hg hr => by obtain ⟨hc, ini, last, e1, e2, e3, e4⟩ := hs; exact ⟨hc, ini, last, e1, e2, e3, bk_keep e4 hg hr⟩) _) (ownFrom_below (Nat.le_refl _) (by omega)))
    ⟨⟨by simp, KD, KK, KS, Nat.le_refl _⟩, hB0⟩
    (fun x a' W => ∃ Bx, w.heap.size + 1 + 1 < Bx ∧ Bk W Bx 51 #[.int .i64 x.2.1, .string x.2.2] ∧ a' = { tmps := #[.agg #[.slice A1 n1 c1, .slice A2 n2 c2, .bool g], .int .i64 k, .pointer (some ⟨w.heap.size, 0, none⟩), .pointer (some ⟨w.heap.size + 1, 0, none⟩), .pointer (some ⟨w.heap.size + 1 + 1, 0, none⟩), undef, .pointer (some ⟨Bx, 0, none⟩), .pointer (some ⟨w.heap.size, 1, none⟩), .slice A2 n2 c2, .func (.func 76) #[] #[.pointer (some ⟨w.heap.size + 1 + 1 + 1, 0, none⟩)], .int .i64 x.1, .agg #[.int .i64 x.2.1, .string x.2.2], undef, undef, undef, undef, undef, undef, undef, undef, undef, undef, undef], defers := [] })
    (fun x a' _ X Y row hs hg hr => by obtain ⟨Bx, h1, h2, h3⟩ := hs; exact ⟨Bx, h1, bk_keep h2 hg (fun r e => (hr r e).2), h3⟩)
    ?assign ?body ?done ?stop
  case assign =>
    rintro l pre x W K ⟨⟨hp, kd, kk, ks, hs0⟩, hB1⟩ hK
    gi_wp2
    exact hK _ _ ((KeepsOthers.alloc _ _).from _) ((Below.refl _ W).alloc hs0 _) ⟨⟨hp, kd.alloc _, kk.alloc _, ks.alloc _, Nat.le_trans hs0 (by simp)⟩, hB1.alloc hB1.size _⟩ ⟨W.heap.size, ks.lt, Bk.fresh W _ _, rfl⟩
  case body =>
    rintro l pre x a' W hl ⟨r, hr⟩ ⟨⟨hp, kd, kk, ks, hs0⟩, hB1⟩ ⟨Bx, hBx, bX, rfl⟩ hlt
    obtain ⟨x0, x1⟩ := bX.c2
    have y0 := kk.c1
    have s0 := ks.c1
    have sf := ks.frozen 0
    by_cases hx : x.2.1 = (k : Int)
    · have hx2 : (x.2.1 == (k : Int)) = true := by simp [hx]
      have PS := ks.put 0 (.string x.2.2)
      have HX := hide hx
      clear hx
      gi_wp2
      exact ⟨(KeepsOthers.setCell _ _ _).from _, ⟨rfl, pre, x, rfl, hp, HX.out, PS⟩, hB1.setCell (p := ⟨w.heap.size + 1 + 1, 0, none⟩) (by show w.heap.size ≤ w.heap.size + 1 + 1; omega) _⟩
    · have hx2 : (x.2.1 == (k : Int)) = false := by simp [hx]
      have HX := hide hx
      clear hx
      gi_wp2
      exact ⟨KeepsFrom.refl _ _, Below.refl _ _, ⟨fun y hy => (List.mem_append.1 hy).elim (hp y) (fun e => by simp at e; subst e; exact HX.out), kd, kk, ks, hs0⟩, hB1⟩
  case done =>
    rintro D ys W hD rfl ⟨⟨hp, kd, kk, ks, hs0⟩, hB1⟩ hK
    obtain ⟨t0, t1, t2⟩ := kd.c3
    have y0 := kk.c1
    have s0 := ks.c1
    have sf := ks.frozen 0
    obtain ⟨b, o, z, e1, _, hz, hc⟩ := (H1.out.after hB1).str_at hk
    subst e1
    have hzd : z = d := by
      have h := HD.out
      rw [hz] at h
      injection h
    subst hzd
    have HN := hide (look_none (zs := z2) (k := (k : Int)) (d := z) (by rw [HZL.out]; exact hp))
    have k0 : (0 : Int) ≤ (k : Int) := by omega
    have k1 : (k : Int) < (n1 : Int) := by omega
    clear hz hp
    gi_wp2
    have hK' := (KeepsOthers.setCell W ⟨w.heap.size + 1 + 1, 0, none⟩ (.string z)).same D _ hK rfl
    refine ⟨by simp, .inl ⟨_, _, rfl, run_takeDeferred hK', ?_⟩⟩
    have hc5 := cell_kept (World.cell?_setCell_same' W ⟨w.heap.size + 1 + 1, 0, none⟩ (.string z) (by rw [s0]; rfl)) (grownBy_putObj' _ D (.deferred none)) (fun r e => by cases e; exact ⟨_, hK', rfl⟩)
    refine ⟨.string z, ?_, by rw [HN.out], (hB1.setCell (p := ⟨w.heap.size + 1 + 1, 0, none⟩) (by show w.heap.size ≤ w.heap.size + 1 + 1; omega) _).trans (belowK_b (w := w) (Nat.le_refl _) _ D _ _ (by omega) hK' rfl rfl)⟩
    simp [results, Try.f52, go_sem, hc5]
  case stop =>
    rintro D c pre W hD ⟨m, hm, rfl⟩ ⟨⟨rfl, ini, last, e1, e2, e3, ks⟩, hB1⟩ hK
    obtain ⟨m', rfl⟩ : ∃ m', m = m' + 1 := by
      cases m with
      | zero => simp [uptoB] at e1
      | succ m' => exact ⟨m', rfl⟩
    rw [uptoB_succ] at e1
    obtain ⟨rfl, e5⟩ := List.append_inj' e1 rfl
    obtain rfl : backF z2 m' = last := by simpa using e5
    have HN := hide (look_some (d := d) (by have := HZL.out; omega) e2 e3)
    have hcr := ks.c1
    clear e1 e2 e3 e5
    gi_wp2
    refine ⟨by simp, .inl ⟨_, _, rfl, run_takeDeferred hK, ?_⟩⟩
    have hc5 := cell_kept hcr (grownBy_putObj' _ D (.deferred none)) (fun r e => by cases e; exact ⟨_, hK, rfl⟩)
    refine ⟨.string (backF z2 m').2.2, ?_, by rw [HN.out], hB1.trans (belowK_b (w := w) (Nat.le_refl _) W D _ _ (by omega) hK rfl rfl)⟩
    simp [results, Try.f52, go_sem, hc5]
/-- what a cell has -/
theorem implLook_any (A1 A2 : Option Addr) (n1 n2 c1 c2 k : Nat) (z1 : List ByteArray) (z2 : List (Int × ByteArray)) (d : ByteArray) (g : Bool) (w : World) (h1 : Rd w 1 A1 n1 (z1.map Value.string)) (h2 : Rd w 2 A2 n2 (waitCells z2)) (m1 : n1 ≤ 1048576) (m2 : n2 ≤ 1048576) (hk : k < n1) (hd : z1[k]? = some d) :
    Calls Try.prog 52 #[.agg #[.slice A1 n1 c1, .slice A2 n2 c2, .bool g], .int .i64 k] w fun e W' => e = .returned (.string (lookT z2 k d)) ∧ Below w.heap.size w W' :=
  callsIn_wide.1 (look_in Fence.wide 3 trivial trivial trivial rfl (by omega) A1 A2 n1 n2 c1 c2 k z1 z2 d g w h1 h2 m1 m2 hk hd)
end Go.Proofs.Ytadeifimhoaanaa
