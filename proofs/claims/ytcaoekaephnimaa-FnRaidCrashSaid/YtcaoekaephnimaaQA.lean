/- Small words on memory that the walks of this seat use: a block known whole, and what a call of another function leaves of it. -/
import Derived.Test.YtcaoekaephnimaaRows
import Derived.WalkKit
import Derived.WalkSpells
import Derived.WalkLawsBesides
import Derived.Deep.RegionHeld
import Derived.BigQuiet
import Derived.Deep.QuietTactic
import Derived.Deep.Draws
import Derived.Laws.IdiomStrings
import Derived.Lib.ConvBytes
import Derived.Laws.BytesArg
import Derived.ProofKit
import Derived.OpenShut
import Derived.SliceStrings
import Derived.Lib.SmallJoins
import Derived.Deep.Fields
import Derived.Deep.SlicePairs
import Derived.Deep.AppendLies
import Derived.Lib.UnsafeStr
namespace Go.Proofs.Ytcaoekaephnimaa
open Go.RowKit

/-- keep a fact from the walk; get it back by .out -/
theorem hide {p : Prop} (h : p) : Hid p := h

/-- block g of the world holds just the cells cs, none of them frozen -/
def Bk (w : World) (g : Nat) (t : TypeId) (cs : Array Value) : Prop := w.heap[g]? = some (.cells cs t (0, 0))

section
variable {w w' : World} {g : Nat} {t : TypeId} {cs : Array Value}
theorem Bk.lt (h : Bk w g t cs) : g < w.heap.size := by
  unfold Bk at h
  exact (Array.getElem?_eq_some_iff.1 h).1
theorem Bk.cell (h : Bk w g t cs) (i : Nat) : w.cell? ⟨g, i, none⟩ = cs[i]? := by
  unfold Bk at h
  simp [World.cell?, h]
theorem Bk.frozen (h : Bk w g t cs) (i : Nat) : w.frozen? ⟨g, i, none⟩ = false := by
  unfold Bk at h
  simp [World.frozen?, h]
theorem Bk.fresh (w : World) (t : TypeId) (cs : Array Value) : Bk (w.alloc (.cells cs t)) w.heap.size t cs := heap_alloc_new w _
theorem Bk.alloc (h : Bk w g t cs) (o : Obj) : Bk (w.alloc o) g t cs := (Below.heap_alloc w o g h.lt).trans h
theorem Bk.below {B : Nat} (h : Bk w g t cs) (hb : Below B w w') (hg : g < B) : Bk w' g t cs := (hb.block g hg).trans h
theorem Bk.after (h : Bk w g t cs) (hb : Below w.heap.size w w') : Bk w' g t cs := h.below hb h.lt
theorem Bk.afterE {w0 : World} (h : Bk w0 g t cs) (hb : Below w.heap.size w w') (e : w.heap = w0.heap) : Bk w' g t cs := by
  unfold Bk at h ⊢
  rw [← e] at h
  exact (hb.block g (Array.getElem?_eq_some_iff.1 h).1).trans h
theorem Bk.far (h : Bk w g t cs) {p : Addr} (hp : g ≠ p.block) (u : Value) : Bk (w.setCell p u) g t cs := (Below.heap_setCell w p u g hp).trans h
theorem Bk.put (h : Bk w g t cs) (i : Nat) (u : Value) : Bk (w.setCell ⟨g, i, none⟩ u) g t (cs.setIfInBounds i u) := by
  unfold Bk at h ⊢
  simp [World.setCell, Array.getElem?_modify, h]
theorem Bk.drewN (h : Bk w g t cs) (n : Nat) : Bk (w.drewN n) g t cs := h
theorem Bk.c1 {a : Value} (h : Bk w g t #[a]) : w.cell? ⟨g, 0, none⟩ = some a := h.cell 0
theorem Bk.c2 {a b : Value} (h : Bk w g t #[a, b]) : w.cell? ⟨g, 0, none⟩ = some a ∧ w.cell? ⟨g, 1, none⟩ = some b := ⟨h.cell 0, h.cell 1⟩
theorem Bk.c3 {a b c : Value} (h : Bk w g t #[a, b, c]) : w.cell? ⟨g, 0, none⟩ = some a ∧ w.cell? ⟨g, 1, none⟩ = some b ∧ w.cell? ⟨g, 2, none⟩ = some c := ⟨h.cell 0, h.cell 1, h.cell 2⟩
theorem Bk.c5 {a b c d e : Value} (h : Bk w g t #[a, b, c, d, e]) : w.cell? ⟨g, 0, none⟩ = some a ∧ w.cell? ⟨g, 1, none⟩ = some b ∧ w.cell? ⟨g, 2, none⟩ = some c ∧ w.cell? ⟨g, 3, none⟩ = some d ∧ w.cell? ⟨g, 4, none⟩ = some e := ⟨h.cell 0, h.cell 1, h.cell 2, h.cell 3, h.cell 4⟩
end

/-- the cells xs of n elements of k cells each lie behind the address A (n = 0: nothing is said of A) -/
structure Rd (w : World) (k : Nat) (A : Option Addr) (n : Nat) (xs : List Value) : Prop where
  len : xs.length = n * k
  at_ : 0 < n → ∃ b o, A = some ⟨b, o, none⟩ ∧ b < w.heap.size ∧ ∀ j u, xs[j]? = some u → w.cell? ⟨b, o + j, none⟩ = some u

theorem Rd.keep {w w' : World} {k : Nat} {A : Option Addr} {n : Nat} {xs : List Value} (h : Rd w k A n xs) (hs : w.heap.size ≤ w'.heap.size) (hk : ∀ p : Addr, p.block < w.heap.size → w'.cell? p = w.cell? p) : Rd w' k A n xs :=
  ⟨h.len, fun hn => by
    obtain ⟨b, o, e, hb, hc⟩ := h.at_ hn
    exact ⟨b, o, e, Nat.lt_of_lt_of_le hb hs, fun j u hu => (hk ⟨b, o + j, none⟩ hb).trans (hc j u hu)⟩⟩
theorem Rd.after {w w' : World} {k : Nat} {A : Option Addr} {n : Nat} {xs : List Value} (h : Rd w k A n xs) (hb : Below w.heap.size w w') : Rd w' k A n xs :=
  h.keep hb.size fun _ hp => hb.cell hp

/-- of the blocks that there were only those of S may have turned -/
structure Fr (S : Nat → Prop) (w w' : World) : Prop where
  os : w'.os = w.os
  tape : w'.tape = w.tape
  output : w'.output = w.output
  size : w.heap.size ≤ w'.heap.size
  block : ∀ k, k < w.heap.size → ¬ S k → w'.heap[k]? = w.heap[k]?
section
variable {S T : Nat → Prop} {a b c w w' : World}
theorem Fr.refl (S : Nat → Prop) (w : World) : Fr S w w := ⟨rfl, rfl, rfl, Nat.le_refl _, fun _ _ _ => rfl⟩
theorem Fr.trans (h : Fr S a b) (k : Fr S b c) : Fr S a c :=
  ⟨k.os.trans h.os, k.tape.trans h.tape, k.output.trans h.output, Nat.le_trans h.size k.size, fun i hi hn => (k.block i (Nat.lt_of_lt_of_le hi h.size) hn).trans (h.block i hi hn)⟩
theorem Fr.mono (h : Fr S a b) (hS : ∀ k, k < a.heap.size → S k → T k) : Fr T a b := ⟨h.os, h.tape, h.output, h.size, fun i hi hn => h.block i hi fun hs => hn (hS i hi hs)⟩
theorem Fr.of_below (S : Nat → Prop) (h : Below a.heap.size a b) : Fr S a b := ⟨h.os, h.tape, h.output, h.size, fun i hi _ => h.block i hi⟩
theorem Fr.drewN (h : Fr S a w) (n : Nat) : Fr S a (w.drewN n) := ⟨h.os, h.tape, h.output, h.size, h.block⟩
theorem Fr.drew (h : Fr S a w) : Fr S a w.drew := ⟨h.os, h.tape, h.output, h.size, h.block⟩
theorem Fr.alloc (h : Fr S a w) (o : Obj) : Fr S a (w.alloc o) :=
  ⟨h.os, h.tape, h.output, Nat.le_trans h.size (by simp), fun i hi hn => (Below.heap_alloc w o i (Nat.lt_of_lt_of_le hi h.size)).trans (h.block i hi hn)⟩
theorem Fr.setCell (h : Fr S a w) {p : Addr} (hp : S p.block ∨ a.heap.size ≤ p.block) (u : Value) : Fr S a (w.setCell p u) :=
  ⟨h.os, h.tape, h.output, by simpa [World.setCell] using h.size, fun i hi hn => (Below.heap_setCell w p u i (by
    rintro rfl
    rcases hp with hp | hp
    · exact hn hp
    · omega)).trans (h.block i hi hn)⟩
theorem Fr.below {B : Nat} (h : Fr S a b) (hB : B ≤ a.heap.size) (hS : ∀ k, S k → B ≤ k) : Below B a b :=
  ⟨h.os, h.tape, h.output, h.size, fun i hi => h.block i (Nat.lt_of_lt_of_le hi hB) fun hs => Nat.not_lt.2 (hS i hs) hi⟩
/-- a step that only turns S or new blocks, behind steps that do so -/
theorem Fr.next (h : Fr S a b) (k : Fr T b c) (hT : ∀ i, i < b.heap.size → T i → S i ∨ a.heap.size ≤ i) : Fr S a c :=
  ⟨k.os.trans h.os, k.tape.trans h.tape, k.output.trans h.output, Nat.le_trans h.size k.size, fun i hi hn => (k.block i (Nat.lt_of_lt_of_le hi h.size) (fun ht => by
    rcases hT i (Nat.lt_of_lt_of_le hi h.size) ht with hs | hs
    · exact hn hs
    · omega)).trans (h.block i hi hn)⟩
theorem Bk.fr {g : Nat} {t : TypeId} {cs : Array Value} (h : Bk w g t cs) (hf : Fr S w w') (hg : ¬ S g) : Bk w' g t cs := (hf.block g h.lt hg).trans h
theorem Rd.fr {k : Nat} {A : Option Addr} {n : Nat} {xs : List Value} (h : Rd w k A n xs) (hf : Fr S w w') (hS : ∀ b o, A = some ⟨b, o, none⟩ → ¬ S b) : Rd w' k A n xs :=
  ⟨h.len, fun hn => by
    obtain ⟨b, o, e, hb, hc⟩ := h.at_ hn
    exact ⟨b, o, e, Nat.lt_of_lt_of_le hb hf.size, fun j u hu => (World.cell?_of_block (w := w) (a := ⟨b, o + j, none⟩) (hf.block b hb (hS b o e))).trans (hc j u hu)⟩⟩
/-- a block known whole reads as its cells -/
theorem Bk.rd {g : Nat} {t : TypeId} {cs : Array Value} {k n : Nat} {xs : List Value} (h : Bk w g t cs) (hl : xs.length = n * k) (hx : ∀ (j : Nat) (u : Value), xs[j]? = some u → cs[j]? = some u) : Rd w k (some ⟨g, 0, none⟩) n xs :=
  ⟨hl, fun _ => ⟨g, 0, rfl, h.lt, fun j u hu => by rw [h.cell, Nat.zero_add]; exact hx j u hu⟩⟩
end
theorem arr_ext {cs : Array Value} {xs : List Value} (hs : cs.size = xs.length) (h : ∀ j, j < xs.length → cs[j]? = xs[j]?) : cs = xs.toArray := by
  apply Array.ext'
  apply List.ext_getElem?
  intro i
  rw [Array.getElem?_toList]
  by_cases hi : i < xs.length
  · exact h i hi
  · rw [Array.getElem?_eq_none (by omega), List.getElem?_eq_none (by simpa using hi)]

/-- the frame behind one new block -/
theorem bel1 (w : World) (o : Obj) : Below w.heap.size w (w.alloc o) := (Below.refl _ _).alloc (Nat.le_refl _) _
/-- a frame of the old heap, then a call that keeps all that there was -/
theorem bnext {B : Nat} {w w1 w2 : World} (h : Below B w w1) (hB : B ≤ w.heap.size) (k : Below w1.heap.size w1 w2) : Below B w w2 := h.trans (k.mono (Nat.le_trans hB h.size))

end Go.Proofs.Ytcaoekaephnimaa

/- The checksum: what SumOf of the program and of the reference compute: one plain function of the bytes. -/
namespace Go.Proofs.Ytcaoekaephnimaa
open Go.RowKit

theorem ret_int {k : IntKind} {a b : Int} (h : a = b) : Ending.returned (.int k a) = .returned (.int k b) := by rw [h]
theorem ret_bool {a b : Bool} (h : a = b) : Ending.returned (.bool a) = .returned (.bool b) := by rw [h]
theorem int_eq {k : IntKind} {a b : Int} (h : a = b) : Value.int k a = .int k b := by rw [h]
theorem take_snoc (s : ByteArray) (k : Nat) (h : k < s.size) : s.data.toList.take (k + 1) = s.data.toList.take k ++ [s[k]] := by
  rw [List.take_succ_eq_append_getElem (by simpa using h)]; rfl

/-- the two sums -/
def sumAB (l : List UInt8) : Nat × Nat := l.foldl (fun p c => ((p.1 + c.toNat + 1) % 9973, ((p.1 + c.toNat + 1) % 9973 + p.2) % 9973)) (1, 0)
/-- the checksum -/
def sumOf (l : List UInt8) : Int := (sumAB l).1 * 9973 + (sumAB l).2
theorem sumAB_snoc (l : List UInt8) (c : UInt8) : sumAB (l ++ [c]) = (((sumAB l).1 + c.toNat + 1) % 9973, (((sumAB l).1 + c.toNat + 1) % 9973 + (sumAB l).2) % 9973) := by
  simp [sumAB, List.foldl_append]
theorem sum_step (s : ByteArray) (k a b : Nat) (hk : k < s.size) (h : sumAB (s.data.toList.take k) = (a, b)) :
    sumAB (s.data.toList.take (k + 1)) = ((a + s[k].toNat + 1) % 9973, ((a + s[k].toNat + 1) % 9973 + b) % 9973) := by
  rw [take_snoc s k hk, sumAB_snoc, h]
theorem sum_end (s : ByteArray) (k a b : Nat) (hk : s.size ≤ k) (h : sumAB (s.data.toList.take k) = (a, b)) : (a : Int) * 9973 + b = sumOf s.data.toList := by
  rw [List.take_of_length_le (by simpa using hk)] at h
  simp [sumOf, h]

set_option maxHeartbeats 400000 in
theorem specSum_any (s : ByteArray) (w : World) (hs : s.size ≤ maxLen) :
    Calls Try.prog 93 #[.string s] w fun r w' => r = .returned (.int .i64 (sumOf s.data.toList)) ∧ w = w' := by
  unfold maxLen at hs
  go_enter Try.func93, Try.ntmps93
  go_wp2
  go_loop [3, 4, 5] (fun x y i => ∃ k a b : Nat, k ≤ s.size ∧ a < 9973 ∧ b < 9973 ∧ Hid (sumAB (s.data.toList.take k) = (a, b)) ∧ x = .int .i64 a ∧ y = .int .i64 b ∧ i = .int .i64 k) (fun _ _ i => s.size - (intOf i).toNat)
  case atStart => exact ⟨0, 1, 0, by omega, by omega, by omega, hide (by simp [sumAB]), rfl, rfl, rfl⟩
  case round =>
    obtain ⟨k, a, b, hk, ha, hb, H, rfl, rfl, rfl⟩ := hrel
    by_cases hlt : k < s.size
    · have hc : s[k].toNat < 256 := s[k].toNat_lt
      have H1 := hide (sum_step s k a b hlt H.out)
      clear H
      go_wp2
      go_round
      case rel => exact ⟨k + 1, _, _, by omega, Nat.mod_lt _ (by omega), Nat.mod_lt _ (by omega), H1, int_eq (by omega), int_eq (by omega), int_eq (by omega)⟩
      case measure => simp [intOf]; omega
    · go_wp2
      go_ret
      exact ⟨ret_int (sum_end s k a b (by omega) H.out), rfl⟩

end Go.Proofs.Ytcaoekaephnimaa

/- Slices of integers: what eqIntS, markIntS, heldIntS, toIntS and szIntS of the laws do. -/
namespace Go.Proofs.Ytcaoekaephnimaa
open Go.RowKit

theorem Rd.drewN {w : World} {k : Nat} {A : Option Addr} {n : Nat} {xs : List Value} (h : Rd w k A n xs) (m : Nat) : Rd (w.drewN m) k A n xs := ⟨h.len, h.at_⟩

/-- a call that changes nothing, in a region that draws behind earlier draws -/
theorem quiet2 {P : Program} {f : FuncId} {args : Array Value} {w : World} {a n : Nat} {v : Value} (h : Calls P f args (w.drewN (a + n)) fun e w' => e = .returned v ∧ w.drewN (a + n) = w') :
    Calls P f args (w.drewN (a + n)) fun e w'' => e = .returned v ∧ ∃ m, w'' = w.drewN (a + m) := h.mono fun _ _ hh => ⟨hh.1, n, hh.2.symm⟩
/-- the same behind no earlier draw -/
theorem quiet1 {P : Program} {f : FuncId} {args : Array Value} {w : World} {n : Nat} {v : Value} (h : Calls P f args (w.drewN n) fun e w' => e = .returned v ∧ w.drewN n = w') :
    Calls P f args (w.drewN n) fun e w'' => e = .returned v ∧ ∃ m, w'' = w.drewN m := h.mono fun _ _ hh => ⟨hh.1, n, hh.2.symm⟩

/-- a cell of a row of integers -/
theorem Rd.int_at {w : World} {A : Option Addr} {n : Nat} {zs : List Int} (h : Rd w 1 A n (zs.map (Value.int .i64))) {k : Nat} (hk : k < n) :
    ∃ b o z, A = some ⟨b, o, none⟩ ∧ b < w.heap.size ∧ zs[k]? = some z ∧ w.cell? ⟨b, o + k, none⟩ = some (.int .i64 z) := by
  obtain ⟨b, o, e, hb, hc⟩ := h.at_ (by omega)
  have hl : k < zs.length := by have := h.len; simp at this; omega
  exact ⟨b, o, zs[k], e, hb, List.getElem?_eq_getElem hl, hc k _ (by simp [List.getElem?_eq_getElem hl])⟩

/-- two lists of integers are one -/
def eqI (zs ys : List Int) : Bool := decide (zs = ys)
theorem eqI_len {zs ys : List Int} (h : zs.length ≠ ys.length) : eqI zs ys = false := by
  unfold eqI
  exact decide_eq_false fun e => h (by rw [e])
theorem eqI_at {zs ys : List Int} {k : Nat} {z y : Int} (hz : zs[k]? = some z) (hy : ys[k]? = some y) (h : z ≠ y) : eqI zs ys = false := by
  unfold eqI
  exact decide_eq_false fun e => h (by rw [e, hy] at hz; injection hz with hz; exact hz.symm)
theorem eqI_all {zs ys : List Int} (hl : zs.length = ys.length) (h : zs.take zs.length = ys.take zs.length) : eqI zs ys = true := by
  unfold eqI
  rw [List.take_length, hl, List.take_length] at h
  exact decide_eq_true h
theorem take_eq_snoc {α : Type} {zs ys : List α} {k : Nat} {z y : α} (hz : zs[k]? = some z) (hy : ys[k]? = some y) (h : zs.take k = ys.take k) (e : z = y) : zs.take (k + 1) = ys.take (k + 1) := by
  rw [List.take_add_one, List.take_add_one, hz, hy, h, e]

set_option maxHeartbeats 1000000 in
theorem eqIntS_any (A A' : Option Addr) (n c n' c' : Nat) (zs ys : List Int) (w : World) (h : Rd w 1 A n (zs.map (Value.int .i64))) (h' : Rd w 1 A' n' (ys.map (Value.int .i64))) (hm : n ≤ maxLen) :
    Calls Try.prog 24 #[.slice A n c, .slice A' n' c'] w fun r w' => r = .returned (.bool (eqI zs ys)) ∧ Below w.heap.size w w' := by
  unfold maxLen at hm
  have hzl : zs.length = n := by have := h.len; simpa using this
  have hyl : ys.length = n' := by have := h'.len; simpa using this
  by_cases hl : n = n'
  · subst hl
    have HL := hide (hzl.trans hyl.symm)
    have HZ := hide hzl
    have H := hide h
    have H' := hide h'
    clear hzl hyl h h'
    go_enter Try.func24, Try.ntmps24
    go_wp2
    go_loopw [5] (fun i wr => ∃ k m : Nat, k ≤ n ∧ wr = w.drewN m ∧ Hid (zs.take k = ys.take k) ∧ i = .int .i64 k) (fun i _ => n - (intOf i).toNat)
    case atStart => exact ⟨0, 0, by omega, rfl, hide rfl, rfl⟩
    case round =>
      obtain ⟨k, m, hk, rfl, HE, rfl⟩ := hrel
      by_cases hlt : k < n
      · obtain ⟨b, o, z, rfl, hb, hz, hc⟩ := H.out.int_at hlt
        obtain ⟨b', o', y, rfl, hb', hy, hc'⟩ := H'.out.int_at hlt
        have HZ := hide hz
        have HY := hide hy
        have i0 : (0 : Int) ≤ (k : Int) := by omega
        have i1 : (k : Int) < (n : Int) := by omega
        clear hz hy
        by_cases he : z = y
        · have hne : (z != y) = false := by simp [he]
          have HE1 := hide (take_eq_snoc HZ.out HY.out HE.out he)
          clear he
          go_wp2_with fail
          go_quiet (fail)
          go_wp2
          go_roundw
          case rel => exact ⟨k + 1, m + nq, by omega, rfl, HE1, int_eq (by omega)⟩
          case measure => simp [intOf]; omega
        · have hne : (z != y) = true := by simp [he]
          have HF := hide (eqI_at HZ.out HY.out he)
          clear he
          go_wp2_with fail
          go_quiet (fail)
          go_wp2
          go_ret
          exact ⟨ret_bool HF.out.symm, below_drewN (below_drewN (Below.refl _ _) _) _⟩
      · have HF := hide (eqI_all HL.out (by have e : k = zs.length := by have := HZ.out; omega
                                            rw [e] at HE; exact HE.out))
        go_wp2
        go_ret
        exact ⟨ret_bool HF.out.symm, below_drewN (Below.refl _ _) _⟩
  · have HF := hide (eqI_len (zs := zs) (ys := ys) (by omega))
    have hn : ((n : Int) == (n' : Int)) = false := by simp; omega
    clear hzl hyl h h'
    go_enter Try.func24, Try.ntmps24
    go_wp2
    all_goals (first | (go_ret; exact ⟨ret_bool HF.out.symm, Below.refl _ _⟩) | (exfalso; simp_all))

/-- what is written into a row: the numbers from k0 on -/
def marksI (k0 : Int) (n : Nat) : List Value := (List.range n).map fun (j : Nat) => Value.int .i64 (k0 + (j : Int))
theorem marksI_at (k0 : Int) (n j : Nat) (h : j < n) : (marksI k0 n)[j]? = some (.int .i64 (k0 + j)) := by simp [marksI, h]
theorem marksI_len (k0 : Int) (n : Nat) : (marksI k0 n).length = n := by simp [marksI]

set_option maxHeartbeats 1000000 in
theorem markIntS_any (g n c : Nat) (cs : Array Value) (k0 : Int) (w : World) (hb : Bk w g 3 cs) (hn : n ≤ cs.size) (hm : n ≤ 1000000000) (h0 : 0 ≤ k0) (h1 : k0 ≤ 1000000000) :
    Calls Try.prog 25 #[.slice (some ⟨g, 0, none⟩) n c, .int .i64 k0] w fun r w' => r = .returned (.int .i64 (k0 + n)) ∧
      (∃ cs', Bk w' g 3 cs' ∧ cs'.size = cs.size ∧ ∀ j, j < n → cs'[j]? = some (.int .i64 (k0 + j))) ∧ Fr (· = g) w w' := by
  have HB := hide hb
  have HN := hide hn
  clear hb hn
  go_enter Try.func25, Try.ntmps25
  go_wp2
  go_loopw [1, 5] (fun q i wr => ∃ (k : Nat) (cs' : Array Value), k ≤ n ∧ Hid (Bk wr g 3 cs') ∧ Hid (cs'.size = cs.size) ∧ Hid (∀ j, j < k → cs'[j]? = some (.int .i64 (k0 + j))) ∧ Hid (Fr (· = g) w wr) ∧ q = .int .i64 (k0 + k) ∧ i = .int .i64 k) (fun _ i _ => n - (intOf i).toNat)
  case atStart => exact ⟨0, cs, by omega, HB, hide rfl, hide (fun j hj => absurd hj (by omega)), hide (Fr.refl _ _), int_eq (by omega), rfl⟩
  case round =>
    obtain ⟨k, cs', hk, HB, HS, HM, HF, rfl, rfl⟩ := hrel
    by_cases hlt : k < n
    · have hkc : k < cs'.size := by have := HS.out; have := HN.out; omega
      have hc : wr.cell? ⟨g, k, none⟩ = some cs'[k] := by rw [HB.out.cell]; exact Array.getElem?_eq_getElem hkc
      have hf : wr.frozen? ⟨g, k, none⟩ = false := HB.out.frozen k
      have HP := hide (HB.out.put k (.int .i64 (k0 + k)))
      go_wp2
      go_roundw
      case rel => exact ⟨k + 1, _, by omega, HP, hide (by rw [Array.size_setIfInBounds]; exact HS.out), hide (fun j hj => by
          rw [Array.getElem?_setIfInBounds]
          by_cases e : k = j
          · subst e; simp [hkc]
          · rw [if_neg e]; exact HM.out j (by omega)), hide (HF.out.setCell (.inl rfl) _), int_eq (by omega), int_eq (by omega)⟩
      case measure => simp [intOf]; omega
    · go_wp2
      go_ret
      have e : k = n := by omega
      subst e
      exact ⟨rfl, ⟨cs', HB.out, HS.out, HM.out⟩, HF.out⟩

theorem info_int : (Try.prog.info? 3).map (fun i => (i.zero, i.size, i.bytes)) = some (some (.int .i64 0), 1, 8) := by kernel_rfl
/-- make([]int, n) -/
theorem make_ints (n : Nat) (hn : n ≤ 1000000000) (w : World) :
    (Instr.makeSlice 37 (.int .i64 (n : Int)) (.int .i64 (n : Int))).run Try.prog w = .ok (.slice (some ⟨w.heap.size, 0, none⟩) n n) (w.alloc (.cells (madeCells #[.int .i64 0] n) 3)) := by
  obtain ⟨i, hi, hz, hs, hb⟩ := info_parts info_int
  have hr := run_make (P := Try.prog) w 37 3 i _ Try.underlying37 hi hz .i64 .i64 n n (by omega) (by omega) (by rw [hb]; omega) (by omega)
  simp only [Int.toNat_natCast, hs, Nat.mul_one] at hr
  exact hr

set_option maxHeartbeats 1000000 in
theorem toIntS_any (A : Option Addr) (n c : Nat) (zs : List Int) (w : World) (h : Rd w 1 A n (zs.map (Value.int .i64))) (hm : n ≤ 1000000000) :
    Calls Try.prog 22 #[.slice A n c] w fun r w' => r = .returned (.slice (some ⟨w.heap.size, 0, none⟩) n n) ∧ Bk w' w.heap.size 3 (zs.map (Value.int .i64)).toArray ∧ Below w.heap.size w w' ∧ w.heap.size < w'.heap.size := by
  have hmk := make_ints n hm
  have hzl : zs.length = n := by have := h.len; simpa using this
  have HZ := hide hzl
  have H := hide h
  clear hzl h
  go_enter Try.func22, Try.ntmps22
  go_wp2
  go_loopw [4] (fun i wr => ∃ (k : Nat) (cs : Array Value), k ≤ n ∧ Hid (Bk wr w.heap.size 3 cs) ∧ Hid (cs.size = n) ∧ Hid (∀ j, j < k → cs[j]? = (zs.map (Value.int .i64))[j]?) ∧ Hid (Below w.heap.size w wr) ∧ i = .int .i64 k) (fun i _ => n - (intOf i).toNat)
  case atStart => exact ⟨0, _, by omega, hide (Bk.fresh _ _ _), hide (size_madeCells _ _), hide (fun j hj => absurd hj (by omega)), hide (bel1 _ _), rfl⟩
  case round =>
    obtain ⟨k, cs, hk, HB, HS, HM, HF, rfl⟩ := hrel
    clear hmk
    by_cases hlt : k < n
    · have hkc : k < cs.size := by have := HS.out; omega
      obtain ⟨b, o, z, rfl, hb, hz, hcz⟩ := (H.out.after HF.out).int_at hlt
      have HZk := hide hz
      clear hz
      have hc : wr.cell? ⟨w.heap.size, k, none⟩ = some cs[k] := by rw [HB.out.cell]; exact Array.getElem?_eq_getElem hkc
      have hf : wr.frozen? ⟨w.heap.size, k, none⟩ = false := HB.out.frozen k
      have HP := hide (HB.out.put k (.int .i64 z))
      go_wp2
      go_roundw
      case rel => exact ⟨k + 1, _, by omega, HP, hide (by rw [Array.size_setIfInBounds]; exact HS.out), hide (fun j hj => by
          rw [Array.getElem?_setIfInBounds]
          by_cases e : k = j
          · subst e; rw [if_pos rfl, if_pos hkc, List.getElem?_map, HZk.out]; rfl
          · rw [if_neg e]; exact HM.out j (by omega)), hide (HF.out.setCell (Nat.le_refl _) _), int_eq (by omega)⟩
      case measure => simp [intOf]; omega
    · go_wp2
      go_ret
      have e : k = n := by omega
      subst e
      refine ⟨rfl, ?_, HF.out, HB.out.lt⟩
      have e2 := arr_ext (cs := cs) (xs := zs.map (Value.int .i64)) (by rw [HS.out, List.length_map, HZ.out]) (fun j hj => HM.out j (by rw [List.length_map, HZ.out] at hj; exact hj))
      rw [← e2]
      exact HB.out

/-- what is left of a size -/
def szI (left : Int) (n : Nat) : Int := if left < (n : Int) then -1 else left - n
end Go.Proofs.Ytcaoekaephnimaa

/- Slices of texts: what eqStringS, markStringS, heldStringS, toStringS and szStringS of the laws do. -/
namespace Go.Proofs.Ytcaoekaephnimaa
open Go.RowKit

theorem ret_str {a b : ByteArray} (h : a = b) : Ending.returned (.string a) = Ending.returned (.string b) := by rw [h]
/-- a cell of a row of texts -/
theorem Rd.str_at {w : World} {A : Option Addr} {n : Nat} {zs : List ByteArray} (h : Rd w 1 A n (zs.map Value.string)) {k : Nat} (hk : k < n) :
    ∃ b o z, A = some ⟨b, o, none⟩ ∧ b < w.heap.size ∧ zs[k]? = some z ∧ w.cell? ⟨b, o + k, none⟩ = some (.string z) := by
  obtain ⟨b, o, e, hb, hc⟩ := h.at_ (by omega)
  have hl : k < zs.length := by have := h.len; simp at this; omega
  exact ⟨b, o, zs[k], e, hb, List.getElem?_eq_getElem hl, hc k _ (by simp [List.getElem?_eq_getElem hl])⟩

/-- two lists of texts are one -/
def eqT (zs ys : List ByteArray) : Bool := decide (zs = ys)
theorem eqT_len {zs ys : List ByteArray} (h : zs.length ≠ ys.length) : eqT zs ys = false := by
  unfold eqT
  exact decide_eq_false fun e => h (by rw [e])
theorem eqT_at {zs ys : List ByteArray} {k : Nat} {z y : ByteArray} (hz : zs[k]? = some z) (hy : ys[k]? = some y) (h : z ≠ y) : eqT zs ys = false := by
  unfold eqT
  exact decide_eq_false fun e => h (by rw [e, hy] at hz; injection hz with hz; exact hz.symm)
theorem eqT_all {zs ys : List ByteArray} (hl : zs.length = ys.length) (h : zs.take zs.length = ys.take zs.length) : eqT zs ys = true := by
  unfold eqT
  rw [List.take_length, hl, List.take_length] at h
  exact decide_eq_true h
theorem eqT_same (zs : List ByteArray) : eqT zs zs = true := by unfold eqT; exact decide_eq_true rfl

theorem beqT_eq {a b : ByteArray} (h : a = b) : (a.toList == b.toList) = true := by rw [h]; exact beq_self_eq_true _
theorem beqT_ne {a b : ByteArray} (h : a ≠ b) : (a.toList == b.toList) = false := by
  rw [beq_eq_false_iff_ne, ByteArray.toList_eq, ByteArray.toList_eq]
  intro e
  exact h (by cases a; cases b; simpa using e)

set_option maxHeartbeats 1000000 in
theorem eqStringS_any (A A' : Option Addr) (n c n' c' : Nat) (zs ys : List ByteArray) (w : World) (h : Rd w 1 A n (zs.map Value.string)) (h' : Rd w 1 A' n' (ys.map Value.string)) (hm : n ≤ maxLen) :
    Calls Try.prog 82 #[.slice A n c, .slice A' n' c'] w fun r w' => r = .returned (.bool (eqT zs ys)) ∧ Below w.heap.size w w' := by
  unfold maxLen at hm
  have hzl : zs.length = n := by have := h.len; simpa using this
  have hyl : ys.length = n' := by have := h'.len; simpa using this
  by_cases hl : n = n'
  · subst hl
    have HL := hide (hzl.trans hyl.symm)
    have HZ := hide hzl
    have H := hide h
    have H' := hide h'
    clear hzl hyl h h'
    go_enter Try.func82, Try.ntmps82
    go_wp2
    go_loopw [5] (fun i wr => ∃ k m : Nat, k ≤ n ∧ wr = w.drewN m ∧ Hid (zs.take k = ys.take k) ∧ i = .int .i64 k) (fun i _ => n - (intOf i).toNat)
    case atStart => exact ⟨0, 0, by omega, rfl, hide rfl, rfl⟩
    case round =>
      obtain ⟨k, m, hk, rfl, HE, rfl⟩ := hrel
      by_cases hlt : k < n
      · obtain ⟨b, o, z, rfl, hb, hz, hc⟩ := H.out.str_at hlt
        obtain ⟨b', o', y, rfl, hb', hy, hc'⟩ := H'.out.str_at hlt
        have HZ := hide hz
        have HY := hide hy
        have i0 : (0 : Int) ≤ (k : Int) := by omega
        have i1 : (k : Int) < (n : Int) := by omega
        clear hz hy
        by_cases he : z = y
        · have hne := beqT_eq he
          have HE1 := hide (take_eq_snoc HZ.out HY.out HE.out he)
          clear he
          go_wp2_with fail
          go_quiet (fail)
          go_wp2
          go_roundw
          case rel => exact ⟨k + 1, m + nq, by omega, rfl, HE1, int_eq (by omega)⟩
          case measure => simp [intOf]; omega
        · have hne := beqT_ne he
          have HF := hide (eqT_at HZ.out HY.out he)
          clear he
          go_wp2_with fail
          go_quiet (fail)
          go_wp2
          go_ret
          exact ⟨ret_bool HF.out.symm, below_drewN (below_drewN (Below.refl _ _) _) _⟩
      · have HF := hide (eqT_all HL.out (by have e : k = zs.length := by have := HZ.out; omega
                                            rw [e] at HE; exact HE.out))
        go_wp2
        go_ret
        exact ⟨ret_bool HF.out.symm, below_drewN (Below.refl _ _) _⟩
  · have HF := hide (eqT_len (zs := zs) (ys := ys) (by omega))
    have hn : ((n : Int) == (n' : Int)) = false := by simp; omega
    clear hzl hyl h h'
    go_enter Try.func82, Try.ntmps82
    go_wp2
    all_goals (first | (go_ret; exact ⟨ret_bool HF.out.symm, Below.refl _ _⟩) | (exfalso; simp_all))

theorem info_str : (Try.prog.info? 9).map (fun i => (i.zero, i.size, i.bytes)) = some (some (.string ⟨#[]⟩), 1, 16) := by kernel_rfl
/-- make([]string, n) -/
theorem make_strs (n : Nat) (hn : n ≤ 1000000000) (w : World) :
    (Instr.makeSlice 46 (.int .i64 (n : Int)) (.int .i64 (n : Int))).run Try.prog w = .ok (.slice (some ⟨w.heap.size, 0, none⟩) n n) (w.alloc (.cells (madeCells #[.string ⟨#[]⟩] n) 9)) := by
  obtain ⟨i, hi, hz, hs, hb⟩ := info_parts info_str
  have hr := run_make (P := Try.prog) w 46 9 i _ Try.underlying46 hi hz .i64 .i64 n n (by omega) (by omega) (by rw [hb]; omega) (by omega)
  simp only [Int.toNat_natCast, hs, Nat.mul_one] at hr
  exact hr

set_option maxHeartbeats 1000000 in
theorem toStringS_any (A : Option Addr) (n c : Nat) (zs : List ByteArray) (w : World) (h : Rd w 1 A n (zs.map Value.string)) (hm : n ≤ 1000000000) :
    Calls Try.prog 88 #[.slice A n c] w fun r w' => r = .returned (.slice (some ⟨w.heap.size, 0, none⟩) n n) ∧ Bk w' w.heap.size 9 (zs.map Value.string).toArray ∧ Below w.heap.size w w' ∧ w.heap.size < w'.heap.size := by
  have hmk := make_strs n hm
  have hzl : zs.length = n := by have := h.len; simpa using this
  have HZ := hide hzl
  have H := hide h
  clear hzl h
  go_enter Try.func88, Try.ntmps88
  go_wp2
  go_loopw [4] (fun i wr => ∃ (k : Nat) (cs : Array Value), k ≤ n ∧ Hid (Bk wr w.heap.size 9 cs) ∧ Hid (cs.size = n) ∧ Hid (∀ j, j < k → cs[j]? = (zs.map Value.string)[j]?) ∧ Hid (Below w.heap.size w wr) ∧ i = .int .i64 k) (fun i _ => n - (intOf i).toNat)
  case atStart => exact ⟨0, _, by omega, hide (Bk.fresh _ _ _), hide (size_madeCells _ _), hide (fun j hj => absurd hj (by omega)), hide (bel1 _ _), rfl⟩
  case round =>
    obtain ⟨k, cs, hk, HB, HS, HM, HF, rfl⟩ := hrel
    clear hmk
    by_cases hlt : k < n
    · have hkc : k < cs.size := by have := HS.out; omega
      obtain ⟨b, o, z, rfl, hb, hz, hcz⟩ := (H.out.after HF.out).str_at hlt
      have HZk := hide hz
      clear hz
      have hc : wr.cell? ⟨w.heap.size, k, none⟩ = some cs[k] := by rw [HB.out.cell]; exact Array.getElem?_eq_getElem hkc
      have hf : wr.frozen? ⟨w.heap.size, k, none⟩ = false := HB.out.frozen k
      have HP := hide (HB.out.put k (.string z))
      go_wp2
      go_roundw
      case rel => exact ⟨k + 1, _, by omega, HP, hide (by rw [Array.size_setIfInBounds]; exact HS.out), hide (fun j hj => by
          rw [Array.getElem?_setIfInBounds]
          by_cases e : k = j
          · subst e; rw [if_pos rfl, if_pos hkc, List.getElem?_map, HZk.out]; rfl
          · rw [if_neg e]; exact HM.out j (by omega)), hide (HF.out.setCell (Nat.le_refl _) _), int_eq (by omega)⟩
      case measure => simp [intOf]; omega
    · go_wp2
      go_ret
      have e : k = n := by omega
      subst e
      refine ⟨rfl, ?_, HF.out, HB.out.lt⟩
      have e2 := arr_ext (cs := cs) (xs := zs.map Value.string) (by rw [HS.out, List.length_map, HZ.out]) (fun j hj => HM.out j (by rw [List.length_map, HZ.out] at hj; exact hj))
      rw [← e2]
      exact HB.out

/-- what is left of a size -/
def szT (left : Int) (zs : List ByteArray) : Int := zs.foldl (fun l z => if l < 0 then -1 else if l < (z.size : Int) then -1 else l - z.size) (if left < (zs.length : Int) then -1 else left - zs.length)
theorem szT_gone (zs : List ByteArray) (l : Int) (h : l = -1) : zs.foldl (fun l z => if l < 0 then -1 else if l < (z.size : Int) then -1 else l - z.size) l = -1 := by
  induction zs generalizing l with
  | nil => exact h
  | cons z zs ih => exact ih _ (by simp [h])
theorem szT_le (zs : List ByteArray) (l : Int) : -1 ≤ l → zs.foldl (fun l z => if l < 0 then -1 else if l < (z.size : Int) then -1 else l - z.size) l ≤ l ∧ -1 ≤ zs.foldl (fun l z => if l < 0 then -1 else if l < (z.size : Int) then -1 else l - z.size) l := by
  induction zs generalizing l with
  | nil => intro h; exact ⟨Int.le_refl _, h⟩
  | cons z zs ih =>
    intro h
    have := ih (if l < 0 then -1 else if l < (z.size : Int) then -1 else l - z.size) (by split <;> (try split) <;> omega)
    refine ⟨Int.le_trans this.1 ?_, this.2⟩
    split <;> (try split) <;> omega
theorem szT_bd (left : Int) (zs : List ByteArray) (h : 0 ≤ left) : szT left zs ≤ left ∧ -1 ≤ szT left zs := by
  unfold szT
  have := szT_le zs (if left < (zs.length : Int) then -1 else left - zs.length) (by split <;> omega)
  refine ⟨Int.le_trans this.1 ?_, this.2⟩
  split <;> omega

set_option maxHeartbeats 1000000 in
theorem szStringS_any (A : Option Addr) (n c : Nat) (zs : List ByteArray) (left : Int) (w : World) (hn : n ≤ maxLen) (hzs : ∀ z ∈ zs, z.size ≤ maxLen) (h : Rd w 1 A n (zs.map Value.string)) (h0 : 0 ≤ left) (h1 : left ≤ 1048576) :
    Calls Try.prog 85 #[.slice A n c, .int .i64 left] w fun r w' => r = .returned (.int .i64 (szT left zs)) ∧ w = w' := by
  unfold maxLen at hn hzs
  have hzl : zs.length = n := by have := h.len; simpa using this
  by_cases hl : left < n
  · have hl' : left - (n : Int) < 0 := by omega
    have e := hide (show szT left zs = -1 by unfold szT; rw [hzl, if_pos hl]; exact szT_gone _ _ rfl)
    clear hzl h hzs
    go_enter Try.func85, Try.ntmps85
    go_wp2
    go_ret
    exact ⟨ret_int e.out.symm, rfl⟩
  · have hl' : ¬ left - (n : Int) < 0 := by omega
    have e := hide (show szT left zs = zs.foldl (fun l z => if l < 0 then -1 else if l < (z.size : Int) then -1 else l - z.size) (left - n) by unfold szT; rw [hzl, if_neg hl])
    have H := hide h
    have HN := hide hzl
    have HM := hide hzs
    clear hzl h hzs
    go_enter Try.func85, Try.ntmps85
    go_wp2
    go_loop [1, 5] (fun q i => ∃ (k : Nat) (l : Int), k ≤ n ∧ 0 ≤ l ∧ l ≤ 1048576 ∧ Hid (szT left zs = (zs.drop k).foldl (fun l z => if l < 0 then -1 else if l < (z.size : Int) then -1 else l - z.size) l) ∧ q = .int .i64 l ∧ i = .int .i64 k) (fun _ i => n - (intOf i).toNat)
    case atStart => exact ⟨0, left - n, by omega, by omega, by omega, hide (by rw [List.drop_zero]; exact e.out), int_eq (by omega), rfl⟩
    case round =>
      obtain ⟨k, l, hk, hl0, hl1, HE, rfl, rfl⟩ := hrel
      by_cases hlt : k < n
      · obtain ⟨b, o, z, rfl, hb, hz, hcz⟩ := H.out.str_at hlt
        have hzm := HM.out z (List.mem_of_getElem? hz)
        have HZ := hide (show zs.drop k = z :: zs.drop (k + 1) by
          have hlk := (List.getElem?_eq_some_iff.1 hz).1
          rw [List.drop_eq_getElem_cons hlk]
          rw [List.getElem?_eq_getElem hlk] at hz
          injection hz with hz
          rw [hz])
        clear hz
        by_cases hq : l < (z.size : Int)
        · have hq' : l - (z.size : Int) < 0 := by omega
          have e2 := hide (show szT left zs = -1 by rw [HE.out, HZ.out, List.foldl_cons, if_neg (by omega), if_pos hq]; exact szT_gone _ _ rfl)
          go_wp2
          go_ret
          exact ⟨ret_int e2.out.symm, rfl⟩
        · have hq' : ¬ l - (z.size : Int) < 0 := by omega
          have e2 := hide (show szT left zs = (zs.drop (k + 1)).foldl (fun l z => if l < 0 then -1 else if l < (z.size : Int) then -1 else l - z.size) (l - z.size) by rw [HE.out, HZ.out, List.foldl_cons, if_neg (by omega), if_neg hq])
          go_wp2
          go_round
          case rel => exact ⟨k + 1, l - z.size, by omega, by omega, by omega, e2, int_eq (by omega), int_eq (by omega)⟩
          case measure => simp [intOf]; omega
      · have e2 := hide (show szT left zs = l by rw [HE.out, List.drop_eq_nil_of_le (by have := HN.out; omega)]; rfl)
        go_wp2
        go_ret
        exact ⟨ret_int e2.out.symm, rfl⟩
end Go.Proofs.Ytcaoekaephnimaa

/- Marks on slices of texts: markText, markStringS, heldStringS of the laws. -/
namespace Go.Proofs.Ytcaoekaephnimaa
open Go.RowKit

/-- the digits ahead of a text -/
def mgo : Nat → Nat → ByteArray → ByteArray
  | 0, _, out => out
  | f + 1, k, out => if k = 0 then out else mgo f (k / 10) (⟨#[UInt8.ofNat (48 + k % 10)]⟩ ++ out)
def mtext (k : Nat) : ByteArray := if k = 0 then ⟨#[109, 48]⟩ else ⟨#[109]⟩ ++ mgo k k ⟨#[]⟩
theorem mgo_zero (f : Nat) (out : ByteArray) : mgo f 0 out = out := by cases f <;> rfl
theorem mgo_step (f k : Nat) (out : ByteArray) (hf : k ≤ f) (hk : 0 < k) : ∃ f', k / 10 ≤ f' ∧ mgo f k out = mgo f' (k / 10) (⟨#[UInt8.ofNat (48 + k % 10)]⟩ ++ out) := by
  obtain ⟨f, rfl⟩ : ∃ f', f = f' + 1 := ⟨f - 1, by omega⟩
  exact ⟨f, by omega, by rw [mgo, if_neg (by omega)]⟩

theorem one_str (w : World) (x : UInt8) (o : Int) (ho : o = (x.toNat : Int)) : (convert 43 9 (.slice (some ⟨w.heap.size, 0, none⟩) 1 1)).run Try.prog (w.alloc (.cells #[.int .u8 o] 5)) = .ok (.string ⟨#[x]⟩) (w.alloc (.cells #[.int .u8 o] 5)) := by
  subst ho
  refine run_convert_bytes_back _ 43 9 5 _ 1 [x] Try.underlying43 Try.underlying5 Try.underlying9 (fun j hj => ?_)
  have : j = 0 := by simpa using hj
  subst this
  rw [Addr.add_lit, (Bk.fresh w _ _).cell]
  rfl

set_option maxHeartbeats 1000000 in
theorem markText_any (k : Nat) (w : World) (hk : k ≤ 2000000000) :
    Calls Try.prog 84 #[.int .i64 k] w fun r w' => r = .returned (.string (mtext k)) ∧ Below w.heap.size w w' := by
  by_cases h0 : k = 0
  · subst h0
    go_enter Try.func84, Try.ntmps84
    go_wp2
    go_ret
    exact ⟨ret_str (by rw [mtext, if_pos rfl]), Below.refl _ _⟩
  · have e := hide (show mtext k = ⟨#[109]⟩ ++ mgo k k ⟨#[]⟩ by rw [mtext, if_neg h0])
    have k0 : ¬ (k : Int) ≤ 0 := by omega
    clear h0
    go_enter Try.func84, Try.ntmps84
    go_wp2
    go_loopw [0, 3] (fun i o wr => ∃ (f m : Nat) (out : ByteArray), m ≤ f ∧ out.size + m ≤ k ∧ Hid (mgo f m out = mgo k k ⟨#[]⟩) ∧ Hid (Below w.heap.size w wr) ∧ i = .int .i64 m ∧ o = .string out) (fun i _ _ => (intOf i).toNat)
    case atStart => exact ⟨k, k, ⟨#[]⟩, Nat.le_refl _, by simp [ByteArray.size], hide rfl, hide (Below.refl _ _), rfl, rfl⟩
    case round =>
      obtain ⟨f, m, out, hf, hm, HM, HB, rfl, rfl⟩ := hrel
      by_cases hm0 : 0 < m
      · obtain ⟨f', hf', e1⟩ := mgo_step f m out hf hm0
        have HM1 := hide (e1.symm.trans HM.out)
        obtain ⟨d, hd⟩ : ∃ d, d = m % 10 := ⟨_, rfl⟩
        obtain ⟨q, hq⟩ : ∃ q, q = m / 10 := ⟨_, rfl⟩
        rw [← hd, ← hq] at HM1
        rw [← hq] at hf'
        have dl : d < 10 := by omega
        have ql : q < m := by omega
        have ed : (m : Int) % 10 = (d : Int) := by omega
        have eq : (m : Int) / 10 = (q : Int) := by omega
        obtain ⟨x, hx⟩ : ∃ x : UInt8, x = UInt8.ofNat (48 + d) := ⟨_, rfl⟩
        have hc := one_str wr x (48 + (d : Int)) (by rw [hx, UInt8.toNat_ofNat']; omega)
        rw [← hx] at HM1
        have HB1 := hide (HB.out.alloc HB.out.size (.cells #[.int .u8 (48 + (d : Int))] 5))
        have p0 : (0 : Int) < (m : Int) := by omega
        clear e1 hd hq hx
        go_wp2_with fail
        go_roundw
        case rel => exact ⟨f', q, _, hf', by (have h1 : (ByteArray.mk #[x] ++ out).size = 1 + out.size := ByteArray.size_append); omega, HM1, HB1, rfl, rfl⟩
        case measure => simp [intOf]; omega
      · have e0 : m = 0 := by omega
        have HE := hide (show out = mgo k k ⟨#[]⟩ by rw [← HM.out, e0, mgo_zero])
        have p0 : ¬ (0 : Int) < (m : Int) := by omega
        go_wp2_with fail
        go_ret
        exact ⟨ret_str (by rw [e.out, HE.out]), HB.out⟩

/-- what is written into a row: the texts of the numbers from k0 on -/
def marksT (k0 n : Nat) : List Value := (List.range n).map fun (j : Nat) => Value.string (mtext (k0 + j))
theorem marksT_at (k0 n j : Nat) (h : j < n) : (marksT k0 n)[j]? = some (.string (mtext (k0 + j))) := by simp [marksT, h]
theorem marksT_len (k0 n : Nat) : (marksT k0 n).length = n := by simp [marksT]

set_option maxHeartbeats 1000000 in
theorem markStringS_any (g n c : Nat) (cs : Array Value) (k0 : Nat) (w : World) (hb : Bk w g 9 cs) (hn : n ≤ cs.size) (hm : n ≤ 1000000000) (h1 : k0 ≤ 1000000000) :
    Calls Try.prog 58 #[.slice (some ⟨g, 0, none⟩) n c, .int .i64 k0] w fun r w' => r = .returned (.int .i64 (k0 + n : Nat)) ∧
      (∃ cs', Bk w' g 9 cs' ∧ cs'.size = cs.size ∧ ∀ j, j < n → cs'[j]? = some (.string (mtext (k0 + j)))) ∧ Fr (· = g) w w' := by
  have HB := hide hb
  have HN := hide hn
  have hg := hb.lt
  clear hb hn
  go_enter Try.func58, Try.ntmps58
  go_wp2
  go_loopw [1, 5] (fun q i wr => ∃ (k q' : Nat) (cs' : Array Value), k ≤ n ∧ Hid (q' = k0 + k) ∧ Hid (Bk wr g 9 cs') ∧ Hid (cs'.size = cs.size) ∧ Hid (∀ j, j < k → cs'[j]? = some (.string (mtext (k0 + j)))) ∧ Hid (Fr (· = g) w wr) ∧ q = .int .i64 q' ∧ i = .int .i64 k) (fun _ i _ => n - (intOf i).toNat)
  case atStart => exact ⟨0, k0, cs, by omega, hide rfl, HB, hide rfl, hide (fun j hj => absurd hj (by omega)), hide (Fr.refl _ _), rfl, rfl⟩
  case round =>
    obtain ⟨k, q', cs', hk, hq, HB, HS, HM, HF, rfl, rfl⟩ := hrel
    have qb : q' ≤ 2000000000 := by have := hq.out; omega
    have hkc : Hid (k < n → k < cs'.size) := hide (fun hlt => by have := HS.out; have := HN.out; omega)
    by_cases hlt : k < n
    · go_wp2_with fail
      refine (markText_any q' _ (by have := hq.out; omega)).mono ?_; rintro r w1 ⟨rfl, hb1⟩
      have HB2 := HB.out.after hb1
      have hc : w1.cell? ⟨g, k, none⟩ = some (cs'[k]'(hkc.out hlt)) := by rw [HB2.cell]; exact Array.getElem?_eq_getElem (hkc.out hlt)
      have hf : w1.frozen? ⟨g, k, none⟩ = false := HB2.frozen k
      have HP := hide (HB2.put k (.string (mtext q')))
      have HF1 := hide ((HF.out.trans (Fr.of_below _ hb1)).setCell (.inl rfl : (fun x => x = g) (Addr.block ⟨g, k, none⟩) ∨ _) (.string (mtext q')))
      clear hb1 HB2
      go_wp2_with fail
      go_roundw
      case rel => exact ⟨k + 1, q' + 1, _, by omega, hide (by have := hq.out; omega), HP, hide (by rw [Array.size_setIfInBounds]; exact HS.out), hide (fun j hj => by
          rw [Array.getElem?_setIfInBounds]
          by_cases e : k = j
          · subst e; rw [if_pos rfl, if_pos (hkc.out hlt), hq.out]
          · rw [if_neg e]; exact HM.out j (by omega)), HF1, int_eq (by omega), int_eq (by omega)⟩
      case measure => simp [intOf]; omega
    · go_wp2
      go_ret
      have e : k = n := by omega
      subst e
      exact ⟨ret_int (by rw [hq.out]), ⟨cs', HB.out, HS.out, HM.out⟩, HF.out⟩

set_option maxHeartbeats 1000000 in
theorem heldStringS_any (A : Option Addr) (n c : Nat) (k0 : Nat) (w : World) (h : Rd w 1 A n (marksT k0 n)) (hm : n ≤ 1000000000) (h1 : k0 ≤ 1000000000) :
    Calls Try.prog 60 #[.slice A n c, .int .i64 k0] w fun r w' => r = .returned (.int .i64 (k0 + n : Nat)) ∧ Below w.heap.size w w' := by
  have H := hide h
  clear h
  go_enter Try.func60, Try.ntmps60
  go_wp2
  go_loopw [1, 5] (fun q i wr => ∃ (k q' : Nat), k ≤ n ∧ Hid (q' = k0 + k) ∧ Hid (Below w.heap.size w wr) ∧ q = .int .i64 q' ∧ i = .int .i64 k) (fun _ i _ => n - (intOf i).toNat)
  case atStart => exact ⟨0, k0, by omega, hide rfl, hide (Below.refl _ _), rfl, rfl⟩
  case round =>
    obtain ⟨k, q', hk, hq, HW, rfl, rfl⟩ := hrel
    have qb : q' ≤ 2000000000 := by have := hq.out; omega
    by_cases hlt : k < n
    · obtain ⟨b, o, rfl, hb, hcc⟩ := (H.out.after HW.out).at_ (by omega)
      have hc0 := hcc k _ (marksT_at k0 n k hlt)
      rw [← hq.out] at hc0
      have HC := hide hc0
      have HBL := hide hb
      clear hcc hc0 hb
      have i0 : (0 : Int) ≤ (k : Int) := by omega
      have i1 : (k : Int) < (n : Int) := by omega
      go_wp2
      refine wp_region_held_drew (S := fun x => Below wr.heap.size wr x) (by kernel_rfl) ((Below.refl _ _).drew) (fun hH => ?_)
      refine wpAnyH_take (i := 0) (v := ?_) rfl (by kernel_rfl) (by kernel_rfl) (by kernel_rfl) (fun _ _ _ h => h) (Or.inl ⟨by rfl, fun w hS => ?_⟩) hH ?_
      rotate_left
      · have hc := (hS.cell HBL.out).trans HC.out; go_simp; try exact rfl
      simp only [Act.put, List.setIfInBounds_toArray, List.set_cons_zero, List.set_cons_succ, List.getElem_toArray, List.getElem_cons_zero]
      refine wpAnyH_take (i := 1) (v := ?_) rfl (by kernel_rfl) (by kernel_rfl) (by kernel_rfl) (fun _ _ _ h => h) (Or.inl ⟨by rfl, fun w hS => ?_⟩) hH ?_
      rotate_left
      · have hc := (hS.cell HBL.out).trans HC.out; go_simp; try exact rfl
      simp only [Act.put, List.setIfInBounds_toArray, List.set_cons_zero, List.set_cons_succ, List.getElem_toArray, List.getElem_cons_zero, List.getElem_cons_succ]
      refine wpAnyH_take (i := 2) (v := ?_) rfl (by kernel_rfl) (by kernel_rfl) (by kernel_rfl) (fun _ _ _ h => h) (Or.inl ⟨by rfl, fun w hS => ?_⟩) hH ?_
      rotate_left
      · have hc := (hS.cell HBL.out).trans HC.out; go_simp; try exact rfl
      simp only [Act.put, List.setIfInBounds_toArray, List.set_cons_zero, List.set_cons_succ, List.getElem_toArray, List.getElem_cons_zero, List.getElem_cons_succ]
      refine wpAnyH_take (i := 3) (v := ?_) rfl (by kernel_rfl) (by kernel_rfl) (by kernel_rfl) (fun _ _ _ h => h) (Or.inl ⟨by rfl, fun w hS => ?_⟩) hH ?_
      rotate_left
      · have hc := (hS.cell HBL.out).trans HC.out; go_simp; try exact rfl
      simp only [Act.put, List.setIfInBounds_toArray, List.set_cons_zero, List.set_cons_succ, List.getElem_toArray, List.getElem_cons_zero, List.getElem_cons_succ]
      refine wpAnyH_take (i := 4) (v := ?_) rfl (by kernel_rfl) (by kernel_rfl) (by kernel_rfl) (fun _ _ _ h => h) (Or.inl ⟨by rfl, fun w hS => ?_⟩) hH ?_
      rotate_left
      · have hc := (hS.cell HBL.out).trans HC.out; go_simp; try exact rfl
      simp only [Act.put, List.setIfInBounds_toArray, List.set_cons_zero, List.set_cons_succ, List.getElem_toArray, List.getElem_cons_zero, List.getElem_cons_succ]
      refine wpAnyH_ready (rs := [5]) (by kernel_rfl) (by simp) (AllReadyH.cons rfl (fun K hK => ?_) AllReadyH.nil)
      go_simp
      go_at_call 84
      refine (markText_any q' _ (by have := hq.out; omega)).mono ?_; rintro r w1 ⟨rfl, hb1⟩
      refine hK.out _ _ (hH.trans (hb1.mono hH.size)) (fun hH5 => ?_)
      clear hK K
      try simp only [Act.put, List.setIfInBounds_toArray, List.set_cons_zero, List.set_cons_succ]
      refine wpAnyH_take (i := 6) (v := ?_) rfl (by kernel_rfl) (by kernel_rfl) (by kernel_rfl) (fun _ _ _ h => h) (Or.inl ⟨by rfl, fun w hS => ?_⟩) hH5 ?_
      rotate_left
      · have hc := (hS.cell HBL.out).trans HC.out; go_simp; try exact rfl
      simp only [Act.put, List.setIfInBounds_toArray, List.set_cons_zero, List.set_cons_succ, List.getElem_toArray, List.getElem_cons_zero, List.getElem_cons_succ]
      refine wpAnyH_done (by kernel_rfl) ?_ _
      go_wp2_with fail
      go_roundw
      case rel => exact ⟨k + 1, q' + 1, by omega, hide (by have := hq.out; omega), hide (HW.out.trans (hH5.mono HW.out.size)), int_eq (by omega), int_eq (by omega)⟩
      case measure => simp [intOf]; omega
    · go_wp2
      go_ret
      have e : k = n := by omega
      subst e
      exact ⟨ret_int (by rw [hq.out]), HW.out⟩

theorem markStringS_at {g n c : Nat} {cs : Array Value} {i j : Int} (k0 : Nat) (hi : i = (k0 : Int)) (hj : j = i + n) (w : World) (hb : Bk w g 9 cs) (hn : n ≤ cs.size) (hm : n ≤ 1000000000) (h1 : k0 ≤ 1000000000) :
    Calls Try.prog 58 #[.slice (some ⟨g, 0, none⟩) n c, .int .i64 i] w fun r w' => r = .returned (.int .i64 j) ∧
      (∃ cs', Bk w' g 9 cs' ∧ cs'.size = cs.size ∧ ∀ l, l < n → cs'[l]? = some (.string (mtext (k0 + l)))) ∧ Fr (· = g) w w' := by
  subst hi hj
  have h := markStringS_any g n c cs k0 w hb hn hm h1
  rw [show ((k0 + n : Nat) : Int) = (k0 : Int) + (n : Int) from Int.natCast_add _ _] at h
  exact h
theorem heldStringS_at {A : Option Addr} {n c : Nat} {i j : Int} (k0 : Nat) (hi : i = (k0 : Int)) (hj : j = i + n) (w : World) (h : Rd w 1 A n (marksT k0 n)) (hm : n ≤ 1000000000) (h1 : k0 ≤ 1000000000) :
    Calls Try.prog 60 #[.slice A n c, .int .i64 i] w fun r w' => r = .returned (.int .i64 j) ∧ Below w.heap.size w w' := by
  subst hi hj
  have h := heldStringS_any A n c k0 w h hm h1
  rw [show ((k0 + n : Nat) : Int) = (k0 : Int) + (n : Int) from Int.natCast_add _ _] at h
  exact h
/-- what markStringS leaves reads as the marks -/
theorem marksT_rd {w : World} {g n k0 : Nat} {cs : Array Value} (h : Bk w g 9 cs) (hc : ∀ l, l < n → cs[l]? = some (.string (mtext (k0 + l)))) : Rd w 1 (some ⟨g, 0, none⟩) n (marksT k0 n) := by
  refine h.rd (by rw [marksT_len]; omega) (fun j u hu => ?_)
  have hj : j < n := by
    have := (List.getElem?_eq_some_iff.1 hu).1
    rwa [marksT_len] at this
  rw [marksT_at k0 n j hj] at hu
  injection hu with hu
  rw [hc j hj, hu]
set_option maxHeartbeats 400000 in
theorem markStringS_nil (A : Option Addr) (c : Nat) (i : Int) (w : World) :
    Calls Try.prog 58 #[.slice A 0 c, .int .i64 i] w fun r w' => r = .returned (.int .i64 i) ∧ w = w' := by
  go_enter Try.func58, Try.ntmps58
  go_wp2
  go_loop [1, 5] (fun q j => q = .int .i64 i ∧ j = .int .i64 0) (fun _ _ => 0)
  case atStart => exact ⟨rfl, rfl⟩
  case round =>
    obtain ⟨rfl, rfl⟩ := hrel
    go_wp2
    go_ret
    exact ⟨rfl, rfl⟩
theorem Rd.nil (w : World) (k : Nat) (A : Option Addr) : Rd w k A 0 [] := ⟨by simp, fun h => absurd h (by omega)⟩
/-- three cells of a row of texts, read -/
theorem Bk.rdT {w : World} {g : Nat} {zs : List ByteArray} (h : Bk w g 9 (zs.map Value.string).toArray) : Rd w 1 (some ⟨g, 0, none⟩) zs.length (zs.map Value.string) :=
  h.rd (by simp) (fun j u hu => by rw [List.getElem?_toArray]; exact hu)
theorem eqStringS_v {A A' : Option Addr} {n c n' c' : Nat} {zs ys : List ByteArray} {v : Bool} (hv : eqT zs ys = v) (w : World) (h : Rd w 1 A n (zs.map Value.string)) (h' : Rd w 1 A' n' (ys.map Value.string)) (hm : n ≤ maxLen) :
    Calls Try.prog 82 #[.slice A n c, .slice A' n' c'] w fun r w' => r = .returned (.bool v) ∧ Below w.heap.size w w' := hv ▸ eqStringS_any A A' n c n' c' zs ys w h h' hm
end Go.Proofs.Ytcaoekaephnimaa

/- What comes in, opened: bytes, integers, texts and pointers that a law is given, in the words of the walks. -/
namespace Go.Proofs.Ytcaoekaephnimaa
open Go.RowKit Go.ChangeShapes Go.WideShapes Go.Deep Go.Joins
set_option maxRecDepth 100000

section
variable {H : Type} {enc : TypeId × Value → H} {P : Program} {w : World} {base : Nat}

/-- a row of one-cell values, as read behind an address that came in -/
theorem Rd.of_cells {A : Addr} {n m : Nat} {f : Nat → Value} (hm : n ≤ m) (hc : ∀ i, i < m → w.cell? (A.add i) = some (f i)) : Rd w 1 (some A) n ((List.range n).map f) := by
  refine ⟨by simp, fun hn => ?_⟩
  have h0 := hc 0 (by omega)
  have hsp : A.spot = none := by simpa [Addr.add] using World.cell?_spot h0
  obtain ⟨b, o, sp⟩ := A
  subst hsp
  refine ⟨b, o, rfl, ?_, fun j u hu => ?_⟩
  · have : w.heap[b]? ≠ none := by
      intro he
      simp [World.cell?, he, Addr.add] at h0
    rcases Nat.lt_or_ge b w.heap.size with hl | hl
    · exact hl
    · exact absurd (Array.getElem?_eq_none hl) this
  · rw [List.getElem?_map] at hu
    obtain ⟨j', hj', rfl⟩ := Option.map_eq_some_iff.1 hu
    have hj : j < n := by
      have := (List.getElem?_eq_some_iff.1 hj').1
      simpa using this
    rw [List.getElem?_range hj] at hj'
    injection hj' with hj'
    subst hj'
    have := hc j (by omega)
    rwa [Addr.add_lit] at this

/-- bytes that came in -/
def U8s (w : World) (A : Option Addr) (n c : Nat) (zs : List Int) : Prop :=
  n ≤ c ∧ c ≤ maxLen ∧ zs.length = n ∧ (∀ z ∈ zs, 0 ≤ z ∧ z ≤ 255) ∧ Rd w 1 A n (zs.map (Value.int .u8))
/-- integers that came in -/
def I64s (w : World) (A : Option Addr) (n c : Nat) (zs : List Int) : Prop :=
  n ≤ c ∧ c ≤ maxLen ∧ zs.length = n ∧ (∀ z ∈ zs, -9223372036854775808 ≤ z ∧ z ≤ 9223372036854775807) ∧ Rd w 1 A n (zs.map (Value.int .i64))
/-- texts that came in -/
def Strs (w : World) (A : Option Addr) (n c : Nat) (ss : List ByteArray) : Prop :=
  n ≤ c ∧ c ≤ maxLen ∧ ss.length = n ∧ (∀ s ∈ ss, s.size ≤ maxLen) ∧ Rd w 1 A n (ss.map Value.string)

theorem map_range_take {α β : Type} (g : α → β) (d : α) (l : List α) (n : Nat) (h : n ≤ l.length) : (List.range n).map (fun i => g (l.getD i d)) = (l.take n).map g := by
  apply List.ext_getElem?
  intro i
  by_cases hi : i < n
  · have h1 : i < l.length := by omega
    simp [List.getElem?_range hi, List.getElem?_take_of_lt hi, List.getElem?_eq_getElem h1]
  · rw [List.getElem?_eq_none (by simp; omega), List.getElem?_eq_none (by simp; omega)]

theorem open_u8s {v : Value} {d : DataW H} {p : List MemPlace} (hv : Value.okWide Try.prog w .any base 43 v) (h : DataW.Trod enc Try.prog w 0 (fun _ => true) true 43 v d p) :
    ∃ (A : Option Addr) (n c : Nat) (zs : List Int), v = .slice A n c ∧ U8s w A n c zs := by
  obtain ⟨A, n, c, rfl⟩ := okWide_slice Try.underlying43 hv
  obtain ⟨fuel, hf⟩ := h
  rcases open_ints Try.underlying43 Try.underlying5 (by kernel_rfl) hf with ⟨hcs, _⟩ | ⟨x, l, c', zs, hcs, _, hl, hm, hz, _, hcell, hwz⟩
  · simp [Value.cells] at hcs
    obtain ⟨rfl, rfl, rfl⟩ := hcs
    exact ⟨none, 0, 0, [], rfl, Nat.le_refl _, by simp [maxLen], rfl, by simp, ⟨by simp, fun h => absurd h (by omega)⟩⟩
  · simp [Value.cells] at hcs
    obtain ⟨rfl, rfl, rfl⟩ := hcs
    have hz' : zs.length = c := by simpa using hz
    refine ⟨some x, n, c, zs.take n, rfl, hl, hm, by simp; omega, fun z hz => bounds_u8 (hwz z (List.mem_of_mem_take hz)), ?_⟩
    rw [← map_range_take (Value.int .u8) 0 zs n (by omega)]
    exact Rd.of_cells (by omega : n ≤ zs.length) hcell

theorem i64s_of_trod {c : Value} {n0 : Nat} {y : DataW H × List MemPlace} (h : DataW.trod enc Try.prog w 0 (fun _ => true) true n0 37 [c] = some y) :
    ∃ (A : Option Addr) (n c' : Nat) (zs : List Int), c = .slice A n c' ∧ I64s w A n c' zs := by
  rcases open_ints Try.underlying37 Try.underlying3 (by kernel_rfl) h with ⟨hcs, _⟩ | ⟨x, l, c', zs, hcs, _, hl, hm, hz, _, hcell, hwz⟩
  · simp only [List.cons.injEq, and_true] at hcs
    subst hcs
    exact ⟨none, 0, 0, [], rfl, Nat.le_refl _, by simp [maxLen], rfl, by simp, ⟨by simp, fun h => absurd h (by omega)⟩⟩
  · simp only [List.cons.injEq, and_true] at hcs
    subst hcs
    have hz' : zs.length = c' := by simpa using hz
    refine ⟨some x, l, c', zs.take l, rfl, hl, hm, by simp; omega, fun z hz => bounds_i64 (hwz z (List.mem_of_mem_take hz)), ?_⟩
    rw [← map_range_take (Value.int .i64) 0 zs l (by omega)]
    exact Rd.of_cells (by omega : l ≤ zs.length) hcell
theorem strs_of_trod {c : Value} {n0 : Nat} {y : DataW H × List MemPlace} (h : DataW.trod enc Try.prog w 0 (fun _ => true) true n0 46 [c] = some y) :
    ∃ (A : Option Addr) (n c' : Nat) (zs : List ByteArray), c = .slice A n c' ∧ Strs w A n c' zs := by
  rcases open_strings Try.underlying46 Try.underlying9 (by kernel_rfl) h with ⟨hcs, _⟩ | ⟨x, l, c', zs, hcs, _, hl, hm, hz, _, hcell, hwz⟩
  · simp only [List.cons.injEq, and_true] at hcs
    subst hcs
    exact ⟨none, 0, 0, [], rfl, Nat.le_refl _, by simp [maxLen], rfl, by simp, ⟨by simp, fun h => absurd h (by omega)⟩⟩
  · simp only [List.cons.injEq, and_true] at hcs
    subst hcs
    have hz' : zs.length = c' := by simpa using hz
    refine ⟨some x, l, c', zs.take l, rfl, hl, hm, by simp; omega, fun z hz => hwz z (List.mem_of_mem_take hz), ?_⟩
    rw [← map_range_take (Value.string) ByteArray.empty zs l (by omega)]
    exact Rd.of_cells (by omega : l ≤ zs.length) hcell
theorem open_i64s {v : Value} {d : DataW H} {p : List MemPlace} (_hv : Value.okWide Try.prog w .any base 37 v) (h : DataW.Trod enc Try.prog w 0 (fun _ => true) true 37 v d p) :
    ∃ (A : Option Addr) (n c : Nat) (zs : List Int), v = .slice A n c ∧ I64s w A n c zs := by
  obtain ⟨A, n, c, rfl⟩ := okWide_slice Try.underlying37 _hv
  obtain ⟨fuel, hf⟩ := h
  exact i64s_of_trod (by simpa [Value.cells] using hf)
theorem open_strs {v : Value} {d : DataW H} {p : List MemPlace} (_hv : Value.okWide Try.prog w .any base 46 v) (h : DataW.Trod enc Try.prog w 0 (fun _ => true) true 46 v d p) :
    ∃ (A : Option Addr) (n c : Nat) (ss : List ByteArray), v = .slice A n c ∧ Strs w A n c ss := by
  obtain ⟨A, n, c, rfl⟩ := okWide_slice Try.underlying46 _hv
  obtain ⟨fuel, hf⟩ := h
  exact strs_of_trod (by simpa [Value.cells] using hf)
end
end Go.Proofs.Ytcaoekaephnimaa

/- A disk that came in, opened: a row of texts, a row of waiting writes, whether it is gone. -/
namespace Go.Proofs.Ytcaoekaephnimaa
open Go.RowKit Go.ChangeShapes Go.WideShapes Go.Deep Go.Joins
set_option maxRecDepth 100000
set_option linter.unusedVariables false

/-- the cells of waiting writes -/
def waitCells (zs : List (Int × ByteArray)) : List Value := zs.flatMap fun z => [.int .i64 z.1, .string z.2]
theorem waitCells_len (zs : List (Int × ByteArray)) : (waitCells zs).length = zs.length * 2 := by
  induction zs with
  | nil => rfl
  | cons z zs ih =>
    show (.int .i64 z.1 :: .string z.2 :: waitCells zs).length = _
    simp only [List.length_cons, ih]
    omega
theorem waitCells_at (zs : List (Int × ByteArray)) (k : Nat) (z : Int × ByteArray) (h : zs[k]? = some z) : (waitCells zs)[k * 2]? = some (.int .i64 z.1) ∧ (waitCells zs)[k * 2 + 1]? = some (.string z.2) := by
  induction zs generalizing k with
  | nil => simp at h
  | cons y ys ih =>
    cases k with
    | zero =>
      simp only [List.getElem?_cons_zero, Option.some.injEq] at h
      subst h
      exact ⟨rfl, rfl⟩
    | succ k =>
      have h2 : ys[k]? = some z := by simpa using h
      obtain ⟨a, b⟩ := ih k h2
      have e1 : (k + 1) * 2 = k * 2 + 1 + 1 := by omega
      have e2 : (k + 1) * 2 + 1 = k * 2 + 1 + 1 + 1 := by omega
      rw [e1]
      exact ⟨a, b⟩
theorem waitCells_of (zs : List (Int × ByteArray)) (j : Nat) (u : Value) (h : (waitCells zs)[j]? = some u) : ∃ k z, zs[k]? = some z ∧ ((j = k * 2 ∧ u = .int .i64 z.1) ∨ (j = k * 2 + 1 ∧ u = .string z.2)) := by
  have hl : j < zs.length * 2 := by
    rw [← waitCells_len]
    exact (List.getElem?_eq_some_iff.1 h).1
  have hk : j / 2 < zs.length := by omega
  refine ⟨j / 2, zs[j / 2], List.getElem?_eq_getElem hk, ?_⟩
  obtain ⟨a, b⟩ := waitCells_at zs (j / 2) zs[j / 2] (List.getElem?_eq_getElem hk)
  rcases Nat.mod_two_eq_zero_or_one j with e | e
  · have e2 : j / 2 * 2 = j := by omega
    rw [e2, h] at a
    injection a with a
    exact .inl ⟨e2.symm, a⟩
  · have e2 : j / 2 * 2 + 1 = j := by omega
    rw [e2, h] at b
    injection b with b
    exact .inr ⟨e2.symm, b⟩
/-- waiting writes that came in -/
def WaitS (w : World) (A : Option Addr) (n c : Nat) (zs : List (Int × ByteArray)) : Prop :=
  n ≤ c ∧ c ≤ maxLen ∧ zs.length = n ∧ (∀ z ∈ zs, (-9223372036854775808 ≤ z.1 ∧ z.1 ≤ 9223372036854775807) ∧ z.2.size ≤ maxLen) ∧ Rd w 2 A n (waitCells zs)

section
variable {H : Type} {enc : TypeId × Value → H} {w : World} {base : Nat}
theorem waits_of_trod {c : Value} {n0 : Nat} {y : DataW H × List MemPlace} (h : DataW.trod enc Try.prog w 0 (fun _ => true) true n0 80 [c] = some y) :
    ∃ (A : Option Addr) (n c' : Nat) (zs : List (Int × ByteArray)), c = .slice A n c' ∧ WaitS w A n c' zs := by
  rcases open_slice_pairs Try.underlying80 Try.underlying117 (by kernel_rfl) (by kernel_rfl) (by kernel_rfl) (by kernel_rfl) (by kernel_rfl) h with ⟨hcs, _⟩ | ⟨a, len, cap, m, n, V0, V1, D0, D1, P0, P1, hcs, _, hl, hm, hmm, _, hcell⟩
  · simp only [List.cons.injEq, and_true] at hcs
    subst hcs
    exact ⟨none, 0, 0, [], rfl, Nat.le_refl _, by simp [maxLen], rfl, by simp, ⟨rfl, fun h => absurd h (by omega)⟩⟩
  · simp only [List.cons.injEq, and_true] at hcs
    subst hcs
    have hmc : m = cap := by simpa using hmm
    subst hmc
    have each : ∀ i, i < m → ∃ q : Int × ByteArray, V0 i = .int .i64 q.1 ∧ V1 i = .string q.2 ∧ (-9223372036854775808 ≤ q.1 ∧ q.1 ≤ 9223372036854775807) ∧ q.2.size ≤ maxLen := by
      intro i hi
      obtain ⟨_, _, h0, h1⟩ := hcell i hi
      obtain ⟨x0, e0, _, f0⟩ := DataW.trod_int Try.underlying3 h0
      obtain ⟨x1, e1, _, f1⟩ := DataW.trod_string Try.underlying9 h1
      simp only [List.cons.injEq, and_true] at e0 e1
      exact ⟨(x0, x1), e0, e1, bounds_i64 f0, f1⟩
    obtain ⟨q, hq⟩ := choose_lt each
    have hsp : 0 < len → ∃ b o, a = ⟨b, o, none⟩ ∧ b < w.heap.size := by
      intro hn
      obtain ⟨h0, _⟩ := hcell 0 (by omega)
      have hsp : a.spot = none := by simpa [Addr.add] using World.cell?_spot h0
      obtain ⟨b, o, sp⟩ := a
      subst hsp
      refine ⟨b, o, rfl, ?_⟩
      have : w.heap[b]? ≠ none := by
        intro he
        simp [World.cell?, he, Addr.add] at h0
      rcases Nat.lt_or_ge b w.heap.size with hl | hl
      · exact hl
      · exact absurd (Array.getElem?_eq_none hl) this
    refine ⟨some a, len, m, (List.range len).map q, rfl, hl, hm, by simp, ?_, ?_⟩
    · intro z hz
      obtain ⟨i, hi, rfl⟩ := List.mem_map.1 hz
      have hi2 : i < len := by simpa using hi
      exact (hq i (by omega)).2.2
    · refine ⟨by rw [waitCells_len]; simp, fun hn => ?_⟩
      obtain ⟨b, o, rfl, hb⟩ := hsp hn
      refine ⟨b, o, rfl, hb, fun j u hu => ?_⟩
      obtain ⟨k, z, hz, hju⟩ := waitCells_of _ j u hu
      rw [List.getElem?_map] at hz
      obtain ⟨k', hk', rfl⟩ := Option.map_eq_some_iff.1 hz
      have hk : k < len := by
        have := (List.getElem?_eq_some_iff.1 hk').1
        simpa using this
      rw [List.getElem?_range hk] at hk'
      injection hk' with hk'
      subst hk'
      obtain ⟨h0, h1, _, _⟩ := hcell k (by omega)
      obtain ⟨e0, e1, _⟩ := hq k (by omega)
      rw [Addr.add_lit] at h0 h1
      rcases hju with ⟨rfl, rfl⟩ | ⟨rfl, rfl⟩
      · rw [← e0]; exact h0
      · rw [← e1]; exact h1

theorem open_Disk {v : Value} {dd : DataW H} {p : List MemPlace} (hv : Value.okWide Try.prog w .any base 82 v) (h : DataW.Trod enc Try.prog w 0 (fun _ => true) true 82 v dd p) :
    ∃ (A1 A2 : Option Addr) (n1 n2 c1 c2 : Nat) (z1 : List ByteArray) (z2 : List (Int × ByteArray)) (g : Bool), v = .agg #[.slice A1 n1 c1, .slice A2 n2 c2, .bool g] ∧ Strs w A1 n1 c1 z1 ∧ WaitS w A2 n2 c2 z2 := by
  obtain ⟨cs, rfl, hsz⟩ := okWide_struct Try.underlying82 hv
  obtain ⟨l⟩ := cs
  have hl : l.length = 3 := hsz.trans (by kernel_rfl)
  obtain ⟨fuel, hf⟩ := h
  obtain ⟨xs, n, _, hx, _, hlen, hg⟩ := DataW.trod_struct Try.underlying82 hf
  match l, hl with
  | [c0, c1, c2], _ =>
    match xs, hlen with
    | [y0, y1, y2], _ =>
      have k0 : Try.prog.cellsOf 46 = 1 := by kernel_rfl
      have k1 : Try.prog.cellsOf 80 = 1 := by kernel_rfl
      have k2 : Try.prog.cellsOf 4 = 1 := by kernel_rfl
      have g0 : DataW.trod enc Try.prog w 0 (fun _ => true) true n 46 [c0] = some y0 := by simpa [Value.cells, k0] using hg 0 _ rfl
      have g1 : DataW.trod enc Try.prog w 0 (fun _ => true) true n 80 [c1] = some y1 := by simpa [Value.cells, k1] using hg 1 _ rfl
      have g2 : DataW.trod enc Try.prog w 0 (fun _ => true) true n 4 [c2] = some y2 := by simpa [Value.cells, k2] using hg 2 _ rfl
      obtain ⟨A1, n1, d1, z1, rfl, i1⟩ := strs_of_trod g0
      obtain ⟨A2, n2, d2, z2, rfl, i2⟩ := waits_of_trod g1
      obtain ⟨b, e2, _⟩ := DataW.trod_bool Try.underlying4 g2
      simp only [List.cons.injEq, and_true] at e2
      subst e2
      exact ⟨A1, A2, n1, n2, d1, d2, z1, z2, b, rfl, i1, i2⟩
end
end Go.Proofs.Ytcaoekaephnimaa

/- Rows of bytes that a call makes for itself; bytes of texts. -/
namespace Go.Proofs.Ytcaoekaephnimaa
open Go.RowKit

theorem at_of (s : ByteArray) (k : Nat) (h : k < s.size) : s.data.toList[k]? = some s[k] := by
  rw [Array.getElem?_toList]; exact Array.getElem?_eq_getElem h
theorem none_of (s : ByteArray) (k : Nat) (h : s.size ≤ k) : s.data.toList[k]? = none := by
  rw [Array.getElem?_toList]; exact Array.getElem?_eq_none h
/-- string(b) of a row of bytes of the call's own -/
theorem str_of_own {w : World} {base : Nat} {v : Value} {out : List UInt8} (h : w.ownsRow base 5 1 v out.length (Lib.byteCells out)) :
    (convert 43 9 v).run Try.prog w = .ok (.string ⟨out.toArray⟩) w := by
  rcases h.2 with ⟨rfl, hn⟩ | ⟨g, cap, cur, rfl, hg, hh, hc, hp⟩
  · have ho : out = [] := List.eq_nil_of_length_eq_zero hn
    subst ho
    exact run_convert_bytes_nil w 43 5 Try.underlying43 Try.underlying5 0 0 9 Try.underlying9
  · refine run_convert_bytes_back w 43 9 5 _ cap out Try.underlying43 Try.underlying5 Try.underlying9 (fun j hj => ?_)
    exact h.cells (g := g) rfl j _ (by simp [Lib.byteCells, List.getElem?_eq_getElem hj])

theorem info_u8 : (Try.prog.info? 5).map (fun i => (i.zero, i.size, i.bytes)) = some (some (.int .u8 0), 1, 1) := by kernel_rfl
theorem own_drewN {w : World} {base : Nat} {e : TypeId} {k n : Nat} {v : Value} {xs : List Value} (h : w.ownsRow base e k v n xs) (m : Nat) : (w.drewN m).ownsRow base e k v n xs := h
theorem own_snoc {w : World} {base : Nat} {e : TypeId} {v : Value} {out more : List UInt8} {n : Nat} {xs : List Value} (h : w.ownsRow base e 1 v (out.length + n) (Lib.byteCells out ++ xs)) (hx : xs = Lib.byteCells more) (hn : more.length = n) : w.ownsRow base e 1 v (out ++ more).length (Lib.byteCells (out ++ more)) := by
  subst hx hn
  have e1 : (out ++ more).length = out.length + more.length := by simp
  have e2 : Lib.byteCells (out ++ more) = Lib.byteCells out ++ Lib.byteCells more := by simp [Lib.byteCells]
  rw [e1, e2]
  exact h
theorem bel_grown {w wr w1 : World} {v : Value} {e : TypeId} {k n : Nat} {xs : List Value} (hb : Below w.heap.size w wr) (ho : wr.ownsRow w.heap.size e k v n xs) (hg : wr.grownBy w1 v.ownBlock) : Below w.heap.size w w1 := hb.grown hg hb.size (fun i hi => (ho.lt i hi).1)
theorem oneCells (l : List UInt8) : ∀ u ∈ Lib.byteCells l, u.oneCell' = true := by
  intro u hu
  simp only [Lib.byteCells, List.mem_map] at hu
  obtain ⟨b, _, rfl⟩ := hu
  rfl

end Go.Proofs.Ytcaoekaephnimaa

/- Ranges of integers: within, l6In and what asks them. -/
namespace Go.Proofs.Ytcaoekaephnimaa
open Go.RowKit

/-- low ≤ n ≤ high -/
def inR (n lo hi : Int) : Bool := decide (lo ≤ n) && decide (n ≤ hi)
set_option maxHeartbeats 400000 in
theorem within_any (n lo hi : Int) (w : World) : Calls Try.prog 91 #[.int .i64 n, .int .i64 lo, .int .i64 hi] w fun r w' => r = .returned (.bool (inR n lo hi)) ∧ w = w' := by
  go_enter Try.func91, Try.ntmps91
  go_wp2
  all_goals
    go_ret
    exact ⟨ret_bool (by simp only [inR]; grind), rfl⟩
set_option maxHeartbeats 400000 in
theorem l6In_any (n lo hi : Int) (w : World) : Calls Try.prog 87 #[.int .i64 n, .int .i64 lo, .int .i64 hi] w fun r w' => r = .returned (.bool (inR n lo hi)) ∧ w = w' := by
  go_enter Try.func87, Try.ntmps87
  go_wp2
  all_goals
    go_ret
    exact ⟨ret_bool (by simp only [inR]; grind), rfl⟩
set_option maxHeartbeats 400000 in
theorem l2Row_any (n : Int) (w : World) : Calls Try.prog 102 #[.int .i64 n] w fun r w' => r = .returned (.bool (inR n 8 63)) ∧ w = w' := by
  go_enter Try.func102, Try.ntmps102
  go_wp2_with (go_at_call 87; refine (l6In_any _ _ _ _).mono ?_; rintro r w1 ⟨rfl, rfl⟩)
  go_ret
  exact ⟨rfl, rfl⟩
theorem within_v {n lo hi : Int} {v : Bool} (h : inR n lo hi = v) (w : World) : Calls Try.prog 91 #[.int .i64 n, .int .i64 lo, .int .i64 hi] w fun r w' => r = .returned (.bool v) ∧ w = w' := h ▸ within_any n lo hi w
theorem l6In_v {n lo hi : Int} {v : Bool} (h : inR n lo hi = v) (w : World) : Calls Try.prog 87 #[.int .i64 n, .int .i64 lo, .int .i64 hi] w fun r w' => r = .returned (.bool v) ∧ w = w' := h ▸ l6In_any n lo hi w
theorem l2Block_of (s : ByteArray) (w : World) : Calls Try.prog 92 #[.string s] w fun r w' => r = .returned (.bool (inR s.size 1 128)) ∧ w = w' := by
  go_enter Try.func92, Try.ntmps92
  go_wp2_with (go_at_call 87; refine (l6In_any _ _ _ _).mono ?_; rintro r w1 ⟨rfl, rfl⟩)
  go_ret
  exact ⟨rfl, rfl⟩
theorem l2Block_v {s : ByteArray} {v : Bool} (h : inR s.size 1 128 = v) (w : World) : Calls Try.prog 92 #[.string s] w fun r w' => r = .returned (.bool v) ∧ w = w' := h ▸ l2Block_of s w
end Go.Proofs.Ytcaoekaephnimaa
