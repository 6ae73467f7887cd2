/- The reader of a code: l6Open and pick; l91Text draws a text of a bounded length. -/
import Derived.Test.YtcaoekaephnimaaQA
import Derived.Laws.BitsAllLaws
import Derived.Laws.BitsLemmas
import Derived.Deep.AppendLies
import Derived.Lib.UnsafeStr
import Derived.Laws.BytesArg
import Derived.Laws.IdiomStrings
namespace Go.Proofs.Ytcaoekaephnimaa
open Go.RowKit

/-- block R is a reader that has made p picks; its code lies in a block before it -/
def Rdr (w : World) (R p : Nat) : Prop := ∃ (A : Option Addr) (n c : Nat) (zs : List Int), Bk w R 91 #[.slice A n c, .int .i64 p] ∧ zs.length = n ∧ n ≤ 2000 ∧ (∀ z ∈ zs, 0 ≤ z ∧ z ≤ 255) ∧
  (0 < n → ∃ b o, A = some ⟨b, o, none⟩ ∧ b < R ∧ ∀ (j : Nat) (z : Int), zs[j]? = some z → w.cell? ⟨b, o + j, none⟩ = some (.int .u8 z))
theorem Rdr.lt {w : World} {R p : Nat} (h : Rdr w R p) : R < w.heap.size := by
  obtain ⟨_, _, _, _, hb, _⟩ := h
  exact hb.lt
theorem Rdr.fr {S : Nat → Prop} {w w' : World} {R p : Nat} (h : Rdr w R p) (hf : Fr S w w') (hS : ∀ b, b ≤ R → ¬ S b) : Rdr w' R p := by
  have hlt := h.lt
  obtain ⟨A, n, c, zs, hb, h1, h2, h3, h4⟩ := h
  refine ⟨A, n, c, zs, hb.fr hf (hS R (Nat.le_refl _)), h1, h2, h3, fun hn => ?_⟩
  obtain ⟨b, o, e, hbR, hc⟩ := h4 hn
  exact ⟨b, o, e, hbR, fun j z hz => (World.cell?_of_block (w := w) (a := ⟨b, o + j, none⟩) (hf.block b (by omega) (hS b (by omega)))).trans (hc j z hz)⟩
theorem Rdr.after {w w' : World} {R p : Nat} (h : Rdr w R p) (hb : Below w.heap.size w w') : Rdr w' R p := h.fr (Fr.of_below (fun _ => False) hb) (fun _ _ h => h)

/-- what pick answers -/
def Picked (R p : Nat) (m : Int) (w : World) (r : Ending) (w' : World) : Prop :=
  ∃ v : Int, r = .returned (.int .i64 v) ∧ 0 ≤ v ∧ (1 ≤ m → v < m) ∧ (m < 1 → v = 0) ∧ Rdr w' R (p + 1) ∧ Fr (· = R) w w'

theorem ofInt_i64' (a : Nat) (ha : a < 9223372036854775808) : (BitVec.ofInt 64 (a : Int)).toNat = a := by
  rw [BitVec.ofInt_natCast, BitVec.toNat_ofNat]; exact Nat.mod_eq_of_lt (by omega)
theorem xor_i64 (a b : Nat) (ha : a < 9223372036854775808) (hb : b < 9223372036854775808) : bits .xor .i64 (a : Int) (b : Int) = ((a ^^^ b : Nat) : Int) := by
  have hx : a ^^^ b < 2 ^ 63 := Nat.xor_lt_two_pow (by omega) (by omega)
  show IntKind.i64.wrap ((BitVec.ofInt 64 (a : Int) ^^^ BitVec.ofInt 64 (b : Int)).toNat : Int) = _
  rw [BitVec.toNat_xor, ofInt_i64' a ha, ofInt_i64' b hb, IntKind.wrap_i64]
  omega
theorem xor_bd (x y : Int) (hx : 0 ≤ x) (hx2 : x ≤ 4000000000) (hy : 0 ≤ y) (hy2 : y ≤ 4000000000) : 0 ≤ bits .xor .i64 x y ∧ bits .xor .i64 x y ≤ 4294967296 := by
  obtain ⟨a, rfl⟩ := Int.eq_ofNat_of_zero_le hx
  obtain ⟨b, rfl⟩ := Int.eq_ofNat_of_zero_le hy
  have h : a ^^^ b < 2 ^ 32 := Nat.xor_lt_two_pow (by omega) (by omega)
  rw [xor_i64 a b (by omega) (by omega)]
  omega

set_option maxHeartbeats 1000000 in
theorem pick_any (R p : Nat) (m : Int) (w : World) (h : Rdr w R p) (hp : p ≤ 1000000) (hm0 : -1000000 ≤ m) (hm1 : m ≤ 1000000) :
    Calls Try.prog 73 #[.pointer (some ⟨R, 0, none⟩), .int .i64 m] w (Picked R p m w) := by
  obtain ⟨A, n, c, zs, hk, hl, h2000, hz, hat⟩ := h
  obtain ⟨q0, q1⟩ := hk.c2
  have f1 := hk.frozen 1
  have HF := hide ((Fr.refl (· = R) w).setCell (p := ⟨R, 1, none⟩) (.inl rfl) (.int .i64 ((p : Int) + 1)))
  have HR : Hid (Rdr (w.setCell ⟨R, 1, none⟩ (.int .i64 ((p : Int) + 1))) R (p + 1)) := ⟨A, n, c, zs, hk.put 1 _, hl, h2000, hz, fun hn => by
    obtain ⟨b, o, e, hbR, hc⟩ := hat hn
    refine ⟨b, o, e, hbR, fun j z hj => ?_⟩
    rw [World.cell?_setCell_other w _ _ _ (fun e => by injection e with e; omega)]
    exact hc j z hj⟩
  have HL := hide hl
  have HZ := hide hz
  have HAT := hide hat
  clear hl hz hat hk
  by_cases h1 : m < 1
  · go_enter Try.func73, Try.ntmps73
    go_wp2_with fail
    go_ret
    exact ⟨0, rfl, by omega, fun h => by omega, fun _ => rfl, HR.out, HF.out⟩
  · have h1' : (1 : Int) ≤ m := by omega
    by_cases hn : n = 0
    · subst hn
      go_enter Try.func73, Try.ntmps73
      go_wp2_with fail
      go_ret
      exact ⟨0, rfl, by omega, fun h => by omega, fun _ => rfl, HR.out, HF.out⟩
    · obtain ⟨b, o, rfl, hbR, hcc⟩ := HAT.out (by omega)
      have hne : ¬ b = R := by omega
      have hn0 : ((n : Int) == 0) = false := by simp; omega
      have hnp : (0 : Int) < (n : Int) := by omega
      by_cases hpn : p < n
      · have hpl : p < zs.length := by have := HL.out; omega
        have hc := hcc p zs[p] (List.getElem?_eq_getElem hpl)
        have hzb := HZ.out zs[p] (List.getElem_mem hpl)
        obtain ⟨z, hzz⟩ : ∃ z, z = zs[p] := ⟨_, rfl⟩
        rw [← hzz] at hc hzb
        obtain ⟨z0, z1⟩ := hzb
        clear hcc hzz
        go_enter Try.func73, Try.ntmps73
        go_wp2_with fail
        go_ret
        exact ⟨z % m, rfl, Int.emod_nonneg _ (by omega), fun _ => Int.emod_lt_of_pos _ (by omega), fun h => by omega, HR.out, HF.out⟩
      · have hm1' : p % n < n := Nat.mod_lt _ (by omega)
        have hm2' : (p * 7 + 3) % n < n := Nat.mod_lt _ (by omega)
        have hl1 : p % n < zs.length := by have := HL.out; omega
        have hl2 : (p * 7 + 3) % n < zs.length := by have := HL.out; omega
        have hc1 := hcc _ zs[p % n] (List.getElem?_eq_getElem hl1)
        have hc2 := hcc _ zs[(p * 7 + 3) % n] (List.getElem?_eq_getElem hl2)
        have hz1 := HZ.out _ (List.getElem_mem hl1)
        have hz2 := HZ.out _ (List.getElem_mem hl2)
        generalize zs[p % n] = x at hc1 hz1
        generalize zs[(p * 7 + 3) % n] = y at hc2 hz2
        obtain ⟨x0, x1⟩ := hz1
        obtain ⟨y0, y1⟩ := hz2
        obtain ⟨i1, hi1⟩ : ∃ i, i = p % n := ⟨_, rfl⟩
        obtain ⟨i2, hi2⟩ : ∃ i, i = (p * 7 + 3) % n := ⟨_, rfl⟩
        rw [← hi1] at hc1 hm1'
        rw [← hi2] at hc2 hm2'
        have e1 : (p : Int) % (n : Int) = (i1 : Int) := by rw [hi1]; omega
        have e2 : ((p : Int) * 7 + 3) % (n : Int) = (i2 : Int) := by rw [hi2]; push_cast; rfl
        have hq := Nat.div_le_self p n
        obtain ⟨d, hd⟩ : ∃ d, d = p / n := ⟨_, rfl⟩
        rw [← hd] at hq
        have e3 : (p : Int) / (n : Int) = (d : Int) := by rw [hd]; rfl
        obtain ⟨W1, HW1⟩ : ∃ W : World, W = w.setCell ⟨R, 1, none⟩ (.int .i64 ((p : Int) + 1)) := ⟨_, rfl⟩
        have k0 : W1.cell? ⟨R, 0, none⟩ = some (.slice (some ⟨b, o, none⟩) n c) := by rw [HW1, World.cell?_setCell_other w _ _ _ (by simp)]; exact q0
        have k1 : W1.cell? ⟨b, o + i1, none⟩ = some (.int .u8 x) := by rw [HW1, World.cell?_setCell_other w _ _ _ (fun e => by injection e with e; omega)]; exact hc1
        have k2 : W1.cell? ⟨b, o + i2, none⟩ = some (.int .u8 y) := by rw [HW1, World.cell?_setCell_other w _ _ _ (fun e => by injection e with e; omega)]; exact hc2
        have b1 : (0 : Int) ≤ (i1 : Int) := by omega
        have b2 : (i1 : Int) < (n : Int) := by omega
        have b3 : (0 : Int) ≤ (i2 : Int) := by omega
        have b4 : (i2 : Int) < (n : Int) := by omega
        have b5 : ¬ (p : Int) < (n : Int) := by omega
        have b6 : (d : Int) ≤ 1000000 := by omega
        clear hcc hl1 hl2 hi1 hi2 hd hc1 hc2
        go_enter Try.func73, Try.ntmps73
        go_wp2_with fail
        rw [← HW1]
        rw [← HW1] at HF HR
        clear HW1 q0 q1 f1
        go_quiet (fail)
        have g0 : 0 ≤ x * 131 + y * 1117 + (p : Int) * 29 + (d : Int) * 53 := by omega
        have g1 : x * 131 + y * 1117 + (p : Int) * 29 + (d : Int) * 53 ≤ 4000000000 := by omega
        generalize x * 131 + y * 1117 + (p : Int) * 29 + (d : Int) * 53 = X at g0 g1 ⊢
        obtain ⟨g2, g3⟩ := xor_bd X (X / 64) g0 g1 (by omega) (by omega)
        have HX := hide g2
        clear e1 e2 e3 k0 k1 k2
        go_wp2_with fail
        go_ret
        exact ⟨_, rfl, Int.emod_nonneg _ (by omega), fun _ => Int.emod_lt_of_pos _ (by omega), fun h => by omega, HR.out.fr ((Fr.refl (fun _ => False) _).drewN _) (fun _ _ h => h), HF.out.drewN _⟩
end Go.Proofs.Ytcaoekaephnimaa

/- l6Open makes a reader of a code; l91Text draws a text of a bounded length. -/
namespace Go.Proofs.Ytcaoekaephnimaa
open Go.RowKit

theorem byteCells_len' (l : List UInt8) : (Lib.byteCells l).length = l.length := by simp [Lib.byteCells]
theorem info_byte : (Try.prog.info? 5).map (fun i => (i.zero, i.size, i.bytes)) = some (some (.int .u8 0), 1, 1) := by kernel_rfl
/-- string(b) of a row of bytes of the call's own -/
theorem str_of_row {w : World} {base : Nat} {v : Value} {out : List UInt8} (h : w.ownsRow base 5 1 v out.length (Lib.byteCells out)) :
    (convert 43 9 v).run Try.prog w = .ok (.string ⟨out.toArray⟩) w := by
  rcases h.2 with ⟨rfl, hn⟩ | ⟨g, cap, cur, rfl, hg, hh, hc, hp⟩
  · have ho : out = [] := List.eq_nil_of_length_eq_zero hn
    subst ho
    exact run_convert_bytes_nil w 43 5 Try.underlying43 Try.underlying5 0 0 9 Try.underlying9
  · refine run_convert_bytes_back w 43 9 5 _ cap out Try.underlying43 Try.underlying5 Try.underlying9 (fun j hj => ?_)
    exact h.cells (g := g) rfl j _ (by simp [Lib.byteCells, List.getElem?_eq_getElem hj])
theorem own_fr {S : Nat → Prop} {w w' : World} {base : Nat} {e : TypeId} {k n : Nat} {v : Value} {xs : List Value} (h : w.ownsRow base e k v n xs) (hf : Fr S w w') (hS : ∀ i, S i → i < base) : w'.ownsRow base e k v n xs := by
  refine ⟨h.1, ?_⟩
  rcases h.2 with h2 | ⟨g, cap, cur, hv, hg, hh, r⟩
  · exact .inl h2
  · refine .inr ⟨g, cap, cur, hv, hg, ?_, r⟩
    rw [hf.block g (Array.getElem?_eq_some_iff.1 hh).1 (fun hs => by have := hS g hs; omega)]
    exact hh
theorem fr_grown {S : Nat → Prop} {a b c : World} {base : Nat} {e : TypeId} {k n : Nat} {v : Value} {xs : List Value} (h : Fr S a b) (ho : b.ownsRow base e k v n xs) (hB : a.heap.size ≤ base) (hg : b.grownBy c v.ownBlock) : Fr S a c :=
  h.next (T := fun i => some i = v.ownBlock) ⟨hg.os, hg.tape, hg.output, hg.size, fun i hi hn => hg.block i hi (fun e => hn e)⟩ (fun i _ hi => .inr (Nat.le_trans hB (ho.lt i hi.symm).1))
theorem own_more {w : World} {base : Nat} {e : TypeId} {v : Value} {out : List UInt8} {x : Int} (h : w.ownsRow base e 1 v (out.length + 1) (Lib.byteCells out ++ [.int .u8 x])) (x0 : 0 ≤ x) (x1 : x < 256) : w.ownsRow base e 1 v (out ++ [UInt8.ofNat x.toNat]).length (Lib.byteCells (out ++ [UInt8.ofNat x.toNat])) := by
  have e1 : (out ++ [UInt8.ofNat x.toNat]).length = out.length + 1 := by simp
  have e2 : Lib.byteCells (out ++ [UInt8.ofNat x.toNat]) = Lib.byteCells out ++ [.int .u8 x] := by
    simp only [Lib.byteCells, List.map_append, List.map_cons, List.map_nil]
    congr 3
    rw [UInt8.toNat_ofNat']
    omega
  rw [e1, e2]
  exact h
/-- the length of a slice value -/
def lenOf : Value → Nat | .slice _ n _ => n | _ => 0
theorem lenOf_own {w : World} {base : Nat} {e : TypeId} {k n : Nat} {v : Value} {xs : List Value} (h : w.ownsRow base e k v n xs) : lenOf v = n := by
  rcases h.2 with ⟨rfl, hn⟩ | ⟨g, cap, cur, rfl, _⟩
  · exact hn.symm
  · rfl
theorem own_form {w : World} {base : Nat} {e : TypeId} {k n : Nat} {v : Value} {xs : List Value} (h : w.ownsRow base e k v n xs) : ∃ A c, v = .slice A n c := by
  rcases h.2 with ⟨rfl, rfl⟩ | ⟨g, cap, cur, rfl, _⟩
  · exact ⟨_, _, rfl⟩
  · exact ⟨_, _, rfl⟩

/-- what is drawn: a text of at most n bytes -/
def Drawn (R p n : Nat) (w : World) (r : Ending) (w' : World) : Prop :=
  ∃ (out : List UInt8) (q : Nat), r = .returned (.string ⟨out.toArray⟩) ∧ out.length ≤ n ∧ q ≤ p + 2 + 2 * n ∧ Rdr w' R q ∧ Fr (· = R) w w'

/-- what the loop keeps -/
def TextR (R p many : Nat) (w wr : World) (v : Value) (out : List UInt8) (q : Nat) : Prop :=
  out.length ≤ many ∧ q ≤ p + 2 + 2 * out.length ∧ wr.ownsRow w.heap.size 5 1 v out.length (Lib.byteCells out) ∧ Rdr wr R q ∧ Fr (· = R) w wr

theorem own_app {base : Nat} {v v' : Value} {out : List UInt8} {x : Int} {R p q many : Nat} {w0 w1 w2 : World} (h0 : w0.heap.size = base) (hR : R < base) (hf : Fr (· = R) w0 w1) (hr : Rdr w1 R q)
    (hown : w1.ownsRow base 5 1 v out.length (Lib.byteCells out)) (x0 : 0 ≤ x) (x1 : x < 256) (hlt : out.length < many) (hq : q ≤ p + 2 + 2 * (out.length + 1))
    (hown' : w2.ownsRow base 5 1 v' (out.length + 1) (Lib.byteCells out ++ [.int .u8 x])) (hg : (w1.alloc (.cells #[.int .u8 x] 5)).grownBy w2 v.ownBlock) : TextR R p many w0 w2 v' (out ++ [UInt8.ofNat x.toNat]) q := by
  subst h0
  have ha := hown.alloc (.cells #[.int .u8 x] 5)
  have hf2 := fr_grown (hf.alloc _) ha (Nat.le_refl _) hg
  have hf3 : Fr (fun i => some i = v.ownBlock) (w1.alloc (.cells #[.int .u8 x] 5)) w2 := ⟨hg.os, hg.tape, hg.output, hg.size, fun i hi hn => hg.block i hi (fun e => hn e)⟩
  refine ⟨by simp; omega, by simp; omega, own_more hown' x0 x1, ?_, hf2⟩
  exact (hr.after (bel1 _ _)).fr hf3 (fun b hb e => by have := (ha.lt b e.symm).1; omega)

theorem seven {w : World} {g j : Nat} (h : w.heap[g]? = some (.cells #[.int .u8 97, .int .u8 98, .int .u8 126, .int .u8 48, .int .u8 58, .int .u8 59, .int .u8 61] 5 (7, 8))) (hj : j < 7) : ∃ y : Int, w.cell? ⟨g, j, none⟩ = some (.int .u8 y) ∧ 0 ≤ y ∧ y < 256 := by
  have hc : w.cell? ⟨g, j, none⟩ = (#[.int .u8 97, .int .u8 98, .int .u8 126, .int .u8 48, .int .u8 58, .int .u8 59, .int .u8 61] : Array Value)[j]? := by simp [World.cell?, h]
  rw [hc]
  match j, hj with
  | 0, _ => exact ⟨97, rfl, by omega, by omega⟩
  | 1, _ => exact ⟨98, rfl, by omega, by omega⟩
  | 2, _ => exact ⟨126, rfl, by omega, by omega⟩
  | 3, _ => exact ⟨48, rfl, by omega, by omega⟩
  | 4, _ => exact ⟨58, rfl, by omega, by omega⟩
  | 5, _ => exact ⟨59, rfl, by omega, by omega⟩
  | 6, _ => exact ⟨61, rfl, by omega, by omega⟩
set_option maxHeartbeats 4000000 in
theorem l91Text_any (R p n : Nat) (w : World) (h : Rdr w R p) (hp : p ≤ 900000) (hn : n ≤ 10000) :
    Calls Try.prog 74 #[.pointer (some ⟨R, 0, none⟩), .int .i64 n] w (Drawn R p n w) := by
  obtain ⟨i0, hi, hz0, hz1, hz2⟩ := info_parts info_byte
  have hRlt := h.lt
  have HR0 := hide (h.after (bel1 w (.cells #[] 5)))
  have HW0 := hide (World.ownsRow_lit (base := w.heap.size) (e := 5) (size := 1) w #[] 0 (Nat.le_refl _) (by simp [maxLen]) rfl)
  have HF0 := hide ((Fr.refl (· = R) w).alloc (.cells #[] 5))
  clear h
  go_enter Try.func74, Try.ntmps74
  go_wp2_with fail
  refine (pick_any R p _ _ HR0.out (by omega) (by omega) (by omega)).mono ?_; rintro r w1 ⟨m, rfl, m0, m1, _, hr1, hf1⟩
  have mn : m < (n : Int) + 1 := m1 (by omega)
  obtain ⟨many, rfl⟩ := Int.eq_ofNat_of_zero_le m0
  have hmn : many ≤ n := by omega
  go_wp2_with fail
  refine (pick_any R (p + 1) 4 _ hr1 (by omega) (by omega) (by omega)).mono ?_; rintro r w2 ⟨kd, rfl, k0, k1, _, hr2, hf2⟩
  have k4 : kd < 4 := k1 (by omega)
  have HT0 : Hid (TextR R p many w w2 (.slice (some ⟨w.heap.size, 0, none⟩) 0 0) [] (p + 1 + 1)) := ⟨by simp, by simp, own_fr (own_fr HW0.out hf1 (fun i e => by omega)) hf2 (fun i e => by omega), hr2, (HF0.out.trans hf1).trans hf2⟩
  clear hr1 hf1 hr2 hf2 m1 k1 HR0 HW0 HF0 mn m0
  have hk : kd = 0 ∨ kd = 1 ∨ kd = 2 ∨ kd = 3 := by omega
  clear k0 k4
  rcases hk with rfl | rfl | rfl | rfl
  · skip
    go_wp2_with fail
    go_loopw [5] (fun v wr => ∃ (out : List UInt8) (q : Nat), Hid (TextR R p many w wr v out q)) (fun v _ => many - lenOf v)
    case atStart => exact ⟨[], p + 1 + 1, HT0⟩
    case round =>
      obtain ⟨out, q, HT⟩ := hrel
      obtain ⟨t1, t2, t3, t4, t5⟩ := HT.out
      obtain ⟨A, c, rfl⟩ := own_form t3
      have HW := hide t3
      have HR := hide t4
      have HF := hide t5
      have hqq : q ≤ 950000 := by omega
      clear t3 t4 t5
      by_cases hlt : out.length < many
      · go_wp2_with fail
        refine (pick_any R q 256 _ HR.out (by omega) (by omega) (by omega)).mono ?_; rintro r x1 ⟨x, rfl, h0, h1, _, hr, hf⟩
        have h256 : x < 256 := h1 (by omega)
        have HW := hide (own_fr HW.out hf (fun i e => by omega))
        have HF := hide (HF.out.trans hf)
        have HR := hide hr
        clear hr hf h1
        go_wp2_with (at_builtin; refine wpList_append_own _ (by rfl) _ _ 43 (by rfl) w.heap.size 5 i0 (.int .u8 0) 1 1 Try.underlying43 hi hz0 hz1 hz2 rfl (by decide) _ out.length (Lib.byteCells out) (by rfl) (HW.out.alloc (.cells #[.int .u8 x] 5)) ⟨x1.heap.size, 0, none⟩ 1 1 [.int .u8 x] (by rfl) rfl (World.news_of_block (heap_alloc_new _ _)) (fun u hu => by simp only [List.mem_singleton] at hu; subst hu; rfl) (by unfold maxLen; omega) (by omega) (by have := HF.out.size; simp; omega) ?_; intro v' w2 hown' hgrow _; have HT := hide (own_app (p := p) rfl hRlt HF.out HR.out HW.out (x := x) h0 h256 hlt (by omega) hown' hgrow); clear hown' hgrow)
        go_roundw
        case rel => exact ⟨_, q + 1, HT⟩
        case measure => (have hl := lenOf_own HT.out.2.2.1; rw [List.length_append, List.length_singleton] at hl; show many - lenOf v' < many - out.length; omega)
      · have hcv := str_of_row HW.out
        go_wp2_with fail
        go_ret
        exact ⟨out, q, rfl, by omega, by omega, HR.out, HF.out⟩
  · skip
    go_wp2_with fail
    go_loopw [5] (fun v wr => ∃ (out : List UInt8) (q : Nat), Hid (TextR R p many w wr v out q)) (fun v _ => many - lenOf v)
    case atStart => exact ⟨[], p + 1 + 1, HT0⟩
    case round =>
      obtain ⟨out, q, HT⟩ := hrel
      obtain ⟨t1, t2, t3, t4, t5⟩ := HT.out
      obtain ⟨A, c, rfl⟩ := own_form t3
      have HW := hide t3
      have HR := hide t4
      have HF := hide t5
      have hqq : q ≤ 950000 := by omega
      clear t3 t4 t5
      by_cases hlt : out.length < many
      · have kc := fun (w : World) (C : Array Value) (n c : Nat) => Lib.run_convert_bytes_const (P := Try.prog) w 43 5 C n c Try.underlying43 Try.underlying5
        have HL := hide (heap_alloc_new wr (.cells #[.int .u8 97, .int .u8 98, .int .u8 126, .int .u8 48, .int .u8 58, .int .u8 59, .int .u8 61] 5 (7, 8)))
        have HWx := hide (HW.out.alloc (.cells #[.int .u8 97, .int .u8 98, .int .u8 126, .int .u8 48, .int .u8 58, .int .u8 59, .int .u8 61] 5 (7, 8)))
        have HFx := hide (HF.out.alloc (.cells #[.int .u8 97, .int .u8 98, .int .u8 126, .int .u8 48, .int .u8 58, .int .u8 59, .int .u8 61] 5 (7, 8)))
        have HRx := hide (HR.out.after (bel1 wr (.cells #[.int .u8 97, .int .u8 98, .int .u8 126, .int .u8 48, .int .u8 58, .int .u8 59, .int .u8 61] 5 (7, 8))))
        have hwr : R < wr.heap.size := HR.out.lt
        go_wp2_with fail
        refine (pick_any R q 7 _ HRx.out (by omega) (by omega) (by omega)).mono ?_; rintro r x1 ⟨x, rfl, h0, h1, _, hr, hf⟩
        have h7 : x < 7 := h1 (by omega)
        obtain ⟨j, rfl⟩ := Int.eq_ofNat_of_zero_le h0
        obtain ⟨y, hy, y0, y1⟩ : ∃ y : Int, x1.cell? ⟨wr.heap.size, j, none⟩ = some (.int .u8 y) ∧ 0 ≤ y ∧ y < 256 := seven ((hf.block wr.heap.size (by simp) (by omega)).trans HL.out) (by omega)
        have HW := hide (own_fr HWx.out hf (fun i e => by omega))
        have HF := hide (HFx.out.trans hf)
        have HR := hide hr
        clear hr hf h1 kc
        go_wp2_with (at_builtin; refine wpList_append_own _ (by rfl) _ _ 43 (by rfl) w.heap.size 5 i0 (.int .u8 0) 1 1 Try.underlying43 hi hz0 hz1 hz2 rfl (by decide) _ out.length (Lib.byteCells out) (by rfl) (HW.out.alloc (.cells #[.int .u8 y] 5)) ⟨x1.heap.size, 0, none⟩ 1 1 [.int .u8 y] (by rfl) rfl (World.news_of_block (heap_alloc_new _ _)) (fun u hu => by simp only [List.mem_singleton] at hu; subst hu; rfl) (by unfold maxLen; omega) (by omega) (by have := HF.out.size; simp; omega) ?_; intro v' w2 hown' hgrow _; have HT := hide (own_app (p := p) rfl hRlt HF.out HR.out HW.out (x := y) y0 y1 hlt (by omega) hown' hgrow); clear hown' hgrow)
        go_roundw
        case rel => exact ⟨_, q + 1, HT⟩
        case measure => (have hl := lenOf_own HT.out.2.2.1; rw [List.length_append, List.length_singleton] at hl; show many - lenOf v' < many - out.length; omega)
      · have hcv := str_of_row HW.out
        go_wp2_with fail
        go_ret
        exact ⟨out, q, rfl, by omega, by omega, HR.out, HF.out⟩
  · skip
    go_wp2_with fail
    go_loopw [5] (fun v wr => ∃ (out : List UInt8) (q : Nat), Hid (TextR R p many w wr v out q)) (fun v _ => many - lenOf v)
    case atStart => exact ⟨[], p + 1 + 1, HT0⟩
    case round =>
      obtain ⟨out, q, HT⟩ := hrel
      obtain ⟨t1, t2, t3, t4, t5⟩ := HT.out
      obtain ⟨A, c, rfl⟩ := own_form t3
      have HW := hide t3
      have HR := hide t4
      have HF := hide t5
      have hqq : q ≤ 950000 := by omega
      clear t3 t4 t5
      by_cases hlt : out.length < many
      · go_wp2_with fail
        refine (pick_any R q 3 _ HR.out (by omega) (by omega) (by omega)).mono ?_; rintro r x1 ⟨x, rfl, h0, h1, _, hr, hf⟩
        have h3 : x < 3 := h1 (by omega)
        have HW := hide (own_fr HW.out hf (fun i e => by omega))
        have HF := hide (HF.out.trans hf)
        have HR := hide hr
        clear hr hf h1
        go_wp2_with fail
        refine (pick_any R (q + 1) 6 _ HR.out (by omega) (by omega) (by omega)).mono ?_; rintro r x2 ⟨z, rfl, z0, z1, _, hr, hf⟩
        have z6 : z < 6 := z1 (by omega)
        have HW := hide (own_fr HW.out hf (fun i e => by omega))
        have HF := hide (HF.out.trans hf)
        have HR := hide hr
        clear hr hf z1
        go_wp2_with fail
        go_loopw [5, 9] (fun v j wq => ∃ (o2 : List UInt8) (i : Int), o2.length ≤ many ∧ out.length ≤ o2.length ∧ -1 ≤ i ∧ i < 6 ∧ (o2.length = out.length → 0 ≤ i) ∧ Hid (wq.ownsRow w.heap.size 5 1 v o2.length (Lib.byteCells o2)) ∧ Hid (Rdr wq R (q + 1 + 1)) ∧ Hid (Fr (· = R) w wq) ∧ j = .int .i64 i) (fun _ j _ => (intOf j + 1).toNat)
        case atStart => exact ⟨out, z, t1, Nat.le_refl _, by omega, z6, fun _ => z0, HW, HR, HF, rfl⟩
        case round =>
          obtain ⟨o2, i, g1, g2, g3, g4, g5, HW, HR, HF, rfl⟩ := hrel
          obtain ⟨wi, rfl⟩ : ∃ wi : World, wi = wr := ⟨_, rfl⟩
          obtain ⟨A2, c2, rfl⟩ := own_form HW.out
          by_cases hi0 : 0 ≤ i
          · by_cases hl2 : o2.length < many
            · go_wp2_with (at_builtin; refine wpList_append_own _ (by rfl) _ _ 43 (by rfl) w.heap.size 5 i0 (.int .u8 0) 1 1 Try.underlying43 hi hz0 hz1 hz2 rfl (by decide) _ o2.length (Lib.byteCells o2) (by rfl) (HW.out.alloc (.cells #[.int .u8 (97 + x)] 5)) ⟨wi.heap.size, 0, none⟩ 1 1 [.int .u8 (97 + x)] (by rfl) rfl (World.news_of_block (heap_alloc_new _ _)) (fun u hu => by simp only [List.mem_singleton] at hu; subst hu; rfl) (by unfold maxLen; omega) (by omega) (by have := HF.out.size; simp; omega) ?_; intro v' w2 hown' hgrow _; have HT := hide (own_app (p := p) rfl hRlt HF.out HR.out HW.out (x := (97 + x)) (by omega) (by omega) hl2 (by omega) hown' hgrow); clear hown' hgrow)
              go_roundw
              case rel => exact ⟨_, i - 1, HT.out.1, by simp; omega, by omega, by omega, fun h => by simp at h; omega, hide HT.out.2.2.1, hide HT.out.2.2.2.1, hide HT.out.2.2.2.2, int_eq (by omega)⟩
              case measure => simp [intOf]; omega
            · go_wp2_with fail
              go_roundw
              case rel => exact ⟨o2, q + 1 + 1, hide ⟨g1, by omega, HW.out, HR.out, HF.out⟩⟩
              case measure => simp [lenOf]; omega
          · go_wp2_with fail
            go_roundw
            case rel => exact ⟨o2, q + 1 + 1, hide ⟨g1, by omega, HW.out, HR.out, HF.out⟩⟩
            case measure => simp [lenOf]; omega
      · have hcv := str_of_row HW.out
        go_wp2_with fail
        go_ret
        exact ⟨out, q, rfl, by omega, by omega, HR.out, HF.out⟩
  · skip
    go_wp2_with fail
    go_loopw [5] (fun v wr => ∃ (out : List UInt8) (q : Nat), Hid (TextR R p many w wr v out q)) (fun v _ => many - lenOf v)
    case atStart => exact ⟨[], p + 1 + 1, HT0⟩
    case round =>
      obtain ⟨out, q, HT⟩ := hrel
      obtain ⟨t1, t2, t3, t4, t5⟩ := HT.out
      obtain ⟨A, c, rfl⟩ := own_form t3
      have HW := hide t3
      have HR := hide t4
      have HF := hide t5
      have hqq : q ≤ 950000 := by omega
      clear t3 t4 t5
      by_cases hlt : out.length < many
      · go_wp2_with fail
        refine (pick_any R q 2 _ HR.out (by omega) (by omega) (by omega)).mono ?_; rintro r x1 ⟨x, rfl, h0, h1, _, hr, hf⟩
        have h2 : x < 2 := h1 (by omega)
        have h97 : x * 97 < 256 := by omega
        have h98 : 0 ≤ x * 97 := by omega
        have HW := hide (own_fr HW.out hf (fun i e => by omega))
        have HF := hide (HF.out.trans hf)
        have HR := hide hr
        clear hr hf h1
        go_wp2_with (at_builtin; refine wpList_append_own _ (by rfl) _ _ 43 (by rfl) w.heap.size 5 i0 (.int .u8 0) 1 1 Try.underlying43 hi hz0 hz1 hz2 rfl (by decide) _ out.length (Lib.byteCells out) (by rfl) (HW.out.alloc (.cells #[.int .u8 (x * 97)] 5)) ⟨x1.heap.size, 0, none⟩ 1 1 [.int .u8 (x * 97)] (by rfl) rfl (World.news_of_block (heap_alloc_new _ _)) (fun u hu => by simp only [List.mem_singleton] at hu; subst hu; rfl) (by unfold maxLen; omega) (by omega) (by have := HF.out.size; simp; omega) ?_; intro v' w2 hown' hgrow _; have HT := hide (own_app (p := p) rfl hRlt HF.out HR.out HW.out (x := (x * 97)) h98 h97 hlt (by omega) hown' hgrow); clear hown' hgrow)
        go_roundw
        case rel => exact ⟨_, q + 1, HT⟩
        case measure => (have hl := lenOf_own HT.out.2.2.1; rw [List.length_append, List.length_singleton] at hl; show many - lenOf v' < many - out.length; omega)
      · have hcv := str_of_row HW.out
        go_wp2_with fail
        go_ret
        exact ⟨out, q, rfl, by omega, by omega, HR.out, HF.out⟩

/-- a new reader -/
def Opened (w : World) (r : Ending) (w' : World) : Prop := r = .returned (.pointer (some ⟨w.heap.size, 0, none⟩)) ∧ Rdr w' w.heap.size 0 ∧ Below w.heap.size w w'
theorem Opened.mk_ {w : World} {A : Option Addr} {n c m : Nat} {zs : List Int} (h : U8s w A n c zs) (hm : m ≤ n) (h2 : m ≤ 2000) :
    Opened w (.returned (.pointer (some ⟨w.heap.size, 0, none⟩))) (w.alloc (.cells #[.slice A m c, .int .i64 0] 91)) := by
  obtain ⟨hc, hml, hz, hb, hr⟩ := h
  refine ⟨rfl, ⟨A, m, c, zs.take m, Bk.fresh _ _ _, by simp; omega, h2, fun z hz' => hb z (List.mem_of_mem_take hz'), fun hpos => ?_⟩, bel1 _ _⟩
  obtain ⟨b, o, e, hlt, hcell⟩ := hr.at_ (by omega)
  refine ⟨b, o, e, hlt, fun j z hj => ?_⟩
  have hj2 : zs[j]? = some z := by
    have hl := (List.getElem?_eq_some_iff.1 hj).1
    rw [List.getElem?_take_of_lt (by simp at hl; omega)] at hj
    exact hj
  exact ((bel1 w (.cells #[.slice A m c, .int .i64 0] 91)).cell (p := ⟨b, o + j, none⟩) hlt).trans (hcell j _ (by rw [List.getElem?_map, hj2]; rfl))
set_option maxHeartbeats 400000 in
theorem l6Open_any (A : Option Addr) (n c : Nat) (zs : List Int) (w : World) (h : U8s w A n c zs) :
    Calls Try.prog 51 #[.slice A n c] w (Opened w) := by
  have hc := h.1
  have hm := h.2.1
  unfold maxLen at hm
  by_cases hn : (2000 : Int) < (n : Int)
  · have H := hide (Opened.mk_ (m := 2000) h (by omega) (by omega))
    have h1 : (2000 : Int) ≤ (n : Int) := by omega
    have h2 : (2000 : Int) ≤ (c : Int) := by omega
    clear h
    go_enter Try.func51, Try.ntmps51
    go_wp2_with fail
    go_ret
    exact H.out
  · have H := hide (Opened.mk_ (m := n) h (by omega) (by omega))
    clear h
    go_enter Try.func51, Try.ntmps51
    go_wp2_with fail
    go_ret
    exact H.out

/-- frames of a call that makes a reader of its own -/
theorem fr_new {a b c : World} (h : Below a.heap.size a b) {R : Nat} (hR : a.heap.size ≤ R) (k : Fr (· = R) b c) : Below a.heap.size a c :=
  ((Fr.of_below (fun _ => False) h).next k (fun i _ e => .inr (by omega))).below (Nat.le_refl _) (fun _ h => h.elim)
/-- a text is drawn -/
def DrawnS (n : Nat) (w : World) (r : Ending) (w' : World) : Prop := ∃ s : ByteArray, r = .returned (.string s) ∧ s.size ≤ n ∧ Below w.heap.size w w'
end Go.Proofs.Ytcaoekaephnimaa

/- l91Cell draws the number of a cell, l91Mask a mask. -/
namespace Go.Proofs.Ytcaoekaephnimaa
open Go.RowKit
set_option linter.unusedVariables false

theorem pickM {w : World} {g j : Nat} {t : TypeId} {l : List Int} (h : Bk w g t (l.map (Value.int .i64)).toArray) (hj : j < l.length) : ∃ y : Int, w.cell? ⟨g, j, none⟩ = some (.int .i64 y) ∧ y ∈ l := by
  refine ⟨l[j], ?_, List.getElem_mem hj⟩
  rw [h.cell]
  simp [List.getElem?_eq_getElem hj]
/-- a number from lo to hi is drawn -/
def NumPost (R p d : Nat) (lo hi : Int) (w : World) (r : Ending) (w' : World) : Prop := ∃ (v : Int) (q : Nat), r = .returned (.int .i64 v) ∧ lo ≤ v ∧ v ≤ hi ∧ q ≤ p + d ∧ Rdr w' R q ∧ Fr (· = R) w w'

set_option maxHeartbeats 1000000 in
theorem l91Mask_any (R p : Nat) (w : World) (hr : Rdr w R p) (hp : p ≤ 800000) :
    Calls Try.prog 80 #[.pointer (some ⟨R, 0, none⟩)] w (NumPost R p 3 (-1) 1152921504606846975 w) := by
  have HR := hide hr
  clear hr
  go_enter Try.func80, Try.ntmps80
  go_wp2_with fail
  refine (pick_any R p 5 _ HR.out (by omega) (by omega) (by omega)).mono ?_; rintro r w1 ⟨v, rfl, v0, v1, _, hr1, hf1⟩
  have HR := hide hr1
  have HF := hide hf1
  clear hr1 hf1 v1
  by_cases e0 : v = 0
  · subst e0
    have hlt : ¬ w1.heap.size = R := by have := HR.out.lt; omega
    have HK := hide (Bk.fresh w1 3 #[.int .i64 0, .int .i64 1152921504606846975, .int .i64 (-1)])
    have HR := hide (HR.out.after (bel1 w1 (.cells #[.int .i64 0, .int .i64 1152921504606846975, .int .i64 (-1)] 3)))
    have HF := hide (HF.out.alloc (.cells #[.int .i64 0, .int .i64 1152921504606846975, .int .i64 (-1)] 3))
    go_wp2_with fail
    refine (pick_any R (p + 1) 3 _ HR.out (by omega) (by omega) (by omega)).mono ?_; rintro r w2 ⟨x, rfl, x0, x1, _, hr2, hf2⟩
    have x6 := x1 (by omega)
    obtain ⟨j, rfl⟩ : ∃ j : Nat, x = (j : Int) := ⟨x.toNat, by omega⟩
    obtain ⟨y, hy, hm⟩ := pickM (l := [0, 1152921504606846975, -1]) (HK.out.fr hf2 hlt) (show j < 3 by omega)
    have hb : -1 ≤ y ∧ y ≤ 1152921504606846975 := by simp only [List.mem_cons, List.not_mem_nil, or_false] at hm; omega
    have HBD := hide hb
    have HR := hide hr2
    have HF := hide (HF.out.trans hf2)
    clear hr2 hf2 x1 hm hb
    go_wp2_with fail
    go_ret
    exact ⟨y, _, rfl, HBD.out.1, HBD.out.2, by omega, HR.out, HF.out⟩
  · have z0 : (v == 0) = false := by rw [beq_eq_false_iff_ne]; exact e0
    by_cases e1 : v = 1
    · subst e1
      clear z0 e0
      go_wp2_with fail
      refine (pick_any R (p + 1) 12 _ HR.out (by omega) (by omega) (by omega)).mono ?_; rintro r w2 ⟨x, rfl, x0, x1, _, hr2, hf2⟩
      have x6 := x1 (by omega)
      obtain ⟨j, rfl⟩ : ∃ j : Nat, x = (j : Int) := ⟨x.toNat, by omega⟩
      have hj : j < 12 := by omega
      have hpw : (2 : Int) ^ j ≤ 2048 ∧ 1 ≤ (2 : Int) ^ j := by
        have key : ∀ k, k < 12 → (2 : Int) ^ k ≤ 2048 ∧ 1 ≤ (2 : Int) ^ k := by decide
        exact key j hj
      obtain ⟨P, hP⟩ : ∃ P : Int, P = (2 : Int) ^ j := ⟨_, rfl⟩
      have hP2 : (2 : Int) ^ j = P := hP.symm
      have pw : IntKind.i64.wrap P = P := by rw [IntKind.wrap_i64, hP]; omega
      rw [hP2] at hpw
      have HPW := hide hpw
      have HR := hide hr2
      have HF := hide (HF.out.trans hf2)
      clear hr2 hf2 x1 hP hpw
      go_wp2_with fail
      go_ret
      exact ⟨P, _, rfl, by have := HPW.out; omega, by have := HPW.out; omega, by omega, HR.out, HF.out⟩
    · have z1 : (v == 1) = false := by rw [beq_eq_false_iff_ne]; exact e1
      go_wp2_with fail
      refine (pick_any R (p + 1) 256 _ HR.out (by omega) (by omega) (by omega)).mono ?_; rintro r w2 ⟨x, rfl, x0, x1, _, hr2, hf2⟩
      have x6 := x1 (by omega)
      have HR := hide hr2
      have HF := hide (HF.out.trans hf2)
      clear hr2 hf2 x1
      go_wp2_with fail
      refine (pick_any R (p + 1 + 1) 256 _ HR.out (by omega) (by omega) (by omega)).mono ?_; rintro r w3 ⟨y, rfl, y0, y1, _, hr2, hf2⟩
      have y6 := y1 (by omega)
      have m1 : IntKind.i64.wrap (256 * y) = 256 * y := by rw [IntKind.wrap_i64]; omega
      have m2 : IntKind.i64.wrap (x + 256 * y) = x + 256 * y := by rw [IntKind.wrap_i64]; omega
      have HR := hide hr2
      have HF := hide (HF.out.trans hf2)
      clear hr2 hf2 y1
      go_wp2_with fail
      go_ret
      exact ⟨x + 256 * y, _, rfl, by omega, by omega, by omega, HR.out, HF.out⟩
end Go.Proofs.Ytcaoekaephnimaa

/- l6Many repeats a text; l91Block draws a block. -/
namespace Go.Proofs.Ytcaoekaephnimaa
open Go.RowKit
set_option linter.unusedVariables false

set_option maxHeartbeats 1000000 in
theorem l6Many_any (s : ByteArray) (n : Nat) (hs : s.size ≤ 1000) (hn : n ≤ 100000) (w : World) :
    Calls Try.prog 97 #[.string s, .int .i64 n] w fun r w' => (∃ out : ByteArray, r = .returned (.string out) ∧ out.size = n * s.size) ∧ w = w' := by
  have HS := hide hs
  go_enter Try.func97, Try.ntmps97
  go_wp2_with fail
  go_loop [0, 1, 5] (fun u i o => ∃ (k m : Nat) (u' o' : ByteArray), u = .string u' ∧ i = .int .i64 m ∧ o = .string o' ∧ m ≤ 100000 ∧ u'.size = k ∧ k ≤ 200000000 ∧ o'.size ≤ 100000000 ∧ Hid (o'.size + k * m = n * s.size)) (fun _ i _ => (intOf i).toNat)
  case atStart => exact ⟨s.size, n, s, ⟨#[]⟩, rfl, rfl, rfl, hn, rfl, by omega, (show 0 ≤ 100000000 by omega), hide (show 0 + s.size * n = n * s.size by rw [Nat.zero_add, Nat.mul_comm])⟩
  case round =>
    obtain ⟨k, m, u', o', rfl, rfl, rfl, hm, hk, hk2, ho, HE⟩ := hrel
    by_cases h0 : 0 < m
    · obtain ⟨q, hq⟩ : ∃ q, q = m / 2 := ⟨_, rfl⟩
      have eq2 : (m : Int) / 2 = (q : Int) := by omega
      have hkm : k ≤ k * m := Nat.le_mul_of_pos_right k h0
      have hb : n * s.size ≤ 100000 * 1000 := Nat.mul_le_mul hn HS.out
      have hE := HE.out
      have hk1 : k ≤ 100000000 := by omega
      have ho1 : o'.size + k ≤ 100000000 := by omega
      have qm : q < m := by omega
      have i0 : (0 : Int) < (m : Int) := by omega
      by_cases hodd : m % 2 = 1
      · have em : (m : Int) % 2 = 1 := by omega
        have HE1 := hide (show (o' ++ u').size + (2 * k) * q = n * s.size by
          rw [ByteArray.size_append, ← hE, hk, show m = 2 * q + 1 by omega, Nat.mul_add, Nat.mul_one, Nat.mul_comm 2 k, Nat.mul_assoc]; omega)
        clear hq hkm hb hE hodd
        go_wp2_with fail
        go_round
        case rel => exact ⟨2 * k, q, u' ++ u', o' ++ u', rfl, rfl, rfl, by omega, by rw [ByteArray.size_append]; omega, by omega, by rw [ByteArray.size_append]; omega, HE1⟩
        case measure => simp [intOf]; omega
      · have em : (m : Int) % 2 = 0 := by omega
        have HE1 := hide (show o'.size + (2 * k) * q = n * s.size by
          rw [← hE]
          conv => rhs; rw [show m = 2 * q by omega]
          rw [Nat.mul_comm 2 k, Nat.mul_assoc])
        clear hq hkm hb hE hodd
        go_wp2_with fail
        go_round
        case rel => exact ⟨2 * k, q, u' ++ u', o', rfl, rfl, rfl, by omega, by rw [ByteArray.size_append]; omega, by omega, by omega, HE1⟩
        case measure => simp [intOf]; omega
    · have i0 : ¬ (0 : Int) < (m : Int) := by omega
      have hE := HE.out
      have e0 : m = 0 := by omega
      rw [e0, Nat.mul_zero, Nat.add_zero] at hE
      have HE2 := hide hE
      clear hE e0
      go_wp2_with fail
      go_ret
      exact ⟨⟨_, rfl, HE2.out⟩, rfl⟩

theorem l6Many_i {s : ByteArray} {n : Nat} {i : Int} (hi : i = (n : Int)) (hs : s.size ≤ 1000) (hn : n ≤ 100000) (w : World) :
    Calls Try.prog 97 #[.string s, .int .i64 i] w fun r w' => (∃ out : ByteArray, r = .returned (.string out) ∧ out.size = n * s.size) ∧ w = w' := by
  subst hi; exact l6Many_any s n hs hn w
/-- what is drawn: a text of at most n bytes; the reader has gone on by at most d -/
def DrawnB (R p d n : Nat) (w : World) (r : Ending) (w' : World) : Prop :=
  ∃ (s : ByteArray) (q : Nat), r = .returned (.string s) ∧ s.size ≤ n ∧ q ≤ p + d ∧ Rdr w' R q ∧ Fr (· = R) w w'

end Go.Proofs.Ytcaoekaephnimaa
