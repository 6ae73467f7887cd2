/- l6Open makes a reader of a code; l91Text draws a text of a bounded length. -/
import Derived.Test.YtmhbpmacfekhgaaDoorDraw
import Derived.Deep.AppendLies
import Derived.Lib.UnsafeStr
import Derived.Laws.BytesArg
import Derived.Laws.IdiomStrings
namespace Go.Proofs.YtmhbpmacfekhgaaDoor
open Go.RowKit

theorem byteCells_len' (l : List UInt8) : (Lib.byteCells l).length = l.length := by simp [Lib.byteCells]
theorem info_byte : (Tryd.prog.info? 5).map (fun i => (i.zero, i.size, i.bytes)) = some (some (.int .u8 0), 1, 1) := by kernel_rfl
/-- string(b) of a row of bytes of the call's own -/
theorem str_of_row {w : World} {base : Nat} {v : Value} {out : List UInt8} (h : w.ownsRow base 5 1 v out.length (Lib.byteCells out)) :
    (convert 32 9 v).run Tryd.prog w = .ok (.string ⟨out.toArray⟩) w := by
  rcases h.2 with ⟨rfl, hn⟩ | ⟨g, cap, cur, rfl, hg, hh, hc, hp⟩
  · have ho : out = [] := List.eq_nil_of_length_eq_zero hn
    subst ho
    exact run_convert_bytes_nil w 32 5 Tryd.underlying32 Tryd.underlying5 0 0 9 Tryd.underlying9
  · refine run_convert_bytes_back w 32 9 5 _ cap out Tryd.underlying32 Tryd.underlying5 Tryd.underlying9 (fun j hj => ?_)
    exact h.cells (g := g) rfl j _ (by simp [Lib.byteCells, List.getElem?_eq_getElem hj])
theorem own_fr {S : Nat → Prop} {w w' : World} {base : Nat} {e : TypeId} {k n : Nat} {v : Value} {xs : List Value} (h : w.ownsRow base e k v n xs) (hf : Fr S w w') (hS : ∀ i, S i → i < base) : w'.ownsRow base e k v n xs := by
  refine ⟨h.1, ?_⟩
  rcases h.2 with h2 | ⟨g, cap, cur, hv, hg, hh, r⟩
  · exact .inl h2
  · refine .inr ⟨g, cap, cur, hv, hg, ?_, r⟩
    rw [hf.block g (Array.getElem?_eq_some_iff.1 hh).1 (fun hs => by have := hS g hs; omega)]
    exact hh
theorem fr_grown {S : Nat → Prop} {a b c : World} {base : Nat} {e : TypeId} {k n : Nat} {v : Value} {xs : List Value} (h : Fr S a b) (ho : b.ownsRow base e k v n xs) (hB : a.heap.size ≤ base) (hg : b.grownBy c v.ownBlock) : Fr S a c :=
  h.next (T := fun i => some i = v.ownBlock) ⟨hg.os, hg.tape, hg.output, hg.size, fun i hi hn => hg.block i hi (fun e => hn e)⟩ (fun i _ hi => .inr (Nat.le_trans hB (ho.lt i hi.symm).1))
theorem own_more {w : World} {base : Nat} {e : TypeId} {v : Value} {out : List UInt8} {x : Int} (h : w.ownsRow base e 1 v (out.length + 1) (Lib.byteCells out ++ [.int .u8 x])) (x0 : 0 ≤ x) (x1 : x < 256) : w.ownsRow base e 1 v (out ++ [UInt8.ofNat x.toNat]).length (Lib.byteCells (out ++ [UInt8.ofNat x.toNat])) := by
  have e1 : (out ++ [UInt8.ofNat x.toNat]).length = out.length + 1 := by simp
  have e2 : Lib.byteCells (out ++ [UInt8.ofNat x.toNat]) = Lib.byteCells out ++ [.int .u8 x] := by
    simp only [Lib.byteCells, List.map_append, List.map_cons, List.map_nil]
    congr 3
    rw [UInt8.toNat_ofNat']
    omega
  rw [e1, e2]
  exact h
/-- the length of a slice value -/
def lenOf : Value → Nat | .slice _ n _ => n | _ => 0
theorem lenOf_own {w : World} {base : Nat} {e : TypeId} {k n : Nat} {v : Value} {xs : List Value} (h : w.ownsRow base e k v n xs) : lenOf v = n := by
  rcases h.2 with ⟨rfl, hn⟩ | ⟨g, cap, cur, rfl, _⟩
  · exact hn.symm
  · rfl
theorem own_form {w : World} {base : Nat} {e : TypeId} {k n : Nat} {v : Value} {xs : List Value} (h : w.ownsRow base e k v n xs) : ∃ A c, v = .slice A n c := by
  rcases h.2 with ⟨rfl, rfl⟩ | ⟨g, cap, cur, rfl, _⟩
  · exact ⟨_, _, rfl⟩
  · exact ⟨_, _, rfl⟩

/-- what is drawn: a text of at most n bytes -/
def Drawn (R p n : Nat) (w : World) (r : Ending) (w' : World) : Prop :=
  ∃ (out : List UInt8) (q : Nat), r = .returned (.string ⟨out.toArray⟩) ∧ out.length ≤ n ∧ q ≤ p + 2 + 2 * n ∧ Rdr w' R q ∧ Fr (· = R) w w'

/-- what the loop keeps -/
def TextR (R p many : Nat) (w wr : World) (v : Value) (out : List UInt8) (q : Nat) : Prop :=
  out.length ≤ many ∧ q ≤ p + 2 + 2 * out.length ∧ wr.ownsRow w.heap.size 5 1 v out.length (Lib.byteCells out) ∧ Rdr wr R q ∧ Fr (· = R) w wr

theorem own_app {base : Nat} {v v' : Value} {out : List UInt8} {x : Int} {R p q many : Nat} {w0 w1 w2 : World} (h0 : w0.heap.size = base) (hR : R < base) (hf : Fr (· = R) w0 w1) (hr : Rdr w1 R q)
    (hown : w1.ownsRow base 5 1 v out.length (Lib.byteCells out)) (x0 : 0 ≤ x) (x1 : x < 256) (hlt : out.length < many) (hq : q ≤ p + 2 + 2 * (out.length + 1))
    (hown' : w2.ownsRow base 5 1 v' (out.length + 1) (Lib.byteCells out ++ [.int .u8 x])) (hg : (w1.alloc (.cells #[.int .u8 x] 5)).grownBy w2 v.ownBlock) : TextR R p many w0 w2 v' (out ++ [UInt8.ofNat x.toNat]) q := by
  subst h0
  have ha := hown.alloc (.cells #[.int .u8 x] 5)
  have hf2 := fr_grown (hf.alloc _) ha (Nat.le_refl _) hg
  have hf3 : Fr (fun i => some i = v.ownBlock) (w1.alloc (.cells #[.int .u8 x] 5)) w2 := ⟨hg.os, hg.tape, hg.output, hg.size, fun i hi hn => hg.block i hi (fun e => hn e)⟩
  refine ⟨by simp; omega, by simp; omega, own_more hown' x0 x1, ?_, hf2⟩
  exact (hr.after (bel1 _ _)).fr hf3 (fun b hb e => by have := (ha.lt b e.symm).1; omega)

theorem seven {w : World} {g j : Nat} (h : w.heap[g]? = some (.cells #[.int .u8 97, .int .u8 98, .int .u8 126, .int .u8 48, .int .u8 58, .int .u8 59, .int .u8 61] 5 (7, 8))) (hj : j < 7) : ∃ y : Int, w.cell? ⟨g, j, none⟩ = some (.int .u8 y) ∧ 0 ≤ y ∧ y < 256 := by
  have hc : w.cell? ⟨g, j, none⟩ = (#[.int .u8 97, .int .u8 98, .int .u8 126, .int .u8 48, .int .u8 58, .int .u8 59, .int .u8 61] : Array Value)[j]? := by simp [World.cell?, h]
  rw [hc]
  match j, hj with
  | 0, _ => exact ⟨97, rfl, by omega, by omega⟩
  | 1, _ => exact ⟨98, rfl, by omega, by omega⟩
  | 2, _ => exact ⟨126, rfl, by omega, by omega⟩
  | 3, _ => exact ⟨48, rfl, by omega, by omega⟩
  | 4, _ => exact ⟨58, rfl, by omega, by omega⟩
  | 5, _ => exact ⟨59, rfl, by omega, by omega⟩
  | 6, _ => exact ⟨61, rfl, by omega, by omega⟩
set_option maxHeartbeats 4000000 in
theorem l91Text_any (R p n : Nat) (w : World) (h : Rdr w R p) (hp : p ≤ 900000) (hn : n ≤ 10000) :
    Calls Tryd.prog 67 #[.pointer (some ⟨R, 0, none⟩), .int .i64 n] w (Drawn R p n w) := by
  obtain ⟨i0, hi, hz0, hz1, hz2⟩ := info_parts info_byte
  have hRlt := h.lt
  have HR0 := hide (h.after (bel1 w (.cells #[] 5)))
  have HW0 := hide (World.ownsRow_lit (base := w.heap.size) (e := 5) (size := 1) w #[] 0 (Nat.le_refl _) (by simp [maxLen]) rfl)
  have HF0 := hide ((Fr.refl (· = R) w).alloc (.cells #[] 5))
  clear h
  go_enter Tryd.func67, Tryd.ntmps67
  go_wp2_with fail
  refine (pick_any R p _ _ HR0.out (by omega) (by omega) (by omega)).mono ?_; rintro r w1 ⟨m, rfl, m0, m1, _, hr1, hf1⟩
  have mn : m < (n : Int) + 1 := m1 (by omega)
  obtain ⟨many, rfl⟩ := Int.eq_ofNat_of_zero_le m0
  have hmn : many ≤ n := by omega
  go_wp2_with fail
  refine (pick_any R (p + 1) 4 _ hr1 (by omega) (by omega) (by omega)).mono ?_; rintro r w2 ⟨kd, rfl, k0, k1, _, hr2, hf2⟩
  have k4 : kd < 4 := k1 (by omega)
  have HT0 : Hid (TextR R p many w w2 (.slice (some ⟨w.heap.size, 0, none⟩) 0 0) [] (p + 1 + 1)) := ⟨by simp, by simp, own_fr (own_fr HW0.out hf1 (fun i e => by omega)) hf2 (fun i e => by omega), hr2, (HF0.out.trans hf1).trans hf2⟩
  clear hr1 hf1 hr2 hf2 m1 k1 HR0 HW0 HF0 mn m0
  have hk : kd = 0 ∨ kd = 1 ∨ kd = 2 ∨ kd = 3 := by omega
  clear k0 k4
  rcases hk with rfl | rfl | rfl | rfl
  · skip
    go_wp2_with fail
    go_loopw [5] (fun v wr => ∃ (out : List UInt8) (q : Nat), Hid (TextR R p many w wr v out q)) (fun v _ => many - lenOf v)
    case atStart => exact ⟨[], p + 1 + 1, HT0⟩
    case round =>
      obtain ⟨out, q, HT⟩ := hrel
      obtain ⟨t1, t2, t3, t4, t5⟩ := HT.out
      obtain ⟨A, c, rfl⟩ := own_form t3
      have HW := hide t3
      have HR := hide t4
      have HF := hide t5
      have hqq : q ≤ 950000 := by omega
      clear t3 t4 t5
      by_cases hlt : out.length < many
      · go_wp2_with fail
        refine (pick_any R q 256 _ HR.out (by omega) (by omega) (by omega)).mono ?_; rintro r x1 ⟨x, rfl, h0, h1, _, hr, hf⟩
        have h256 : x < 256 := h1 (by omega)
        have HW := hide (own_fr HW.out hf (fun i e => by omega))
        have HF := hide (HF.out.trans hf)
        have HR := hide hr
        clear hr hf h1
        go_wp2_with (at_builtin; refine wpList_append_own _ (by rfl) _ _ 32 (by rfl) w.heap.size 5 i0 (.int .u8 0) 1 1 Tryd.underlying32 hi hz0 hz1 hz2 rfl (by decide) _ out.length (Lib.byteCells out) (by rfl) (HW.out.alloc (.cells #[.int .u8 x] 5)) ⟨x1.heap.size, 0, none⟩ 1 1 [.int .u8 x] (by rfl) rfl (World.news_of_block (heap_alloc_new _ _)) (fun u hu => by simp only [List.mem_singleton] at hu; subst hu; rfl) (by unfold maxLen; omega) (by omega) (by have := HF.out.size; simp; omega) ?_; intro v' w2 hown' hgrow _; have HT := hide (own_app (p := p) rfl hRlt HF.out HR.out HW.out (x := x) h0 h256 hlt (by omega) hown' hgrow); clear hown' hgrow)
        go_roundw
        case rel => exact ⟨_, q + 1, HT⟩
        case measure => (have hl := lenOf_own HT.out.2.2.1; rw [List.length_append, List.length_singleton] at hl; show many - lenOf v' < many - out.length; omega)
      · have hcv := str_of_row HW.out
        go_wp2_with fail
        go_ret
        exact ⟨out, q, rfl, by omega, by omega, HR.out, HF.out⟩
  · skip
    go_wp2_with fail
    go_loopw [5] (fun v wr => ∃ (out : List UInt8) (q : Nat), Hid (TextR R p many w wr v out q)) (fun v _ => many - lenOf v)
    case atStart => exact ⟨[], p + 1 + 1, HT0⟩
    case round =>
      obtain ⟨out, q, HT⟩ := hrel
      obtain ⟨t1, t2, t3, t4, t5⟩ := HT.out
      obtain ⟨A, c, rfl⟩ := own_form t3
      have HW := hide t3
      have HR := hide t4
      have HF := hide t5
      have hqq : q ≤ 950000 := by omega
      clear t3 t4 t5
      by_cases hlt : out.length < many
      · have kc := fun (w : World) (C : Array Value) (n c : Nat) => Lib.run_convert_bytes_const (P := Tryd.prog) w 32 5 C n c Tryd.underlying32 Tryd.underlying5
        have HL := hide (heap_alloc_new wr (.cells #[.int .u8 97, .int .u8 98, .int .u8 126, .int .u8 48, .int .u8 58, .int .u8 59, .int .u8 61] 5 (7, 8)))
        have HWx := hide (HW.out.alloc (.cells #[.int .u8 97, .int .u8 98, .int .u8 126, .int .u8 48, .int .u8 58, .int .u8 59, .int .u8 61] 5 (7, 8)))
        have HFx := hide (HF.out.alloc (.cells #[.int .u8 97, .int .u8 98, .int .u8 126, .int .u8 48, .int .u8 58, .int .u8 59, .int .u8 61] 5 (7, 8)))
        have HRx := hide (HR.out.after (bel1 wr (.cells #[.int .u8 97, .int .u8 98, .int .u8 126, .int .u8 48, .int .u8 58, .int .u8 59, .int .u8 61] 5 (7, 8))))
        have hwr : R < wr.heap.size := HR.out.lt
        go_wp2_with fail
        refine (pick_any R q 7 _ HRx.out (by omega) (by omega) (by omega)).mono ?_; rintro r x1 ⟨x, rfl, h0, h1, _, hr, hf⟩
        have h7 : x < 7 := h1 (by omega)
        obtain ⟨j, rfl⟩ := Int.eq_ofNat_of_zero_le h0
        obtain ⟨y, hy, y0, y1⟩ : ∃ y : Int, x1.cell? ⟨wr.heap.size, j, none⟩ = some (.int .u8 y) ∧ 0 ≤ y ∧ y < 256 := seven ((hf.block wr.heap.size (by simp) (by omega)).trans HL.out) (by omega)
        have HW := hide (own_fr HWx.out hf (fun i e => by omega))
        have HF := hide (HFx.out.trans hf)
        have HR := hide hr
        clear hr hf h1 kc
        go_wp2_with (at_builtin; refine wpList_append_own _ (by rfl) _ _ 32 (by rfl) w.heap.size 5 i0 (.int .u8 0) 1 1 Tryd.underlying32 hi hz0 hz1 hz2 rfl (by decide) _ out.length (Lib.byteCells out) (by rfl) (HW.out.alloc (.cells #[.int .u8 y] 5)) ⟨x1.heap.size, 0, none⟩ 1 1 [.int .u8 y] (by rfl) rfl (World.news_of_block (heap_alloc_new _ _)) (fun u hu => by simp only [List.mem_singleton] at hu; subst hu; rfl) (by unfold maxLen; omega) (by omega) (by have := HF.out.size; simp; omega) ?_; intro v' w2 hown' hgrow _; have HT := hide (own_app (p := p) rfl hRlt HF.out HR.out HW.out (x := y) y0 y1 hlt (by omega) hown' hgrow); clear hown' hgrow)
        go_roundw
        case rel => exact ⟨_, q + 1, HT⟩
        case measure => (have hl := lenOf_own HT.out.2.2.1; rw [List.length_append, List.length_singleton] at hl; show many - lenOf v' < many - out.length; omega)
      · have hcv := str_of_row HW.out
        go_wp2_with fail
        go_ret
        exact ⟨out, q, rfl, by omega, by omega, HR.out, HF.out⟩
  · skip
    go_wp2_with fail
    go_loopw [5] (fun v wr => ∃ (out : List UInt8) (q : Nat), Hid (TextR R p many w wr v out q)) (fun v _ => many - lenOf v)
    case atStart => exact ⟨[], p + 1 + 1, HT0⟩
    case round =>
      obtain ⟨out, q, HT⟩ := hrel
      obtain ⟨t1, t2, t3, t4, t5⟩ := HT.out
      obtain ⟨A, c, rfl⟩ := own_form t3
      have HW := hide t3
      have HR := hide t4
      have HF := hide t5
      have hqq : q ≤ 950000 := by omega
      clear t3 t4 t5
      by_cases hlt : out.length < many
      · go_wp2_with fail
        refine (pick_any R q 3 _ HR.out (by omega) (by omega) (by omega)).mono ?_; rintro r x1 ⟨x, rfl, h0, h1, _, hr, hf⟩
        have h3 : x < 3 := h1 (by omega)
        have HW := hide (own_fr HW.out hf (fun i e => by omega))
        have HF := hide (HF.out.trans hf)
        have HR := hide hr
        clear hr hf h1
        go_wp2_with fail
        refine (pick_any R (q + 1) 6 _ HR.out (by omega) (by omega) (by omega)).mono ?_; rintro r x2 ⟨z, rfl, z0, z1, _, hr, hf⟩
        have z6 : z < 6 := z1 (by omega)
        have HW := hide (own_fr HW.out hf (fun i e => by omega))
        have HF := hide (HF.out.trans hf)
        have HR := hide hr
        clear hr hf z1
        go_wp2_with fail
        go_loopw [5, 9] (fun v j wq => ∃ (o2 : List UInt8) (i : Int), o2.length ≤ many ∧ out.length ≤ o2.length ∧ -1 ≤ i ∧ i < 6 ∧ (o2.length = out.length → 0 ≤ i) ∧ Hid (wq.ownsRow w.heap.size 5 1 v o2.length (Lib.byteCells o2)) ∧ Hid (Rdr wq R (q + 1 + 1)) ∧ Hid (Fr (· = R) w wq) ∧ j = .int .i64 i) (fun _ j _ => (intOf j + 1).toNat)
        case atStart => exact ⟨out, z, t1, Nat.le_refl _, by omega, z6, fun _ => z0, HW, HR, HF, rfl⟩
        case round =>
          obtain ⟨o2, i, g1, g2, g3, g4, g5, HW, HR, HF, rfl⟩ := hrel
          obtain ⟨wi, rfl⟩ : ∃ wi : World, wi = wr := ⟨_, rfl⟩
          obtain ⟨A2, c2, rfl⟩ := own_form HW.out
          by_cases hi0 : 0 ≤ i
          · by_cases hl2 : o2.length < many
            · go_wp2_with (at_builtin; refine wpList_append_own _ (by rfl) _ _ 32 (by rfl) w.heap.size 5 i0 (.int .u8 0) 1 1 Tryd.underlying32 hi hz0 hz1 hz2 rfl (by decide) _ o2.length (Lib.byteCells o2) (by rfl) (HW.out.alloc (.cells #[.int .u8 (97 + x)] 5)) ⟨wi.heap.size, 0, none⟩ 1 1 [.int .u8 (97 + x)] (by rfl) rfl (World.news_of_block (heap_alloc_new _ _)) (fun u hu => by simp only [List.mem_singleton] at hu; subst hu; rfl) (by unfold maxLen; omega) (by omega) (by have := HF.out.size; simp; omega) ?_; intro v' w2 hown' hgrow _; have HT := hide (own_app (p := p) rfl hRlt HF.out HR.out HW.out (x := (97 + x)) (by omega) (by omega) hl2 (by omega) hown' hgrow); clear hown' hgrow)
              go_roundw
              case rel => exact ⟨_, i - 1, HT.out.1, by simp; omega, by omega, by omega, fun h => by simp at h; omega, hide HT.out.2.2.1, hide HT.out.2.2.2.1, hide HT.out.2.2.2.2, int_eq (by omega)⟩
              case measure => simp [intOf]; omega
            · go_wp2_with fail
              go_roundw
              case rel => exact ⟨o2, q + 1 + 1, hide ⟨g1, by omega, HW.out, HR.out, HF.out⟩⟩
              case measure => simp [lenOf]; omega
          · go_wp2_with fail
            go_roundw
            case rel => exact ⟨o2, q + 1 + 1, hide ⟨g1, by omega, HW.out, HR.out, HF.out⟩⟩
            case measure => simp [lenOf]; omega
      · have hcv := str_of_row HW.out
        go_wp2_with fail
        go_ret
        exact ⟨out, q, rfl, by omega, by omega, HR.out, HF.out⟩
  · skip
    go_wp2_with fail
    go_loopw [5] (fun v wr => ∃ (out : List UInt8) (q : Nat), Hid (TextR R p many w wr v out q)) (fun v _ => many - lenOf v)
    case atStart => exact ⟨[], p + 1 + 1, HT0⟩
    case round =>
      obtain ⟨out, q, HT⟩ := hrel
      obtain ⟨t1, t2, t3, t4, t5⟩ := HT.out
      obtain ⟨A, c, rfl⟩ := own_form t3
      have HW := hide t3
      have HR := hide t4
      have HF := hide t5
      have hqq : q ≤ 950000 := by omega
      clear t3 t4 t5
      by_cases hlt : out.length < many
      · go_wp2_with fail
        refine (pick_any R q 2 _ HR.out (by omega) (by omega) (by omega)).mono ?_; rintro r x1 ⟨x, rfl, h0, h1, _, hr, hf⟩
        have h2 : x < 2 := h1 (by omega)
        have h97 : x * 97 < 256 := by omega
        have h98 : 0 ≤ x * 97 := by omega
        have HW := hide (own_fr HW.out hf (fun i e => by omega))
        have HF := hide (HF.out.trans hf)
        have HR := hide hr
        clear hr hf h1
        go_wp2_with (at_builtin; refine wpList_append_own _ (by rfl) _ _ 32 (by rfl) w.heap.size 5 i0 (.int .u8 0) 1 1 Tryd.underlying32 hi hz0 hz1 hz2 rfl (by decide) _ out.length (Lib.byteCells out) (by rfl) (HW.out.alloc (.cells #[.int .u8 (x * 97)] 5)) ⟨x1.heap.size, 0, none⟩ 1 1 [.int .u8 (x * 97)] (by rfl) rfl (World.news_of_block (heap_alloc_new _ _)) (fun u hu => by simp only [List.mem_singleton] at hu; subst hu; rfl) (by unfold maxLen; omega) (by omega) (by have := HF.out.size; simp; omega) ?_; intro v' w2 hown' hgrow _; have HT := hide (own_app (p := p) rfl hRlt HF.out HR.out HW.out (x := (x * 97)) h98 h97 hlt (by omega) hown' hgrow); clear hown' hgrow)
        go_roundw
        case rel => exact ⟨_, q + 1, HT⟩
        case measure => (have hl := lenOf_own HT.out.2.2.1; rw [List.length_append, List.length_singleton] at hl; show many - lenOf v' < many - out.length; omega)
      · have hcv := str_of_row HW.out
        go_wp2_with fail
        go_ret
        exact ⟨out, q, rfl, by omega, by omega, HR.out, HF.out⟩

/-- a new reader -/
def Opened (w : World) (r : Ending) (w' : World) : Prop := r = .returned (.pointer (some ⟨w.heap.size, 0, none⟩)) ∧ Rdr w' w.heap.size 0 ∧ Below w.heap.size w w'
theorem Opened.mk_ {w : World} {A : Option Addr} {n c m : Nat} {zs : List Int} (h : U8s w A n c zs) (hm : m ≤ n) (h2 : m ≤ 2000) :
    Opened w (.returned (.pointer (some ⟨w.heap.size, 0, none⟩))) (w.alloc (.cells #[.slice A m c, .int .i64 0] 84)) := by
  obtain ⟨hc, hml, hz, hb, hr⟩ := h
  refine ⟨rfl, ⟨A, m, c, zs.take m, Bk.fresh _ _ _, by simp; omega, h2, fun z hz' => hb z (List.mem_of_mem_take hz'), fun hpos => ?_⟩, bel1 _ _⟩
  obtain ⟨b, o, e, hlt, hcell⟩ := hr.at_ (by omega)
  refine ⟨b, o, e, hlt, fun j z hj => ?_⟩
  have hj2 : zs[j]? = some z := by
    have hl := (List.getElem?_eq_some_iff.1 hj).1
    rw [List.getElem?_take_of_lt (by simp at hl; omega)] at hj
    exact hj
  exact ((bel1 w (.cells #[.slice A m c, .int .i64 0] 84)).cell (p := ⟨b, o + j, none⟩) hlt).trans (hcell j _ (by rw [List.getElem?_map, hj2]; rfl))
set_option maxHeartbeats 400000 in
theorem l6Open_any (A : Option Addr) (n c : Nat) (zs : List Int) (w : World) (h : U8s w A n c zs) :
    Calls Tryd.prog 48 #[.slice A n c] w (Opened w) := by
  have hc := h.1
  have hm := h.2.1
  unfold maxLen at hm
  by_cases hn : (2000 : Int) < (n : Int)
  · have H := hide (Opened.mk_ (m := 2000) h (by omega) (by omega))
    have h1 : (2000 : Int) ≤ (n : Int) := by omega
    have h2 : (2000 : Int) ≤ (c : Int) := by omega
    clear h
    go_enter Tryd.func48, Tryd.ntmps48
    go_wp2_with fail
    go_ret
    exact H.out
  · have H := hide (Opened.mk_ (m := n) h (by omega) (by omega))
    clear h
    go_enter Tryd.func48, Tryd.ntmps48
    go_wp2_with fail
    go_ret
    exact H.out

/-- frames of a call that makes a reader of its own -/
theorem fr_new {a b c : World} (h : Below a.heap.size a b) {R : Nat} (hR : a.heap.size ≤ R) (k : Fr (· = R) b c) : Below a.heap.size a c :=
  ((Fr.of_below (fun _ => False) h).next k (fun i _ e => .inr (by omega))).below (Nat.le_refl _) (fun _ h => h.elim)
/-- a text is drawn -/
def DrawnS (n : Nat) (w : World) (r : Ending) (w' : World) : Prop := ∃ s : ByteArray, r = .returned (.string s) ∧ s.size ≤ n ∧ Below w.heap.size w w'
end Go.Proofs.YtmhbpmacfekhgaaDoor
