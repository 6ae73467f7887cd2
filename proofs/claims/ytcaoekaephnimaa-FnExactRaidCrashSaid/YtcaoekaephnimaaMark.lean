/- Marks on slices of texts: markText, markStringS, heldStringS of the laws. -/
import Derived.Test.YtcaoekaephnimaaStrs
import Derived.Lib.ConvBytes
import Derived.Laws.BytesArg
namespace Go.Proofs.Ytcaoekaephnimaa
open Go.RowKit

/-- the digits ahead of a text -/
def mgo : Nat → Nat → ByteArray → ByteArray
  | 0, _, out => out
  | f + 1, k, out => if k = 0 then out else mgo f (k / 10) (⟨#[UInt8.ofNat (48 + k % 10)]⟩ ++ out)
def mtext (k : Nat) : ByteArray := if k = 0 then ⟨#[109, 48]⟩ else ⟨#[109]⟩ ++ mgo k k ⟨#[]⟩
theorem mgo_zero (f : Nat) (out : ByteArray) : mgo f 0 out = out := by cases f <;> rfl
theorem mgo_step (f k : Nat) (out : ByteArray) (hf : k ≤ f) (hk : 0 < k) : ∃ f', k / 10 ≤ f' ∧ mgo f k out = mgo f' (k / 10) (⟨#[UInt8.ofNat (48 + k % 10)]⟩ ++ out) := by
  obtain ⟨f, rfl⟩ : ∃ f', f = f' + 1 := ⟨f - 1, by omega⟩
  exact ⟨f, by omega, by rw [mgo, if_neg (by omega)]⟩

theorem one_str (w : World) (x : UInt8) (o : Int) (ho : o = (x.toNat : Int)) : (convert 43 9 (.slice (some ⟨w.heap.size, 0, none⟩) 1 1)).run Try.prog (w.alloc (.cells #[.int .u8 o] 5)) = .ok (.string ⟨#[x]⟩) (w.alloc (.cells #[.int .u8 o] 5)) := by
  subst ho
  refine run_convert_bytes_back _ 43 9 5 _ 1 [x] Try.underlying43 Try.underlying5 Try.underlying9 (fun j hj => ?_)
  have : j = 0 := by simpa using hj
  subst this
  rw [Addr.add_lit, (Bk.fresh w _ _).cell]
  rfl

set_option maxHeartbeats 1000000 in
theorem markText_any (k : Nat) (w : World) (hk : k ≤ 2000000000) :
    Calls Try.prog 84 #[.int .i64 k] w fun r w' => r = .returned (.string (mtext k)) ∧ Below w.heap.size w w' := by
  by_cases h0 : k = 0
  · subst h0
    go_enter Try.func84, Try.ntmps84
    go_wp2
    go_ret
    exact ⟨ret_str (by rw [mtext, if_pos rfl]), Below.refl _ _⟩
  · have e := hide (show mtext k = ⟨#[109]⟩ ++ mgo k k ⟨#[]⟩ by rw [mtext, if_neg h0])
    have k0 : ¬ (k : Int) ≤ 0 := by omega
    clear h0
    go_enter Try.func84, Try.ntmps84
    go_wp2
    go_loopw [0, 3] (fun i o wr => ∃ (f m : Nat) (out : ByteArray), m ≤ f ∧ out.size + m ≤ k ∧ Hid (mgo f m out = mgo k k ⟨#[]⟩) ∧ Hid (Below w.heap.size w wr) ∧ i = .int .i64 m ∧ o = .string out) (fun i _ _ => (intOf i).toNat)
    case atStart => exact ⟨k, k, ⟨#[]⟩, Nat.le_refl _, by simp [ByteArray.size], hide rfl, hide (Below.refl _ _), rfl, rfl⟩
    case round =>
      obtain ⟨f, m, out, hf, hm, HM, HB, rfl, rfl⟩ := hrel
      by_cases hm0 : 0 < m
      · obtain ⟨f', hf', e1⟩ := mgo_step f m out hf hm0
        have HM1 := hide (e1.symm.trans HM.out)
        obtain ⟨d, hd⟩ : ∃ d, d = m % 10 := ⟨_, rfl⟩
        obtain ⟨q, hq⟩ : ∃ q, q = m / 10 := ⟨_, rfl⟩
        rw [← hd, ← hq] at HM1
        rw [← hq] at hf'
        have dl : d < 10 := by omega
        have ql : q < m := by omega
        have ed : (m : Int) % 10 = (d : Int) := by omega
        have eq : (m : Int) / 10 = (q : Int) := by omega
        obtain ⟨x, hx⟩ : ∃ x : UInt8, x = UInt8.ofNat (48 + d) := ⟨_, rfl⟩
        have hc := one_str wr x (48 + (d : Int)) (by rw [hx, UInt8.toNat_ofNat']; omega)
        rw [← hx] at HM1
        have HB1 := hide (HB.out.alloc HB.out.size (.cells #[.int .u8 (48 + (d : Int))] 5))
        have p0 : (0 : Int) < (m : Int) := by omega
        clear e1 hd hq hx
        go_wp2_with fail
        go_roundw
        case rel => exact ⟨f', q, _, hf', by (have h1 : (ByteArray.mk #[x] ++ out).size = 1 + out.size := ByteArray.size_append); omega, HM1, HB1, rfl, rfl⟩
        case measure => simp [intOf]; omega
      · have e0 : m = 0 := by omega
        have HE := hide (show out = mgo k k ⟨#[]⟩ by rw [← HM.out, e0, mgo_zero])
        have p0 : ¬ (0 : Int) < (m : Int) := by omega
        go_wp2_with fail
        go_ret
        exact ⟨ret_str (by rw [e.out, HE.out]), HB.out⟩

/-- what is written into a row: the texts of the numbers from k0 on -/
def marksT (k0 n : Nat) : List Value := (List.range n).map fun (j : Nat) => Value.string (mtext (k0 + j))
theorem marksT_at (k0 n j : Nat) (h : j < n) : (marksT k0 n)[j]? = some (.string (mtext (k0 + j))) := by simp [marksT, h]
theorem marksT_len (k0 n : Nat) : (marksT k0 n).length = n := by simp [marksT]

set_option maxHeartbeats 1000000 in
theorem markStringS_any (g n c : Nat) (cs : Array Value) (k0 : Nat) (w : World) (hb : Bk w g 9 cs) (hn : n ≤ cs.size) (hm : n ≤ 1000000000) (h1 : k0 ≤ 1000000000) :
    Calls Try.prog 58 #[.slice (some ⟨g, 0, none⟩) n c, .int .i64 k0] w fun r w' => r = .returned (.int .i64 (k0 + n : Nat)) ∧
      (∃ cs', Bk w' g 9 cs' ∧ cs'.size = cs.size ∧ ∀ j, j < n → cs'[j]? = some (.string (mtext (k0 + j)))) ∧ Fr (· = g) w w' := by
  have HB := hide hb
  have HN := hide hn
  have hg := hb.lt
  clear hb hn
  go_enter Try.func58, Try.ntmps58
  go_wp2
  go_loopw [1, 5] (fun q i wr => ∃ (k q' : Nat) (cs' : Array Value), k ≤ n ∧ Hid (q' = k0 + k) ∧ Hid (Bk wr g 9 cs') ∧ Hid (cs'.size = cs.size) ∧ Hid (∀ j, j < k → cs'[j]? = some (.string (mtext (k0 + j)))) ∧ Hid (Fr (· = g) w wr) ∧ q = .int .i64 q' ∧ i = .int .i64 k) (fun _ i _ => n - (intOf i).toNat)
  case atStart => exact ⟨0, k0, cs, by omega, hide rfl, HB, hide rfl, hide (fun j hj => absurd hj (by omega)), hide (Fr.refl _ _), rfl, rfl⟩
  case round =>
    obtain ⟨k, q', cs', hk, hq, HB, HS, HM, HF, rfl, rfl⟩ := hrel
    have qb : q' ≤ 2000000000 := by have := hq.out; omega
    have hkc : Hid (k < n → k < cs'.size) := hide (fun hlt => by have := HS.out; have := HN.out; omega)
    by_cases hlt : k < n
    · go_wp2_with fail
      refine (markText_any q' _ (by have := hq.out; omega)).mono ?_; rintro r w1 ⟨rfl, hb1⟩
      have HB2 := HB.out.after hb1
      have hc : w1.cell? ⟨g, k, none⟩ = some (cs'[k]'(hkc.out hlt)) := by rw [HB2.cell]; exact Array.getElem?_eq_getElem (hkc.out hlt)
      have hf : w1.frozen? ⟨g, k, none⟩ = false := HB2.frozen k
      have HP := hide (HB2.put k (.string (mtext q')))
      have HF1 := hide ((HF.out.trans (Fr.of_below _ hb1)).setCell (.inl rfl : (fun x => x = g) (Addr.block ⟨g, k, none⟩) ∨ _) (.string (mtext q')))
      clear hb1 HB2
      go_wp2_with fail
      go_roundw
      case rel => exact ⟨k + 1, q' + 1, _, by omega, hide (by have := hq.out; omega), HP, hide (by rw [Array.size_setIfInBounds]; exact HS.out), hide (fun j hj => by
          rw [Array.getElem?_setIfInBounds]
          by_cases e : k = j
          · subst e; rw [if_pos rfl, if_pos (hkc.out hlt), hq.out]
          · rw [if_neg e]; exact HM.out j (by omega)), HF1, int_eq (by omega), int_eq (by omega)⟩
      case measure => simp [intOf]; omega
    · go_wp2
      go_ret
      have e : k = n := by omega
      subst e
      exact ⟨ret_int (by rw [hq.out]), ⟨cs', HB.out, HS.out, HM.out⟩, HF.out⟩

set_option maxHeartbeats 1000000 in
theorem heldStringS_any (A : Option Addr) (n c : Nat) (k0 : Nat) (w : World) (h : Rd w 1 A n (marksT k0 n)) (hm : n ≤ 1000000000) (h1 : k0 ≤ 1000000000) :
    Calls Try.prog 60 #[.slice A n c, .int .i64 k0] w fun r w' => r = .returned (.int .i64 (k0 + n : Nat)) ∧ Below w.heap.size w w' := by
  have H := hide h
  clear h
  go_enter Try.func60, Try.ntmps60
  go_wp2
  go_loopw [1, 5] (fun q i wr => ∃ (k q' : Nat), k ≤ n ∧ Hid (q' = k0 + k) ∧ Hid (Below w.heap.size w wr) ∧ q = .int .i64 q' ∧ i = .int .i64 k) (fun _ i _ => n - (intOf i).toNat)
  case atStart => exact ⟨0, k0, by omega, hide rfl, hide (Below.refl _ _), rfl, rfl⟩
  case round =>
    obtain ⟨k, q', hk, hq, HW, rfl, rfl⟩ := hrel
    have qb : q' ≤ 2000000000 := by have := hq.out; omega
    by_cases hlt : k < n
    · obtain ⟨b, o, rfl, hb, hcc⟩ := (H.out.after HW.out).at_ (by omega)
      have hc0 := hcc k _ (marksT_at k0 n k hlt)
      rw [← hq.out] at hc0
      have HC := hide hc0
      have HBL := hide hb
      clear hcc hc0 hb
      have i0 : (0 : Int) ≤ (k : Int) := by omega
      have i1 : (k : Int) < (n : Int) := by omega
      go_wp2
      refine wp_region_held_drew (S := fun x => Below wr.heap.size wr x) (by kernel_rfl) ((Below.refl _ _).drew) (fun hH => ?_)
      refine wpAnyH_take (i := 0) (v := ?_) rfl (by kernel_rfl) (by kernel_rfl) (by kernel_rfl) (fun _ _ _ h => h) (Or.inl ⟨by rfl, fun w hS => ?_⟩) hH ?_
      rotate_left
      · have hc := (hS.cell HBL.out).trans HC.out; go_simp; try exact rfl
      simp only [Act.put, List.setIfInBounds_toArray, List.set_cons_zero, List.set_cons_succ, List.getElem_toArray, List.getElem_cons_zero]
      refine wpAnyH_take (i := 1) (v := ?_) rfl (by kernel_rfl) (by kernel_rfl) (by kernel_rfl) (fun _ _ _ h => h) (Or.inl ⟨by rfl, fun w hS => ?_⟩) hH ?_
      rotate_left
      · have hc := (hS.cell HBL.out).trans HC.out; go_simp; try exact rfl
      simp only [Act.put, List.setIfInBounds_toArray, List.set_cons_zero, List.set_cons_succ, List.getElem_toArray, List.getElem_cons_zero, List.getElem_cons_succ]
      refine wpAnyH_take (i := 2) (v := ?_) rfl (by kernel_rfl) (by kernel_rfl) (by kernel_rfl) (fun _ _ _ h => h) (Or.inl ⟨by rfl, fun w hS => ?_⟩) hH ?_
      rotate_left
      · have hc := (hS.cell HBL.out).trans HC.out; go_simp; try exact rfl
      simp only [Act.put, List.setIfInBounds_toArray, List.set_cons_zero, List.set_cons_succ, List.getElem_toArray, List.getElem_cons_zero, List.getElem_cons_succ]
      refine wpAnyH_take (i := 3) (v := ?_) rfl (by kernel_rfl) (by kernel_rfl) (by kernel_rfl) (fun _ _ _ h => h) (Or.inl ⟨by rfl, fun w hS => ?_⟩) hH ?_
      rotate_left
      · have hc := (hS.cell HBL.out).trans HC.out; go_simp; try exact rfl
      simp only [Act.put, List.setIfInBounds_toArray, List.set_cons_zero, List.set_cons_succ, List.getElem_toArray, List.getElem_cons_zero, List.getElem_cons_succ]
      refine wpAnyH_take (i := 4) (v := ?_) rfl (by kernel_rfl) (by kernel_rfl) (by kernel_rfl) (fun _ _ _ h => h) (Or.inl ⟨by rfl, fun w hS => ?_⟩) hH ?_
      rotate_left
      · have hc := (hS.cell HBL.out).trans HC.out; go_simp; try exact rfl
      simp only [Act.put, List.setIfInBounds_toArray, List.set_cons_zero, List.set_cons_succ, List.getElem_toArray, List.getElem_cons_zero, List.getElem_cons_succ]
      refine wpAnyH_ready (rs := [5]) (by kernel_rfl) (by simp) (AllReadyH.cons rfl (fun K hK => ?_) AllReadyH.nil)
      go_simp
      go_at_call 84
      refine (markText_any q' _ (by have := hq.out; omega)).mono ?_; rintro r w1 ⟨rfl, hb1⟩
      refine hK.out _ _ (hH.trans (hb1.mono hH.size)) (fun hH5 => ?_)
      clear hK K
      try simp only [Act.put, List.setIfInBounds_toArray, List.set_cons_zero, List.set_cons_succ]
      refine wpAnyH_take (i := 6) (v := ?_) rfl (by kernel_rfl) (by kernel_rfl) (by kernel_rfl) (fun _ _ _ h => h) (Or.inl ⟨by rfl, fun w hS => ?_⟩) hH5 ?_
      rotate_left
      · have hc := (hS.cell HBL.out).trans HC.out; go_simp; try exact rfl
      simp only [Act.put, List.setIfInBounds_toArray, List.set_cons_zero, List.set_cons_succ, List.getElem_toArray, List.getElem_cons_zero, List.getElem_cons_succ]
      refine wpAnyH_done (by kernel_rfl) ?_ _
      go_wp2_with fail
      go_roundw
      case rel => exact ⟨k + 1, q' + 1, by omega, hide (by have := hq.out; omega), hide (HW.out.trans (hH5.mono HW.out.size)), int_eq (by omega), int_eq (by omega)⟩
      case measure => simp [intOf]; omega
    · go_wp2
      go_ret
      have e : k = n := by omega
      subst e
      exact ⟨ret_int (by rw [hq.out]), HW.out⟩

theorem markStringS_at {g n c : Nat} {cs : Array Value} {i j : Int} (k0 : Nat) (hi : i = (k0 : Int)) (hj : j = i + n) (w : World) (hb : Bk w g 9 cs) (hn : n ≤ cs.size) (hm : n ≤ 1000000000) (h1 : k0 ≤ 1000000000) :
    Calls Try.prog 58 #[.slice (some ⟨g, 0, none⟩) n c, .int .i64 i] w fun r w' => r = .returned (.int .i64 j) ∧
      (∃ cs', Bk w' g 9 cs' ∧ cs'.size = cs.size ∧ ∀ l, l < n → cs'[l]? = some (.string (mtext (k0 + l)))) ∧ Fr (· = g) w w' := by
  subst hi hj
  have h := markStringS_any g n c cs k0 w hb hn hm h1
  rw [show ((k0 + n : Nat) : Int) = (k0 : Int) + (n : Int) from Int.natCast_add _ _] at h
  exact h
theorem heldStringS_at {A : Option Addr} {n c : Nat} {i j : Int} (k0 : Nat) (hi : i = (k0 : Int)) (hj : j = i + n) (w : World) (h : Rd w 1 A n (marksT k0 n)) (hm : n ≤ 1000000000) (h1 : k0 ≤ 1000000000) :
    Calls Try.prog 60 #[.slice A n c, .int .i64 i] w fun r w' => r = .returned (.int .i64 j) ∧ Below w.heap.size w w' := by
  subst hi hj
  have h := heldStringS_any A n c k0 w h hm h1
  rw [show ((k0 + n : Nat) : Int) = (k0 : Int) + (n : Int) from Int.natCast_add _ _] at h
  exact h
/-- what markStringS leaves reads as the marks -/
theorem marksT_rd {w : World} {g n k0 : Nat} {cs : Array Value} (h : Bk w g 9 cs) (hc : ∀ l, l < n → cs[l]? = some (.string (mtext (k0 + l)))) : Rd w 1 (some ⟨g, 0, none⟩) n (marksT k0 n) := by
  refine h.rd (by rw [marksT_len]; omega) (fun j u hu => ?_)
  have hj : j < n := by
    have := (List.getElem?_eq_some_iff.1 hu).1
    rwa [marksT_len] at this
  rw [marksT_at k0 n j hj] at hu
  injection hu with hu
  rw [hc j hj, hu]
set_option maxHeartbeats 400000 in
theorem markStringS_nil (A : Option Addr) (c : Nat) (i : Int) (w : World) :
    Calls Try.prog 58 #[.slice A 0 c, .int .i64 i] w fun r w' => r = .returned (.int .i64 i) ∧ w = w' := by
  go_enter Try.func58, Try.ntmps58
  go_wp2
  go_loop [1, 5] (fun q j => q = .int .i64 i ∧ j = .int .i64 0) (fun _ _ => 0)
  case atStart => exact ⟨rfl, rfl⟩
  case round =>
    obtain ⟨rfl, rfl⟩ := hrel
    go_wp2
    go_ret
    exact ⟨rfl, rfl⟩
theorem Rd.nil (w : World) (k : Nat) (A : Option Addr) : Rd w k A 0 [] := ⟨by simp, fun h => absurd h (by omega)⟩
/-- three cells of a row of texts, read -/
theorem Bk.rdT {w : World} {g : Nat} {zs : List ByteArray} (h : Bk w g 9 (zs.map Value.string).toArray) : Rd w 1 (some ⟨g, 0, none⟩) zs.length (zs.map Value.string) :=
  h.rd (by simp) (fun j u hu => by rw [List.getElem?_toArray]; exact hu)
theorem eqStringS_v {A A' : Option Addr} {n c n' c' : Nat} {zs ys : List ByteArray} {v : Bool} (hv : eqT zs ys = v) (w : World) (h : Rd w 1 A n (zs.map Value.string)) (h' : Rd w 1 A' n' (ys.map Value.string)) (hm : n ≤ maxLen) :
    Calls Try.prog 82 #[.slice A n c, .slice A' n' c'] w fun r w' => r = .returned (.bool v) ∧ Below w.heap.size w w' := hv ▸ eqStringS_any A A' n c n' c' zs ys w h h' hm
end Go.Proofs.Ytcaoekaephnimaa
