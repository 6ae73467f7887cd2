/- The decimals of numbers: l6Dec and both NumPut. -/
import Derived.Test.YtmhbpmacfekhgaaDoorItoa
import Derived.Test.YtmhbpmacfekhgaaDoorRange
import Derived.WalkSmall
import Derived.Laws.BytesArg
import Derived.Lib.UnsafeStr
import Derived.Deep.DeepCutAuto
import Derived.Deep.RegionHeld
import Derived.Deep.CutBlock
namespace Go.Proofs.YtmhbpmacfekhgaaDoor
open Go.RowKit
set_option linter.unusedVariables false

/-- the table that strconv reads is as it was laid -/
def Tab (w : World) : Prop := Lib.TabIs Tryd.prog w "internal/strconv.uint64pow10" .u64 Lib.pow10Tab
theorem gTab : Tryd.prog.globalNamed "internal/strconv.uint64pow10" = some 3 := by kernel_rfl
theorem lt_cell {w : World} {a : Addr} {v : Value} (h : w.cell? a = some v) : a.block < w.heap.size := by
  have : w.heap[a.block]? ≠ none := by
    intro he
    simp [World.cell?, he] at h
  rcases Nat.lt_or_ge a.block w.heap.size with hl | hl
  · exact hl
  · exact absurd (Array.getElem?_eq_none hl) this
theorem Tab.after {w w' : World} (h : Tab w) (hb : Below w.heap.size w w') : Tab w' :=
  var?_below hb gTab (lt_cell (Lib.TabIs.cell h gTab 0 (by decide))) h
theorem below_grow (w : World) (k : Nat) (os : Array Obj) : Below w.heap.size w (Go.Sort.grow (w.drewN k) os) :=
  ⟨rfl, rfl, rfl, by show w.heap.size ≤ (w.heap ++ os).size; simp, fun i hi => by show (w.heap ++ os)[i]? = _; rw [Array.getElem?_append_left hi]⟩
/-- string(b) of one byte in a block -/
theorem str_of_one {w : World} {g : Nat} {x : Nat} (hx : x < 256) (h : Bk w g 5 #[.int .u8 x]) (c : Nat) :
    (convert 32 9 (.slice (some ⟨g, 0, none⟩) 1 c)).run Tryd.prog w = .ok (.string ⟨#[UInt8.ofNat x]⟩) w := by
  refine run_convert_bytes_back w 32 9 5 ⟨g, 0, none⟩ c [UInt8.ofNat x] Tryd.underlying32 Tryd.underlying5 Tryd.underlying9 (fun j hj => ?_)
  have : j = 0 := by simp at hj; omega
  subst this
  rw [Addr.add_lit, Nat.zero_add, h.cell]
  simp [Nat.mod_eq_of_lt hx]
theorem dec_len (u : Nat) : (Lib.decDigits u).length ≤ u + 1 := by
  induction u using Nat.strongRecOn with
  | _ u ih =>
    by_cases h : u < 10
    · rw [Lib.decDigits_one h]; simp
    · rw [Lib.decDigits, dif_neg h, List.length_append, List.length_singleton]
      have := ih (u / 10) (by omega)
      omega
theorem ba_app (a b : List UInt8) : (⟨a.toArray⟩ : ByteArray) ++ ⟨b.toArray⟩ = ⟨(a ++ b).toArray⟩ := by
  apply ByteArray.ext
  rw [ByteArray.data_append]
  simp
theorem dec_more {n : Nat} (h : ¬ n < 10) : Lib.decDigits n = Lib.decDigits (n / 10) ++ [UInt8.ofNat (48 + n % 10)] := by rw [Lib.decDigits, dif_neg h]
set_option maxHeartbeats 1000000 in
theorem l6Dec_any (n : Nat) : ∀ (w : World), n ≤ 9223372036854775807 → Calls Tryd.prog 40 #[.int .i64 n] w fun r w' => r = .returned (.string ⟨(Lib.decDigits n).toArray⟩) ∧ Below w.heap.size w w' := by
  induction n using Nat.strongRecOn with
  | _ n ih =>
  intro w hn
  have IH := hide ih
  clear ih
  have g0 : decide ((n : Int) < -9223372036854775807) = false := decide_eq_false (by omega)
  have g1 : decide ((n : Int) < 0) = false := decide_eq_false (by omega)
  by_cases h : n < 10
  · rw [Lib.decDigits_one h]
    obtain ⟨x, hx⟩ : ∃ x : Nat, x = 48 + n := ⟨_, rfl⟩
    rw [← hx]
    have hcv := str_of_one (show x < 256 by omega) (Bk.fresh w 5 #[.int .u8 (x : Int)]) 1
    have h1 : IntKind.i64.wrap ((48 : Int) + (n : Int)) = (x : Int) := by rw [IntKind.wrap_i64]; omega
    have h2 : IntKind.u8.wrap (x : Int) = (x : Int) := by rw [IntKind.wrap_u8]; omega
    have hX := hide hx
    clear hx
    have HN := hide hn
    have hg : decide ((n : Int) < 10) = true := decide_eq_true (by omega)
    have H := hide h
    clear hn h
    go_enter Tryd.func40, Tryd.ntmps40
    go_upto_region 6 with fail
    go_wp2_with fail
    go_ret
    exact ⟨rfl, bel1 _ _⟩
  · obtain ⟨x, hx⟩ : ∃ x : Nat, x = 48 + n % 10 := ⟨_, rfl⟩
    have h57 : x < 256 := by omega
    obtain ⟨m, hm⟩ : ∃ m : Nat, m = n / 10 := ⟨_, rfl⟩
    have h0 : IntKind.i64.wrap ((n : Int) / 10) = (m : Int) := by rw [IntKind.wrap_i64]; omega
    have h3 : (n : Int).tmod 10 = (n : Int) % 10 := by rw [Int.tmod_eq_emod_of_nonneg (by omega)]
    have h1 : IntKind.i64.wrap ((48 : Int) + (n : Int) % 10) = (x : Int) := by rw [IntKind.wrap_i64]; omega
    have hL : ¬ 9223372036854775807 < (Lib.decDigits m).length + 1 := by have := dec_len m; omega
    have hM := hide hm
    have HN := hide hn
    have hg : decide ((n : Int) < 10) = false := decide_eq_false (by omega)
    have H := hide h
    clear hm hn h
    have h2 : IntKind.u8.wrap (x : Int) = (x : Int) := by rw [IntKind.wrap_u8]; omega
    have hX := hide hx
    clear hx
    go_enter Tryd.func40, Tryd.ntmps40
    go_upto_region 7 with fail
    refine wp_region_held_drew (S := fun x => Below w.heap.size w x) (by kernel_rfl) ((Below.refl _ _).drew) (fun hH0 => ?_)
    refine wpAnyH_take (i := 0) (v := ?_) rfl (by kernel_rfl) (by kernel_rfl) (by kernel_rfl) (fun _ _ _ h => h) (Or.inl ⟨by rfl, fun wS hS => ?_⟩) hH0 ?_
    rotate_left
    · go_simp; try exact rfl
    simp only [Act.put, List.setIfInBounds_toArray, List.set_cons_zero, List.set_cons_succ, List.getElem_toArray, List.getElem_cons_zero]
    refine wpAnyH_take (i := 1) (v := ?_) rfl (by kernel_rfl) (by kernel_rfl) (by kernel_rfl) (fun _ _ _ h => h) (Or.inl ⟨by rfl, fun wS hS => ?_⟩) hH0 ?_
    rotate_left
    · go_simp; try exact rfl
    simp only [Act.put, List.setIfInBounds_toArray, List.set_cons_zero, List.set_cons_succ, List.getElem_toArray, List.getElem_cons_zero, List.getElem_cons_succ]
    refine wpAnyH_take (i := 3) (v := ?_) rfl (by kernel_rfl) (by kernel_rfl) (by kernel_rfl) (fun _ _ _ h => h) (Or.inl ⟨by rfl, fun wS hS => ?_⟩) hH0 ?_
    rotate_left
    · go_simp; try exact rfl
    simp only [Act.put, List.setIfInBounds_toArray, List.set_cons_zero, List.set_cons_succ, List.getElem_toArray, List.getElem_cons_zero, List.getElem_cons_succ]
    refine wpAnyH_take (i := 4) (v := ?_) rfl (by kernel_rfl) (by kernel_rfl) (by kernel_rfl) (fun _ _ _ h => h) (Or.inl ⟨by rfl, fun wS hS => ?_⟩) hH0 ?_
    rotate_left
    · go_simp; try exact rfl
    simp only [Act.put, List.setIfInBounds_toArray, List.set_cons_zero, List.set_cons_succ, List.getElem_toArray, List.getElem_cons_zero, List.getElem_cons_succ]
    refine wpAnyH_take (i := 5) (v := ?_) rfl (by kernel_rfl) (by kernel_rfl) (by kernel_rfl) (fun _ _ _ h => h) (Or.inl ⟨by rfl, fun wS hS => ?_⟩) hH0 ?_
    rotate_left
    · go_simp; try exact rfl
    simp only [Act.put, List.setIfInBounds_toArray, List.set_cons_zero, List.set_cons_succ, List.getElem_toArray, List.getElem_cons_zero, List.getElem_cons_succ]
    refine wpAnyH_take (i := 6) (v := ?_) rfl (by kernel_rfl) (by kernel_rfl) (by kernel_rfl) (fun _ _ _ h => h) (Or.inl ⟨by rfl, fun wS hS => ?_⟩) hH0 ?_
    rotate_left
    · go_simp; try exact rfl
    simp only [Act.put, List.setIfInBounds_toArray, List.set_cons_zero, List.set_cons_succ, List.getElem_toArray, List.getElem_cons_zero, List.getElem_cons_succ]
    refine wpAnyH_ready (rs := [2, 7]) (by kernel_rfl) (by simp) (AllReadyH.cons rfl (fun K hK => ?_) (AllReadyH.cons rfl (fun K hK => ?_) (AllReadyH.nil)))
    · go_simp
      go_at_call 40
      refine (IH.out m (by have := hM.out; have := H.out; omega) _ (by have := HN.out; have := hM.out; omega)).mono ?_; rintro r w5 ⟨rfl, hb5⟩
      refine hK.out _ _ (hH0.trans (hb5.mono hH0.size)) (fun hH1 => ?_)
      clear hK K
      try simp only [Act.put]
      refine wpAnyH_ready (rs := [7]) (by kernel_rfl) (by simp) (AllReadyH.cons rfl (fun K hK => ?_) (AllReadyH.nil))
      go_simp
      refine hK.out _ _ (hH1.alloc hH1.size _) (fun hH2 => ?_)
      clear hK K
      try simp only [Act.put]
      have KB := hide (show Bk (w5.alloc (.cells #[.int .u8 (x : Int)] 5)) w5.heap.size 5 #[.int .u8 (x : Int)] from Bk.fresh _ _ _)
      refine wpAnyH_ready (rs := [8]) (by kernel_rfl) (by simp) (AllReadyH.cons rfl (fun K hK => ?_) (AllReadyH.nil))
      have hcv := str_of_one h57 KB.out 1
      go_simp
      refine hK.out _ _ (hH2) (fun hH3 => ?_)
      clear hK K
      try simp only [Act.put]
      refine wpAnyH_take (i := 9) (v := ?_) rfl (by kernel_rfl) (by kernel_rfl) (by kernel_rfl) (fun _ _ _ h => h) (Or.inl ⟨by rfl, fun wS hS => ?_⟩) hH3 ?_
      rotate_left
      · go_simp; try exact rfl
      simp only [Act.put, List.setIfInBounds_toArray, List.set_cons_zero, List.set_cons_succ, List.getElem_toArray, List.getElem_cons_zero, List.getElem_cons_succ]
      refine wpAnyH_take (i := 10) (v := ?_) rfl (by kernel_rfl) (by kernel_rfl) (by kernel_rfl) (fun _ _ _ h => h) (Or.inl ⟨by rfl, fun wS hS => ?_⟩) hH3 ?_
      rotate_left
      · go_simp; try exact rfl
      simp only [Act.put, List.setIfInBounds_toArray, List.set_cons_zero, List.set_cons_succ, List.getElem_toArray, List.getElem_cons_zero, List.getElem_cons_succ]
      refine wpAnyH_done (by kernel_rfl) ?_ _
      go_wp2_with fail
      go_ret
      exact ⟨by rw [dec_more H.out, ← hX.out, ← hM.out]; exact congrArg (fun x => Ending.returned (.string x)) (ba_app _ [_]), hH3⟩
    · go_simp
      refine hK.out _ _ (hH0.alloc hH0.size _) (fun hH1 => ?_)
      clear hK K
      try simp only [Act.put]
      have KB := hide (show Bk ((w.alloc (.cells #[.int .u8 (x : Int)] 5)).drew) w.heap.size 5 #[.int .u8 (x : Int)] from Bk.fresh _ _ _)
      refine wpAnyH_ready (rs := [2, 8]) (by kernel_rfl) (by simp) (AllReadyH.cons rfl (fun K hK => ?_) (AllReadyH.cons rfl (fun K hK => ?_) (AllReadyH.nil)))
      · go_simp
        go_at_call 40
        refine (IH.out m (by have := hM.out; have := H.out; omega) _ (by have := HN.out; have := hM.out; omega)).mono ?_; rintro r w5 ⟨rfl, hb5⟩
        have KB := hide (KB.out.after hb5)
        refine hK.out _ _ (hH1.trans (hb5.mono hH1.size)) (fun hH2 => ?_)
        clear hK K
        try simp only [Act.put]
        refine wpAnyH_ready (rs := [8]) (by kernel_rfl) (by simp) (AllReadyH.cons rfl (fun K hK => ?_) (AllReadyH.nil))
        have hcv := str_of_one h57 KB.out 1
        go_simp
        refine hK.out _ _ (hH2) (fun hH3 => ?_)
        clear hK K
        try simp only [Act.put]
        refine wpAnyH_take (i := 9) (v := ?_) rfl (by kernel_rfl) (by kernel_rfl) (by kernel_rfl) (fun _ _ _ h => h) (Or.inl ⟨by rfl, fun wS hS => ?_⟩) hH3 ?_
        rotate_left
        · go_simp; try exact rfl
        simp only [Act.put, List.setIfInBounds_toArray, List.set_cons_zero, List.set_cons_succ, List.getElem_toArray, List.getElem_cons_zero, List.getElem_cons_succ]
        refine wpAnyH_take (i := 10) (v := ?_) rfl (by kernel_rfl) (by kernel_rfl) (by kernel_rfl) (fun _ _ _ h => h) (Or.inl ⟨by rfl, fun wS hS => ?_⟩) hH3 ?_
        rotate_left
        · go_simp; try exact rfl
        simp only [Act.put, List.setIfInBounds_toArray, List.set_cons_zero, List.set_cons_succ, List.getElem_toArray, List.getElem_cons_zero, List.getElem_cons_succ]
        refine wpAnyH_done (by kernel_rfl) ?_ _
        go_wp2_with fail
        go_ret
        exact ⟨by rw [dec_more H.out, ← hX.out, ← hM.out]; exact congrArg (fun x => Ending.returned (.string x)) (ba_app _ [_]), hH3⟩
      · have hcv := str_of_one h57 KB.out 1
        go_simp
        refine hK.out _ _ (hH1) (fun hH2 => ?_)
        clear hK K
        try simp only [Act.put]
        refine wpAnyH_ready (rs := [2]) (by kernel_rfl) (by simp) (AllReadyH.cons rfl (fun K hK => ?_) (AllReadyH.nil))
        go_simp
        go_at_call 40
        refine (IH.out m (by have := hM.out; have := H.out; omega) _ (by have := HN.out; have := hM.out; omega)).mono ?_; rintro r w5 ⟨rfl, hb5⟩
        have KB := hide (KB.out.after hb5)
        refine hK.out _ _ (hH2.trans (hb5.mono hH2.size)) (fun hH3 => ?_)
        clear hK K
        try simp only [Act.put]
        refine wpAnyH_take (i := 9) (v := ?_) rfl (by kernel_rfl) (by kernel_rfl) (by kernel_rfl) (fun _ _ _ h => h) (Or.inl ⟨by rfl, fun wS hS => ?_⟩) hH3 ?_
        rotate_left
        · go_simp; try exact rfl
        simp only [Act.put, List.setIfInBounds_toArray, List.set_cons_zero, List.set_cons_succ, List.getElem_toArray, List.getElem_cons_zero, List.getElem_cons_succ]
        refine wpAnyH_take (i := 10) (v := ?_) rfl (by kernel_rfl) (by kernel_rfl) (by kernel_rfl) (fun _ _ _ h => h) (Or.inl ⟨by rfl, fun wS hS => ?_⟩) hH3 ?_
        rotate_left
        · go_simp; try exact rfl
        simp only [Act.put, List.setIfInBounds_toArray, List.set_cons_zero, List.set_cons_succ, List.getElem_toArray, List.getElem_cons_zero, List.getElem_cons_succ]
        refine wpAnyH_done (by kernel_rfl) ?_ _
        go_wp2_with fail
        go_ret
        exact ⟨by rw [dec_more H.out, ← hX.out, ← hM.out]; exact congrArg (fun x => Ending.returned (.string x)) (ba_app _ [_]), hH3⟩
/-- what NumPut gives -/
def numT (n : Int) : ByteArray := if inR n 0 999999999 = true then ⟨(Lib.decDigits n.toNat).toArray⟩ else ByteArray.empty
theorem inR_nat {n : Int} (h : inR n 0 999999999 = true) : ∃ k : Nat, n = k ∧ k ≤ 999999999 := by
  simp only [inR, Bool.and_eq_true, decide_eq_true_eq] at h
  exact ⟨n.toNat, by omega, by omega⟩
theorem itoa_nat (k : Nat) : Lib.itoa (k : Int) = Lib.decDigits k := by
  unfold Lib.itoa
  rw [if_neg (by omega), Int.toNat_natCast]
theorem implNumPut_any (n : Int) (w : World) (ht : Tab w) : Calls Tryd.prog 42 #[.int .i64 n] w fun r w' => r = .returned (.string (numT n)) ∧ Below w.heap.size w w' := by
  unfold numT
  have HT := hide ht
  clear ht
  cases h : inR n 0 999999999
  · rw [if_neg (by simp)]
    go_enter Tryd.func42, Tryd.ntmps42
    go_wp2_with (go_at_call 53; refine (within_v h _).mono ?_; rintro r w1 ⟨rfl, rfl⟩)
    go_ret
    exact ⟨rfl, Below.refl _ _⟩
  · obtain ⟨k, rfl, hk⟩ := inR_nat h
    rw [if_pos rfl, Int.toNat_natCast]
    have HK := hide hk
    clear hk
    go_enter Tryd.func42, Tryd.ntmps42
    go_wp2_with (go_at_call 53; refine (within_v h _).mono ?_; rintro r w1 ⟨rfl, rfl⟩)
    refine (itoaC k (by have := HK.out; omega) (by have := HK.out; omega) _ HT.out).mono ?_; rintro r w1 ⟨rfl, j, os, rfl⟩
    rw [itoa_nat]
    go_wp2_with fail
    go_ret
    exact ⟨rfl, below_grow _ _ _⟩
end Go.Proofs.YtmhbpmacfekhgaaDoor
