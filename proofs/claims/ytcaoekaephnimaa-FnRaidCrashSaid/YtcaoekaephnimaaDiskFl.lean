/- Waiting writes are done: l3Flush. -/
import Derived.Test.YtcaoekaephnimaaDiskCopy
namespace Go.Proofs.Ytcaoekaephnimaa
open Go.RowKit
set_option linter.unusedVariables false
set_option maxRecDepth 100000

/-- waiting writes done one behind the other -/
def settleT (f : Nat → Int × ByteArray → ByteArray → ByteArray) : Nat → List (Int × ByteArray) → List ByteArray → List ByteArray
  | _, [], cs => cs
  | i, z :: zs, cs => settleT f (i + 1) zs (cs.set z.1.toNat (f i z (cs.getD z.1.toNat ⟨#[]⟩)))
theorem settle_len (f : Nat → Int × ByteArray → ByteArray → ByteArray) (i : Nat) (zs : List (Int × ByteArray)) (cs : List ByteArray) : (settleT f i zs cs).length = cs.length := by
  induction zs generalizing i cs with
  | nil => rfl
  | cons z zs ih => rw [settleT, ih, List.length_set]
theorem settle_step {f : Nat → Int × ByteArray → ByteArray → ByteArray} {k : Nat} {zs : List (Int × ByteArray)} {cur R : List ByteArray} {z : Int × ByteArray} {a : Nat} {u : ByteArray} (hz : zs[k]? = some z) (ha : z.1 = (a : Int)) (h : settleT f k (zs.drop k) cur = R) (hu : f k z (cur.getD a ⟨#[]⟩) = u) : settleT f (k + 1) (zs.drop (k + 1)) (cur.set a u) = R := by
  obtain ⟨hk, e⟩ := List.getElem?_eq_some_iff.1 hz
  rw [List.drop_eq_getElem_cons hk, e, settleT, ha] at h
  rw [← h, ← hu]
  rfl
theorem settle_end {f : Nat → Int × ByteArray → ByteArray → ByteArray} {k : Nat} {zs : List (Int × ByteArray)} {cur R : List ByteArray} (hk : zs.length ≤ k) (h : settleT f k (zs.drop k) cur = R) : cur = R := by
  rw [List.drop_eq_nil_of_le hk] at h
  exact h
theorem Fr.cell_ {S : Nat → Prop} {w w' : World} (h : Fr S w w') {p : Addr} (hb : p.block < w.heap.size) (hn : ¬ S p.block) : w'.cell? p = w.cell? p := World.cell?_of_block (h.block p.block hb hn)
theorem Row.at_ {w : World} {g : Nat} {t : TypeId} {cur : List ByteArray} {a : Nat} (h : Row w g t (cur.map Value.string)) (ha : a < cur.length) : w.cell? ⟨g, a, none⟩ = some (.string (cur.getD a ⟨#[]⟩)) ∧ w.frozen? ⟨g, a, none⟩ = false := by
  obtain ⟨cs, h1, h2, h3⟩ := h
  refine ⟨?_, h1.frozen a⟩
  rw [h1.cell, h3 a (by rw [List.length_map]; exact ha), List.getElem?_map, List.getD_eq_getElem?_getD, List.getElem?_eq_getElem ha]
  rfl
theorem Row.put {w : World} {g : Nat} {t : TypeId} {cur : List ByteArray} {a : Nat} (h : Row w g t (cur.map Value.string)) (s : ByteArray) : Row (w.setCell ⟨g, a, none⟩ (.string s)) g t ((cur.set a s).map Value.string) := by
  obtain ⟨cs, h1, h2, h3⟩ := h
  refine ⟨_, h1.put a (.string s), by rw [Array.size_setIfInBounds, List.length_map, List.length_set]; rw [List.length_map] at h2; exact h2, fun j hj => ?_⟩
  rw [List.length_map, List.length_set] at hj
  rw [Array.getElem?_setIfInBounds, List.getElem?_map, List.getElem?_set]
  rw [List.length_map] at h2
  by_cases e : a = j
  · subst e
    rw [if_pos rfl, if_pos (by omega), if_pos rfl, if_pos hj]
    rfl
  · rw [if_neg e, if_neg e, h3 j (by rw [List.length_map]; exact hj), List.getElem?_map]
/-- a disk whose waiting writes are done in place -/
def FlushPost (R : List ByteArray) (g1 c1 : Nat) (g : Bool) (w : World) (r : Ending) (w' : World) : Prop :=
  ∃ B, r = .returned (.agg #[.slice (some ⟨g1, 0, none⟩) 64 c1, .slice B 0 0, .bool g]) ∧ Row w' g1 9 (R.map Value.string) ∧ Fr (· = g1) w w'

set_option maxHeartbeats 4000000 in
theorem l3Flush_any (g1 c1 b2 o2 n2 c2 : Nat) (z1 R : List ByteArray) (z2 : List (Int × ByteArray)) (g : Bool) (w : World) (h1 : Row w g1 9 (z1.map Value.string)) (hl : z1.length = 64) (h2 : Rd w 2 (some ⟨b2, o2, none⟩) n2 (waitCells z2)) (m2 : n2 ≤ 1048576) (hne : b2 ≠ g1) (hok : z2.all waitB = true) (hR : settleT (fun _ z _ => z.2) 0 z2 z1 = R) :
    Calls Try.prog 69 #[.agg #[.slice (some ⟨g1, 0, none⟩) 64 c1, .slice (some ⟨b2, o2, none⟩) n2 c2, .bool g]] w (FlushPost R g1 c1 g w) := by
  obtain ⟨W0, HW0⟩ : ∃ W : World, W = ((w.alloc (.cells #[.slice (some ⟨g1, 0, none⟩) 64 c1, .slice (some ⟨b2, o2, none⟩) n2 c2, .bool g] 49)).alloc (.cells #[.slice none 0 0, .slice none 0 0, .bool false] 49)) := ⟨_, rfl⟩
  have hb : Below w.heap.size w W0 := by rw [HW0]; exact (((Below.refl _ _).alloc (Nat.le_refl _) _).alloc (by simp) _)
  have z0 : W0.heap.size = w.heap.size + 1 + 1 := by rw [HW0]; simp
  have K1 := hide (show Bk W0 w.heap.size 49 #[.slice (some ⟨g1, 0, none⟩) 64 c1, .slice (some ⟨b2, o2, none⟩) n2 c2, .bool g] by rw [HW0]; exact ((Bk.fresh _ _ _).alloc _))
  have K2 := hide (show Bk W0 (w.heap.size + 1) 49 #[.slice none 0 0, .slice none 0 0, .bool false] by
    rw [HW0]
    have h := Bk.fresh (w.alloc (.cells #[.slice (some ⟨g1, 0, none⟩) 64 c1, .slice (some ⟨b2, o2, none⟩) n2 c2, .bool g] 49)) 49 #[.slice none 0 0, .slice none 0 0, .bool false]
    rw [show (w.alloc (.cells #[.slice (some ⟨g1, 0, none⟩) 64 c1, .slice (some ⟨b2, o2, none⟩) n2 c2, .bool g] 49)).heap.size = w.heap.size + 1 by simp] at h
    exact h)
  have hlt := h1.lt
  have hzl : z2.length = n2 := by have := h2.len; rw [waitCells_len] at this; omega
  have HZL := hide hzl
  have H1 := hide (h1.after hb)
  have H2 := hide (h2.after hb)
  have HB := hide hb
  have HL := hide hl
  have HR := hide hR
  have HZ0 := hide z0
  have HOK := hide hok
  clear h1 h2 hb z0 hl hR hzl hok
  go_enter Try.func69, Try.ntmps69
  go_wp2_with fail
  rw [← HW0]
  clear HW0
  go_loopw [3] (fun i wr => ∃ (k : Nat) (cur : List ByteArray), k ≤ n2 ∧ cur.length = 64 ∧ Hid (Row wr g1 9 (cur.map Value.string)) ∧ Hid (settleT (fun _ z _ => z.2) k (z2.drop k) cur = R) ∧ Hid (Fr (· = g1) W0 wr) ∧ i = .int .i64 k) (fun i _ => n2 - (intOf i).toNat)
  case atStart => exact ⟨0, z1, by omega, HL.out, H1, HR, hide (Fr.refl _ _), rfl⟩
  case round =>
    obtain ⟨k, cur, hk, hcl, HROW, HS, HF, rfl⟩ := hrel
    have k1n : ¬ w.heap.size = g1 := by omega
    have KK := hide (K1.out.fr HF.out k1n)
    obtain ⟨t0, t1, t2⟩ := KK.out.c3
    by_cases hlt2 : k < n2
    · obtain ⟨b, o, z, e, hb, hz, hc0, hc1⟩ := (H2.out.fr1 HF.out hne).wait_at hlt2
      injection e with e
      injection e with e1 e2
      subst e1 e2
      have HZ := hide hz
      have HB2 := hide hb
      have C0 := hide hc0
      have C1 := hide hc1
      have hw : waitB z = true := by have h := HOK.out; rw [List.all_eq_true] at h; exact h z (List.mem_of_getElem? hz)
      have hin : 0 ≤ z.1 ∧ z.1 ≤ 63 := by unfold waitB at hw; simp only [inR, Bool.and_eq_true, decide_eq_true_eq] at hw; omega
      obtain ⟨a, ha⟩ : ∃ a : Nat, z.1 = (a : Int) := ⟨z.1.toNat, by omega⟩
      have HA := hide ha
      have i0 : (0 : Int) ≤ (k : Int) := by omega
      have i1 : (k : Int) < (n2 : Int) := by omega
      have a0 : (0 : Int) ≤ (a : Int) := by omega
      have a1 : (a : Int) < 64 := by omega
      obtain ⟨hca, hfa⟩ := (show Row wr.drew g1 9 (cur.map Value.string) from HROW.out).at_ (a := a) (by omega)
      have HS1 := hide (settle_step HZ.out HA.out HS.out rfl)
      have HROW1 := hide ((show Row wr.drew g1 9 (cur.map Value.string) from HROW.out).put (a := a) z.2)
      have HF1 := hide (HF.out.drew.setCell (p := ⟨g1, a, none⟩) (.inl rfl) (.string z.2))
      rw [HA.out] at C0
      clear hz hb hc0 hc1 hw hin ha
      obtain ⟨s, hs⟩ : ∃ s, s = z.2 := ⟨_, rfl⟩
      rw [← hs] at C1 HS1 HROW1 HF1
      clear hs
      go_upto_region 4 with fail
      clear t0 t1 t2
      refine wp_region_held_drew (S := fun x => Fr (· = g1) wr.drew x) (by kernel_rfl) (Fr.refl _ _) (fun hH => ?_)
      refine wpAnyH_take (i := 0) (v := ?_) rfl (by kernel_rfl) (by kernel_rfl) (by kernel_rfl) (fun _ _ _ h => h) (Or.inl ⟨by rfl, fun wS hS => ?_⟩) hH ?_
      rotate_left
      · obtain ⟨t0, t1, t2⟩ := ((show Bk wr.drew w.heap.size _ _ from KK.out).fr hS k1n).c3; have c0 := (hS.cell_ (p := ⟨b2, o2 + k * 2, none⟩) HB2.out hne).trans C0.out; have c1 := (hS.cell_ (p := ⟨b2, o2 + k * 2 + 1, none⟩) HB2.out hne).trans C1.out; go_simp; try exact rfl
      simp only [Act.put, List.setIfInBounds_toArray, List.set_cons_zero, List.set_cons_succ, List.getElem_toArray, List.getElem_cons_zero]
      refine wpAnyH_take (i := 1) (v := ?_) rfl (by kernel_rfl) (by kernel_rfl) (by kernel_rfl) (fun _ _ _ h => h) (Or.inl ⟨by rfl, fun wS hS => ?_⟩) hH ?_
      rotate_left
      · obtain ⟨t0, t1, t2⟩ := ((show Bk wr.drew w.heap.size _ _ from KK.out).fr hS k1n).c3; have c0 := (hS.cell_ (p := ⟨b2, o2 + k * 2, none⟩) HB2.out hne).trans C0.out; have c1 := (hS.cell_ (p := ⟨b2, o2 + k * 2 + 1, none⟩) HB2.out hne).trans C1.out; go_simp; try exact rfl
      simp only [Act.put, List.setIfInBounds_toArray, List.set_cons_zero, List.set_cons_succ, List.getElem_toArray, List.getElem_cons_zero, List.getElem_cons_succ]
      refine wpAnyH_take (i := 2) (v := ?_) rfl (by kernel_rfl) (by kernel_rfl) (by kernel_rfl) (fun _ _ _ h => h) (Or.inl ⟨by rfl, fun wS hS => ?_⟩) hH ?_
      rotate_left
      · obtain ⟨t0, t1, t2⟩ := ((show Bk wr.drew w.heap.size _ _ from KK.out).fr hS k1n).c3; have c0 := (hS.cell_ (p := ⟨b2, o2 + k * 2, none⟩) HB2.out hne).trans C0.out; have c1 := (hS.cell_ (p := ⟨b2, o2 + k * 2 + 1, none⟩) HB2.out hne).trans C1.out; go_simp; try exact rfl
      simp only [Act.put, List.setIfInBounds_toArray, List.set_cons_zero, List.set_cons_succ, List.getElem_toArray, List.getElem_cons_zero, List.getElem_cons_succ]
      refine wpAnyH_take (i := 3) (v := ?_) rfl (by kernel_rfl) (by kernel_rfl) (by kernel_rfl) (fun _ _ _ h => h) (Or.inl ⟨by rfl, fun wS hS => ?_⟩) hH ?_
      rotate_left
      · obtain ⟨t0, t1, t2⟩ := ((show Bk wr.drew w.heap.size _ _ from KK.out).fr hS k1n).c3; have c0 := (hS.cell_ (p := ⟨b2, o2 + k * 2, none⟩) HB2.out hne).trans C0.out; have c1 := (hS.cell_ (p := ⟨b2, o2 + k * 2 + 1, none⟩) HB2.out hne).trans C1.out; go_simp; try exact rfl
      simp only [Act.put, List.setIfInBounds_toArray, List.set_cons_zero, List.set_cons_succ, List.getElem_toArray, List.getElem_cons_zero, List.getElem_cons_succ]
      refine wpAnyH_take (i := 4) (v := ?_) rfl (by kernel_rfl) (by kernel_rfl) (by kernel_rfl) (fun _ _ _ h => h) (Or.inl ⟨by rfl, fun wS hS => ?_⟩) hH ?_
      rotate_left
      · obtain ⟨t0, t1, t2⟩ := ((show Bk wr.drew w.heap.size _ _ from KK.out).fr hS k1n).c3; have c0 := (hS.cell_ (p := ⟨b2, o2 + k * 2, none⟩) HB2.out hne).trans C0.out; have c1 := (hS.cell_ (p := ⟨b2, o2 + k * 2 + 1, none⟩) HB2.out hne).trans C1.out; go_simp; try exact rfl
      simp only [Act.put, List.setIfInBounds_toArray, List.set_cons_zero, List.set_cons_succ, List.getElem_toArray, List.getElem_cons_zero, List.getElem_cons_succ]
      refine wpAnyH_take (i := 5) (v := ?_) rfl (by kernel_rfl) (by kernel_rfl) (by kernel_rfl) (fun _ _ _ h => h) (Or.inl ⟨by rfl, fun wS hS => ?_⟩) hH ?_
      rotate_left
      · obtain ⟨t0, t1, t2⟩ := ((show Bk wr.drew w.heap.size _ _ from KK.out).fr hS k1n).c3; have c0 := (hS.cell_ (p := ⟨b2, o2 + k * 2, none⟩) HB2.out hne).trans C0.out; have c1 := (hS.cell_ (p := ⟨b2, o2 + k * 2 + 1, none⟩) HB2.out hne).trans C1.out; go_simp; try exact rfl
      simp only [Act.put, List.setIfInBounds_toArray, List.set_cons_zero, List.set_cons_succ, List.getElem_toArray, List.getElem_cons_zero, List.getElem_cons_succ]
      refine wpAnyH_take (i := 6) (v := ?_) rfl (by kernel_rfl) (by kernel_rfl) (by kernel_rfl) (fun _ _ _ h => h) (Or.inl ⟨by rfl, fun wS hS => ?_⟩) hH ?_
      rotate_left
      · obtain ⟨t0, t1, t2⟩ := ((show Bk wr.drew w.heap.size _ _ from KK.out).fr hS k1n).c3; have c0 := (hS.cell_ (p := ⟨b2, o2 + k * 2, none⟩) HB2.out hne).trans C0.out; have c1 := (hS.cell_ (p := ⟨b2, o2 + k * 2 + 1, none⟩) HB2.out hne).trans C1.out; go_simp; try exact rfl
      simp only [Act.put, List.setIfInBounds_toArray, List.set_cons_zero, List.set_cons_succ, List.getElem_toArray, List.getElem_cons_zero, List.getElem_cons_succ]
      refine wpAnyH_take (i := 7) (v := ?_) rfl (by kernel_rfl) (by kernel_rfl) (by kernel_rfl) (fun _ _ _ h => h) (Or.inl ⟨by rfl, fun wS hS => ?_⟩) hH ?_
      rotate_left
      · obtain ⟨t0, t1, t2⟩ := ((show Bk wr.drew w.heap.size _ _ from KK.out).fr hS k1n).c3; have c0 := (hS.cell_ (p := ⟨b2, o2 + k * 2, none⟩) HB2.out hne).trans C0.out; have c1 := (hS.cell_ (p := ⟨b2, o2 + k * 2 + 1, none⟩) HB2.out hne).trans C1.out; go_simp; try exact rfl
      simp only [Act.put, List.setIfInBounds_toArray, List.set_cons_zero, List.set_cons_succ, List.getElem_toArray, List.getElem_cons_zero, List.getElem_cons_succ]
      refine wpAnyH_take (i := 8) (v := ?_) rfl (by kernel_rfl) (by kernel_rfl) (by kernel_rfl) (fun _ _ _ h => h) (Or.inl ⟨by rfl, fun wS hS => ?_⟩) hH ?_
      rotate_left
      · obtain ⟨t0, t1, t2⟩ := ((show Bk wr.drew w.heap.size _ _ from KK.out).fr hS k1n).c3; have c0 := (hS.cell_ (p := ⟨b2, o2 + k * 2, none⟩) HB2.out hne).trans C0.out; have c1 := (hS.cell_ (p := ⟨b2, o2 + k * 2 + 1, none⟩) HB2.out hne).trans C1.out; go_simp; try exact rfl
      simp only [Act.put, List.setIfInBounds_toArray, List.set_cons_zero, List.set_cons_succ, List.getElem_toArray, List.getElem_cons_zero, List.getElem_cons_succ]
      refine wpAnyH_take (i := 9) (v := ?_) rfl (by kernel_rfl) (by kernel_rfl) (by kernel_rfl) (fun _ _ _ h => h) (Or.inl ⟨by rfl, fun wS hS => ?_⟩) hH ?_
      rotate_left
      · obtain ⟨t0, t1, t2⟩ := ((show Bk wr.drew w.heap.size _ _ from KK.out).fr hS k1n).c3; have c0 := (hS.cell_ (p := ⟨b2, o2 + k * 2, none⟩) HB2.out hne).trans C0.out; have c1 := (hS.cell_ (p := ⟨b2, o2 + k * 2 + 1, none⟩) HB2.out hne).trans C1.out; go_simp; try exact rfl
      simp only [Act.put, List.setIfInBounds_toArray, List.set_cons_zero, List.set_cons_succ, List.getElem_toArray, List.getElem_cons_zero, List.getElem_cons_succ]
      refine wpAnyH_take (i := 10) (v := ?_) rfl (by kernel_rfl) (by kernel_rfl) (by kernel_rfl) (fun _ _ _ h => h) (Or.inl ⟨by rfl, fun wS hS => ?_⟩) hH ?_
      rotate_left
      · obtain ⟨t0, t1, t2⟩ := ((show Bk wr.drew w.heap.size _ _ from KK.out).fr hS k1n).c3; have c0 := (hS.cell_ (p := ⟨b2, o2 + k * 2, none⟩) HB2.out hne).trans C0.out; have c1 := (hS.cell_ (p := ⟨b2, o2 + k * 2 + 1, none⟩) HB2.out hne).trans C1.out; go_simp; try exact rfl
      simp only [Act.put, List.setIfInBounds_toArray, List.set_cons_zero, List.set_cons_succ, List.getElem_toArray, List.getElem_cons_zero, List.getElem_cons_succ]
      refine wpAnyH_take (i := 11) (v := ?_) rfl (by kernel_rfl) (by kernel_rfl) (by kernel_rfl) (fun _ _ _ h => h) (Or.inl ⟨by rfl, fun wS hS => ?_⟩) hH ?_
      rotate_left
      · obtain ⟨t0, t1, t2⟩ := ((show Bk wr.drew w.heap.size _ _ from KK.out).fr hS k1n).c3; have c0 := (hS.cell_ (p := ⟨b2, o2 + k * 2, none⟩) HB2.out hne).trans C0.out; have c1 := (hS.cell_ (p := ⟨b2, o2 + k * 2 + 1, none⟩) HB2.out hne).trans C1.out; go_simp; try exact rfl
      simp only [Act.put, List.setIfInBounds_toArray, List.set_cons_zero, List.set_cons_succ, List.getElem_toArray, List.getElem_cons_zero, List.getElem_cons_succ]
      refine wpAnyH_take (i := 12) (v := ?_) rfl (by kernel_rfl) (by kernel_rfl) (by kernel_rfl) (fun _ _ _ h => h) (Or.inl ⟨by rfl, fun wS hS => ?_⟩) hH ?_
      rotate_left
      · obtain ⟨t0, t1, t2⟩ := ((show Bk wr.drew w.heap.size _ _ from KK.out).fr hS k1n).c3; have c0 := (hS.cell_ (p := ⟨b2, o2 + k * 2, none⟩) HB2.out hne).trans C0.out; have c1 := (hS.cell_ (p := ⟨b2, o2 + k * 2 + 1, none⟩) HB2.out hne).trans C1.out; go_simp; try exact rfl
      simp only [Act.put, List.setIfInBounds_toArray, List.set_cons_zero, List.set_cons_succ, List.getElem_toArray, List.getElem_cons_zero, List.getElem_cons_succ]
      refine wpAnyH_take (i := 13) (v := ?_) rfl (by kernel_rfl) (by kernel_rfl) (by kernel_rfl) (fun _ _ _ h => h) (Or.inl ⟨by rfl, fun wS hS => ?_⟩) hH ?_
      rotate_left
      · obtain ⟨t0, t1, t2⟩ := ((show Bk wr.drew w.heap.size _ _ from KK.out).fr hS k1n).c3; have c0 := (hS.cell_ (p := ⟨b2, o2 + k * 2, none⟩) HB2.out hne).trans C0.out; have c1 := (hS.cell_ (p := ⟨b2, o2 + k * 2 + 1, none⟩) HB2.out hne).trans C1.out; go_simp; try exact rfl
      simp only [Act.put, List.setIfInBounds_toArray, List.set_cons_zero, List.set_cons_succ, List.getElem_toArray, List.getElem_cons_zero, List.getElem_cons_succ]
      refine wpAnyH_take (i := 14) (v := ?_) rfl (by kernel_rfl) (by kernel_rfl) (by kernel_rfl) (fun _ _ _ h => h) (Or.inl ⟨by rfl, fun wS hS => ?_⟩) hH ?_
      rotate_left
      · obtain ⟨t0, t1, t2⟩ := ((show Bk wr.drew w.heap.size _ _ from KK.out).fr hS k1n).c3; have c0 := (hS.cell_ (p := ⟨b2, o2 + k * 2, none⟩) HB2.out hne).trans C0.out; have c1 := (hS.cell_ (p := ⟨b2, o2 + k * 2 + 1, none⟩) HB2.out hne).trans C1.out; go_simp; try exact rfl
      simp only [Act.put, List.setIfInBounds_toArray, List.set_cons_zero, List.set_cons_succ, List.getElem_toArray, List.getElem_cons_zero, List.getElem_cons_succ]
      refine wpAnyH_ready (rs := [15]) (by kernel_rfl) (by simp) (AllReadyH.cons rfl (fun K hK => ?_) AllReadyH.nil)
      go_simp
      refine hK.out _ _ (hH.setCell (p := ⟨g1, a, none⟩) (.inl rfl) _) (fun hH5 => ?_)
      clear hK K
      try simp only [Act.put, List.setIfInBounds_toArray, List.set_cons_zero, List.set_cons_succ]
      refine wpAnyH_done (by kernel_rfl) ?_ _
      go_wp2_with fail
      go_roundw
      case rel => exact ⟨k + 1, _, by omega, by rw [List.length_set]; exact hcl, HROW1, HS1, HF1, int_eq (by omega)⟩
      case measure => simp [intOf]; omega
    · have hcr := hide (settle_end (by have := HZL.out; omega) HS.out)
      have kn : ¬ (k : Int) < (n2 : Int) := by omega
      have k2n : ¬ w.heap.size + 1 = g1 := by omega
      have KA := hide (KK.out.alloc (.cells #[] 74))
      have KB := hide ((K2.out.fr HF.out k2n).alloc (.cells #[] 74))
      have RA := hide (HROW.out.alloc (.cells #[] 74))
      have FA := hide (HF.out.alloc (.cells #[] 74))
      obtain ⟨s0, s1, s2⟩ := KA.out.c3
      have f1 := KA.out.frozen 1
      go_upto_region 6 with fail
      clear s0 s1 s2 f1 t0 t1 t2
      obtain ⟨X, hX⟩ : ∃ X : World, X = (wr.alloc (.cells #[] 74)).setCell ⟨w.heap.size, 1, none⟩ (.slice (some ⟨wr.heap.size, 0, none⟩) 0 0) := ⟨_, rfl⟩
      have KA2 : Bk X w.heap.size 49 #[.slice (some ⟨g1, 0, none⟩) 64 c1, .slice (some ⟨wr.heap.size, 0, none⟩) 0 0, .bool g] := by rw [hX]; exact KA.out.put 1 _
      have KB2 : Bk X (w.heap.size + 1) 49 #[.slice none 0 0, .slice none 0 0, .bool false] := by rw [hX]; exact KB.out.far (p := ⟨w.heap.size, 1, none⟩) (show w.heap.size + 1 ≠ w.heap.size by omega) _
      have RA2 : Row X g1 9 (cur.map Value.string) := by rw [hX]; exact RA.out.fr ((Fr.refl (fun b => b = w.heap.size) _).setCell (p := ⟨w.heap.size, 1, none⟩) (.inl rfl) _) (by omega)
      have FA2 : Fr (· = g1) w X := by rw [hX]; exact (((Fr.of_below _ HB.out).trans FA.out)).setCell (p := ⟨w.heap.size, 1, none⟩) (.inr (Nat.le_refl _)) _
      rw [← hX]
      obtain ⟨B, hBB⟩ : ∃ B : Option Addr, B = some ⟨wr.heap.size, 0, none⟩ := ⟨_, rfl⟩
      rw [← hBB] at KA2
      rw [← hBB]
      clear hX hBB KA KB RA FA
      obtain ⟨s0, s1, s2⟩ := KA2.c3
      obtain ⟨q0, q1, q2⟩ := KB2.c3
      have f0 := KB2.frozen 0
      have f1 := KB2.frozen 1
      have f2 := KB2.frozen 2
      have P3 := hide (put3 KB2 (.slice (some ⟨g1, 0, none⟩) 64 c1) (.slice B 0 0) (.bool g))
      have PR := hide (RA2.fr (fr3 (Fr.refl (fun b => b = w.heap.size + 1) X) (.inl rfl) (.slice (some ⟨g1, 0, none⟩) 64 c1) (.slice B 0 0) (.bool g)) (by omega))
      have PF := hide (fr3 FA2 (.inr (Nat.le_succ _)) (.slice (some ⟨g1, 0, none⟩) 64 c1) (.slice B 0 0) (.bool g) (g := w.heap.size + 1))
      clear KA2 KB2 RA2 FA2
      go_wp2_with fail
      clear s0 s1 s2 q0 q1 q2 f0 f1 f2
      obtain ⟨Y, hY⟩ : ∃ Y : World, Y = ((X.setCell ⟨w.heap.size + 1, 0, none⟩ (.slice (some ⟨g1, 0, none⟩) 64 c1)).setCell ⟨w.heap.size + 1, 1, none⟩ (.slice B 0 0)).setCell ⟨w.heap.size + 1, 2, none⟩ (.bool g) := ⟨_, rfl⟩
      rw [← hY] at P3 PR PF
      rw [← hY]
      clear hY
      obtain ⟨r0, r1, r2⟩ := P3.out.c3
      refine bodyPost_ret (v := .agg #[.slice (some ⟨g1, 0, none⟩) 64 c1, .slice B 0 0, .bool g]) (by simp [results, Try.results69, go_sem, r0, r1, r2]) rfl ?_
      exact ⟨B, rfl, by rw [← hcr.out]; exact PR.out, PF.out⟩
end Go.Proofs.Ytcaoekaephnimaa
