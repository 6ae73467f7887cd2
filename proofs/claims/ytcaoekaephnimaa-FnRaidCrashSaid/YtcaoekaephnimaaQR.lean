/- eqDiskS and eqRaid compare rows of disks. -/
import Derived.Test.YtcaoekaephnimaaQD
import Derived.Test.YtcaoekaephnimaaQA
import Derived.Deep.Slices
import Derived.Deep.SlicePairs
import Derived.Deep.Fields
import Derived.ChangeSame
import Derived.Deep.DeepCutAuto
import Derived.Deep.RegionHeld
namespace Go.Proofs.Ytcaoekaephnimaa
open Go.RowKit
set_option linter.unusedVariables false

/-- a disk, as a row holds it -/
structure DV where
  A1 : Option Addr
  n1 : Nat
  c1 : Nat
  A2 : Option Addr
  n2 : Nat
  c2 : Nat
  g : Bool
  z1 : List ByteArray
  z2 : List (Int × ByteArray)
def DV.cells (d : DV) : List Value := [.slice d.A1 d.n1 d.c1, .slice d.A2 d.n2 d.c2, .bool d.g]
def DV.val (d : DV) : List ByteArray × List (Int × ByteArray) × Bool := (d.z1, d.z2, d.g)
def DV.In (w : World) (d : DV) : Prop := Rd w 1 d.A1 d.n1 (d.z1.map Value.string) ∧ Rd w 2 d.A2 d.n2 (waitCells d.z2) ∧ d.n1 ≤ maxLen ∧ d.n2 ≤ maxLen
theorem DV.In.after {w w' : World} {d : DV} (h : d.In w) (hb : Below w.heap.size w w') : d.In w' := ⟨h.1.after hb, h.2.1.after hb, h.2.2⟩
def rCells (ds : List DV) : List Value := ds.flatMap DV.cells
theorem rCells_len (ds : List DV) : (rCells ds).length = 3 * ds.length := by
  induction ds with
  | nil => rfl
  | cons d ds ih => rw [rCells, List.flatMap_cons, List.length_append, List.length_cons]; show 3 + (rCells ds).length = _; omega
theorem rCells_at : ∀ (ds : List DV) (k : Nat) (d : DV), ds[k]? = some d → (rCells ds)[k * 3]? = some (.slice d.A1 d.n1 d.c1) ∧ (rCells ds)[k * 3 + 1]? = some (.slice d.A2 d.n2 d.c2) ∧ (rCells ds)[k * 3 + 2]? = some (.bool d.g)
  | [], k, d, h => by simp at h
  | e :: ds, 0, d, h => by
    simp at h; subst h
    exact ⟨rfl, rfl, rfl⟩
  | e :: ds, k + 1, d, h => by
    have hi := rCells_at ds k d (by simpa using h)
    have hs : ∀ j, (rCells (e :: ds))[j + 3]? = (rCells ds)[j]? := fun j => rfl
    rw [show (k + 1) * 3 = k * 3 + 3 by omega, show k * 3 + 3 + 1 = k * 3 + 1 + 3 by omega, show k * 3 + 3 + 2 = k * 3 + 2 + 3 by omega, hs, hs, hs]
    exact hi
theorem Rd.disk_at {w : World} {A : Option Addr} {n : Nat} {ds : List DV} (h : Rd w 3 A n (rCells ds)) {k : Nat} (hk : k < n) :
    ∃ b o d, A = some ⟨b, o, none⟩ ∧ b < w.heap.size ∧ ds[k]? = some d ∧ w.cell? ⟨b, o + k * 3, none⟩ = some (.slice d.A1 d.n1 d.c1) ∧ w.cell? ⟨b, o + k * 3 + 1, none⟩ = some (.slice d.A2 d.n2 d.c2) ∧ w.cell? ⟨b, o + k * 3 + 2, none⟩ = some (.bool d.g) := by
  obtain ⟨b, o, e, hb, hc⟩ := h.at_ (by omega)
  have hl : k < ds.length := by have := h.len; rw [rCells_len] at this; omega
  obtain ⟨c0, c1, c2⟩ := rCells_at ds k ds[k] (List.getElem?_eq_getElem hl)
  exact ⟨b, o, ds[k], e, hb, List.getElem?_eq_getElem hl, hc _ _ c0, hc _ _ c1, hc _ _ c2⟩
def eqV (ds es : List DV) : Bool := decide (ds.map DV.val = es.map DV.val)
theorem eqV_len {ds es : List DV} (h : ds.length ≠ es.length) : eqV ds es = false := decide_eq_false fun e => h (by have := congrArg List.length e; simpa using this)
theorem eqV_at {ds es : List DV} {k : Nat} {d e : DV} (hd : ds[k]? = some d) (he : es[k]? = some e) (h : d.val ≠ e.val) : eqV ds es = false :=
  decide_eq_false fun q => h (by
    have h1 : (ds.map DV.val)[k]? = some d.val := by rw [List.getElem?_map, hd]; rfl
    have h2 : (es.map DV.val)[k]? = some e.val := by rw [List.getElem?_map, he]; rfl
    rw [q, h2] at h1
    exact (Option.some.inj h1).symm)
theorem eqV_all {ds es : List DV} (hl : ds.length = es.length) (h : (ds.map DV.val).take ds.length = (es.map DV.val).take ds.length) : eqV ds es = true := by
  refine decide_eq_true ?_
  rw [List.take_of_length_le (by simp), List.take_of_length_le (by simp; omega)] at h
  exact h
theorem eqV_same (ds : List DV) : eqV ds ds = true := decide_eq_true rfl
theorem eqD_val (d e : DV) : eqD d.z1 e.z1 d.z2 e.z2 d.g e.g = decide (d.val = e.val) := by
  unfold eqD eqT eqW DV.val
  by_cases h1 : d.z1 = e.z1
  · by_cases h2 : d.z2 = e.z2
    · by_cases h3 : d.g = e.g
      · simp [h1, h2, h3]
      · simp [h1, h2, h3]
    · simp [h1, h2]
  · simp [h1]
set_option maxHeartbeats 4000000 in
theorem eqDiskS_any (A A' : Option Addr) (n c n' c' : Nat) (ds es : List DV) (w : World) (h : Rd w 3 A n (rCells ds)) (h' : Rd w 3 A' n' (rCells es)) (hd : ∀ d ∈ ds, d.In w) (he : ∀ d ∈ es, d.In w) (hm : n ≤ maxLen) :
    Calls Try.prog 34 #[.slice A n c, .slice A' n' c'] w fun r w' => r = .returned (.bool (eqV ds es)) ∧ Below w.heap.size w w' := by
  unfold maxLen at hm
  have hzl : ds.length = n := by have := h.len; rw [rCells_len] at this; omega
  have hyl : es.length = n' := by have := h'.len; rw [rCells_len] at this; omega
  by_cases hl : n = n'
  · subst hl
    have HL := hide (hzl.trans hyl.symm)
    have HZ := hide hzl
    have H := hide h
    have H' := hide h'
    have DI := hide hd
    have DJ := hide he
    clear hzl hyl h h' hd he
    go_enter Try.func34, Try.ntmps34
    go_wp2
    go_loopw [5] (fun i wr => ∃ k : Nat, k ≤ n ∧ Hid (Below w.heap.size w wr) ∧ Hid ((ds.map DV.val).take k = (es.map DV.val).take k) ∧ i = .int .i64 k) (fun i _ => n - (intOf i).toNat)
    case atStart => exact ⟨0, by omega, hide (Below.refl _ _), hide rfl, rfl⟩
    case round =>
      obtain ⟨k, hk, HW, HT, rfl⟩ := hrel
      by_cases hlt : k < n
      · obtain ⟨b, o, d, rfl, hb, hz, hc0, hc1, hc2⟩ := (H.out.after HW.out).disk_at hlt
        obtain ⟨b', o', e, rfl, hb', hy, hd0, hd1, hd2⟩ := (H'.out.after HW.out).disk_at hlt
        have HZ := hide hz
        have HY := hide hy
        have HB0 := hide hb
        have HB1 := hide hb'
        have C0 := hide hc0
        have C1 := hide hc1
        have C2 := hide hc2
        have D0 := hide hd0
        have D1 := hide hd1
        have D2 := hide hd2
        have IN := hide ((DI.out d (List.mem_of_getElem? hz)).after HW.out)
        have IM := hide ((DJ.out e (List.mem_of_getElem? hy)).after HW.out)
        have i0 : (0 : Int) ≤ (k : Int) := by omega
        have i1 : (k : Int) < (n : Int) := by omega
        clear hz hy hb hb' hc0 hc1 hd0 hd1 hc2 hd2
        by_cases he : d.val = e.val
        · have HE := hide ((eqD_val d e).trans (decide_eq_true he))
          have HE1 := hide (take_eq_snoc (show (ds.map DV.val)[k]? = some d.val by rw [List.getElem?_map, HZ.out]; rfl) (show (es.map DV.val)[k]? = some e.val by rw [List.getElem?_map, HY.out]; rfl) HT.out he)
          clear he
          go_wp2_with fail
          refine wp_region_held_drew (S := fun x => Below wr.heap.size wr x) (by kernel_rfl) ((Below.refl _ _).drew) (fun hH => ?_)
          refine wpAnyH_take (i := 0) (v := ?_) rfl (by kernel_rfl) (by kernel_rfl) (by kernel_rfl) (fun _ _ _ h => h) (Or.inl ⟨by rfl, fun w hS => ?_⟩) hH ?_
          rotate_left
          · have c0 := (hS.cell (p := ⟨b, o + k * 3, none⟩) HB0.out).trans C0.out; have c1 := (hS.cell (p := ⟨b, o + k * 3 + 1, none⟩) HB0.out).trans C1.out; have c2 := (hS.cell (p := ⟨b, o + k * 3 + 2, none⟩) HB0.out).trans C2.out; have d0 := (hS.cell (p := ⟨b', o' + k * 3, none⟩) HB1.out).trans D0.out; have d1 := (hS.cell (p := ⟨b', o' + k * 3 + 1, none⟩) HB1.out).trans D1.out; have d2 := (hS.cell (p := ⟨b', o' + k * 3 + 2, none⟩) HB1.out).trans D2.out; go_simp; try exact rfl
          simp only [Act.put, List.setIfInBounds_toArray, List.set_cons_zero, List.set_cons_succ, List.getElem_toArray, List.getElem_cons_zero]
          refine wpAnyH_take (i := 1) (v := ?_) rfl (by kernel_rfl) (by kernel_rfl) (by kernel_rfl) (fun _ _ _ h => h) (Or.inl ⟨by rfl, fun w hS => ?_⟩) hH ?_
          rotate_left
          · have c0 := (hS.cell (p := ⟨b, o + k * 3, none⟩) HB0.out).trans C0.out; have c1 := (hS.cell (p := ⟨b, o + k * 3 + 1, none⟩) HB0.out).trans C1.out; have c2 := (hS.cell (p := ⟨b, o + k * 3 + 2, none⟩) HB0.out).trans C2.out; have d0 := (hS.cell (p := ⟨b', o' + k * 3, none⟩) HB1.out).trans D0.out; have d1 := (hS.cell (p := ⟨b', o' + k * 3 + 1, none⟩) HB1.out).trans D1.out; have d2 := (hS.cell (p := ⟨b', o' + k * 3 + 2, none⟩) HB1.out).trans D2.out; go_simp; try exact rfl
          simp only [Act.put, List.setIfInBounds_toArray, List.set_cons_zero, List.set_cons_succ, List.getElem_toArray, List.getElem_cons_zero, List.getElem_cons_succ]
          refine wpAnyH_take (i := 2) (v := ?_) rfl (by kernel_rfl) (by kernel_rfl) (by kernel_rfl) (fun _ _ _ h => h) (Or.inl ⟨by rfl, fun w hS => ?_⟩) hH ?_
          rotate_left
          · have c0 := (hS.cell (p := ⟨b, o + k * 3, none⟩) HB0.out).trans C0.out; have c1 := (hS.cell (p := ⟨b, o + k * 3 + 1, none⟩) HB0.out).trans C1.out; have c2 := (hS.cell (p := ⟨b, o + k * 3 + 2, none⟩) HB0.out).trans C2.out; have d0 := (hS.cell (p := ⟨b', o' + k * 3, none⟩) HB1.out).trans D0.out; have d1 := (hS.cell (p := ⟨b', o' + k * 3 + 1, none⟩) HB1.out).trans D1.out; have d2 := (hS.cell (p := ⟨b', o' + k * 3 + 2, none⟩) HB1.out).trans D2.out; go_simp; try exact rfl
          simp only [Act.put, List.setIfInBounds_toArray, List.set_cons_zero, List.set_cons_succ, List.getElem_toArray, List.getElem_cons_zero, List.getElem_cons_succ]
          refine wpAnyH_take (i := 3) (v := ?_) rfl (by kernel_rfl) (by kernel_rfl) (by kernel_rfl) (fun _ _ _ h => h) (Or.inl ⟨by rfl, fun w hS => ?_⟩) hH ?_
          rotate_left
          · have c0 := (hS.cell (p := ⟨b, o + k * 3, none⟩) HB0.out).trans C0.out; have c1 := (hS.cell (p := ⟨b, o + k * 3 + 1, none⟩) HB0.out).trans C1.out; have c2 := (hS.cell (p := ⟨b, o + k * 3 + 2, none⟩) HB0.out).trans C2.out; have d0 := (hS.cell (p := ⟨b', o' + k * 3, none⟩) HB1.out).trans D0.out; have d1 := (hS.cell (p := ⟨b', o' + k * 3 + 1, none⟩) HB1.out).trans D1.out; have d2 := (hS.cell (p := ⟨b', o' + k * 3 + 2, none⟩) HB1.out).trans D2.out; go_simp; try exact rfl
          simp only [Act.put, List.setIfInBounds_toArray, List.set_cons_zero, List.set_cons_succ, List.getElem_toArray, List.getElem_cons_zero, List.getElem_cons_succ]
          refine wpAnyH_take (i := 4) (v := ?_) rfl (by kernel_rfl) (by kernel_rfl) (by kernel_rfl) (fun _ _ _ h => h) (Or.inl ⟨by rfl, fun w hS => ?_⟩) hH ?_
          rotate_left
          · have c0 := (hS.cell (p := ⟨b, o + k * 3, none⟩) HB0.out).trans C0.out; have c1 := (hS.cell (p := ⟨b, o + k * 3 + 1, none⟩) HB0.out).trans C1.out; have c2 := (hS.cell (p := ⟨b, o + k * 3 + 2, none⟩) HB0.out).trans C2.out; have d0 := (hS.cell (p := ⟨b', o' + k * 3, none⟩) HB1.out).trans D0.out; have d1 := (hS.cell (p := ⟨b', o' + k * 3 + 1, none⟩) HB1.out).trans D1.out; have d2 := (hS.cell (p := ⟨b', o' + k * 3 + 2, none⟩) HB1.out).trans D2.out; go_simp; try exact rfl
          simp only [Act.put, List.setIfInBounds_toArray, List.set_cons_zero, List.set_cons_succ, List.getElem_toArray, List.getElem_cons_zero, List.getElem_cons_succ]
          refine wpAnyH_take (i := 5) (v := ?_) rfl (by kernel_rfl) (by kernel_rfl) (by kernel_rfl) (fun _ _ _ h => h) (Or.inl ⟨by rfl, fun w hS => ?_⟩) hH ?_
          rotate_left
          · have c0 := (hS.cell (p := ⟨b, o + k * 3, none⟩) HB0.out).trans C0.out; have c1 := (hS.cell (p := ⟨b, o + k * 3 + 1, none⟩) HB0.out).trans C1.out; have c2 := (hS.cell (p := ⟨b, o + k * 3 + 2, none⟩) HB0.out).trans C2.out; have d0 := (hS.cell (p := ⟨b', o' + k * 3, none⟩) HB1.out).trans D0.out; have d1 := (hS.cell (p := ⟨b', o' + k * 3 + 1, none⟩) HB1.out).trans D1.out; have d2 := (hS.cell (p := ⟨b', o' + k * 3 + 2, none⟩) HB1.out).trans D2.out; go_simp; try exact rfl
          simp only [Act.put, List.setIfInBounds_toArray, List.set_cons_zero, List.set_cons_succ, List.getElem_toArray, List.getElem_cons_zero, List.getElem_cons_succ]
          refine wpAnyH_take (i := 6) (v := ?_) rfl (by kernel_rfl) (by kernel_rfl) (by kernel_rfl) (fun _ _ _ h => h) (Or.inl ⟨by rfl, fun w hS => ?_⟩) hH ?_
          rotate_left
          · have c0 := (hS.cell (p := ⟨b, o + k * 3, none⟩) HB0.out).trans C0.out; have c1 := (hS.cell (p := ⟨b, o + k * 3 + 1, none⟩) HB0.out).trans C1.out; have c2 := (hS.cell (p := ⟨b, o + k * 3 + 2, none⟩) HB0.out).trans C2.out; have d0 := (hS.cell (p := ⟨b', o' + k * 3, none⟩) HB1.out).trans D0.out; have d1 := (hS.cell (p := ⟨b', o' + k * 3 + 1, none⟩) HB1.out).trans D1.out; have d2 := (hS.cell (p := ⟨b', o' + k * 3 + 2, none⟩) HB1.out).trans D2.out; go_simp; try exact rfl
          simp only [Act.put, List.setIfInBounds_toArray, List.set_cons_zero, List.set_cons_succ, List.getElem_toArray, List.getElem_cons_zero, List.getElem_cons_succ]
          refine wpAnyH_take (i := 7) (v := ?_) rfl (by kernel_rfl) (by kernel_rfl) (by kernel_rfl) (fun _ _ _ h => h) (Or.inl ⟨by rfl, fun w hS => ?_⟩) hH ?_
          rotate_left
          · have c0 := (hS.cell (p := ⟨b, o + k * 3, none⟩) HB0.out).trans C0.out; have c1 := (hS.cell (p := ⟨b, o + k * 3 + 1, none⟩) HB0.out).trans C1.out; have c2 := (hS.cell (p := ⟨b, o + k * 3 + 2, none⟩) HB0.out).trans C2.out; have d0 := (hS.cell (p := ⟨b', o' + k * 3, none⟩) HB1.out).trans D0.out; have d1 := (hS.cell (p := ⟨b', o' + k * 3 + 1, none⟩) HB1.out).trans D1.out; have d2 := (hS.cell (p := ⟨b', o' + k * 3 + 2, none⟩) HB1.out).trans D2.out; go_simp; try exact rfl
          simp only [Act.put, List.setIfInBounds_toArray, List.set_cons_zero, List.set_cons_succ, List.getElem_toArray, List.getElem_cons_zero, List.getElem_cons_succ]
          refine wpAnyH_ready (rs := [8]) (by kernel_rfl) (by simp) (AllReadyH.cons rfl (fun K hK => ?_) AllReadyH.nil)
          go_simp
          go_at_call 57
          refine (eqDisk_v HE.out _ (IN.out.after (Below.refl _ _).drew).1 (IN.out.after (Below.refl _ _).drew).2.1 (IM.out.after (Below.refl _ _).drew).1 (IM.out.after (Below.refl _ _).drew).2.1 IN.out.2.2.1 IN.out.2.2.2).mono ?_; rintro r w1 ⟨rfl, hb1⟩
          refine hK.out _ _ (hH.trans (hb1.mono hH.size)) (fun hH5 => ?_)
          clear hK K
          try simp only [Act.put, List.setIfInBounds_toArray, List.set_cons_zero, List.set_cons_succ]
          refine wpAnyH_take (i := 9) (v := ?_) rfl (by kernel_rfl) (by kernel_rfl) (by kernel_rfl) (fun _ _ _ h => h) (Or.inl ⟨by rfl, fun w hS => ?_⟩) hH5 ?_
          rotate_left
          · have c0 := (hS.cell (p := ⟨b, o + k * 3, none⟩) HB0.out).trans C0.out; have c1 := (hS.cell (p := ⟨b, o + k * 3 + 1, none⟩) HB0.out).trans C1.out; have c2 := (hS.cell (p := ⟨b, o + k * 3 + 2, none⟩) HB0.out).trans C2.out; have d0 := (hS.cell (p := ⟨b', o' + k * 3, none⟩) HB1.out).trans D0.out; have d1 := (hS.cell (p := ⟨b', o' + k * 3 + 1, none⟩) HB1.out).trans D1.out; have d2 := (hS.cell (p := ⟨b', o' + k * 3 + 2, none⟩) HB1.out).trans D2.out; go_simp; try exact rfl
          simp only [Act.put, List.setIfInBounds_toArray, List.set_cons_zero, List.set_cons_succ, List.getElem_toArray, List.getElem_cons_zero, List.getElem_cons_succ]
          refine wpAnyH_done (by kernel_rfl) ?_ _
          go_wp2_with fail
          go_roundw
          case rel => exact ⟨k + 1, by omega, hide (HW.out.trans (hH5.mono HW.out.size)), HE1, int_eq (by omega)⟩
          case measure => simp [intOf]; omega
        · have HE := hide ((eqD_val d e).trans (decide_eq_false he))
          have HF := hide (eqV_at HZ.out HY.out he)
          clear he
          go_wp2_with fail
          refine wp_region_held_drew (S := fun x => Below wr.heap.size wr x) (by kernel_rfl) ((Below.refl _ _).drew) (fun hH => ?_)
          refine wpAnyH_take (i := 0) (v := ?_) rfl (by kernel_rfl) (by kernel_rfl) (by kernel_rfl) (fun _ _ _ h => h) (Or.inl ⟨by rfl, fun w hS => ?_⟩) hH ?_
          rotate_left
          · have c0 := (hS.cell (p := ⟨b, o + k * 3, none⟩) HB0.out).trans C0.out; have c1 := (hS.cell (p := ⟨b, o + k * 3 + 1, none⟩) HB0.out).trans C1.out; have c2 := (hS.cell (p := ⟨b, o + k * 3 + 2, none⟩) HB0.out).trans C2.out; have d0 := (hS.cell (p := ⟨b', o' + k * 3, none⟩) HB1.out).trans D0.out; have d1 := (hS.cell (p := ⟨b', o' + k * 3 + 1, none⟩) HB1.out).trans D1.out; have d2 := (hS.cell (p := ⟨b', o' + k * 3 + 2, none⟩) HB1.out).trans D2.out; go_simp; try exact rfl
          simp only [Act.put, List.setIfInBounds_toArray, List.set_cons_zero, List.set_cons_succ, List.getElem_toArray, List.getElem_cons_zero]
          refine wpAnyH_take (i := 1) (v := ?_) rfl (by kernel_rfl) (by kernel_rfl) (by kernel_rfl) (fun _ _ _ h => h) (Or.inl ⟨by rfl, fun w hS => ?_⟩) hH ?_
          rotate_left
          · have c0 := (hS.cell (p := ⟨b, o + k * 3, none⟩) HB0.out).trans C0.out; have c1 := (hS.cell (p := ⟨b, o + k * 3 + 1, none⟩) HB0.out).trans C1.out; have c2 := (hS.cell (p := ⟨b, o + k * 3 + 2, none⟩) HB0.out).trans C2.out; have d0 := (hS.cell (p := ⟨b', o' + k * 3, none⟩) HB1.out).trans D0.out; have d1 := (hS.cell (p := ⟨b', o' + k * 3 + 1, none⟩) HB1.out).trans D1.out; have d2 := (hS.cell (p := ⟨b', o' + k * 3 + 2, none⟩) HB1.out).trans D2.out; go_simp; try exact rfl
          simp only [Act.put, List.setIfInBounds_toArray, List.set_cons_zero, List.set_cons_succ, List.getElem_toArray, List.getElem_cons_zero, List.getElem_cons_succ]
          refine wpAnyH_take (i := 2) (v := ?_) rfl (by kernel_rfl) (by kernel_rfl) (by kernel_rfl) (fun _ _ _ h => h) (Or.inl ⟨by rfl, fun w hS => ?_⟩) hH ?_
          rotate_left
          · have c0 := (hS.cell (p := ⟨b, o + k * 3, none⟩) HB0.out).trans C0.out; have c1 := (hS.cell (p := ⟨b, o + k * 3 + 1, none⟩) HB0.out).trans C1.out; have c2 := (hS.cell (p := ⟨b, o + k * 3 + 2, none⟩) HB0.out).trans C2.out; have d0 := (hS.cell (p := ⟨b', o' + k * 3, none⟩) HB1.out).trans D0.out; have d1 := (hS.cell (p := ⟨b', o' + k * 3 + 1, none⟩) HB1.out).trans D1.out; have d2 := (hS.cell (p := ⟨b', o' + k * 3 + 2, none⟩) HB1.out).trans D2.out; go_simp; try exact rfl
          simp only [Act.put, List.setIfInBounds_toArray, List.set_cons_zero, List.set_cons_succ, List.getElem_toArray, List.getElem_cons_zero, List.getElem_cons_succ]
          refine wpAnyH_take (i := 3) (v := ?_) rfl (by kernel_rfl) (by kernel_rfl) (by kernel_rfl) (fun _ _ _ h => h) (Or.inl ⟨by rfl, fun w hS => ?_⟩) hH ?_
          rotate_left
          · have c0 := (hS.cell (p := ⟨b, o + k * 3, none⟩) HB0.out).trans C0.out; have c1 := (hS.cell (p := ⟨b, o + k * 3 + 1, none⟩) HB0.out).trans C1.out; have c2 := (hS.cell (p := ⟨b, o + k * 3 + 2, none⟩) HB0.out).trans C2.out; have d0 := (hS.cell (p := ⟨b', o' + k * 3, none⟩) HB1.out).trans D0.out; have d1 := (hS.cell (p := ⟨b', o' + k * 3 + 1, none⟩) HB1.out).trans D1.out; have d2 := (hS.cell (p := ⟨b', o' + k * 3 + 2, none⟩) HB1.out).trans D2.out; go_simp; try exact rfl
          simp only [Act.put, List.setIfInBounds_toArray, List.set_cons_zero, List.set_cons_succ, List.getElem_toArray, List.getElem_cons_zero, List.getElem_cons_succ]
          refine wpAnyH_take (i := 4) (v := ?_) rfl (by kernel_rfl) (by kernel_rfl) (by kernel_rfl) (fun _ _ _ h => h) (Or.inl ⟨by rfl, fun w hS => ?_⟩) hH ?_
          rotate_left
          · have c0 := (hS.cell (p := ⟨b, o + k * 3, none⟩) HB0.out).trans C0.out; have c1 := (hS.cell (p := ⟨b, o + k * 3 + 1, none⟩) HB0.out).trans C1.out; have c2 := (hS.cell (p := ⟨b, o + k * 3 + 2, none⟩) HB0.out).trans C2.out; have d0 := (hS.cell (p := ⟨b', o' + k * 3, none⟩) HB1.out).trans D0.out; have d1 := (hS.cell (p := ⟨b', o' + k * 3 + 1, none⟩) HB1.out).trans D1.out; have d2 := (hS.cell (p := ⟨b', o' + k * 3 + 2, none⟩) HB1.out).trans D2.out; go_simp; try exact rfl
          simp only [Act.put, List.setIfInBounds_toArray, List.set_cons_zero, List.set_cons_succ, List.getElem_toArray, List.getElem_cons_zero, List.getElem_cons_succ]
          refine wpAnyH_take (i := 5) (v := ?_) rfl (by kernel_rfl) (by kernel_rfl) (by kernel_rfl) (fun _ _ _ h => h) (Or.inl ⟨by rfl, fun w hS => ?_⟩) hH ?_
          rotate_left
          · have c0 := (hS.cell (p := ⟨b, o + k * 3, none⟩) HB0.out).trans C0.out; have c1 := (hS.cell (p := ⟨b, o + k * 3 + 1, none⟩) HB0.out).trans C1.out; have c2 := (hS.cell (p := ⟨b, o + k * 3 + 2, none⟩) HB0.out).trans C2.out; have d0 := (hS.cell (p := ⟨b', o' + k * 3, none⟩) HB1.out).trans D0.out; have d1 := (hS.cell (p := ⟨b', o' + k * 3 + 1, none⟩) HB1.out).trans D1.out; have d2 := (hS.cell (p := ⟨b', o' + k * 3 + 2, none⟩) HB1.out).trans D2.out; go_simp; try exact rfl
          simp only [Act.put, List.setIfInBounds_toArray, List.set_cons_zero, List.set_cons_succ, List.getElem_toArray, List.getElem_cons_zero, List.getElem_cons_succ]
          refine wpAnyH_take (i := 6) (v := ?_) rfl (by kernel_rfl) (by kernel_rfl) (by kernel_rfl) (fun _ _ _ h => h) (Or.inl ⟨by rfl, fun w hS => ?_⟩) hH ?_
          rotate_left
          · have c0 := (hS.cell (p := ⟨b, o + k * 3, none⟩) HB0.out).trans C0.out; have c1 := (hS.cell (p := ⟨b, o + k * 3 + 1, none⟩) HB0.out).trans C1.out; have c2 := (hS.cell (p := ⟨b, o + k * 3 + 2, none⟩) HB0.out).trans C2.out; have d0 := (hS.cell (p := ⟨b', o' + k * 3, none⟩) HB1.out).trans D0.out; have d1 := (hS.cell (p := ⟨b', o' + k * 3 + 1, none⟩) HB1.out).trans D1.out; have d2 := (hS.cell (p := ⟨b', o' + k * 3 + 2, none⟩) HB1.out).trans D2.out; go_simp; try exact rfl
          simp only [Act.put, List.setIfInBounds_toArray, List.set_cons_zero, List.set_cons_succ, List.getElem_toArray, List.getElem_cons_zero, List.getElem_cons_succ]
          refine wpAnyH_take (i := 7) (v := ?_) rfl (by kernel_rfl) (by kernel_rfl) (by kernel_rfl) (fun _ _ _ h => h) (Or.inl ⟨by rfl, fun w hS => ?_⟩) hH ?_
          rotate_left
          · have c0 := (hS.cell (p := ⟨b, o + k * 3, none⟩) HB0.out).trans C0.out; have c1 := (hS.cell (p := ⟨b, o + k * 3 + 1, none⟩) HB0.out).trans C1.out; have c2 := (hS.cell (p := ⟨b, o + k * 3 + 2, none⟩) HB0.out).trans C2.out; have d0 := (hS.cell (p := ⟨b', o' + k * 3, none⟩) HB1.out).trans D0.out; have d1 := (hS.cell (p := ⟨b', o' + k * 3 + 1, none⟩) HB1.out).trans D1.out; have d2 := (hS.cell (p := ⟨b', o' + k * 3 + 2, none⟩) HB1.out).trans D2.out; go_simp; try exact rfl
          simp only [Act.put, List.setIfInBounds_toArray, List.set_cons_zero, List.set_cons_succ, List.getElem_toArray, List.getElem_cons_zero, List.getElem_cons_succ]
          refine wpAnyH_ready (rs := [8]) (by kernel_rfl) (by simp) (AllReadyH.cons rfl (fun K hK => ?_) AllReadyH.nil)
          go_simp
          go_at_call 57
          refine (eqDisk_v HE.out _ (IN.out.after (Below.refl _ _).drew).1 (IN.out.after (Below.refl _ _).drew).2.1 (IM.out.after (Below.refl _ _).drew).1 (IM.out.after (Below.refl _ _).drew).2.1 IN.out.2.2.1 IN.out.2.2.2).mono ?_; rintro r w1 ⟨rfl, hb1⟩
          refine hK.out _ _ (hH.trans (hb1.mono hH.size)) (fun hH5 => ?_)
          clear hK K
          try simp only [Act.put, List.setIfInBounds_toArray, List.set_cons_zero, List.set_cons_succ]
          refine wpAnyH_take (i := 9) (v := ?_) rfl (by kernel_rfl) (by kernel_rfl) (by kernel_rfl) (fun _ _ _ h => h) (Or.inl ⟨by rfl, fun w hS => ?_⟩) hH5 ?_
          rotate_left
          · have c0 := (hS.cell (p := ⟨b, o + k * 3, none⟩) HB0.out).trans C0.out; have c1 := (hS.cell (p := ⟨b, o + k * 3 + 1, none⟩) HB0.out).trans C1.out; have c2 := (hS.cell (p := ⟨b, o + k * 3 + 2, none⟩) HB0.out).trans C2.out; have d0 := (hS.cell (p := ⟨b', o' + k * 3, none⟩) HB1.out).trans D0.out; have d1 := (hS.cell (p := ⟨b', o' + k * 3 + 1, none⟩) HB1.out).trans D1.out; have d2 := (hS.cell (p := ⟨b', o' + k * 3 + 2, none⟩) HB1.out).trans D2.out; go_simp; try exact rfl
          simp only [Act.put, List.setIfInBounds_toArray, List.set_cons_zero, List.set_cons_succ, List.getElem_toArray, List.getElem_cons_zero, List.getElem_cons_succ]
          refine wpAnyH_done (by kernel_rfl) ?_ _
          go_wp2_with fail
          go_ret
          exact ⟨ret_bool HF.out.symm, HW.out.trans (hH5.mono HW.out.size)⟩
      · have HF := hide (eqV_all HL.out (by have e : k = ds.length := by have := HZ.out; omega
                                            rw [e] at HT; exact HT.out))
        go_wp2
        go_ret
        exact ⟨ret_bool HF.out.symm, HW.out⟩
  · have HF := hide (eqV_len (ds := ds) (es := es) (by omega))
    have hn : ((n : Int) == (n' : Int)) = false := by simp; omega
    clear hzl hyl h h' hd he
    go_enter Try.func34, Try.ntmps34
    go_wp2
    all_goals (first | (go_ret; exact ⟨ret_bool HF.out.symm, Below.refl _ _⟩) | (exfalso; simp_all))
theorem eqDiskS_v {A A' : Option Addr} {n c n' c' : Nat} {ds es : List DV} {v : Bool} (hv : eqV ds es = v) (w : World) (h : Rd w 3 A n (rCells ds)) (h' : Rd w 3 A' n' (rCells es)) (hd : ∀ d ∈ ds, d.In w) (he : ∀ d ∈ es, d.In w) (hm : n ≤ maxLen) :
    Calls Try.prog 34 #[.slice A n c, .slice A' n' c'] w fun r w' => r = .returned (.bool v) ∧ Below w.heap.size w w' := hv ▸ eqDiskS_any A A' n c n' c' ds es w h h' hd he hm
/-- a row of disks, each with its rows -/
def RIn (w : World) (A : Option Addr) (n : Nat) (ds : List DV) : Prop := Rd w 3 A n (rCells ds) ∧ ∀ d ∈ ds, d.In w
theorem RIn.after {w w' : World} {A : Option Addr} {n : Nat} {ds : List DV} (h : RIn w A n ds) (hb : Below w.heap.size w w') : RIn w' A n ds := ⟨h.1.after hb, fun d hd => (h.2 d hd).after hb⟩
theorem RIn.len {w : World} {A : Option Addr} {n : Nat} {ds : List DV} (h : RIn w A n ds) : ds.length = n := by have := h.1.len; rw [rCells_len] at this; omega
set_option maxHeartbeats 400000 in
theorem eqRaid_v {A A' : Option Addr} {n c n' c' : Nat} {ds es : List DV} {v : Bool} (hv : eqV ds es = v) (w : World) (h : RIn w A n ds) (h' : RIn w A' n' es) (hm : n ≤ maxLen) :
    Calls Try.prog 12 #[.agg #[.slice A n c], .agg #[.slice A' n' c']] w fun r w' => r = .returned (.bool v) ∧ Below w.heap.size w w' := by
  have hb0 : Below w.heap.size w ((w.alloc (.cells #[.slice A n c] 24)).alloc (.cells #[.slice A' n' c'] 24)) := ((Below.refl _ _).alloc (Nat.le_refl _) _).alloc (by simp) _
  have H := hide (h.after hb0)
  have H' := hide (h'.after hb0)
  have HB := hide hb0
  have HV := hide hv
  have HM := hide hm
  clear h h' hb0 hv hm
  go_enter Try.func12, Try.ntmps12
  go_wp2_with fail
  refine (eqDiskS_v HV.out _ H.out.1 H'.out.1 H.out.2 H'.out.2 HM.out).mono ?_; rintro r w1 ⟨rfl, hb1⟩
  cases v
  all_goals
    go_wp2_with fail
    go_ret
    exact ⟨rfl, bnext HB.out (Nat.le_refl _) hb1⟩
end Go.Proofs.Ytcaoekaephnimaa

/- A raid that came in, opened: a row of disks, each with its rows. -/
namespace Go.Proofs.Ytcaoekaephnimaa
open Go.RowKit Go.ChangeShapes Go.WideShapes Go.Deep Go.Joins
set_option maxRecDepth 100000
set_option linter.unusedVariables false

/-- disks that came in -/
def RaidS (w : World) (A : Option Addr) (n c : Nat) (ds : List DV) : Prop :=
  n ≤ c ∧ c ≤ maxLen ∧ ds.length = n ∧ Rd w 3 A n (rCells ds) ∧ ∀ d ∈ ds, Strs w d.A1 d.n1 d.c1 d.z1 ∧ WaitS w d.A2 d.n2 d.c2 d.z2
theorem RaidS.after {w w' : World} {A : Option Addr} {n c : Nat} {ds : List DV} (h : RaidS w A n c ds) (hb : Below w.heap.size w w') : RaidS w' A n c ds := by
  obtain ⟨h1, h2, h3, h4, h5⟩ := h
  refine ⟨h1, h2, h3, h4.after hb, fun d hd => ?_⟩
  obtain ⟨⟨a1, a2, a3, a4, a5⟩, b1, b2, b3, b4, b5⟩ := h5 d hd
  exact ⟨⟨a1, a2, a3, a4, a5.after hb⟩, b1, b2, b3, b4, b5.after hb⟩
theorem RaidS.rin {w : World} {A : Option Addr} {n c : Nat} {ds : List DV} (h : RaidS w A n c ds) : RIn w A n ds := by
  obtain ⟨h1, h2, h3, h4, h5⟩ := h
  refine ⟨h4, fun d hd => ?_⟩
  obtain ⟨⟨a1, a2, a3, a4, a5⟩, b1, b2, b3, b4, b5⟩ := h5 d hd
  exact ⟨a5, b5, Nat.le_trans a1 a2, Nat.le_trans b1 b2⟩
instance instDV : Inhabited DV := ⟨⟨none, 0, 0, none, 0, 0, false, [], []⟩⟩
section
variable {H : Type} {enc : TypeId × Value → H} {w : World} {base : Nat}
theorem slice_fieldsR {P : Program} {spare : Nat → Bool} {held : Bool} {t e : TypeId} {fs : Array Field} {fuel : Nat} {cs : List Value} {x : DataW H × List MemPlace} (ht : P.underlying t = some (.slice e)) (he : P.underlying e = some (.struct fs))
    (hone : oneCellFields P fs = true) (hC : P.cellsOf e = fs.size) (h : DataW.trod enc P w base spare held fuel t cs = some x) :
    cs = [.slice none 0 0] ∨ ∃ (a : Addr) (len cap m : Nat), cs = [.slice (some a) len cap] ∧ len ≤ cap ∧ cap ≤ maxLen ∧ m = (if spare a.block then cap else len) ∧
      ∀ i, i < m → ∀ (j : Nat) (f : Field), fs[j]? = some f → ∃ (n : Nat) (v : Value) (y : DataW H × List MemPlace), w.cell? (a.add (i * fs.size + j)) = some v ∧ DataW.trod enc P w base spare held n f.type [v] = some y := by
  rcases open_slice ht h with h0 | ⟨a, len, cap, m, n, D, Pl, hcs, hb, hl, hm, hmm, hx, hi⟩
  · exact .inl h0.1
  · refine .inr ⟨a, len, cap, m, hcs, hl, hm, hmm, fun i him j f hj => ?_⟩
    obtain ⟨cs', hc, ht'⟩ := hi i him
    rw [hC] at hc
    obtain ⟨ys, n', hn', hy, hlen, hyl, hf⟩ := DataW.trod_struct he ht'
    obtain ⟨_, hcl, hat⟩ := World.cells?_some hc
    obtain ⟨ho, hk⟩ := hone_of hone j f hj
    have hjl : j < fs.size := (Array.getElem?_eq_some_iff.1 hj).1
    have hcell := hat j hjl
    have hv : cs'[j]? = some (cs'[j]'(by omega)) := List.getElem?_eq_getElem (by omega)
    have h1 := hf j f hj
    rw [ho, hk] at h1
    have hone' : (cs'.drop j).take 1 = [cs'[j]'(by omega)] := by
      rw [List.drop_eq_getElem_cons (by omega)]
      rfl
    rw [hone'] at h1
    have hys : ys[j]? = some (ys[j]'(by omega)) := List.getElem?_eq_getElem (by omega)
    refine ⟨_, _, _, ?_, h1.trans hys⟩
    rw [← Go.Deep.add_add, hcell, hv]
theorem rCells_of (ds : List DV) (j : Nat) (u : Value) (h : (rCells ds)[j]? = some u) : ∃ k d i, i < 3 ∧ ds[k]? = some d ∧ j = k * 3 + i ∧ d.cells[i]? = some u := by
  have hl : j < ds.length * 3 := by
    have := (List.getElem?_eq_some_iff.1 h).1
    rw [rCells_len] at this
    omega
  have hk : j / 3 < ds.length := by omega
  have hi : j % 3 < 3 := by omega
  have e : j / 3 * 3 + j % 3 = j := by omega
  refine ⟨j / 3, ds[j / 3], j % 3, hi, List.getElem?_eq_getElem hk, e.symm, ?_⟩
  obtain ⟨h0, h1, h2⟩ := rCells_at ds (j / 3) _ (List.getElem?_eq_getElem hk)
  rw [← e] at h
  obtain ⟨i, hie⟩ : ∃ i, i = j % 3 := ⟨_, rfl⟩
  rw [← hie] at h hi ⊢
  match i, hi with
  | 0, _ => rw [Nat.add_zero, h0] at h; exact h
  | 1, _ => rw [h1] at h; exact h
  | 2, _ => rw [h2] at h; exact h
theorem raid_of_trod {c : Value} {n0 : Nat} {y : DataW H × List MemPlace} (h : DataW.trod enc Try.prog w 0 (fun _ => true) true n0 29 [c] = some y) :
    ∃ (A : Option Addr) (n c' : Nat) (ds : List DV), c = .slice A n c' ∧ RaidS w A n c' ds := by
  rcases slice_fieldsR Try.underlying29 Try.underlying82 (by kernel_rfl) (by kernel_rfl) h with hcs | ⟨a, len, cap, m, hcs, hl, hm, hmm, hcell⟩
  · simp only [List.cons.injEq, and_true] at hcs
    subst hcs
    exact ⟨none, 0, 0, [], rfl, Nat.le_refl _, by simp [maxLen], rfl, ⟨rfl, fun h => absurd h (by omega)⟩, by simp⟩
  · simp only [List.cons.injEq, and_true] at hcs
    subst hcs
    have hmc : m = cap := by simpa using hmm
    subst hmc
    have one : ∀ i, i < m → ∀ (j : Nat) (f : Field), (#[_, _, _] : Array Field)[j]? = some f → ∃ (n : Nat) (v : Value) (y : DataW H × List MemPlace), w.cell? (a.add (i * 3 + j)) = some v ∧ DataW.trod enc Try.prog w 0 (fun _ => true) true n f.type [v] = some y := hcell
    have each : ∀ i, i < m → ∃ q : DV, (Strs w q.A1 q.n1 q.c1 q.z1 ∧ WaitS w q.A2 q.n2 q.c2 q.z2) ∧ ∀ j, j < 3 → w.cell? (a.add (i * 3 + j)) = q.cells[j]? := by
      intro i hi
      obtain ⟨_, _, _, c0, t0⟩ := one i hi 0 _ rfl
      obtain ⟨_, _, _, c1, t1⟩ := one i hi 1 _ rfl
      obtain ⟨_, _, _, c2, t2⟩ := one i hi 2 _ rfl
      obtain ⟨A1, n1, d1, z1, rfl, i1⟩ := strs_of_trod t0
      obtain ⟨A2, n2, d2, z2, rfl, i2⟩ := waits_of_trod t1
      obtain ⟨b, e2, _⟩ := DataW.trod_bool Try.underlying4 t2
      simp only [List.cons.injEq, and_true] at e2
      subst e2
      refine ⟨⟨A1, n1, d1, A2, n2, d2, b, z1, z2⟩, ⟨i1, i2⟩, fun j hj => ?_⟩
      match j, hj with
      | 0, _ => exact c0
      | 1, _ => exact c1
      | 2, _ => exact c2
    obtain ⟨q, hq⟩ := choose_lt each
    have hsp : 0 < len → ∃ b o, a = ⟨b, o, none⟩ ∧ b < w.heap.size := by
      intro hn
      have h0 : w.cell? (a.add (0 * 3 + 0)) = some (.slice (q 0).A1 (q 0).n1 (q 0).c1) := (hq 0 (by omega)).2 0 (by omega)
      have hsp : a.spot = none := by simpa [Addr.add] using World.cell?_spot h0
      obtain ⟨b, o, sp⟩ := a
      subst hsp
      refine ⟨b, o, rfl, ?_⟩
      have : w.heap[b]? ≠ none := by
        intro he
        simp [World.cell?, he, Addr.add] at h0
      rcases Nat.lt_or_ge b w.heap.size with hl | hl
      · exact hl
      · exact absurd (Array.getElem?_eq_none hl) this
    refine ⟨some a, len, m, (List.range len).map q, rfl, hl, hm, by simp, ?_, ?_⟩
    · refine ⟨by rw [rCells_len]; simp; omega, fun hn => ?_⟩
      obtain ⟨b, o, rfl, hb⟩ := hsp hn
      refine ⟨b, o, rfl, hb, fun j u hu => ?_⟩
      obtain ⟨k, z, i, hi, hz, rfl, hju⟩ := rCells_of _ j u hu
      rw [List.getElem?_map] at hz
      obtain ⟨k', hk', rfl⟩ := Option.map_eq_some_iff.1 hz
      have hk : k < len := by
        have := (List.getElem?_eq_some_iff.1 hk').1
        simpa using this
      rw [List.getElem?_range hk] at hk'
      injection hk' with hk'
      subst hk'
      have h0 := (hq k (by omega)).2 i hi
      rw [Addr.add_lit] at h0
      rw [← hju, ← h0]
    · intro z hz
      obtain ⟨i, hi, rfl⟩ := List.mem_map.1 hz
      have hi2 : i < len := by simpa using hi
      exact (hq i (by omega)).1
theorem open_Raid {v : Value} {dd : DataW H} {p : List MemPlace} (hv : Value.okWide Try.prog w .any base 31 v) (h : DataW.Trod enc Try.prog w 0 (fun _ => true) true 31 v dd p) :
    ∃ (A : Option Addr) (n c : Nat) (ds : List DV), v = .agg #[.slice A n c] ∧ RaidS w A n c ds := by
  obtain ⟨cs, rfl, hsz⟩ := okWide_struct Try.underlying31 hv
  obtain ⟨l⟩ := cs
  have hl : l.length = 1 := hsz.trans (by kernel_rfl)
  obtain ⟨fuel, hf⟩ := h
  obtain ⟨xs, n, _, hx, _, hlen, hg⟩ := DataW.trod_struct Try.underlying31 hf
  match l, hl with
  | [c0], _ =>
    match xs, hlen with
    | [y0], _ =>
      have k0 : Try.prog.cellsOf 29 = 1 := by kernel_rfl
      have g0 : DataW.trod enc Try.prog w 0 (fun _ => true) true n 29 [c0] = some y0 := by simpa [Value.cells, k0] using hg 0 _ rfl
      obtain ⟨A1, n1, d1, ds, rfl, i1⟩ := raid_of_trod g0
      exact ⟨A1, n1, d1, ds, rfl, i1⟩
end
end Go.Proofs.Ytcaoekaephnimaa

/- pfRaid of raids whose disks are alike and on which nothing waits. -/
namespace Go.Proofs.Ytcaoekaephnimaa
open Go.RowKit
set_option linter.unusedVariables false
set_option maxRecDepth 100000

set_option maxHeartbeats 4000000 in
theorem pfRaid_0 (A A' : Option Addr) (n c c' : Nat) (ds es : List DV) (w : World) (h : RIn w A n ds) (h' : RIn w A' n es) (hv : es.map DV.val = ds.map DV.val) (hz : ∀ d ∈ ds, d.n2 = 0) (hz' : ∀ d ∈ es, d.n2 = 0) (hm : n ≤ maxLen) :
    Calls Try.prog 28 #[.agg #[.slice A n c], .agg #[.slice A' n c']] w fun r w' => r = .returned (.bool true) ∧ Below w.heap.size w w' := by
  unfold maxLen at hm
  have hb0 : Below w.heap.size w ((w.alloc (.cells #[.slice A n c] 24)).alloc (.cells #[.slice A' n c'] 24)) := ((Below.refl _ _).alloc (Nat.le_refl _) _).alloc (by simp) _
  have K0 := hide ((Bk.fresh w 24 #[.slice A n c]).alloc (.cells #[.slice A' n c'] 24))
  have K1 := hide (show Bk ((w.alloc (.cells #[.slice A n c] 24)).alloc (.cells #[.slice A' n c'] 24)) (w.heap.size + 1) 24 #[.slice A' n c'] by
    have h := Bk.fresh (w.alloc (.cells #[.slice A n c] 24)) 24 #[.slice A' n c']
    rw [show (w.alloc (.cells #[.slice A n c] 24)).heap.size = w.heap.size + 1 by simp] at h
    exact h)
  obtain ⟨W0, HW0⟩ : ∃ W : World, W = (w.alloc (.cells #[.slice A n c] 24)).alloc (.cells #[.slice A' n c'] 24) := ⟨_, rfl⟩
  rw [← HW0] at K0 K1 hb0
  have H := hide (h.after hb0)
  have H' := hide (h'.after hb0)
  have HB := hide hb0
  have HV := hide hv
  have HZ1 := hide hz
  have HZ2 := hide hz'
  have HL := hide h.len
  have HWL := hide (show w.heap.size + 1 < W0.heap.size by rw [HW0]; simp)
  clear h h' hb0 hv hz hz'
  go_enter Try.func28, Try.ntmps28
  obtain ⟨t0, t1⟩ := (⟨K0.out.c1, K1.out.c1⟩ : _ ∧ _)
  go_wp2_with fail
  rw [← HW0]
  clear HW0
  go_loopw [5] (fun i wr => ∃ k : Nat, k ≤ n ∧ Hid (Below W0.heap.size W0 wr) ∧ i = .int .i64 k) (fun i _ => n - (intOf i).toNat)
  case atStart => exact ⟨0, by omega, hide (Below.refl _ _), rfl⟩
  case round =>
    obtain ⟨k, hk, HW, rfl⟩ := hrel
    have KA := hide (K0.out.after HW.out)
    have KB := hide (K1.out.after HW.out)
    have HG0 := hide KA.out.lt
    have HG1 := hide KB.out.lt
    have t0 := KA.out.c1
    have t1 := KB.out.c1
    by_cases hlt : k < n
    · obtain ⟨b, o, d, rfl, hb, hz, hc0, hc1, hc2⟩ := (H.out.after HW.out).1.disk_at hlt
      obtain ⟨b', o', e, rfl, hb', hy, hd0, hd1, hd2⟩ := (H'.out.after HW.out).1.disk_at hlt
      have HB0 := hide hb
      have HB1 := hide hb'
      have C0 := hide hc0
      have C1 := hide hc1
      have C2 := hide hc2
      have D0 := hide hd0
      have D1 := hide hd1
      have D2 := hide hd2
      have IN := hide ((H.out.2 d (List.mem_of_getElem? hz)).after HW.out)
      have IM := hide ((H'.out.2 e (List.mem_of_getElem? hy)).after HW.out)
      have hval : e.val = d.val := by
        have h1 : (es.map DV.val)[k]? = some e.val := by rw [List.getElem?_map, hy]; rfl
        rw [HV.out, List.getElem?_map, hz] at h1
        exact (Option.some.inj h1).symm
      have hval1 : e.z1 = d.z1 := congrArg (fun v : List ByteArray × List (Int × ByteArray) × Bool => v.1) hval
      have HEE := hide (show e.n1 = d.n1 ∧ e.n2 = 0 ∧ e.g = d.g ∧ e.z1 = d.z1 from ⟨by have h1 := IN.out.1.len; have h2 := IM.out.1.len; rw [hval1] at h2; simp at h1 h2; omega, HZ2.out e (List.mem_of_getElem? hy), congrArg (fun v : List ByteArray × List (Int × ByteArray) × Bool => v.2.2) hval, hval1⟩)
      have HEZ := hide (HZ1.out d (List.mem_of_getElem? hz))
      have i0 : (0 : Int) ≤ (k : Int) := by omega
      have i1 : (k : Int) < (n : Int) := by omega
      clear hz hy hb hb' hc0 hc1 hd0 hd1 hc2 hd2 hval hval1
      go_upto_region 6 with fail
      clear t0 t1
      refine wp_region_held_drew (S := fun x => Below wr.heap.size wr x) (by kernel_rfl) ((Below.refl _ _).drew) (fun hH => ?_)
      refine wpAnyH_take (i := 0) (v := ?_) rfl (by kernel_rfl) (by kernel_rfl) (by kernel_rfl) (fun _ _ _ h => h) (Or.inl ⟨by rfl, fun wS hS => ?_⟩) hH ?_
      rotate_left
      · have s0 := (hS.cell (p := ⟨w.heap.size, 0, none⟩) HG0.out).trans (KA.out.c1); have s1 := (hS.cell (p := ⟨w.heap.size + 1, 0, none⟩) HG1.out).trans (KB.out.c1); have c0 := (hS.cell (p := ⟨b, o + k * 3, none⟩) HB0.out).trans C0.out; have c1 := (hS.cell (p := ⟨b, o + k * 3 + 1, none⟩) HB0.out).trans C1.out; have c2 := (hS.cell (p := ⟨b, o + k * 3 + 2, none⟩) HB0.out).trans C2.out; have d0 := (hS.cell (p := ⟨b', o' + k * 3, none⟩) HB1.out).trans D0.out; have d1 := (hS.cell (p := ⟨b', o' + k * 3 + 1, none⟩) HB1.out).trans D1.out; have d2 := (hS.cell (p := ⟨b', o' + k * 3 + 2, none⟩) HB1.out).trans D2.out; go_simp; try exact rfl
      simp only [Act.put, List.setIfInBounds_toArray, List.set_cons_zero, List.set_cons_succ, List.getElem_toArray, List.getElem_cons_zero]
      refine wpAnyH_take (i := 1) (v := ?_) rfl (by kernel_rfl) (by kernel_rfl) (by kernel_rfl) (fun _ _ _ h => h) (Or.inl ⟨by rfl, fun wS hS => ?_⟩) hH ?_
      rotate_left
      · have s0 := (hS.cell (p := ⟨w.heap.size, 0, none⟩) HG0.out).trans (KA.out.c1); have s1 := (hS.cell (p := ⟨w.heap.size + 1, 0, none⟩) HG1.out).trans (KB.out.c1); have c0 := (hS.cell (p := ⟨b, o + k * 3, none⟩) HB0.out).trans C0.out; have c1 := (hS.cell (p := ⟨b, o + k * 3 + 1, none⟩) HB0.out).trans C1.out; have c2 := (hS.cell (p := ⟨b, o + k * 3 + 2, none⟩) HB0.out).trans C2.out; have d0 := (hS.cell (p := ⟨b', o' + k * 3, none⟩) HB1.out).trans D0.out; have d1 := (hS.cell (p := ⟨b', o' + k * 3 + 1, none⟩) HB1.out).trans D1.out; have d2 := (hS.cell (p := ⟨b', o' + k * 3 + 2, none⟩) HB1.out).trans D2.out; go_simp; try exact rfl
      simp only [Act.put, List.setIfInBounds_toArray, List.set_cons_zero, List.set_cons_succ, List.getElem_toArray, List.getElem_cons_zero, List.getElem_cons_succ]
      refine wpAnyH_take (i := 2) (v := ?_) rfl (by kernel_rfl) (by kernel_rfl) (by kernel_rfl) (fun _ _ _ h => h) (Or.inl ⟨by rfl, fun wS hS => ?_⟩) hH ?_
      rotate_left
      · have s0 := (hS.cell (p := ⟨w.heap.size, 0, none⟩) HG0.out).trans (KA.out.c1); have s1 := (hS.cell (p := ⟨w.heap.size + 1, 0, none⟩) HG1.out).trans (KB.out.c1); have c0 := (hS.cell (p := ⟨b, o + k * 3, none⟩) HB0.out).trans C0.out; have c1 := (hS.cell (p := ⟨b, o + k * 3 + 1, none⟩) HB0.out).trans C1.out; have c2 := (hS.cell (p := ⟨b, o + k * 3 + 2, none⟩) HB0.out).trans C2.out; have d0 := (hS.cell (p := ⟨b', o' + k * 3, none⟩) HB1.out).trans D0.out; have d1 := (hS.cell (p := ⟨b', o' + k * 3 + 1, none⟩) HB1.out).trans D1.out; have d2 := (hS.cell (p := ⟨b', o' + k * 3 + 2, none⟩) HB1.out).trans D2.out; go_simp; try exact rfl
      simp only [Act.put, List.setIfInBounds_toArray, List.set_cons_zero, List.set_cons_succ, List.getElem_toArray, List.getElem_cons_zero, List.getElem_cons_succ]
      refine wpAnyH_take (i := 3) (v := ?_) rfl (by kernel_rfl) (by kernel_rfl) (by kernel_rfl) (fun _ _ _ h => h) (Or.inl ⟨by rfl, fun wS hS => ?_⟩) hH ?_
      rotate_left
      · have s0 := (hS.cell (p := ⟨w.heap.size, 0, none⟩) HG0.out).trans (KA.out.c1); have s1 := (hS.cell (p := ⟨w.heap.size + 1, 0, none⟩) HG1.out).trans (KB.out.c1); have c0 := (hS.cell (p := ⟨b, o + k * 3, none⟩) HB0.out).trans C0.out; have c1 := (hS.cell (p := ⟨b, o + k * 3 + 1, none⟩) HB0.out).trans C1.out; have c2 := (hS.cell (p := ⟨b, o + k * 3 + 2, none⟩) HB0.out).trans C2.out; have d0 := (hS.cell (p := ⟨b', o' + k * 3, none⟩) HB1.out).trans D0.out; have d1 := (hS.cell (p := ⟨b', o' + k * 3 + 1, none⟩) HB1.out).trans D1.out; have d2 := (hS.cell (p := ⟨b', o' + k * 3 + 2, none⟩) HB1.out).trans D2.out; go_simp; try exact rfl
      simp only [Act.put, List.setIfInBounds_toArray, List.set_cons_zero, List.set_cons_succ, List.getElem_toArray, List.getElem_cons_zero, List.getElem_cons_succ]
      refine wpAnyH_take (i := 4) (v := ?_) rfl (by kernel_rfl) (by kernel_rfl) (by kernel_rfl) (fun _ _ _ h => h) (Or.inl ⟨by rfl, fun wS hS => ?_⟩) hH ?_
      rotate_left
      · have s0 := (hS.cell (p := ⟨w.heap.size, 0, none⟩) HG0.out).trans (KA.out.c1); have s1 := (hS.cell (p := ⟨w.heap.size + 1, 0, none⟩) HG1.out).trans (KB.out.c1); have c0 := (hS.cell (p := ⟨b, o + k * 3, none⟩) HB0.out).trans C0.out; have c1 := (hS.cell (p := ⟨b, o + k * 3 + 1, none⟩) HB0.out).trans C1.out; have c2 := (hS.cell (p := ⟨b, o + k * 3 + 2, none⟩) HB0.out).trans C2.out; have d0 := (hS.cell (p := ⟨b', o' + k * 3, none⟩) HB1.out).trans D0.out; have d1 := (hS.cell (p := ⟨b', o' + k * 3 + 1, none⟩) HB1.out).trans D1.out; have d2 := (hS.cell (p := ⟨b', o' + k * 3 + 2, none⟩) HB1.out).trans D2.out; go_simp; try exact rfl
      simp only [Act.put, List.setIfInBounds_toArray, List.set_cons_zero, List.set_cons_succ, List.getElem_toArray, List.getElem_cons_zero, List.getElem_cons_succ]
      refine wpAnyH_take (i := 5) (v := ?_) rfl (by kernel_rfl) (by kernel_rfl) (by kernel_rfl) (fun _ _ _ h => h) (Or.inl ⟨by rfl, fun wS hS => ?_⟩) hH ?_
      rotate_left
      · have s0 := (hS.cell (p := ⟨w.heap.size, 0, none⟩) HG0.out).trans (KA.out.c1); have s1 := (hS.cell (p := ⟨w.heap.size + 1, 0, none⟩) HG1.out).trans (KB.out.c1); have c0 := (hS.cell (p := ⟨b, o + k * 3, none⟩) HB0.out).trans C0.out; have c1 := (hS.cell (p := ⟨b, o + k * 3 + 1, none⟩) HB0.out).trans C1.out; have c2 := (hS.cell (p := ⟨b, o + k * 3 + 2, none⟩) HB0.out).trans C2.out; have d0 := (hS.cell (p := ⟨b', o' + k * 3, none⟩) HB1.out).trans D0.out; have d1 := (hS.cell (p := ⟨b', o' + k * 3 + 1, none⟩) HB1.out).trans D1.out; have d2 := (hS.cell (p := ⟨b', o' + k * 3 + 2, none⟩) HB1.out).trans D2.out; go_simp; try exact rfl
      simp only [Act.put, List.setIfInBounds_toArray, List.set_cons_zero, List.set_cons_succ, List.getElem_toArray, List.getElem_cons_zero, List.getElem_cons_succ]
      refine wpAnyH_take (i := 6) (v := ?_) rfl (by kernel_rfl) (by kernel_rfl) (by kernel_rfl) (fun _ _ _ h => h) (Or.inl ⟨by rfl, fun wS hS => ?_⟩) hH ?_
      rotate_left
      · have s0 := (hS.cell (p := ⟨w.heap.size, 0, none⟩) HG0.out).trans (KA.out.c1); have s1 := (hS.cell (p := ⟨w.heap.size + 1, 0, none⟩) HG1.out).trans (KB.out.c1); have c0 := (hS.cell (p := ⟨b, o + k * 3, none⟩) HB0.out).trans C0.out; have c1 := (hS.cell (p := ⟨b, o + k * 3 + 1, none⟩) HB0.out).trans C1.out; have c2 := (hS.cell (p := ⟨b, o + k * 3 + 2, none⟩) HB0.out).trans C2.out; have d0 := (hS.cell (p := ⟨b', o' + k * 3, none⟩) HB1.out).trans D0.out; have d1 := (hS.cell (p := ⟨b', o' + k * 3 + 1, none⟩) HB1.out).trans D1.out; have d2 := (hS.cell (p := ⟨b', o' + k * 3 + 2, none⟩) HB1.out).trans D2.out; go_simp; try exact rfl
      simp only [Act.put, List.setIfInBounds_toArray, List.set_cons_zero, List.set_cons_succ, List.getElem_toArray, List.getElem_cons_zero, List.getElem_cons_succ]
      refine wpAnyH_take (i := 7) (v := ?_) rfl (by kernel_rfl) (by kernel_rfl) (by kernel_rfl) (fun _ _ _ h => h) (Or.inl ⟨by rfl, fun wS hS => ?_⟩) hH ?_
      rotate_left
      · have s0 := (hS.cell (p := ⟨w.heap.size, 0, none⟩) HG0.out).trans (KA.out.c1); have s1 := (hS.cell (p := ⟨w.heap.size + 1, 0, none⟩) HG1.out).trans (KB.out.c1); have c0 := (hS.cell (p := ⟨b, o + k * 3, none⟩) HB0.out).trans C0.out; have c1 := (hS.cell (p := ⟨b, o + k * 3 + 1, none⟩) HB0.out).trans C1.out; have c2 := (hS.cell (p := ⟨b, o + k * 3 + 2, none⟩) HB0.out).trans C2.out; have d0 := (hS.cell (p := ⟨b', o' + k * 3, none⟩) HB1.out).trans D0.out; have d1 := (hS.cell (p := ⟨b', o' + k * 3 + 1, none⟩) HB1.out).trans D1.out; have d2 := (hS.cell (p := ⟨b', o' + k * 3 + 2, none⟩) HB1.out).trans D2.out; go_simp; try exact rfl
      simp only [Act.put, List.setIfInBounds_toArray, List.set_cons_zero, List.set_cons_succ, List.getElem_toArray, List.getElem_cons_zero, List.getElem_cons_succ]
      refine wpAnyH_take (i := 8) (v := ?_) rfl (by kernel_rfl) (by kernel_rfl) (by kernel_rfl) (fun _ _ _ h => h) (Or.inl ⟨by rfl, fun wS hS => ?_⟩) hH ?_
      rotate_left
      · have s0 := (hS.cell (p := ⟨w.heap.size, 0, none⟩) HG0.out).trans (KA.out.c1); have s1 := (hS.cell (p := ⟨w.heap.size + 1, 0, none⟩) HG1.out).trans (KB.out.c1); have c0 := (hS.cell (p := ⟨b, o + k * 3, none⟩) HB0.out).trans C0.out; have c1 := (hS.cell (p := ⟨b, o + k * 3 + 1, none⟩) HB0.out).trans C1.out; have c2 := (hS.cell (p := ⟨b, o + k * 3 + 2, none⟩) HB0.out).trans C2.out; have d0 := (hS.cell (p := ⟨b', o' + k * 3, none⟩) HB1.out).trans D0.out; have d1 := (hS.cell (p := ⟨b', o' + k * 3 + 1, none⟩) HB1.out).trans D1.out; have d2 := (hS.cell (p := ⟨b', o' + k * 3 + 2, none⟩) HB1.out).trans D2.out; go_simp; try exact rfl
      simp only [Act.put, List.setIfInBounds_toArray, List.set_cons_zero, List.set_cons_succ, List.getElem_toArray, List.getElem_cons_zero, List.getElem_cons_succ]
      refine wpAnyH_take (i := 9) (v := ?_) rfl (by kernel_rfl) (by kernel_rfl) (by kernel_rfl) (fun _ _ _ h => h) (Or.inl ⟨by rfl, fun wS hS => ?_⟩) hH ?_
      rotate_left
      · have s0 := (hS.cell (p := ⟨w.heap.size, 0, none⟩) HG0.out).trans (KA.out.c1); have s1 := (hS.cell (p := ⟨w.heap.size + 1, 0, none⟩) HG1.out).trans (KB.out.c1); have c0 := (hS.cell (p := ⟨b, o + k * 3, none⟩) HB0.out).trans C0.out; have c1 := (hS.cell (p := ⟨b, o + k * 3 + 1, none⟩) HB0.out).trans C1.out; have c2 := (hS.cell (p := ⟨b, o + k * 3 + 2, none⟩) HB0.out).trans C2.out; have d0 := (hS.cell (p := ⟨b', o' + k * 3, none⟩) HB1.out).trans D0.out; have d1 := (hS.cell (p := ⟨b', o' + k * 3 + 1, none⟩) HB1.out).trans D1.out; have d2 := (hS.cell (p := ⟨b', o' + k * 3 + 2, none⟩) HB1.out).trans D2.out; go_simp; try exact rfl
      simp only [Act.put, List.setIfInBounds_toArray, List.set_cons_zero, List.set_cons_succ, List.getElem_toArray, List.getElem_cons_zero, List.getElem_cons_succ]
      refine wpAnyH_ready (rs := [10]) (by kernel_rfl) (by simp) (AllReadyH.cons rfl (fun K hK => ?_) AllReadyH.nil)
      go_simp
      go_at_call 30
      rw [HEE.out.1, HEE.out.2.1, HEE.out.2.2.1, HEZ.out]
      refine (pfDisk_0 d.A1 d.A2 e.A1 e.A2 d.n1 d.c1 e.c1 d.c2 e.c2 d.z1 d.g _ (IN.out.after (Below.refl _ _).drew).1 (by have h := (IM.out.after (Below.refl _ _).drew).1; rw [HEE.out.1, HEE.out.2.2.2] at h; exact h) IN.out.2.2.1).mono ?_; rintro r w1 ⟨rfl, hb1⟩
      refine hK.out _ _ (hH.trans (hb1.mono hH.size)) (fun hH5 => ?_)
      clear hK K
      try simp only [Act.put, List.setIfInBounds_toArray, List.set_cons_zero, List.set_cons_succ]
      refine wpAnyH_take (i := 11) (v := ?_) rfl (by kernel_rfl) (by kernel_rfl) (by kernel_rfl) (fun _ _ _ h => h) (Or.inl ⟨by rfl, fun wS hS => ?_⟩) hH5 ?_
      rotate_left
      · have s0 := (hS.cell (p := ⟨w.heap.size, 0, none⟩) HG0.out).trans (KA.out.c1); have s1 := (hS.cell (p := ⟨w.heap.size + 1, 0, none⟩) HG1.out).trans (KB.out.c1); have c0 := (hS.cell (p := ⟨b, o + k * 3, none⟩) HB0.out).trans C0.out; have c1 := (hS.cell (p := ⟨b, o + k * 3 + 1, none⟩) HB0.out).trans C1.out; have c2 := (hS.cell (p := ⟨b, o + k * 3 + 2, none⟩) HB0.out).trans C2.out; have d0 := (hS.cell (p := ⟨b', o' + k * 3, none⟩) HB1.out).trans D0.out; have d1 := (hS.cell (p := ⟨b', o' + k * 3 + 1, none⟩) HB1.out).trans D1.out; have d2 := (hS.cell (p := ⟨b', o' + k * 3 + 2, none⟩) HB1.out).trans D2.out; go_simp; try exact rfl
      simp only [Act.put, List.setIfInBounds_toArray, List.set_cons_zero, List.set_cons_succ, List.getElem_toArray, List.getElem_cons_zero, List.getElem_cons_succ]
      refine wpAnyH_done (by kernel_rfl) ?_ _
      go_wp2_with fail
      go_roundw
      case rel => exact ⟨k + 1, by omega, hide (HW.out.trans (hH5.mono HW.out.size)), int_eq (by omega)⟩
      case measure => simp [intOf]; omega
    · go_wp2_with fail
      go_ret
      exact ⟨rfl, HB.out.trans (HW.out.mono HB.out.size)⟩
end Go.Proofs.Ytcaoekaephnimaa
