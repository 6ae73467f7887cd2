/- eqDiskS and eqRaid compare rows of disks. -/
import Derived.Test.YtcaoekaephnimaaDiskEq
namespace Go.Proofs.Ytcaoekaephnimaa
open Go.RowKit
set_option linter.unusedVariables false

/-- a disk, as a row holds it -/
structure DV where
  A1 : Option Addr
  n1 : Nat
  c1 : Nat
  A2 : Option Addr
  n2 : Nat
  c2 : Nat
  g : Bool
  z1 : List ByteArray
  z2 : List (Int × ByteArray)
def DV.cells (d : DV) : List Value := [.slice d.A1 d.n1 d.c1, .slice d.A2 d.n2 d.c2, .bool d.g]
def DV.val (d : DV) : List ByteArray × List (Int × ByteArray) × Bool := (d.z1, d.z2, d.g)
def DV.In (w : World) (d : DV) : Prop := Rd w 1 d.A1 d.n1 (d.z1.map Value.string) ∧ Rd w 2 d.A2 d.n2 (waitCells d.z2) ∧ d.n1 ≤ maxLen ∧ d.n2 ≤ maxLen
theorem DV.In.after {w w' : World} {d : DV} (h : d.In w) (hb : Below w.heap.size w w') : d.In w' := ⟨h.1.after hb, h.2.1.after hb, h.2.2⟩
def rCells (ds : List DV) : List Value := ds.flatMap DV.cells
theorem rCells_len (ds : List DV) : (rCells ds).length = 3 * ds.length := by
  induction ds with
  | nil => rfl
  | cons d ds ih => rw [rCells, List.flatMap_cons, List.length_append, List.length_cons]; show 3 + (rCells ds).length = _; omega
theorem rCells_at : ∀ (ds : List DV) (k : Nat) (d : DV), ds[k]? = some d → (rCells ds)[k * 3]? = some (.slice d.A1 d.n1 d.c1) ∧ (rCells ds)[k * 3 + 1]? = some (.slice d.A2 d.n2 d.c2) ∧ (rCells ds)[k * 3 + 2]? = some (.bool d.g)
  | [], k, d, h => by simp at h
  | e :: ds, 0, d, h => by
    simp at h; subst h
    exact ⟨rfl, rfl, rfl⟩
  | e :: ds, k + 1, d, h => by
    have hi := rCells_at ds k d (by simpa using h)
    have hs : ∀ j, (rCells (e :: ds))[j + 3]? = (rCells ds)[j]? := fun j => rfl
    rw [show (k + 1) * 3 = k * 3 + 3 by omega, show k * 3 + 3 + 1 = k * 3 + 1 + 3 by omega, show k * 3 + 3 + 2 = k * 3 + 2 + 3 by omega, hs, hs, hs]
    exact hi
theorem Rd.disk_at {w : World} {A : Option Addr} {n : Nat} {ds : List DV} (h : Rd w 3 A n (rCells ds)) {k : Nat} (hk : k < n) :
    ∃ b o d, A = some ⟨b, o, none⟩ ∧ b < w.heap.size ∧ ds[k]? = some d ∧ w.cell? ⟨b, o + k * 3, none⟩ = some (.slice d.A1 d.n1 d.c1) ∧ w.cell? ⟨b, o + k * 3 + 1, none⟩ = some (.slice d.A2 d.n2 d.c2) ∧ w.cell? ⟨b, o + k * 3 + 2, none⟩ = some (.bool d.g) := by
  obtain ⟨b, o, e, hb, hc⟩ := h.at_ (by omega)
  have hl : k < ds.length := by have := h.len; rw [rCells_len] at this; omega
  obtain ⟨c0, c1, c2⟩ := rCells_at ds k ds[k] (List.getElem?_eq_getElem hl)
  exact ⟨b, o, ds[k], e, hb, List.getElem?_eq_getElem hl, hc _ _ c0, hc _ _ c1, hc _ _ c2⟩
def eqV (ds es : List DV) : Bool := decide (ds.map DV.val = es.map DV.val)
theorem eqV_len {ds es : List DV} (h : ds.length ≠ es.length) : eqV ds es = false := decide_eq_false fun e => h (by have := congrArg List.length e; simpa using this)
theorem eqV_at {ds es : List DV} {k : Nat} {d e : DV} (hd : ds[k]? = some d) (he : es[k]? = some e) (h : d.val ≠ e.val) : eqV ds es = false :=
  decide_eq_false fun q => h (by
    have h1 : (ds.map DV.val)[k]? = some d.val := by rw [List.getElem?_map, hd]; rfl
    have h2 : (es.map DV.val)[k]? = some e.val := by rw [List.getElem?_map, he]; rfl
    rw [q, h2] at h1
    exact (Option.some.inj h1).symm)
theorem eqV_all {ds es : List DV} (hl : ds.length = es.length) (h : (ds.map DV.val).take ds.length = (es.map DV.val).take ds.length) : eqV ds es = true := by
  refine decide_eq_true ?_
  rw [List.take_of_length_le (by simp), List.take_of_length_le (by simp; omega)] at h
  exact h
theorem eqV_same (ds : List DV) : eqV ds ds = true := decide_eq_true rfl
theorem eqD_val (d e : DV) : eqD d.z1 e.z1 d.z2 e.z2 d.g e.g = decide (d.val = e.val) := by
  unfold eqD eqT eqW DV.val
  by_cases h1 : d.z1 = e.z1
  · by_cases h2 : d.z2 = e.z2
    · by_cases h3 : d.g = e.g
      · simp [h1, h2, h3]
      · simp [h1, h2, h3]
    · simp [h1, h2]
  · simp [h1]
set_option maxHeartbeats 4000000 in
theorem eqDiskS_any (A A' : Option Addr) (n c n' c' : Nat) (ds es : List DV) (w : World) (h : Rd w 3 A n (rCells ds)) (h' : Rd w 3 A' n' (rCells es)) (hd : ∀ d ∈ ds, d.In w) (he : ∀ d ∈ es, d.In w) (hm : n ≤ maxLen) :
    Calls Try.prog 34 #[.slice A n c, .slice A' n' c'] w fun r w' => r = .returned (.bool (eqV ds es)) ∧ Below w.heap.size w w' := by
  unfold maxLen at hm
  have hzl : ds.length = n := by have := h.len; rw [rCells_len] at this; omega
  have hyl : es.length = n' := by have := h'.len; rw [rCells_len] at this; omega
  by_cases hl : n = n'
  · subst hl
    have HL := hide (hzl.trans hyl.symm)
    have HZ := hide hzl
    have H := hide h
    have H' := hide h'
    have DI := hide hd
    have DJ := hide he
    clear hzl hyl h h' hd he
    go_enter Try.func34, Try.ntmps34
    go_wp2
    go_loopw [5] (fun i wr => ∃ k : Nat, k ≤ n ∧ Hid (Below w.heap.size w wr) ∧ Hid ((ds.map DV.val).take k = (es.map DV.val).take k) ∧ i = .int .i64 k) (fun i _ => n - (intOf i).toNat)
    case atStart => exact ⟨0, by omega, hide (Below.refl _ _), hide rfl, rfl⟩
    case round =>
      obtain ⟨k, hk, HW, HT, rfl⟩ := hrel
      by_cases hlt : k < n
      · obtain ⟨b, o, d, rfl, hb, hz, hc0, hc1, hc2⟩ := (H.out.after HW.out).disk_at hlt
        obtain ⟨b', o', e, rfl, hb', hy, hd0, hd1, hd2⟩ := (H'.out.after HW.out).disk_at hlt
        have HZ := hide hz
        have HY := hide hy
        have HB0 := hide hb
        have HB1 := hide hb'
        have C0 := hide hc0
        have C1 := hide hc1
        have C2 := hide hc2
        have D0 := hide hd0
        have D1 := hide hd1
        have D2 := hide hd2
        have IN := hide ((DI.out d (List.mem_of_getElem? hz)).after HW.out)
        have IM := hide ((DJ.out e (List.mem_of_getElem? hy)).after HW.out)
        have i0 : (0 : Int) ≤ (k : Int) := by omega
        have i1 : (k : Int) < (n : Int) := by omega
        clear hz hy hb hb' hc0 hc1 hd0 hd1 hc2 hd2
        by_cases he : d.val = e.val
        · have HE := hide ((eqD_val d e).trans (decide_eq_true he))
          have HE1 := hide (take_eq_snoc (show (ds.map DV.val)[k]? = some d.val by rw [List.getElem?_map, HZ.out]; rfl) (show (es.map DV.val)[k]? = some e.val by rw [List.getElem?_map, HY.out]; rfl) HT.out he)
          clear he
          go_wp2_with fail
          refine wp_region_held_drew (S := fun x => Below wr.heap.size wr x) (by kernel_rfl) ((Below.refl _ _).drew) (fun hH => ?_)
          refine wpAnyH_take (i := 0) (v := ?_) rfl (by kernel_rfl) (by kernel_rfl) (by kernel_rfl) (fun _ _ _ h => h) (Or.inl ⟨by rfl, fun w hS => ?_⟩) hH ?_
          rotate_left
          · have c0 := (hS.cell (p := ⟨b, o + k * 3, none⟩) HB0.out).trans C0.out; have c1 := (hS.cell (p := ⟨b, o + k * 3 + 1, none⟩) HB0.out).trans C1.out; have c2 := (hS.cell (p := ⟨b, o + k * 3 + 2, none⟩) HB0.out).trans C2.out; have d0 := (hS.cell (p := ⟨b', o' + k * 3, none⟩) HB1.out).trans D0.out; have d1 := (hS.cell (p := ⟨b', o' + k * 3 + 1, none⟩) HB1.out).trans D1.out; have d2 := (hS.cell (p := ⟨b', o' + k * 3 + 2, none⟩) HB1.out).trans D2.out; go_simp; try exact rfl
          simp only [Act.put, List.setIfInBounds_toArray, List.set_cons_zero, List.set_cons_succ, List.getElem_toArray, List.getElem_cons_zero]
          refine wpAnyH_take (i := 1) (v := ?_) rfl (by kernel_rfl) (by kernel_rfl) (by kernel_rfl) (fun _ _ _ h => h) (Or.inl ⟨by rfl, fun w hS => ?_⟩) hH ?_
          rotate_left
          · have c0 := (hS.cell (p := ⟨b, o + k * 3, none⟩) HB0.out).trans C0.out; have c1 := (hS.cell (p := ⟨b, o + k * 3 + 1, none⟩) HB0.out).trans C1.out; have c2 := (hS.cell (p := ⟨b, o + k * 3 + 2, none⟩) HB0.out).trans C2.out; have d0 := (hS.cell (p := ⟨b', o' + k * 3, none⟩) HB1.out).trans D0.out; have d1 := (hS.cell (p := ⟨b', o' + k * 3 + 1, none⟩) HB1.out).trans D1.out; have d2 := (hS.cell (p := ⟨b', o' + k * 3 + 2, none⟩) HB1.out).trans D2.out; go_simp; try exact rfl
          simp only [Act.put, List.setIfInBounds_toArray, List.set_cons_zero, List.set_cons_succ, List.getElem_toArray, List.getElem_cons_zero, List.getElem_cons_succ]
          refine wpAnyH_take (i := 2) (v := ?_) rfl (by kernel_rfl) (by kernel_rfl) (by kernel_rfl) (fun _ _ _ h => h) (Or.inl ⟨by rfl, fun w hS => ?_⟩) hH ?_
          rotate_left
          · have c0 := (hS.cell (p := ⟨b, o + k * 3, none⟩) HB0.out).trans C0.out; have c1 := (hS.cell (p := ⟨b, o + k * 3 + 1, none⟩) HB0.out).trans C1.out; have c2 := (hS.cell (p := ⟨b, o + k * 3 + 2, none⟩) HB0.out).trans C2.out; have d0 := (hS.cell (p := ⟨b', o' + k * 3, none⟩) HB1.out).trans D0.out; have d1 := (hS.cell (p := ⟨b', o' + k * 3 + 1, none⟩) HB1.out).trans D1.out; have d2 := (hS.cell (p := ⟨b', o' + k * 3 + 2, none⟩) HB1.out).trans D2.out; go_simp; try exact rfl
          simp only [Act.put, List.setIfInBounds_toArray, List.set_cons_zero, List.set_cons_succ, List.getElem_toArray, List.getElem_cons_zero, List.getElem_cons_succ]
          refine wpAnyH_take (i := 3) (v := ?_) rfl (by kernel_rfl) (by kernel_rfl) (by kernel_rfl) (fun _ _ _ h => h) (Or.inl ⟨by rfl, fun w hS => ?_⟩) hH ?_
          rotate_left
          · have c0 := (hS.cell (p := ⟨b, o + k * 3, none⟩) HB0.out).trans C0.out; have c1 := (hS.cell (p := ⟨b, o + k * 3 + 1, none⟩) HB0.out).trans C1.out; have c2 := (hS.cell (p := ⟨b, o + k * 3 + 2, none⟩) HB0.out).trans C2.out; have d0 := (hS.cell (p := ⟨b', o' + k * 3, none⟩) HB1.out).trans D0.out; have d1 := (hS.cell (p := ⟨b', o' + k * 3 + 1, none⟩) HB1.out).trans D1.out; have d2 := (hS.cell (p := ⟨b', o' + k * 3 + 2, none⟩) HB1.out).trans D2.out; go_simp; try exact rfl
          simp only [Act.put, List.setIfInBounds_toArray, List.set_cons_zero, List.set_cons_succ, List.getElem_toArray, List.getElem_cons_zero, List.getElem_cons_succ]
          refine wpAnyH_take (i := 4) (v := ?_) rfl (by kernel_rfl) (by kernel_rfl) (by kernel_rfl) (fun _ _ _ h => h) (Or.inl ⟨by rfl, fun w hS => ?_⟩) hH ?_
          rotate_left
          · have c0 := (hS.cell (p := ⟨b, o + k * 3, none⟩) HB0.out).trans C0.out; have c1 := (hS.cell (p := ⟨b, o + k * 3 + 1, none⟩) HB0.out).trans C1.out; have c2 := (hS.cell (p := ⟨b, o + k * 3 + 2, none⟩) HB0.out).trans C2.out; have d0 := (hS.cell (p := ⟨b', o' + k * 3, none⟩) HB1.out).trans D0.out; have d1 := (hS.cell (p := ⟨b', o' + k * 3 + 1, none⟩) HB1.out).trans D1.out; have d2 := (hS.cell (p := ⟨b', o' + k * 3 + 2, none⟩) HB1.out).trans D2.out; go_simp; try exact rfl
          simp only [Act.put, List.setIfInBounds_toArray, List.set_cons_zero, List.set_cons_succ, List.getElem_toArray, List.getElem_cons_zero, List.getElem_cons_succ]
          refine wpAnyH_take (i := 5) (v := ?_) rfl (by kernel_rfl) (by kernel_rfl) (by kernel_rfl) (fun _ _ _ h => h) (Or.inl ⟨by rfl, fun w hS => ?_⟩) hH ?_
          rotate_left
          · have c0 := (hS.cell (p := ⟨b, o + k * 3, none⟩) HB0.out).trans C0.out; have c1 := (hS.cell (p := ⟨b, o + k * 3 + 1, none⟩) HB0.out).trans C1.out; have c2 := (hS.cell (p := ⟨b, o + k * 3 + 2, none⟩) HB0.out).trans C2.out; have d0 := (hS.cell (p := ⟨b', o' + k * 3, none⟩) HB1.out).trans D0.out; have d1 := (hS.cell (p := ⟨b', o' + k * 3 + 1, none⟩) HB1.out).trans D1.out; have d2 := (hS.cell (p := ⟨b', o' + k * 3 + 2, none⟩) HB1.out).trans D2.out; go_simp; try exact rfl
          simp only [Act.put, List.setIfInBounds_toArray, List.set_cons_zero, List.set_cons_succ, List.getElem_toArray, List.getElem_cons_zero, List.getElem_cons_succ]
          refine wpAnyH_take (i := 6) (v := ?_) rfl (by kernel_rfl) (by kernel_rfl) (by kernel_rfl) (fun _ _ _ h => h) (Or.inl ⟨by rfl, fun w hS => ?_⟩) hH ?_
          rotate_left
          · have c0 := (hS.cell (p := ⟨b, o + k * 3, none⟩) HB0.out).trans C0.out; have c1 := (hS.cell (p := ⟨b, o + k * 3 + 1, none⟩) HB0.out).trans C1.out; have c2 := (hS.cell (p := ⟨b, o + k * 3 + 2, none⟩) HB0.out).trans C2.out; have d0 := (hS.cell (p := ⟨b', o' + k * 3, none⟩) HB1.out).trans D0.out; have d1 := (hS.cell (p := ⟨b', o' + k * 3 + 1, none⟩) HB1.out).trans D1.out; have d2 := (hS.cell (p := ⟨b', o' + k * 3 + 2, none⟩) HB1.out).trans D2.out; go_simp; try exact rfl
          simp only [Act.put, List.setIfInBounds_toArray, List.set_cons_zero, List.set_cons_succ, List.getElem_toArray, List.getElem_cons_zero, List.getElem_cons_succ]
          refine wpAnyH_take (i := 7) (v := ?_) rfl (by kernel_rfl) (by kernel_rfl) (by kernel_rfl) (fun _ _ _ h => h) (Or.inl ⟨by rfl, fun w hS => ?_⟩) hH ?_
          rotate_left
          · have c0 := (hS.cell (p := ⟨b, o + k * 3, none⟩) HB0.out).trans C0.out; have c1 := (hS.cell (p := ⟨b, o + k * 3 + 1, none⟩) HB0.out).trans C1.out; have c2 := (hS.cell (p := ⟨b, o + k * 3 + 2, none⟩) HB0.out).trans C2.out; have d0 := (hS.cell (p := ⟨b', o' + k * 3, none⟩) HB1.out).trans D0.out; have d1 := (hS.cell (p := ⟨b', o' + k * 3 + 1, none⟩) HB1.out).trans D1.out; have d2 := (hS.cell (p := ⟨b', o' + k * 3 + 2, none⟩) HB1.out).trans D2.out; go_simp; try exact rfl
          simp only [Act.put, List.setIfInBounds_toArray, List.set_cons_zero, List.set_cons_succ, List.getElem_toArray, List.getElem_cons_zero, List.getElem_cons_succ]
          refine wpAnyH_ready (rs := [8]) (by kernel_rfl) (by simp) (AllReadyH.cons rfl (fun K hK => ?_) AllReadyH.nil)
          go_simp
          go_at_call 57
          refine (eqDisk_v HE.out _ (IN.out.after (Below.refl _ _).drew).1 (IN.out.after (Below.refl _ _).drew).2.1 (IM.out.after (Below.refl _ _).drew).1 (IM.out.after (Below.refl _ _).drew).2.1 IN.out.2.2.1 IN.out.2.2.2).mono ?_; rintro r w1 ⟨rfl, hb1⟩
          refine hK.out _ _ (hH.trans (hb1.mono hH.size)) (fun hH5 => ?_)
          clear hK K
          try simp only [Act.put, List.setIfInBounds_toArray, List.set_cons_zero, List.set_cons_succ]
          refine wpAnyH_take (i := 9) (v := ?_) rfl (by kernel_rfl) (by kernel_rfl) (by kernel_rfl) (fun _ _ _ h => h) (Or.inl ⟨by rfl, fun w hS => ?_⟩) hH5 ?_
          rotate_left
          · have c0 := (hS.cell (p := ⟨b, o + k * 3, none⟩) HB0.out).trans C0.out; have c1 := (hS.cell (p := ⟨b, o + k * 3 + 1, none⟩) HB0.out).trans C1.out; have c2 := (hS.cell (p := ⟨b, o + k * 3 + 2, none⟩) HB0.out).trans C2.out; have d0 := (hS.cell (p := ⟨b', o' + k * 3, none⟩) HB1.out).trans D0.out; have d1 := (hS.cell (p := ⟨b', o' + k * 3 + 1, none⟩) HB1.out).trans D1.out; have d2 := (hS.cell (p := ⟨b', o' + k * 3 + 2, none⟩) HB1.out).trans D2.out; go_simp; try exact rfl
          simp only [Act.put, List.setIfInBounds_toArray, List.set_cons_zero, List.set_cons_succ, List.getElem_toArray, List.getElem_cons_zero, List.getElem_cons_succ]
          refine wpAnyH_done (by kernel_rfl) ?_ _
          go_wp2_with fail
          go_roundw
          case rel => exact ⟨k + 1, by omega, hide (HW.out.trans (hH5.mono HW.out.size)), HE1, int_eq (by omega)⟩
          case measure => simp [intOf]; omega
        · have HE := hide ((eqD_val d e).trans (decide_eq_false he))
          have HF := hide (eqV_at HZ.out HY.out he)
          clear he
          go_wp2_with fail
          refine wp_region_held_drew (S := fun x => Below wr.heap.size wr x) (by kernel_rfl) ((Below.refl _ _).drew) (fun hH => ?_)
          refine wpAnyH_take (i := 0) (v := ?_) rfl (by kernel_rfl) (by kernel_rfl) (by kernel_rfl) (fun _ _ _ h => h) (Or.inl ⟨by rfl, fun w hS => ?_⟩) hH ?_
          rotate_left
          · have c0 := (hS.cell (p := ⟨b, o + k * 3, none⟩) HB0.out).trans C0.out; have c1 := (hS.cell (p := ⟨b, o + k * 3 + 1, none⟩) HB0.out).trans C1.out; have c2 := (hS.cell (p := ⟨b, o + k * 3 + 2, none⟩) HB0.out).trans C2.out; have d0 := (hS.cell (p := ⟨b', o' + k * 3, none⟩) HB1.out).trans D0.out; have d1 := (hS.cell (p := ⟨b', o' + k * 3 + 1, none⟩) HB1.out).trans D1.out; have d2 := (hS.cell (p := ⟨b', o' + k * 3 + 2, none⟩) HB1.out).trans D2.out; go_simp; try exact rfl
          simp only [Act.put, List.setIfInBounds_toArray, List.set_cons_zero, List.set_cons_succ, List.getElem_toArray, List.getElem_cons_zero]
          refine wpAnyH_take (i := 1) (v := ?_) rfl (by kernel_rfl) (by kernel_rfl) (by kernel_rfl) (fun _ _ _ h => h) (Or.inl ⟨by rfl, fun w hS => ?_⟩) hH ?_
          rotate_left
          · have c0 := (hS.cell (p := ⟨b, o + k * 3, none⟩) HB0.out).trans C0.out; have c1 := (hS.cell (p := ⟨b, o + k * 3 + 1, none⟩) HB0.out).trans C1.out; have c2 := (hS.cell (p := ⟨b, o + k * 3 + 2, none⟩) HB0.out).trans C2.out; have d0 := (hS.cell (p := ⟨b', o' + k * 3, none⟩) HB1.out).trans D0.out; have d1 := (hS.cell (p := ⟨b', o' + k * 3 + 1, none⟩) HB1.out).trans D1.out; have d2 := (hS.cell (p := ⟨b', o' + k * 3 + 2, none⟩) HB1.out).trans D2.out; go_simp; try exact rfl
          simp only [Act.put, List.setIfInBounds_toArray, List.set_cons_zero, List.set_cons_succ, List.getElem_toArray, List.getElem_cons_zero, List.getElem_cons_succ]
          refine wpAnyH_take (i := 2) (v := ?_) rfl (by kernel_rfl) (by kernel_rfl) (by kernel_rfl) (fun _ _ _ h => h) (Or.inl ⟨by rfl, fun w hS => ?_⟩) hH ?_
          rotate_left
          · have c0 := (hS.cell (p := ⟨b, o + k * 3, none⟩) HB0.out).trans C0.out; have c1 := (hS.cell (p := ⟨b, o + k * 3 + 1, none⟩) HB0.out).trans C1.out; have c2 := (hS.cell (p := ⟨b, o + k * 3 + 2, none⟩) HB0.out).trans C2.out; have d0 := (hS.cell (p := ⟨b', o' + k * 3, none⟩) HB1.out).trans D0.out; have d1 := (hS.cell (p := ⟨b', o' + k * 3 + 1, none⟩) HB1.out).trans D1.out; have d2 := (hS.cell (p := ⟨b', o' + k * 3 + 2, none⟩) HB1.out).trans D2.out; go_simp; try exact rfl
          simp only [Act.put, List.setIfInBounds_toArray, List.set_cons_zero, List.set_cons_succ, List.getElem_toArray, List.getElem_cons_zero, List.getElem_cons_succ]
          refine wpAnyH_take (i := 3) (v := ?_) rfl (by kernel_rfl) (by kernel_rfl) (by kernel_rfl) (fun _ _ _ h => h) (Or.inl ⟨by rfl, fun w hS => ?_⟩) hH ?_
          rotate_left
          · have c0 := (hS.cell (p := ⟨b, o + k * 3, none⟩) HB0.out).trans C0.out; have c1 := (hS.cell (p := ⟨b, o + k * 3 + 1, none⟩) HB0.out).trans C1.out; have c2 := (hS.cell (p := ⟨b, o + k * 3 + 2, none⟩) HB0.out).trans C2.out; have d0 := (hS.cell (p := ⟨b', o' + k * 3, none⟩) HB1.out).trans D0.out; have d1 := (hS.cell (p := ⟨b', o' + k * 3 + 1, none⟩) HB1.out).trans D1.out; have d2 := (hS.cell (p := ⟨b', o' + k * 3 + 2, none⟩) HB1.out).trans D2.out; go_simp; try exact rfl
          simp only [Act.put, List.setIfInBounds_toArray, List.set_cons_zero, List.set_cons_succ, List.getElem_toArray, List.getElem_cons_zero, List.getElem_cons_succ]
          refine wpAnyH_take (i := 4) (v := ?_) rfl (by kernel_rfl) (by kernel_rfl) (by kernel_rfl) (fun _ _ _ h => h) (Or.inl ⟨by rfl, fun w hS => ?_⟩) hH ?_
          rotate_left
          · have c0 := (hS.cell (p := ⟨b, o + k * 3, none⟩) HB0.out).trans C0.out; have c1 := (hS.cell (p := ⟨b, o + k * 3 + 1, none⟩) HB0.out).trans C1.out; have c2 := (hS.cell (p := ⟨b, o + k * 3 + 2, none⟩) HB0.out).trans C2.out; have d0 := (hS.cell (p := ⟨b', o' + k * 3, none⟩) HB1.out).trans D0.out; have d1 := (hS.cell (p := ⟨b', o' + k * 3 + 1, none⟩) HB1.out).trans D1.out; have d2 := (hS.cell (p := ⟨b', o' + k * 3 + 2, none⟩) HB1.out).trans D2.out; go_simp; try exact rfl
          simp only [Act.put, List.setIfInBounds_toArray, List.set_cons_zero, List.set_cons_succ, List.getElem_toArray, List.getElem_cons_zero, List.getElem_cons_succ]
          refine wpAnyH_take (i := 5) (v := ?_) rfl (by kernel_rfl) (by kernel_rfl) (by kernel_rfl) (fun _ _ _ h => h) (Or.inl ⟨by rfl, fun w hS => ?_⟩) hH ?_
          rotate_left
          · have c0 := (hS.cell (p := ⟨b, o + k * 3, none⟩) HB0.out).trans C0.out; have c1 := (hS.cell (p := ⟨b, o + k * 3 + 1, none⟩) HB0.out).trans C1.out; have c2 := (hS.cell (p := ⟨b, o + k * 3 + 2, none⟩) HB0.out).trans C2.out; have d0 := (hS.cell (p := ⟨b', o' + k * 3, none⟩) HB1.out).trans D0.out; have d1 := (hS.cell (p := ⟨b', o' + k * 3 + 1, none⟩) HB1.out).trans D1.out; have d2 := (hS.cell (p := ⟨b', o' + k * 3 + 2, none⟩) HB1.out).trans D2.out; go_simp; try exact rfl
          simp only [Act.put, List.setIfInBounds_toArray, List.set_cons_zero, List.set_cons_succ, List.getElem_toArray, List.getElem_cons_zero, List.getElem_cons_succ]
          refine wpAnyH_take (i := 6) (v := ?_) rfl (by kernel_rfl) (by kernel_rfl) (by kernel_rfl) (fun _ _ _ h => h) (Or.inl ⟨by rfl, fun w hS => ?_⟩) hH ?_
          rotate_left
          · have c0 := (hS.cell (p := ⟨b, o + k * 3, none⟩) HB0.out).trans C0.out; have c1 := (hS.cell (p := ⟨b, o + k * 3 + 1, none⟩) HB0.out).trans C1.out; have c2 := (hS.cell (p := ⟨b, o + k * 3 + 2, none⟩) HB0.out).trans C2.out; have d0 := (hS.cell (p := ⟨b', o' + k * 3, none⟩) HB1.out).trans D0.out; have d1 := (hS.cell (p := ⟨b', o' + k * 3 + 1, none⟩) HB1.out).trans D1.out; have d2 := (hS.cell (p := ⟨b', o' + k * 3 + 2, none⟩) HB1.out).trans D2.out; go_simp; try exact rfl
          simp only [Act.put, List.setIfInBounds_toArray, List.set_cons_zero, List.set_cons_succ, List.getElem_toArray, List.getElem_cons_zero, List.getElem_cons_succ]
          refine wpAnyH_take (i := 7) (v := ?_) rfl (by kernel_rfl) (by kernel_rfl) (by kernel_rfl) (fun _ _ _ h => h) (Or.inl ⟨by rfl, fun w hS => ?_⟩) hH ?_
          rotate_left
          · have c0 := (hS.cell (p := ⟨b, o + k * 3, none⟩) HB0.out).trans C0.out; have c1 := (hS.cell (p := ⟨b, o + k * 3 + 1, none⟩) HB0.out).trans C1.out; have c2 := (hS.cell (p := ⟨b, o + k * 3 + 2, none⟩) HB0.out).trans C2.out; have d0 := (hS.cell (p := ⟨b', o' + k * 3, none⟩) HB1.out).trans D0.out; have d1 := (hS.cell (p := ⟨b', o' + k * 3 + 1, none⟩) HB1.out).trans D1.out; have d2 := (hS.cell (p := ⟨b', o' + k * 3 + 2, none⟩) HB1.out).trans D2.out; go_simp; try exact rfl
          simp only [Act.put, List.setIfInBounds_toArray, List.set_cons_zero, List.set_cons_succ, List.getElem_toArray, List.getElem_cons_zero, List.getElem_cons_succ]
          refine wpAnyH_ready (rs := [8]) (by kernel_rfl) (by simp) (AllReadyH.cons rfl (fun K hK => ?_) AllReadyH.nil)
          go_simp
          go_at_call 57
          refine (eqDisk_v HE.out _ (IN.out.after (Below.refl _ _).drew).1 (IN.out.after (Below.refl _ _).drew).2.1 (IM.out.after (Below.refl _ _).drew).1 (IM.out.after (Below.refl _ _).drew).2.1 IN.out.2.2.1 IN.out.2.2.2).mono ?_; rintro r w1 ⟨rfl, hb1⟩
          refine hK.out _ _ (hH.trans (hb1.mono hH.size)) (fun hH5 => ?_)
          clear hK K
          try simp only [Act.put, List.setIfInBounds_toArray, List.set_cons_zero, List.set_cons_succ]
          refine wpAnyH_take (i := 9) (v := ?_) rfl (by kernel_rfl) (by kernel_rfl) (by kernel_rfl) (fun _ _ _ h => h) (Or.inl ⟨by rfl, fun w hS => ?_⟩) hH5 ?_
          rotate_left
          · have c0 := (hS.cell (p := ⟨b, o + k * 3, none⟩) HB0.out).trans C0.out; have c1 := (hS.cell (p := ⟨b, o + k * 3 + 1, none⟩) HB0.out).trans C1.out; have c2 := (hS.cell (p := ⟨b, o + k * 3 + 2, none⟩) HB0.out).trans C2.out; have d0 := (hS.cell (p := ⟨b', o' + k * 3, none⟩) HB1.out).trans D0.out; have d1 := (hS.cell (p := ⟨b', o' + k * 3 + 1, none⟩) HB1.out).trans D1.out; have d2 := (hS.cell (p := ⟨b', o' + k * 3 + 2, none⟩) HB1.out).trans D2.out; go_simp; try exact rfl
          simp only [Act.put, List.setIfInBounds_toArray, List.set_cons_zero, List.set_cons_succ, List.getElem_toArray, List.getElem_cons_zero, List.getElem_cons_succ]
          refine wpAnyH_done (by kernel_rfl) ?_ _
          go_wp2_with fail
          go_ret
          exact ⟨ret_bool HF.out.symm, HW.out.trans (hH5.mono HW.out.size)⟩
      · have HF := hide (eqV_all HL.out (by have e : k = ds.length := by have := HZ.out; omega
                                            rw [e] at HT; exact HT.out))
        go_wp2
        go_ret
        exact ⟨ret_bool HF.out.symm, HW.out⟩
  · have HF := hide (eqV_len (ds := ds) (es := es) (by omega))
    have hn : ((n : Int) == (n' : Int)) = false := by simp; omega
    clear hzl hyl h h' hd he
    go_enter Try.func34, Try.ntmps34
    go_wp2
    all_goals (first | (go_ret; exact ⟨ret_bool HF.out.symm, Below.refl _ _⟩) | (exfalso; simp_all))
theorem eqDiskS_v {A A' : Option Addr} {n c n' c' : Nat} {ds es : List DV} {v : Bool} (hv : eqV ds es = v) (w : World) (h : Rd w 3 A n (rCells ds)) (h' : Rd w 3 A' n' (rCells es)) (hd : ∀ d ∈ ds, d.In w) (he : ∀ d ∈ es, d.In w) (hm : n ≤ maxLen) :
    Calls Try.prog 34 #[.slice A n c, .slice A' n' c'] w fun r w' => r = .returned (.bool v) ∧ Below w.heap.size w w' := hv ▸ eqDiskS_any A A' n c n' c' ds es w h h' hd he hm
/-- a row of disks, each with its rows -/
def RIn (w : World) (A : Option Addr) (n : Nat) (ds : List DV) : Prop := Rd w 3 A n (rCells ds) ∧ ∀ d ∈ ds, d.In w
theorem RIn.after {w w' : World} {A : Option Addr} {n : Nat} {ds : List DV} (h : RIn w A n ds) (hb : Below w.heap.size w w') : RIn w' A n ds := ⟨h.1.after hb, fun d hd => (h.2 d hd).after hb⟩
theorem RIn.len {w : World} {A : Option Addr} {n : Nat} {ds : List DV} (h : RIn w A n ds) : ds.length = n := by have := h.1.len; rw [rCells_len] at this; omega
set_option maxHeartbeats 400000 in
theorem eqRaid_v {A A' : Option Addr} {n c n' c' : Nat} {ds es : List DV} {v : Bool} (hv : eqV ds es = v) (w : World) (h : RIn w A n ds) (h' : RIn w A' n' es) (hm : n ≤ maxLen) :
    Calls Try.prog 12 #[.agg #[.slice A n c], .agg #[.slice A' n' c']] w fun r w' => r = .returned (.bool v) ∧ Below w.heap.size w w' := by
  have hb0 : Below w.heap.size w ((w.alloc (.cells #[.slice A n c] 24)).alloc (.cells #[.slice A' n' c'] 24)) := ((Below.refl _ _).alloc (Nat.le_refl _) _).alloc (by simp) _
  have H := hide (h.after hb0)
  have H' := hide (h'.after hb0)
  have HB := hide hb0
  have HV := hide hv
  have HM := hide hm
  clear h h' hb0 hv hm
  go_enter Try.func12, Try.ntmps12
  go_wp2_with fail
  refine (eqDiskS_v HV.out _ H.out.1 H'.out.1 H.out.2 H'.out.2 HM.out).mono ?_; rintro r w1 ⟨rfl, hb1⟩
  cases v
  all_goals
    go_wp2_with fail
    go_ret
    exact ⟨rfl, bnext HB.out (Nat.le_refl _) hb1⟩
end Go.Proofs.Ytcaoekaephnimaa
