/- Raids of a call's own are marked: markDiskS, markRaid, heldDiskS, heldRaid. -/
import Derived.Test.YtcaoekaephnimaaQR
import Derived.Test.YtcaoekaephnimaaDiskCopy
import Derived.Test.YtcaoekaephnimaaQD
namespace Go.Proofs.Ytcaoekaephnimaa
open Go.RowKit
set_option linter.unusedVariables false
set_option maxRecDepth 100000

/-- the block of a disk's cells -/
def DV.b (d : DV) : Nat := match d.A1 with | some a => a.block | none => 0
/-- a disk of a call's own: 64 cells in a block of their own, nothing waits -/
structure DV.Own (B : Nat) (w : World) (d : DV) : Prop where
  a1 : d.A1 = some ⟨d.b, 0, none⟩
  base : B ≤ d.b
  n1 : d.n1 = 64
  n2 : d.n2 = 0
  z2 : d.z2 = []
  len : d.z1.length = 64
  row : Row w d.b 9 (d.z1.map Value.string)
  c2 : d.c2 = 0
theorem DV.Own.after {B : Nat} {w w' : World} {d : DV} (h : d.Own B w) (hb : Below w.heap.size w w') : d.Own B w' := ⟨h.a1, h.base, h.n1, h.n2, h.z2, h.len, h.row.after hb, h.c2⟩
theorem DV.Own.fr {B : Nat} {S : Nat → Prop} {w w' : World} {d : DV} (h : d.Own B w) (hf : Fr S w w') (hS : ¬ S d.b) : d.Own B w' := ⟨h.a1, h.base, h.n1, h.n2, h.z2, h.len, h.row.fr hf hS, h.c2⟩
theorem DV.Own.mono {B B' : Nat} {w : World} {d : DV} (h : d.Own B w) (hB : B' ≤ B) : d.Own B' w := ⟨h.a1, Nat.le_trans hB h.base, h.n1, h.n2, h.z2, h.len, h.row, h.c2⟩
theorem DV.Own.in_ {B : Nat} {w : World} {d : DV} (h : d.Own B w) : d.In w := by
  refine ⟨?_, ?_, by rw [h.n1]; unfold maxLen; omega, by rw [h.n2]; exact Nat.zero_le _⟩
  · rw [h.a1, h.n1]
    exact h.row.rd (by rw [List.length_map, h.len])
  · rw [h.n2, h.z2]
    exact ⟨rfl, fun h => absurd h (by omega)⟩
/-- a raid of a call's own -/
structure OwnR (B : Nat) (w : World) (V : Value) (ds : List DV) : Prop where
  own : w.ownsRow B 49 3 V ds.length (rCells ds)
  each : ∀ d ∈ ds, d.Own B w
  apart : ds.Pairwise (fun d e => d.b ≠ e.b)
theorem own_aftR {w w' : World} {base : Nat} {e : TypeId} {k n : Nat} {v : Value} {xs : List Value} (h : w.ownsRow base e k v n xs) (hb : Below w.heap.size w w') : w'.ownsRow base e k v n xs := by
  refine ⟨h.1, ?_⟩
  rcases h.2 with h2 | ⟨g, cap, cur, hv, hg, hh, r⟩
  · exact .inl h2
  · refine .inr ⟨g, cap, cur, hv, hg, ?_, r⟩
    rw [hb.block g (Array.getElem?_eq_some_iff.1 hh).1]
    exact hh
theorem OwnR.after {B : Nat} {w w' : World} {V : Value} {ds : List DV} (h : OwnR B w V ds) (hb : Below w.heap.size w w') : OwnR B w' V ds := ⟨own_aftR h.own hb, fun d hd => (h.each d hd).after hb, h.apart⟩
theorem OwnR.shape {B : Nat} {w : World} {V : Value} {ds : List DV} (h : OwnR B w V ds) : ∃ A c, V = .slice A ds.length c := by
  rcases h.own.2 with ⟨e1, e2⟩ | ⟨g, cap, cur, e, _⟩
  · exact ⟨none, 0, by rw [e1, e2]⟩
  · exact ⟨_, _, e⟩
theorem OwnR.rin {B : Nat} {w : World} {A : Option Addr} {n c : Nat} {ds : List DV} (h : OwnR B w (.slice A n c) ds) : RIn w A n ds := by
  obtain ⟨h1, h2⟩ := h.own
  have hn : ds.length = n := by
    rcases h2 with ⟨e1, e2⟩ | ⟨g, cap, cur, e, _⟩
    · injection e1 with _ e _; rw [e2, e]
    · injection e with _ e _; exact e.symm
  refine ⟨?_, fun d hd => (h.each d hd).in_⟩
  rcases h2 with ⟨e, e0⟩ | ⟨g, cap, cur, e, hb, hg, hnc, _, hsz, htk⟩
  · exact ⟨by rw [← hn]; rw [h1], fun hn' => absurd hn' (by omega)⟩
  · injection e with e1 e2 e3
    subst e1
    refine ⟨by rw [← hn]; exact h1, fun hn' => ⟨g, 0, rfl, (Array.getElem?_eq_some_iff.1 hg).1, fun j u hj => ?_⟩⟩
    have hc : w.cell? ⟨g, 0 + j, none⟩ = cur[j]? := by simp [World.cell?, hg]
    rw [hc]
    rw [← htk] at hj
    have hjn : j < ds.length * 3 := by
      rcases Nat.lt_or_ge j (ds.length * 3) with h | h
      · exact h
      · rw [List.getElem?_eq_none (by rw [List.length_take]; omega)] at hj; cases hj
    rw [List.getElem?_take_of_lt hjn] at hj
    simpa using hj
theorem apart_ne {ds : List DV} (h : ds.Pairwise (fun d e => d.b ≠ e.b)) {i j : Nat} {d e : DV} (hi : ds[i]? = some d) (hj : ds[j]? = some e) (hne : i ≠ j) : d.b ≠ e.b := by
  rw [List.pairwise_iff_getElem] at h
  obtain ⟨hi1, rfl⟩ := List.getElem?_eq_some_iff.1 hi
  obtain ⟨hj1, rfl⟩ := List.getElem?_eq_some_iff.1 hj
  rcases Nat.lt_or_ge i j with hl | hl
  · exact h i j hi1 hj1 hl
  · exact fun e => h j i hj1 hi1 (by omega) e.symm
/-- the mark of a disk's third field -/
def mflag (i : Nat) : Bool := ((65 * (i + 1) : Nat) : Int) % 3 == 0
/-- the cells of a row of disks, the first k marked -/
def RC (cs : Array Value) (ds : List DV) (k : Nat) : Prop :=
  (∀ j d, ds[j]? = some d → cs[j * 3]? = some (.slice d.A1 d.n1 d.c1) ∧ cs[j * 3 + 1]? = some (.slice d.A2 d.n2 d.c2) ∧ j * 3 + 2 < cs.size) ∧ ∀ j, j < k → cs[j * 3 + 2]? = some (.bool (mflag j))
theorem RC.put {cs : Array Value} {ds : List DV} {k : Nat} (h : RC cs ds k) (hk : k < ds.length) : RC (cs.setIfInBounds (k * 3 + 2) (.bool (mflag k))) ds (k + 1) := by
  refine ⟨fun j d hd => ?_, fun j hj => ?_⟩
  · obtain ⟨h1, h2, h3⟩ := h.1 j d hd
    rw [Array.getElem?_setIfInBounds, Array.getElem?_setIfInBounds, if_neg (by omega), if_neg (by omega), Array.size_setIfInBounds]
    exact ⟨h1, h2, h3⟩
  · rw [Array.getElem?_setIfInBounds]
    by_cases e : k = j
    · subst e
      rw [if_pos rfl, if_pos (h.1 k ds[k] (List.getElem?_eq_getElem hk)).2.2]
    · rw [if_neg (by omega)]
      exact h.2 j (by omega)
/-- a marked raid -/
structure Marked (w : World) (A : Option Addr) (n : Nat) (ds : List DV) : Prop where
  len : ds.length = n
  row : 0 < n → ∃ b, A = some ⟨b, 0, none⟩ ∧ b < w.heap.size ∧ ∀ j d, ds[j]? = some d → w.cell? ⟨b, j * 3, none⟩ = some (.slice d.A1 64 d.c1) ∧ w.cell? ⟨b, j * 3 + 1, none⟩ = some (.slice d.A2 0 d.c2) ∧ w.cell? ⟨b, j * 3 + 2, none⟩ = some (.bool (mflag j))
  each : ∀ j d, ds[j]? = some d → Rd w 1 d.A1 64 (marksT (1 + 65 * j) 64)
theorem Marked.after {w w' : World} {A : Option Addr} {n : Nat} {ds : List DV} (h : Marked w A n ds) (hb : Below w.heap.size w w') : Marked w' A n ds :=
  ⟨h.len, fun hn => by
    obtain ⟨b, e, hl, hc⟩ := h.row hn
    refine ⟨b, e, Nat.lt_of_lt_of_le hl hb.size, fun j d hd => ?_⟩
    obtain ⟨c0, c1, c2⟩ := hc j d hd
    exact ⟨(hb.cell (p := ⟨b, _, none⟩) hl).trans c0, (hb.cell (p := ⟨b, _, none⟩) hl).trans c1, (hb.cell (p := ⟨b, _, none⟩) hl).trans c2⟩, fun j d hd => (h.each j d hd).after hb⟩
/-- blocks from B on that are no raid's -/
def Sd (B : Nat) (w : World) (i : Nat) : Prop := B ≤ i ∧ ∃ t cs, Bk w i t cs ∧ t ≠ 24
theorem Sd.not {B : Nat} {w : World} {k : Nat} {cs : Array Value} (h : Bk w k 24 cs) : ¬ Sd B w k := by
  rintro ⟨_, t, cs', h1, h2⟩
  exact h1.ne_type h h2 rfl
theorem Sd.alloc {B : Nat} {w : World} {o : Obj} {i : Nat} (hi : i < w.heap.size) (h : Sd B (w.alloc o) i) : Sd B w i := by
  obtain ⟨h1, t, cs, h2, h3⟩ := h
  refine ⟨h1, t, cs, ?_, h3⟩
  unfold Bk at h2 ⊢
  rw [← h2]
  exact (Below.heap_alloc w o i hi).symm
theorem DV.Own.sd {B : Nat} {w : World} {d : DV} (h : d.Own B w) : Sd B w d.b := by
  obtain ⟨cs, hk, _⟩ := h.row
  exact ⟨h.base, _, cs, hk, by decide⟩
set_option maxHeartbeats 4000000 in
theorem markDiskS_at (g n c B : Nat) (cs : Array Value) (ds : List DV) (w : World) (hb : Bk w g 49 cs) (hr : RC cs ds 0) (hn : ds.length = n) (hgB : B ≤ g) (he : ∀ d ∈ ds, d.Own B w) (ha : ds.Pairwise (fun d e => d.b ≠ e.b)) (hm : n ≤ 1000) :
    Calls Try.prog 35 #[.slice (some ⟨g, 0, none⟩) n c, .int .i64 1] w fun r w' => r = .returned (.int .i64 ((1 + 65 * n : Nat) : Int)) ∧ Marked w' (some ⟨g, 0, none⟩) n ds ∧ Fr (Sd B w) w w' := by
  have HB := hide hb
  have HR := hide hr
  have HN := hide hn
  have HE := hide (show ∀ j d, ds[j]? = some d → 0 ≤ j → d.Own B w from fun j d hd _ => he d (List.mem_of_getElem? hd))
  have HA := hide ha
  have HSG := hide (show Sd B w g from ⟨hgB, _, cs, hb, by decide⟩)
  have HSD := hide (show ∀ j d, ds[j]? = some d → Sd B w d.b from fun j d hd => (he d (List.mem_of_getElem? hd)).sd)
  clear hb hr hn he ha
  go_enter Try.func35, Try.ntmps35
  go_wp2
  go_loopw [1, 5] (fun q i wr => ∃ (k Q : Nat) (cs : Array Value), k ≤ n ∧ Q ≤ 70000 ∧ Hid (Q = 1 + 65 * k) ∧ Hid (Bk wr g 49 cs) ∧ Hid (RC cs ds k) ∧ Hid (∀ j d, ds[j]? = some d → k ≤ j → d.Own B wr) ∧ Hid (∀ j d, ds[j]? = some d → j < k → d.A1 = some ⟨d.b, 0, none⟩ ∧ d.n1 = 64 ∧ d.n2 = 0 ∧ d.b ≠ g ∧ Rd wr 1 d.A1 64 (marksT (1 + 65 * j) 64)) ∧ Hid (Fr (Sd B w) w wr) ∧ q = .int .i64 Q ∧ i = .int .i64 k) (fun _ i _ => n - (intOf i).toNat)
  case atStart => exact ⟨0, 1, cs, by omega, by omega, hide rfl, HB, HR, HE, hide (fun j d _ h => absurd h (by omega)), hide (Fr.refl _ _), rfl, rfl⟩
  case round =>
    clear HB HR HE
    obtain ⟨k, Q, cs, hk, hQ, HQ, HB, HR, HE, HM, HF, rfl, rfl⟩ := hrel
    by_cases hlt : k < n
    · have hkd : k < ds.length := by rw [HN.out]; exact hlt
      obtain ⟨d, hd⟩ : ∃ d, ds[k]? = some d := ⟨ds[k], List.getElem?_eq_getElem hkd⟩
      have ho := HE.out k d hd (Nat.le_refl _)
      obtain ⟨e0, e1, e2⟩ := HR.out.1 k d hd
      obtain ⟨ct, hct, hcs, _⟩ := ho.row
      rw [List.length_map, ho.len] at hcs
      have c0 : wr.cell? ⟨g, k * 3, none⟩ = some (.slice (some ⟨d.b, 0, none⟩) 64 d.c1) := by rw [HB.out.cell, e0, ho.a1, ho.n1]
      have i0 : (0 : Int) ≤ (k : Int) := by omega
      have i1 : (k : Int) < (n : Int) := by omega
      have HCT := hide hct
      have hne := hide (HB.out.ne_type hct (by decide))
      have HD := hide hd
      have HO := hide ho
      have HRP := hide (HR.out.put hkd)
      have HKD := hide hkd
      have HCS := hide hcs
      have hQe := HQ.out
      obtain ⟨Q1, hQ1⟩ : ∃ Q1 : Nat, Q1 = Q + 64 := ⟨_, rfl⟩
      have hq1 : (Q1 : Int) = (Q : Int) + (64 : Nat) := by omega
      have hfl : ((Q1 : Int) % 3 == 0) = mflag k := by unfold mflag; rw [show Q1 = 65 * (k + 1) by omega]
      have HQ1 := hide hQ1
      have HFL := hide hfl
      have Hq1 := hide hq1
      clear hd ho e0 e1 e2 hct hkd hcs hQe hQ1 hq1 hfl
      go_wp2_with fail
      refine (markStringS_at (j := (Q1 : Int)) Q (by rfl) Hq1.out _ HCT.out HCS.out (by omega) (by omega)).mono ?_; rintro r w1 ⟨rfl, ⟨t1, T1, ts1, tm1⟩, hf1⟩
      have HMK := hide (marksT_rd T1 tm1)
      have HB1 := hide (HB.out.fr hf1 hne.out)
      have HF1 := hide (HF.out.trans (hf1.mono (fun i _ e => by rw [e]; exact HSD.out k d HD.out)))
      have HE1 := hide (show ∀ j d, ds[j]? = some d → k + 1 ≤ j → d.Own B w1 from fun j d' hd' hj => (HE.out j d' hd' (by omega)).fr hf1 (fun e => apart_ne HA.out hd' HD.out (by omega) e))
      have HM1 := hide (show ∀ j d, ds[j]? = some d → j < k → d.A1 = some ⟨d.b, 0, none⟩ ∧ d.n1 = 64 ∧ d.n2 = 0 ∧ d.b ≠ g ∧ Rd w1 1 d.A1 64 (marksT (1 + 65 * j) 64) from fun j d' hd' hj => by
        obtain ⟨x1, x2, x3, x5, x4⟩ := HM.out j d' hd' hj
        refine ⟨x1, x2, x3, x5, x4.fr hf1 (fun b o e => ?_)⟩
        rw [x1] at e
        injection e with e
        injection e with e1 _ _
        intro h
        exact apart_ne HA.out hd' HD.out (by omega) (e1.trans h))
      obtain ⟨e0, e1, e2⟩ := HR.out.1 k d HD.out
      have c1 : w1.cell? ⟨g, k * 3 + 1, none⟩ = some (.slice d.A2 0 d.c2) := by rw [HB1.out.cell, e1, HO.out.n2]
      have d2 : ∃ u, w1.cell? ⟨g, k * 3 + 2, none⟩ = some u := ⟨cs[k * 3 + 2], by rw [HB1.out.cell]; exact Array.getElem?_eq_getElem e2⟩
      obtain ⟨u2, d2⟩ := d2
      have f2 := HB1.out.frozen (k * 3 + 2)
      clear hf1 T1 ts1 tm1 e0 e1 e2 c0
      go_wp2_with fail
      refine (markWaitS_nil _ _ _ _).mono ?_; rintro r w2 ⟨rfl, rfl⟩
      have q7 : Q1 ≤ 100000 := by have := HQ1.out; omega
      go_wp2_with fail
      have HRP2 := hide HRP.out
      rw [← HFL.out] at HRP2
      have W3 : ∀ x : Bool, Fr (· = g) w1 (w1.setCell ⟨g, k * 3 + 2, none⟩ (.bool x)) := fun x => (Fr.refl (· = g) w1).setCell (p := ⟨g, k * 3 + 2, none⟩) (.inl rfl) _
      go_roundw
      case rel =>
        refine ⟨k + 1, Q1 + 1, _, by omega, by have := HQ1.out; have := HQ.out; omega, hide (by have := HQ1.out; have := HQ.out; omega), hide (HB1.out.put (k * 3 + 2) (.bool ((Q1 : Int) % 3 == 0))), HRP2, hide (fun j d' hd' hj => (HE1.out j d' hd' hj).fr (W3 _) (fun e => ?_)), hide (fun j d' hd' hj => ?_), hide (HF1.out.setCell (p := ⟨g, k * 3 + 2, none⟩) (.inl HSG.out) _), int_eq (by omega), int_eq (by omega)⟩
        · obtain ⟨ct', hct', _, _⟩ := (HE1.out j d' hd' hj).row
          exact HB1.out.ne_type hct' (by decide) e.symm
        · by_cases e : j = k
          · subst e
            obtain rfl : d' = d := Option.some.inj (hd'.symm.trans HD.out)
            refine ⟨HO.out.a1, HO.out.n1, HO.out.n2, fun e => hne.out e.symm, ?_⟩
            have h1 : Rd w1 1 d'.A1 64 (marksT (1 + 65 * j) 64) := by rw [HO.out.a1, ← HQ.out]; exact HMK.out
            refine h1.fr (W3 _) (fun b o e => ?_)
            rw [HO.out.a1] at e
            injection e with e
            injection e with e1 _ _
            intro h
            exact hne.out (h.symm.trans e1.symm)
          · obtain ⟨x1, x2, x3, x5, x4⟩ := HM1.out j d' hd' (by omega)
            refine ⟨x1, x2, x3, x5, x4.fr (W3 _) (fun b o e => ?_)⟩
            rw [x1] at e
            injection e with e
            injection e with e1 _ _
            intro h
            exact x5 (e1.trans h)
      case measure => simp [intOf]; omega
    · go_wp2
      go_ret
      have e : k = n := by omega
      subst e
      refine ⟨ret_int (by have := HQ.out; omega), ⟨HN.out, fun hn => ⟨g, rfl, HB.out.lt, fun j d hd => ?_⟩, fun j d hd => ?_⟩, HF.out⟩
      · have hj : j < k := by rw [← HN.out]; exact (List.getElem?_eq_some_iff.1 hd).1
        obtain ⟨e0, e1, e2⟩ := HR.out.1 j d hd
        obtain ⟨x1, x2, x3, x5, x4⟩ := HM.out j d hd hj
        rw [HB.out.cell, HB.out.cell, HB.out.cell, e0, e1, HR.out.2 j hj, x2, x3]
        exact ⟨rfl, rfl, rfl⟩
      · have hj : j < k := by rw [← HN.out]; exact (List.getElem?_eq_some_iff.1 hd).1
        exact (HM.out j d hd hj).2.2.2.2
set_option maxHeartbeats 400000 in
theorem markDiskS_nil (A : Option Addr) (c : Nat) (i : Int) (w : World) :
    Calls Try.prog 35 #[.slice A 0 c, .int .i64 i] w fun r w' => r = .returned (.int .i64 i) ∧ w = w' := by
  go_enter Try.func35, Try.ntmps35
  go_wp2
  go_loop [1, 5] (fun q j => q = .int .i64 i ∧ j = .int .i64 0) (fun _ _ => 0)
  case atStart => exact ⟨rfl, rfl⟩
  case round =>
    obtain ⟨rfl, rfl⟩ := hrel
    go_wp2
    go_ret
    exact ⟨rfl, rfl⟩
/-- marking a raid of the call's own -/
theorem markDiskS_own {B n c : Nat} {A : Option Addr} {ds : List DV} {w : World} (h : OwnR B w (.slice A n c) ds) (hm : n ≤ 1000) :
    Calls Try.prog 35 #[.slice A n c, .int .i64 1] w fun r w' => r = .returned (.int .i64 ((1 + 65 * n : Nat) : Int)) ∧ Marked w' A n ds ∧ Fr (Sd B w) w w' := by
  have hl := h.rin.len
  rcases h.own.2 with ⟨e, e0⟩ | ⟨g, cap, cur, e, hb, hg, hnc, _, hsz, htk⟩
  · injection e with e1 e2 e3
    subst e1 e2
    refine (markDiskS_nil none c 1 w).mono ?_
    rintro r w' ⟨rfl, rfl⟩
    exact ⟨rfl, ⟨hl, fun hn => absurd hn (by omega), fun j d hd => by rw [List.eq_nil_of_length_eq_zero hl] at hd; cases hd⟩, Fr.refl _ _⟩
  · injection e with e1 e2 e3
    subst e1
    have hcur : ∀ (j : Nat) (u : Value), (rCells ds)[j]? = some u → cur[j]? = some u := by
      intro j u hj
      rw [← htk] at hj
      have hjn : j < ds.length * 3 := by
        rcases Nat.lt_or_ge j (ds.length * 3) with h | h
        · exact h
        · rw [List.getElem?_eq_none (by rw [List.length_take]; omega)] at hj; cases hj
      rw [List.getElem?_take_of_lt hjn] at hj
      simpa using hj
    refine (markDiskS_at g n c B cur ds w hg ⟨fun j d hd => ?_, fun j hj => absurd hj (by omega)⟩ hl hb h.each h.apart hm).mono ?_
    · obtain ⟨h1, h2, h3⟩ := rCells_at ds j d hd
      exact ⟨hcur _ _ h1, hcur _ _ h2, (Array.getElem?_eq_some_iff.1 (hcur _ _ h3)).1⟩
    · rintro r w' ⟨rfl, hm', hf⟩
      exact ⟨rfl, hm', hf⟩
set_option maxHeartbeats 400000 in
theorem markRaid_own {B n c : Nat} {A : Option Addr} {ds : List DV} {w : World} (h : OwnR B w (.slice A n c) ds) (hm : n ≤ 1000) :
    Calls Try.prog 13 #[.agg #[.slice A n c], .int .i64 1] w fun r w' => r = .returned (.int .i64 ((1 + 65 * n : Nat) : Int)) ∧ Marked w' A n ds ∧ Fr (Sd B w) w w' := by
  have hb0 := bel1 w (.cells #[.slice A n c] 24)
  have H := hide (h.after hb0)
  have HB := hide hb0
  clear h hb0
  obtain ⟨Q, hQ⟩ : ∃ Q, Q = 1 + 65 * n := ⟨_, rfl⟩
  have HD := hide (fun w h => markDiskS_own (w := w) (c := c) (A := A) (ds := ds) (B := B) h hm)
  rw [← hQ]
  rw [← hQ] at HD
  clear hQ
  go_enter Try.func13, Try.ntmps13
  go_wp2_with fail
  refine (HD.out _ H.out).mono ?_; rintro r w1 ⟨rfl, hm1, hf1⟩
  go_wp2_with fail
  go_ret
  exact ⟨rfl, hm1, (Fr.of_below _ HB.out).next hf1 (fun i _ h => by
    rcases Nat.lt_or_ge i w.heap.size with hi | hi
    · exact .inl (Sd.alloc hi h)
    · exact .inr hi)⟩
set_option maxHeartbeats 4000000 in
theorem heldDiskS_m {A : Option Addr} {n c : Nat} {ds : List DV} {w : World} (h : Marked w A n ds) (hm : n ≤ 1000) :
    Calls Try.prog 36 #[.slice A n c, .int .i64 1] w fun r w' => r = .returned (.int .i64 ((1 + 65 * n : Nat) : Int)) ∧ Below w.heap.size w w' := by
  have H := hide h
  clear h
  go_enter Try.func36, Try.ntmps36
  go_wp2
  go_loopw [1, 5] (fun q i wr => ∃ (k Q : Nat), k ≤ n ∧ Q ≤ 70000 ∧ Hid (Q = 1 + 65 * k) ∧ Hid (Below w.heap.size w wr) ∧ q = .int .i64 Q ∧ i = .int .i64 k) (fun _ i _ => n - (intOf i).toNat)
  case atStart => exact ⟨0, 1, by omega, by omega, hide rfl, hide (Below.refl _ _), rfl, rfl⟩
  case round =>
    obtain ⟨k, Q, hk, hQ, HQ, HB, rfl, rfl⟩ := hrel
    by_cases hlt : k < n
    · have h1 := H.out.after HB.out
      obtain ⟨b, rfl, hbl, hcc⟩ := h1.row (by omega)
      have hkd : k < ds.length := by rw [h1.len]; exact hlt
      obtain ⟨d, hd⟩ : ∃ d, ds[k]? = some d := ⟨ds[k], List.getElem?_eq_getElem hkd⟩
      obtain ⟨c0, c1, c2⟩ := hcc k d hd
      have HR := hide (h1.each k d hd)
      have HBL := hide hbl
      have HC1 := hide c1
      have HC2 := hide c2
      have i0 : (0 : Int) ≤ (k : Int) := by omega
      have i1 : (k : Int) < (n : Int) := by omega
      obtain ⟨Q1, hQ1⟩ : ∃ Q1 : Nat, Q1 = Q + 64 := ⟨_, rfl⟩
      have hfl : ((Q1 : Int) % 3 == 0) = mflag k := by unfold mflag; rw [show Q1 = 65 * (k + 1) by have := HQ.out; omega]
      have Hq1 := hide (show (Q1 : Int) = (Q : Int) + (64 : Nat) by omega)
      have HQ1 := hide hQ1
      have HFL := hide hfl
      clear h1 hcc hkd hd hbl c1 c2 hQ1 hfl
      go_wp2_with fail
      refine (heldStringS_at (j := (Q1 : Int)) Q (by rfl) Hq1.out _ (show Rd wr 1 d.A1 64 (marksT Q 64) by rw [HQ.out]; exact HR.out) (by omega) (by omega)).mono ?_; rintro r w1 ⟨rfl, hb1⟩
      have c1 := (hb1.cell (p := ⟨b, k * 3 + 1, none⟩) HBL.out).trans HC1.out
      have c2 := (hb1.cell (p := ⟨b, k * 3 + 2, none⟩) HBL.out).trans HC2.out
      rw [← HFL.out] at c2
      have HB := hide (HB.out.trans (hb1.mono HB.out.size))
      have q7 : Q1 ≤ 100000 := by have := HQ1.out; omega
      clear hb1 c0
      go_wp2_with fail
      refine (heldWaitS_nil _ _ _ _).mono ?_; rintro r w2 ⟨rfl, rfl⟩
      go_wp2_with fail
      go_roundw
      case rel => exact ⟨k + 1, Q1 + 1, by omega, by have := HQ1.out; have := HQ.out; omega, hide (by have := HQ1.out; have := HQ.out; omega), HB, int_eq (by omega), int_eq (by omega)⟩
      case measure => simp [intOf]; omega
    · go_wp2
      go_ret
      have e : k = n := by omega
      subst e
      exact ⟨ret_int (by have := HQ.out; omega), HB.out⟩
set_option maxHeartbeats 400000 in
theorem heldRaid_m {A : Option Addr} {n c : Nat} {ds : List DV} {w : World} (h : Marked w A n ds) (hm : n ≤ 1000) :
    Calls Try.prog 14 #[.agg #[.slice A n c], .int .i64 1] w fun r w' => r = .returned (.int .i64 ((1 + 65 * n : Nat) : Int)) ∧ Below w.heap.size w w' := by
  have hb0 := bel1 w (.cells #[.slice A n c] 24)
  have H := hide (h.after hb0)
  have HB := hide hb0
  clear h hb0
  obtain ⟨Q, hQ⟩ : ∃ Q, Q = 1 + 65 * n := ⟨_, rfl⟩
  have HD := hide (fun w h => heldDiskS_m (w := w) (c := c) (A := A) (ds := ds) h hm)
  rw [← hQ]
  rw [← hQ] at HD
  clear hQ
  go_enter Try.func14, Try.ntmps14
  go_wp2_with fail
  refine (HD.out _ H.out).mono ?_; rintro r w1 ⟨rfl, hb1⟩
  go_wp2_with fail
  go_ret
  exact ⟨rfl, bnext HB.out (Nat.le_refl _) hb1⟩
end Go.Proofs.Ytcaoekaephnimaa
