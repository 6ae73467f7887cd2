/- A raid that came in, opened: a row of disks, each with its rows. -/
import Derived.Test.YtcaoekaephnimaaOpenDisk
import Derived.Test.YtcaoekaephnimaaRaidEq
import Derived.Deep.Slices
import Derived.Deep.SlicePairs
import Derived.Deep.Fields
import Derived.ChangeSame
namespace Go.Proofs.Ytcaoekaephnimaa
open Go.RowKit Go.ChangeShapes Go.WideShapes Go.Deep Go.Joins
set_option maxRecDepth 100000
set_option linter.unusedVariables false

/-- disks that came in -/
def RaidS (w : World) (A : Option Addr) (n c : Nat) (ds : List DV) : Prop :=
  n ≤ c ∧ c ≤ maxLen ∧ ds.length = n ∧ Rd w 3 A n (rCells ds) ∧ ∀ d ∈ ds, Strs w d.A1 d.n1 d.c1 d.z1 ∧ WaitS w d.A2 d.n2 d.c2 d.z2
theorem RaidS.after {w w' : World} {A : Option Addr} {n c : Nat} {ds : List DV} (h : RaidS w A n c ds) (hb : Below w.heap.size w w') : RaidS w' A n c ds := by
  obtain ⟨h1, h2, h3, h4, h5⟩ := h
  refine ⟨h1, h2, h3, h4.after hb, fun d hd => ?_⟩
  obtain ⟨⟨a1, a2, a3, a4, a5⟩, b1, b2, b3, b4, b5⟩ := h5 d hd
  exact ⟨⟨a1, a2, a3, a4, a5.after hb⟩, b1, b2, b3, b4, b5.after hb⟩
theorem RaidS.rin {w : World} {A : Option Addr} {n c : Nat} {ds : List DV} (h : RaidS w A n c ds) : RIn w A n ds := by
  obtain ⟨h1, h2, h3, h4, h5⟩ := h
  refine ⟨h4, fun d hd => ?_⟩
  obtain ⟨⟨a1, a2, a3, a4, a5⟩, b1, b2, b3, b4, b5⟩ := h5 d hd
  exact ⟨a5, b5, Nat.le_trans a1 a2, Nat.le_trans b1 b2⟩
instance instDV : Inhabited DV := ⟨⟨none, 0, 0, none, 0, 0, false, [], []⟩⟩
section
variable {H : Type} {enc : TypeId × Value → H} {w : World} {base : Nat}
theorem slice_fieldsR {P : Program} {spare : Nat → Bool} {held : Bool} {t e : TypeId} {fs : Array Field} {fuel : Nat} {cs : List Value} {x : DataW H × List MemPlace} (ht : P.underlying t = some (.slice e)) (he : P.underlying e = some (.struct fs))
    (hone : oneCellFields P fs = true) (hC : P.cellsOf e = fs.size) (h : DataW.trod enc P w base spare held fuel t cs = some x) :
    cs = [.slice none 0 0] ∨ ∃ (a : Addr) (len cap m : Nat), cs = [.slice (some a) len cap] ∧ len ≤ cap ∧ cap ≤ maxLen ∧ m = (if spare a.block then cap else len) ∧
      ∀ i, i < m → ∀ (j : Nat) (f : Field), fs[j]? = some f → ∃ (n : Nat) (v : Value) (y : DataW H × List MemPlace), w.cell? (a.add (i * fs.size + j)) = some v ∧ DataW.trod enc P w base spare held n f.type [v] = some y := by
  rcases open_slice ht h with h0 | ⟨a, len, cap, m, n, D, Pl, hcs, hb, hl, hm, hmm, hx, hi⟩
  · exact .inl h0.1
  · refine .inr ⟨a, len, cap, m, hcs, hl, hm, hmm, fun i him j f hj => ?_⟩
    obtain ⟨cs', hc, ht'⟩ := hi i him
    rw [hC] at hc
    obtain ⟨ys, n', hn', hy, hlen, hyl, hf⟩ := DataW.trod_struct he ht'
    obtain ⟨_, hcl, hat⟩ := World.cells?_some hc
    obtain ⟨ho, hk⟩ := hone_of hone j f hj
    have hjl : j < fs.size := (Array.getElem?_eq_some_iff.1 hj).1
    have hcell := hat j hjl
    have hv : cs'[j]? = some (cs'[j]'(by omega)) := List.getElem?_eq_getElem (by omega)
    have h1 := hf j f hj
    rw [ho, hk] at h1
    have hone' : (cs'.drop j).take 1 = [cs'[j]'(by omega)] := by
      rw [List.drop_eq_getElem_cons (by omega)]
      rfl
    rw [hone'] at h1
    have hys : ys[j]? = some (ys[j]'(by omega)) := List.getElem?_eq_getElem (by omega)
    refine ⟨_, _, _, ?_, h1.trans hys⟩
    rw [← Go.Deep.add_add, hcell, hv]
theorem rCells_of (ds : List DV) (j : Nat) (u : Value) (h : (rCells ds)[j]? = some u) : ∃ k d i, i < 3 ∧ ds[k]? = some d ∧ j = k * 3 + i ∧ d.cells[i]? = some u := by
  have hl : j < ds.length * 3 := by
    have := (List.getElem?_eq_some_iff.1 h).1
    rw [rCells_len] at this
    omega
  have hk : j / 3 < ds.length := by omega
  have hi : j % 3 < 3 := by omega
  have e : j / 3 * 3 + j % 3 = j := by omega
  refine ⟨j / 3, ds[j / 3], j % 3, hi, List.getElem?_eq_getElem hk, e.symm, ?_⟩
  obtain ⟨h0, h1, h2⟩ := rCells_at ds (j / 3) _ (List.getElem?_eq_getElem hk)
  rw [← e] at h
  obtain ⟨i, hie⟩ : ∃ i, i = j % 3 := ⟨_, rfl⟩
  rw [← hie] at h hi ⊢
  match i, hi with
  | 0, _ => rw [Nat.add_zero, h0] at h; exact h
  | 1, _ => rw [h1] at h; exact h
  | 2, _ => rw [h2] at h; exact h
theorem raid_of_trod {c : Value} {n0 : Nat} {y : DataW H × List MemPlace} (h : DataW.trod enc Try.prog w 0 (fun _ => true) true n0 29 [c] = some y) :
    ∃ (A : Option Addr) (n c' : Nat) (ds : List DV), c = .slice A n c' ∧ RaidS w A n c' ds := by
  rcases slice_fieldsR Try.underlying29 Try.underlying82 (by kernel_rfl) (by kernel_rfl) h with hcs | ⟨a, len, cap, m, hcs, hl, hm, hmm, hcell⟩
  · simp only [List.cons.injEq, and_true] at hcs
    subst hcs
    exact ⟨none, 0, 0, [], rfl, Nat.le_refl _, by simp [maxLen], rfl, ⟨rfl, fun h => absurd h (by omega)⟩, by simp⟩
  · simp only [List.cons.injEq, and_true] at hcs
    subst hcs
    have hmc : m = cap := by simpa using hmm
    subst hmc
    have one : ∀ i, i < m → ∀ (j : Nat) (f : Field), (#[_, _, _] : Array Field)[j]? = some f → ∃ (n : Nat) (v : Value) (y : DataW H × List MemPlace), w.cell? (a.add (i * 3 + j)) = some v ∧ DataW.trod enc Try.prog w 0 (fun _ => true) true n f.type [v] = some y := hcell
    have each : ∀ i, i < m → ∃ q : DV, (Strs w q.A1 q.n1 q.c1 q.z1 ∧ WaitS w q.A2 q.n2 q.c2 q.z2) ∧ ∀ j, j < 3 → w.cell? (a.add (i * 3 + j)) = q.cells[j]? := by
      intro i hi
      obtain ⟨_, _, _, c0, t0⟩ := one i hi 0 _ rfl
      obtain ⟨_, _, _, c1, t1⟩ := one i hi 1 _ rfl
      obtain ⟨_, _, _, c2, t2⟩ := one i hi 2 _ rfl
      obtain ⟨A1, n1, d1, z1, rfl, i1⟩ := strs_of_trod t0
      obtain ⟨A2, n2, d2, z2, rfl, i2⟩ := waits_of_trod t1
      obtain ⟨b, e2, _⟩ := DataW.trod_bool Try.underlying4 t2
      simp only [List.cons.injEq, and_true] at e2
      subst e2
      refine ⟨⟨A1, n1, d1, A2, n2, d2, b, z1, z2⟩, ⟨i1, i2⟩, fun j hj => ?_⟩
      match j, hj with
      | 0, _ => exact c0
      | 1, _ => exact c1
      | 2, _ => exact c2
    obtain ⟨q, hq⟩ := choose_lt each
    have hsp : 0 < len → ∃ b o, a = ⟨b, o, none⟩ ∧ b < w.heap.size := by
      intro hn
      have h0 : w.cell? (a.add (0 * 3 + 0)) = some (.slice (q 0).A1 (q 0).n1 (q 0).c1) := (hq 0 (by omega)).2 0 (by omega)
      have hsp : a.spot = none := by simpa [Addr.add] using World.cell?_spot h0
      obtain ⟨b, o, sp⟩ := a
      subst hsp
      refine ⟨b, o, rfl, ?_⟩
      have : w.heap[b]? ≠ none := by
        intro he
        simp [World.cell?, he, Addr.add] at h0
      rcases Nat.lt_or_ge b w.heap.size with hl | hl
      · exact hl
      · exact absurd (Array.getElem?_eq_none hl) this
    refine ⟨some a, len, m, (List.range len).map q, rfl, hl, hm, by simp, ?_, ?_⟩
    · refine ⟨by rw [rCells_len]; simp; omega, fun hn => ?_⟩
      obtain ⟨b, o, rfl, hb⟩ := hsp hn
      refine ⟨b, o, rfl, hb, fun j u hu => ?_⟩
      obtain ⟨k, z, i, hi, hz, rfl, hju⟩ := rCells_of _ j u hu
      rw [List.getElem?_map] at hz
      obtain ⟨k', hk', rfl⟩ := Option.map_eq_some_iff.1 hz
      have hk : k < len := by
        have := (List.getElem?_eq_some_iff.1 hk').1
        simpa using this
      rw [List.getElem?_range hk] at hk'
      injection hk' with hk'
      subst hk'
      have h0 := (hq k (by omega)).2 i hi
      rw [Addr.add_lit] at h0
      rw [← hju, ← h0]
    · intro z hz
      obtain ⟨i, hi, rfl⟩ := List.mem_map.1 hz
      have hi2 : i < len := by simpa using hi
      exact (hq i (by omega)).1
theorem open_Raid {v : Value} {dd : DataW H} {p : List MemPlace} (hv : Value.okWide Try.prog w .any base 31 v) (h : DataW.Trod enc Try.prog w 0 (fun _ => true) true 31 v dd p) :
    ∃ (A : Option Addr) (n c : Nat) (ds : List DV), v = .agg #[.slice A n c] ∧ RaidS w A n c ds := by
  obtain ⟨cs, rfl, hsz⟩ := okWide_struct Try.underlying31 hv
  obtain ⟨l⟩ := cs
  have hl : l.length = 1 := hsz.trans (by kernel_rfl)
  obtain ⟨fuel, hf⟩ := h
  obtain ⟨xs, n, _, hx, _, hlen, hg⟩ := DataW.trod_struct Try.underlying31 hf
  match l, hl with
  | [c0], _ =>
    match xs, hlen with
    | [y0], _ =>
      have k0 : Try.prog.cellsOf 29 = 1 := by kernel_rfl
      have g0 : DataW.trod enc Try.prog w 0 (fun _ => true) true n 29 [c0] = some y0 := by simpa [Value.cells, k0] using hg 0 _ rfl
      obtain ⟨A1, n1, d1, ds, rfl, i1⟩ := raid_of_trod g0
      exact ⟨A1, n1, d1, ds, rfl, i1⟩
end
end Go.Proofs.Ytcaoekaephnimaa
