/- The law FnExactRaidNew, walked. -/
import Derived.Test.YtcaoekaephnimaaRaidMark
import Derived.Test.YtcaoekaephnimaaRaidNew
namespace Go.Proofs.Ytcaoekaephnimaa
open Go.RowKit
set_option linter.unusedVariables false
set_option maxRecDepth 100000

/-- a new disk in a row -/
def dv (p : Nat × Option Addr) : DV := { A1 := some ⟨p.1, 0, none⟩, n1 := 64, c1 := 64, A2 := p.2, n2 := 0, c2 := 0, g := false, z1 := List.replicate 64 ⟨#[]⟩, z2 := [] }
theorem dv_cells (gs : List (Nat × Option Addr)) : rCells (gs.map dv) = dCells gs := by
  induction gs with
  | nil => rfl
  | cons p gs ih =>
    show (dv p).cells ++ rCells (gs.map dv) = dC p ++ dCells gs
    rw [ih]
    rfl
theorem es64_row {w : World} {g : Nat} (h : Bk w g 9 (es64 ())) : Row w g 9 ((List.replicate 64 (ByteArray.mk #[])).map Value.string) := by
  refine ⟨_, h, by rw [es64_size]; simp, fun j hj => ?_⟩
  have hj : j < 64 := by simpa using hj
  have hr := (es64_rd h).at_ (by decide)
  obtain ⟨b, o, e, _, hc⟩ := hr
  injection e with e
  injection e with e1 e2 _
  subst e1 e2
  have h1 := hc j _ (List.getElem?_eq_getElem (show j < ((List.replicate 64 (ByteArray.mk #[])).map Value.string).length by simpa using hj))
  rw [Nat.zero_add, h.cell] at h1
  rw [h1]
  exact (List.getElem?_eq_getElem _).symm
theorem NewRaid.own {w : World} {r : Ending} {w' : World} (h : NewRaid w r w') : ∃ V ds, r = .returned (.agg #[V]) ∧ OwnR w.heap.size w' V ds ∧ ds.map DV.val = List.replicate 3 (List.replicate 64 ⟨#[]⟩, [], false) ∧ Below w.heap.size w w' := by
  obtain ⟨V, gs, rfl, h3, _, ho, he, ha, hb⟩ := h
  refine ⟨V, gs.map dv, rfl, ⟨?_, fun d hd => ?_, ?_⟩, ?_, hb⟩
  · rw [dv_cells, List.length_map]; exact ho
  · obtain ⟨p, hp, rfl⟩ := List.mem_map.1 hd
    obtain ⟨h1, h2, h4⟩ := he p hp
    exact ⟨rfl, h1, rfl, rfl, rfl, by show (List.replicate 64 _).length = 64; simp, es64_row h4, rfl⟩
  · rw [List.pairwise_map]; exact ha
  · rw [List.map_map]
    have : gs.map (DV.val ∘ dv) = gs.map (fun _ => ((List.replicate 64 (ByteArray.mk #[]), [], false) : List ByteArray × List (Int × ByteArray) × Bool)) := List.map_congr_left (fun _ _ => rfl)
    rw [this, List.map_const', h3]
set_option maxHeartbeats 2000000 in
theorem fnExactRaidNew_walk (w : World) : Calls Try.prog 3 #[] w fun r w' => r = .returned (.bool true) ∧ Below w.heap.size w w' := by
  have HS := hide (fun w => (specRaidNew_any w).mono fun r w' h => h.own)
  have HI := hide (fun w => (implRaidNew_any w).mono fun r w' h => h.own)
  go_enter Try.func3, Try.ntmps3
  go_wp2_with fail
  refine (HS.out _).mono ?_; rintro r w1 ⟨V0, ds0, rfl, ho0, hv0, hb⟩
  obtain ⟨A0, c0, rfl⟩ := ho0.shape
  have l0 : ds0.length = 3 := by have := congrArg List.length hv0; simpa using this
  rw [l0] at ho0
  rw [l0]
  have R0 := hide (ho0.rin.after (bel1 w1 (.cells #[.slice A0 3 c0] 24)))
  have K0 := hide (Bk.fresh w1 24 #[.slice A0 3 c0])
  have B0 := hide (hb.alloc hb.size (.cells #[.slice A0 3 c0] 24))
  have V0 := hide hv0
  clear ho0 hv0 hb l0
  go_wp2_with fail
  obtain ⟨WA, hWA⟩ : ∃ W : World, W = w1.alloc (.cells #[.slice A0 3 c0] 24) := ⟨_, rfl⟩
  rw [← hWA] at R0 K0 B0
  rw [← hWA]
  have HWA := hide hWA
  clear hWA
  refine (HI.out _).mono ?_; rintro r w2 ⟨V1, ds1, rfl, ho1, hv1, hb⟩
  obtain ⟨A1, c1, rfl⟩ := ho1.shape
  have l1 : ds1.length = 3 := by have := congrArg List.length hv1; simpa using this
  rw [l1] at ho1
  rw [l1]
  have BA := hide (hb.alloc hb.size (.cells #[.slice A1 3 c1] 24))
  have O1 := hide (ho1.after (bel1 w2 (.cells #[.slice A1 3 c1] 24)))
  have K1 := hide (Bk.fresh w2 24 #[.slice A1 3 c1])
  have KB := hide (show WA.heap.size ≤ w2.heap.size from hb.size)
  have HV := hide (show eqV ds1 ds0 = true from decide_eq_true (by rw [hv1, V0.out]))
  have K0' := hide (K0.out.after BA.out)
  clear ho1 hv1 hb l1
  have t0 := K0'.out.c1
  have t1 := K1.out.c1
  go_wp2_with fail
  refine (eqRaid_v HV.out _ O1.out.rin (R0.out.after BA.out) (by unfold maxLen; omega)).mono ?_; rintro r w3 ⟨rfl, hb⟩
  have O1 := hide (O1.out.after hb)
  have K0 := hide (K0'.after hb)
  have K1 := hide (K1.out.after hb)
  have BA := hide (BA.out.trans (hb.mono BA.out.size))
  clear hb t0 t1 K0'
  have t1 := K1.out.c1
  have HHD := hide (fun w A c h => heldRaid_m (w := w) (A := A) (c := c) (n := 3) (ds := ds1) h (by omega))
  have HMK := hide (fun w h => markRaid_own (w := w) (A := A1) (c := c1) (n := 3) (ds := ds1) (B := WA.heap.size) h (by omega))
  obtain ⟨M, hM⟩ : ∃ M : Nat, M = 1 + 65 * 3 := ⟨_, rfl⟩
  have HM := hide hM
  rw [← hM] at HHD HMK
  have hM1 : M ≤ 1000 := by omega
  clear hM
  go_wp2_with fail
  refine (HMK.out _ O1.out).mono ?_; rintro r w4 ⟨rfl, hm, hf⟩
  have K0 := hide (K0.out.fr hf (Sd.not K0.out))
  have K1 := hide (K1.out.fr hf (Sd.not K1.out))
  have MM := hide hm
  have BA := hide (BA.out.trans (hf.below BA.out.size (fun i h => h.1)))
  clear hm hf t1
  have t1 := K1.out.c1
  go_wp2_with fail
  refine (HHD.out _ _ _ MM.out).mono ?_; rintro r w5 ⟨rfl, hb⟩
  have K0 := hide (K0.out.after hb)
  have K1 := hide (K1.out.after hb)
  have MM := hide (MM.out.after hb)
  have BA := hide (BA.out.trans (hb.mono BA.out.size))
  clear hb t1
  go_wp2_with fail
  refine (HI.out _).mono ?_; rintro r w6 ⟨V2, ds2, rfl, ho2, hv2, hb⟩
  obtain ⟨A2, c2, rfl⟩ := ho2.shape
  have l2 : ds2.length = 3 := by have := congrArg List.length hv2; simpa using this
  rw [l2] at ho2
  rw [l2]
  have hbA := bel1 w6 (.cells #[.slice A2 3 c2] 24)
  have O2 := hide (ho2.after hbA)
  have K2 := hide (Bk.fresh w6 24 #[.slice A2 3 c2])
  have HV2 := hide (show eqV ds2 ds0 = true from decide_eq_true (by rw [hv2, V0.out]))
  have K0 := hide ((K0.out.after hb).after hbA)
  have K1 := hide ((K1.out.after hb).after hbA)
  have MM := hide ((MM.out.after hb).after hbA)
  have BA := hide ((BA.out.trans (hb.mono BA.out.size)).trans (hbA.mono (BA.out.trans (hb.mono BA.out.size)).size))
  clear ho2 hv2 hb l2 hbA
  have t0 := K0.out.c1
  have t2 := K2.out.c1
  go_wp2_with fail
  refine (eqRaid_v HV2.out _ O2.out.rin (R0.out.after BA.out) (by unfold maxLen; omega)).mono ?_; rintro r w7 ⟨rfl, hb⟩
  have K1 := hide (K1.out.after hb)
  have MM := hide (MM.out.after hb)
  have BA := hide (BA.out.trans (hb.mono BA.out.size))
  clear hb t0 t2
  have t1 := K1.out.c1
  go_wp2_with fail
  refine (HHD.out _ _ _ MM.out).mono ?_; rintro r w8 ⟨rfl, hb⟩
  have BA := hide (BA.out.trans (hb.mono BA.out.size))
  clear hb t1
  go_wp2_with fail
  go_ret
  exact ⟨rfl, B0.out.trans (BA.out.mono B0.out.size)⟩
end Go.Proofs.Ytcaoekaephnimaa
