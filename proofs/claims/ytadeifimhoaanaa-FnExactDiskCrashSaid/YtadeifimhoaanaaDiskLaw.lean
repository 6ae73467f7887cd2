/- Disks on which nothing waits are marked; the walks of the laws FnExactDiskNew and FnExactDiskLose. -/
import Derived.Test.YtadeifimhoaanaaDiskEq
namespace Go.Proofs.Ytadeifimhoaanaa
open Go.RowKit
set_option linter.unusedVariables false

set_option maxHeartbeats 400000 in
theorem markWaitS_nil (A : Option Addr) (c : Nat) (i : Int) (w : World) :
    Calls Try.prog 40 #[.slice A 0 c, .int .i64 i] w fun r w' => r = .returned (.int .i64 i) ∧ w = w' := by
  go_enter Try.func40, Try.ntmps40
  go_wp2
  go_loop [1, 5] (fun q j => q = .int .i64 i ∧ j = .int .i64 0) (fun _ _ => 0)
  case atStart => exact ⟨rfl, rfl⟩
  case round =>
    obtain ⟨rfl, rfl⟩ := hrel
    go_wp2
    go_ret
    exact ⟨rfl, rfl⟩
set_option maxHeartbeats 400000 in
theorem heldWaitS_nil (A : Option Addr) (c : Nat) (i : Int) (w : World) :
    Calls Try.prog 42 #[.slice A 0 c, .int .i64 i] w fun r w' => r = .returned (.int .i64 i) ∧ w = w' := by
  go_enter Try.func42, Try.ntmps42
  go_wp2
  go_loop [1, 5] (fun q j => q = .int .i64 i ∧ j = .int .i64 0) (fun _ _ => 0)
  case atStart => exact ⟨rfl, rfl⟩
  case round =>
    obtain ⟨rfl, rfl⟩ := hrel
    go_wp2
    go_ret
    exact ⟨rfl, rfl⟩

/-- marks on a disk of 64 cells on which nothing waits -/
theorem markDisk_0 (g1 : Nat) (B : Option Addr) (cs : Array Value) (g : Bool) (w : World) (b1 : Bk w g1 9 cs) (hs : cs.size = 64) :
    Calls Try.prog 17 #[.agg #[.slice (some ⟨g1, 0, none⟩) 64 64, .slice B 0 0, .bool g], .int .i64 1] w fun r w' => r = .returned (.int .i64 65) ∧
      Rd w' 1 (some ⟨g1, 0, none⟩) 64 (marksT 1 64) ∧ Fr (· = g1) w w' := by
  have hb0 := bel1 w (.cells #[.slice (some ⟨g1, 0, none⟩) 64 64, .slice B 0 0, .bool g] 25)
  have K0 := hide (Bk.fresh w 25 #[.slice (some ⟨g1, 0, none⟩) 64 64, .slice B 0 0, .bool g])
  have B1 := hide (b1.after hb0)
  have lt1 := hide b1.lt
  clear b1
  go_enter Try.func17, Try.ntmps17
  go_wp2_with fail
  refine (markStringS_at (j := 65) 1 (by rfl) (by rfl) _ B1.out (by omega) (by omega) (by omega)).mono ?_; rintro r w1 ⟨rfl, ⟨t1, T1, ts1, tm1⟩, hf1⟩
  obtain ⟨q0, q1, q2⟩ := (K0.out.fr hf1 (fun e => by have := lt1.out; omega)).c3
  have HM := hide (marksT_rd T1 tm1)
  have HF := hide hf1
  have HB0 := hide hb0
  clear T1 ts1 tm1 hf1 hb0
  go_wp2_with fail
  refine (markWaitS_nil _ _ _ _).mono ?_; rintro r w2 ⟨rfl, rfl⟩
  go_wp2_with fail
  go_ret
  exact ⟨rfl, HM.out, (Fr.of_below _ HB0.out).trans HF.out⟩
theorem heldDisk_0 (A : Option Addr) (B : Option Addr) (g : Bool) (w : World) (h1 : Rd w 1 A 64 (marksT 1 64)) :
    Calls Try.prog 18 #[.agg #[.slice A 64 64, .slice B 0 0, .bool g], .int .i64 1] w fun r w' => r = .returned (.int .i64 65) ∧ Below w.heap.size w w' := by
  have hb0 := bel1 w (.cells #[.slice A 64 64, .slice B 0 0, .bool g] 25)
  have K0 := hide (Bk.fresh w 25 #[.slice A 64 64, .slice B 0 0, .bool g])
  have H1 := hide (h1.after hb0)
  clear h1
  go_enter Try.func18, Try.ntmps18
  go_wp2_with fail
  refine (heldStringS_at (j := 65) 1 (by rfl) (by rfl) _ H1.out (by omega) (by omega)).mono ?_; rintro r w1 ⟨rfl, hb1⟩
  obtain ⟨q0, q1, q2⟩ := (K0.out.after hb1).c3
  go_wp2_with fail
  refine (heldWaitS_nil _ _ _ _).mono ?_; rintro r w2 ⟨rfl, rfl⟩
  go_wp2_with fail
  go_ret
  exact ⟨rfl, bnext hb0 (Nat.le_refl _) hb1⟩

set_option maxHeartbeats 4000000 in
theorem fnExactDiskNew_walk (w : World) : Calls Try.prog 3 #[] w fun r w' => r = .returned (.bool true) ∧ Below w.heap.size w w' := by
  have e0 : ∀ g, eqD (List.replicate 64 (ByteArray.mk #[])) (List.replicate 64 (ByteArray.mk #[])) [] [] g g = true := fun g => eqD_same _ _ _
  have E := hide e0
  clear e0
  go_enter Try.func3, Try.ntmps3
  go_wp2_with fail
  refine (specDiskNew_any _).mono ?_; rintro r w1 ⟨gs, Bs, rfl, hgs, hBs, hb1⟩
  have hb2 := hb1.alloc hb1.size (.cells #[.slice (some ⟨gs, 0, none⟩) 64 64, .slice Bs 0 0, .bool false] 25)
  have HB := hide hb2
  have KS := hide (hBs.alloc (.cells #[.slice (some ⟨gs, 0, none⟩) 64 64, .slice Bs 0 0, .bool false] 25))
  have KW := hide (Bk.fresh w1 25 #[.slice (some ⟨gs, 0, none⟩) 64 64, .slice Bs 0 0, .bool false])
  have hs1 := hb1.size
  have hlt := hBs.lt
  clear hb1 hb2 hBs
  go_wp2_with fail
  refine (implDiskNew_any _).mono ?_; rintro r w2 ⟨gg, Bg, rfl, hgg, hBg, hb3⟩
  have hgg2 : w1.heap.size + 1 ≤ gg := by simpa using hgg
  have hb4 := hb3.alloc hb3.size (.cells #[.slice (some ⟨gg, 0, none⟩) 64 64, .slice Bg 0 0, .bool false] 25)
  have hb34 := hb3.size
  have hsz2 : w1.heap.size + 1 ≤ w2.heap.size := by simpa using hb34
  have HB := hide (HB.out.trans (hb4.mono HB.out.size))
  have KS := hide (KS.out.after hb4)
  have KW := hide (KW.out.after hb4)
  have KG := hide (hBg.alloc (.cells #[.slice (some ⟨gg, 0, none⟩) 64 64, .slice Bg 0 0, .bool false] 25))
  have KX := hide (Bk.fresh w2 25 #[.slice (some ⟨gg, 0, none⟩) 64 64, .slice Bg 0 0, .bool false])
  have hlg := hBg.lt
  clear hb3 hb4 hBg hgg hb34
  obtain ⟨a0, a1, a2⟩ := KW.out.c3
  go_wp2_with fail
  refine (eqDisk_v (E.out false) _ (es64_rd KG.out) (Rd.nil _ _ _) (es64_rd KS.out) (Rd.nil _ _ _) (by decide) (by decide)).mono ?_; rintro r w3 ⟨rfl, hb5⟩
  have HB := hide (HB.out.trans (hb5.mono HB.out.size))
  have KS := hide (KS.out.after hb5)
  have KW := hide (KW.out.after hb5)
  have KG := hide (KG.out.after hb5)
  have KX := hide (KX.out.after hb5)
  clear hb5 a0 a1 a2
  obtain ⟨x0, x1, x2⟩ := KX.out.c3
  go_wp2_with fail
  refine (markDisk_0 gg Bg _ false _ KG.out es64_size).mono ?_; rintro r w4 ⟨rfl, hM, hf⟩
  have HM := hide hM
  have HB := hide (HB.out.trans (hf.below (Nat.le_trans (Nat.le_of_eq rfl) HB.out.size) (fun i e => by omega)))
  have KS := hide (KS.out.fr hf (by omega))
  have KW := hide (KW.out.fr hf (by omega))
  have KX := hide (KX.out.fr hf (by omega))
  clear hM hf x0 x1 x2
  obtain ⟨x0, x1, x2⟩ := KX.out.c3
  go_wp2_with fail
  refine (heldDisk_0 _ Bg false _ HM.out).mono ?_; rintro r w5 ⟨rfl, hb6⟩
  have HB := hide (HB.out.trans (hb6.mono HB.out.size))
  have HM := hide (HM.out.after hb6)
  have KS := hide (KS.out.after hb6)
  have KW := hide (KW.out.after hb6)
  have KX := hide (KX.out.after hb6)
  clear hb6 x0 x1 x2
  go_wp2_with fail
  refine (implDiskNew_any _).mono ?_; rintro r w6 ⟨gh, Bh, rfl, hgh, hBh, hb7⟩
  have hb8 := hb7.alloc hb7.size (.cells #[.slice (some ⟨gh, 0, none⟩) 64 64, .slice Bh 0 0, .bool false] 25)
  have HB := hide (HB.out.trans (hb8.mono HB.out.size))
  have HM := hide (HM.out.after hb8)
  have KS := hide (KS.out.after hb8)
  have KW := hide (KW.out.after hb8)
  have KX := hide (KX.out.after hb8)
  have KH := hide (hBh.alloc (.cells #[.slice (some ⟨gh, 0, none⟩) 64 64, .slice Bh 0 0, .bool false] 25))
  clear hb7 hb8 hBh hgh
  obtain ⟨a0, a1, a2⟩ := KW.out.c3
  go_wp2_with fail
  refine (eqDisk_v (E.out false) _ (es64_rd KH.out) (Rd.nil _ _ _) (es64_rd KS.out) (Rd.nil _ _ _) (by decide) (by decide)).mono ?_; rintro r w7 ⟨rfl, hb9⟩
  have HB := hide (HB.out.trans (hb9.mono HB.out.size))
  have HM := hide (HM.out.after hb9)
  have KX := hide (KX.out.after hb9)
  clear hb9 a0 a1 a2
  obtain ⟨x0, x1, x2⟩ := KX.out.c3
  go_wp2_with fail
  refine (heldDisk_0 _ Bg false _ HM.out).mono ?_; rintro r w8 ⟨rfl, hb10⟩
  go_wp2_with fail
  go_ret
  exact ⟨rfl, HB.out.trans (hb10.mono HB.out.size)⟩

set_option maxHeartbeats 4000000 in
theorem fnExactDiskLose_walk (w : World) : Calls Try.prog 4 #[] w fun r w' => r = .returned (.bool true) ∧ Below w.heap.size w w' := by
  have e0 : ∀ g, eqD (List.replicate 64 (ByteArray.mk #[])) (List.replicate 64 (ByteArray.mk #[])) [] [] g g = true := fun g => eqD_same _ _ _
  have E := hide e0
  clear e0
  go_enter Try.func4, Try.ntmps4
  go_wp2_with fail
  refine (specDiskLose_any _).mono ?_; rintro r w1 ⟨gs, Bs, rfl, hgs, hBs, hb1⟩
  have hb2 := hb1.alloc hb1.size (.cells #[.slice (some ⟨gs, 0, none⟩) 64 64, .slice Bs 0 0, .bool true] 25)
  have HB := hide hb2
  have KS := hide (hBs.alloc (.cells #[.slice (some ⟨gs, 0, none⟩) 64 64, .slice Bs 0 0, .bool true] 25))
  have KW := hide (Bk.fresh w1 25 #[.slice (some ⟨gs, 0, none⟩) 64 64, .slice Bs 0 0, .bool true])
  have hs1 := hb1.size
  have hlt := hBs.lt
  clear hb1 hb2 hBs
  go_wp2_with fail
  refine (implDiskLose_any _).mono ?_; rintro r w2 ⟨gg, Bg, rfl, hgg, hBg, hb3⟩
  have hgg2 : w1.heap.size + 1 ≤ gg := by simpa using hgg
  have hb4 := hb3.alloc hb3.size (.cells #[.slice (some ⟨gg, 0, none⟩) 64 64, .slice Bg 0 0, .bool true] 25)
  have hb34 := hb3.size
  have hsz2 : w1.heap.size + 1 ≤ w2.heap.size := by simpa using hb34
  have HB := hide (HB.out.trans (hb4.mono HB.out.size))
  have KS := hide (KS.out.after hb4)
  have KW := hide (KW.out.after hb4)
  have KG := hide (hBg.alloc (.cells #[.slice (some ⟨gg, 0, none⟩) 64 64, .slice Bg 0 0, .bool true] 25))
  have KX := hide (Bk.fresh w2 25 #[.slice (some ⟨gg, 0, none⟩) 64 64, .slice Bg 0 0, .bool true])
  have hlg := hBg.lt
  clear hb3 hb4 hBg hgg hb34
  obtain ⟨a0, a1, a2⟩ := KW.out.c3
  go_wp2_with fail
  refine (eqDisk_v (E.out true) _ (es64_rd KG.out) (Rd.nil _ _ _) (es64_rd KS.out) (Rd.nil _ _ _) (by decide) (by decide)).mono ?_; rintro r w3 ⟨rfl, hb5⟩
  have HB := hide (HB.out.trans (hb5.mono HB.out.size))
  have KS := hide (KS.out.after hb5)
  have KW := hide (KW.out.after hb5)
  have KG := hide (KG.out.after hb5)
  have KX := hide (KX.out.after hb5)
  clear hb5 a0 a1 a2
  obtain ⟨x0, x1, x2⟩ := KX.out.c3
  go_wp2_with fail
  refine (markDisk_0 gg Bg _ true _ KG.out es64_size).mono ?_; rintro r w4 ⟨rfl, hM, hf⟩
  have HM := hide hM
  have HB := hide (HB.out.trans (hf.below (Nat.le_trans (Nat.le_of_eq rfl) HB.out.size) (fun i e => by omega)))
  have KS := hide (KS.out.fr hf (by omega))
  have KW := hide (KW.out.fr hf (by omega))
  have KX := hide (KX.out.fr hf (by omega))
  clear hM hf x0 x1 x2
  obtain ⟨x0, x1, x2⟩ := KX.out.c3
  go_wp2_with fail
  refine (heldDisk_0 _ Bg true _ HM.out).mono ?_; rintro r w5 ⟨rfl, hb6⟩
  have HB := hide (HB.out.trans (hb6.mono HB.out.size))
  have HM := hide (HM.out.after hb6)
  have KS := hide (KS.out.after hb6)
  have KW := hide (KW.out.after hb6)
  have KX := hide (KX.out.after hb6)
  clear hb6 x0 x1 x2
  go_wp2_with fail
  refine (implDiskLose_any _).mono ?_; rintro r w6 ⟨gh, Bh, rfl, hgh, hBh, hb7⟩
  have hb8 := hb7.alloc hb7.size (.cells #[.slice (some ⟨gh, 0, none⟩) 64 64, .slice Bh 0 0, .bool true] 25)
  have HB := hide (HB.out.trans (hb8.mono HB.out.size))
  have HM := hide (HM.out.after hb8)
  have KS := hide (KS.out.after hb8)
  have KW := hide (KW.out.after hb8)
  have KX := hide (KX.out.after hb8)
  have KH := hide (hBh.alloc (.cells #[.slice (some ⟨gh, 0, none⟩) 64 64, .slice Bh 0 0, .bool true] 25))
  clear hb7 hb8 hBh hgh
  obtain ⟨a0, a1, a2⟩ := KW.out.c3
  go_wp2_with fail
  refine (eqDisk_v (E.out true) _ (es64_rd KH.out) (Rd.nil _ _ _) (es64_rd KS.out) (Rd.nil _ _ _) (by decide) (by decide)).mono ?_; rintro r w7 ⟨rfl, hb9⟩
  have HB := hide (HB.out.trans (hb9.mono HB.out.size))
  have HM := hide (HM.out.after hb9)
  have KX := hide (KX.out.after hb9)
  clear hb9 a0 a1 a2
  obtain ⟨x0, x1, x2⟩ := KX.out.c3
  go_wp2_with fail
  refine (heldDisk_0 _ Bg true _ HM.out).mono ?_; rintro r w8 ⟨rfl, hb10⟩
  go_wp2_with fail
  go_ret
  exact ⟨rfl, HB.out.trans (hb10.mono HB.out.size)⟩

end Go.Proofs.Ytadeifimhoaanaa
