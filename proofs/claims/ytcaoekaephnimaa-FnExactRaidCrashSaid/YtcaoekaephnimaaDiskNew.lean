/- New disks: what DiskNew and DiskLose of both sides make. -/
import Derived.Test.YtcaoekaephnimaaStrs
namespace Go.Proofs.Ytcaoekaephnimaa
open Go.RowKit
set_option linter.unusedVariables false

/-- 64 empty texts -/
def es64 (_ : Unit) : Array Value := madeCells #[.string ⟨#[]⟩] 64
/-- a new disk -/
def NewDisk (gone : Bool) (w : World) (r : Ending) (w' : World) : Prop :=
  ∃ (g1 : Nat) (B : Option Addr), r = .returned (.agg #[.slice (some ⟨g1, 0, none⟩) 64 64, .slice B 0 0, .bool gone]) ∧ w.heap.size ≤ g1 ∧ Bk w' g1 9 (es64 ()) ∧ Below w.heap.size w w'
theorem es64_rd {w : World} {g : Nat} (h : Bk w g 9 (es64 ())) : Rd w 1 (some ⟨g, 0, none⟩) 64 ((List.replicate 64 (ByteArray.mk #[])).map Value.string) :=
  h.rd (by simp) (fun j u hu => by
    rw [List.getElem?_map, List.getElem?_replicate] at hu
    by_cases hj : j < 64
    · rw [if_pos hj] at hu
      have hl : j < (es64 ()).size := by rw [show (es64 ()).size = 64 from size_madeCells _ _]; exact hj
      rw [← hu, Array.getElem?_eq_getElem hl]
      simp [es64, madeCells, Nat.mod_one]
    · rw [if_neg hj] at hu
      cases hu)
theorem es64_size : (es64 ()).size = 64 := size_madeCells _ _

theorem newA (w : World) (o : Obj) (z : Array Value) (t : TypeId) : Bk ((w.alloc o).alloc (.cells z t)) (w.heap.size + 1) t z ∧ Below w.heap.size w ((w.alloc o).alloc (.cells z t)) := by
  refine ⟨?_, ?_⟩
  · have h := Bk.fresh (w.alloc o) t z
    rwa [show (w.alloc o).heap.size = w.heap.size + 1 by simp] at h
  · exact ((Below.refl _ _).alloc (Nat.le_refl _) _).alloc (by simp) _
theorem newB (w : World) (o : Obj) (z : Array Value) (t : TypeId) (o2 : Obj) : Bk (((w.alloc o).alloc (.cells z t)).alloc o2) (w.heap.size + 1) t z ∧ Below w.heap.size w (((w.alloc o).alloc (.cells z t)).alloc o2) := by
  obtain ⟨a, b⟩ := newA w o z t
  exact ⟨a.alloc o2, b.alloc b.size _⟩

set_option maxHeartbeats 400000 in
theorem implDiskNew_any (w : World) : Calls Try.prog 33 #[] w (NewDisk false w) := by
  have hmk : ∀ w, (Instr.makeSlice 46 (.int .i64 64) (.int .i64 64)).run Try.prog w = .ok (.slice (some ⟨w.heap.size, 0, none⟩) 64 64) (w.alloc (.cells (es64 ()) 9)) := fun w => make_strs 64 (by omega) w
  go_enter Try.func33, Try.ntmps33
  go_wp2
  obtain ⟨b1, hb⟩ := newA w (.cells #[.slice (some ⟨w.heap.size + 1, 0, none⟩) 64 64, .slice none 0 0, .bool false] 49) (es64 ()) 9
  refine bodyPost_ret (v := .agg #[.slice (some ⟨w.heap.size + 1, 0, none⟩) 64 64, .slice none 0 0, .bool false]) (by simp [results, Try.results33, go_sem]) rfl ?_
  exact ⟨_, _, rfl, by omega, b1, hb⟩
set_option maxHeartbeats 400000 in
theorem specDiskNew_any (w : World) : Calls Try.prog 32 #[] w (NewDisk false w) := by
  have hmk : ∀ w, (Instr.makeSlice 46 (.int .i64 64) (.int .i64 64)).run Try.prog w = .ok (.slice (some ⟨w.heap.size, 0, none⟩) 64 64) (w.alloc (.cells (es64 ()) 9)) := fun w => make_strs 64 (by omega) w
  go_enter Try.func32, Try.ntmps32
  go_wp2
  obtain ⟨b1, hb⟩ := newB w (.cells #[.slice (some ⟨w.heap.size + 1, 0, none⟩) 64 64, .slice (some ⟨w.heap.size + 1 + 1, 0, none⟩) 0 0, .bool false] 49) (es64 ()) 9 (.cells #[] 74)
  refine bodyPost_ret (v := .agg #[.slice (some ⟨w.heap.size + 1, 0, none⟩) 64 64, .slice (some ⟨w.heap.size + 1 + 1, 0, none⟩) 0 0, .bool false]) (by simp [results, Try.results32, go_sem]) rfl ?_
  exact ⟨_, _, rfl, by omega, b1, hb⟩
set_option maxHeartbeats 400000 in
theorem specDiskLose_any (w : World) : Calls Try.prog 78 #[] w (NewDisk true w) := by
  go_enter Try.func78, Try.ntmps78
  go_wp2_with fail
  refine (specDiskNew_any _).mono ?_; rintro r w1 ⟨g1, B, rfl, hg, hB, hb⟩
  have K := hide hB
  have HB := hide hb
  have K0 := ((Bk.fresh w 49 #[.slice none 0 0, .slice none 0 0, .bool false]).after hb).alloc (.cells #[.slice (some ⟨g1, 0, none⟩) 64 64, .slice B 0 0, .bool true] 49)
  obtain ⟨q0, q1, q2⟩ := K0.c3
  have f0 := K0.frozen 0
  have f1 := K0.frozen 1
  have f2 := K0.frozen 2
  have P := hide (((K0.put 0 (.slice (some ⟨g1, 0, none⟩) 64 64)).put 1 (.slice B 0 0)).put 2 (.bool true))
  have hs := hb.size
  have he : (w.alloc (.cells #[.slice none 0 0, .slice none 0 0, .bool false] 49)).heap.size = w.heap.size + 1 := by simp
  rw [he] at hg hs
  clear hB hb K0
  go_wp2
  clear q0 q1 q2 f0 f1 f2
  obtain ⟨X, hX⟩ : ∃ X : World, X = (((w1.alloc (.cells #[.slice (some ⟨g1, 0, none⟩) 64 64, .slice B 0 0, .bool true] 49)).setCell ⟨w.heap.size, 0, none⟩ (.slice (some ⟨g1, 0, none⟩) 64 64)).setCell ⟨w.heap.size, 1, none⟩ (.slice B 0 0)).setCell ⟨w.heap.size, 2, none⟩ (.bool true) := ⟨_, rfl⟩
  rw [← hX] at P
  rw [← hX]
  obtain ⟨r0, r1, r2⟩ := Bk.c3 (a := .slice (some ⟨g1, 0, none⟩) 64 64) (b := .slice B 0 0) (c := .bool true) P.out
  have hfin : Bk X g1 9 (es64 ()) ∧ Below w.heap.size w X := by
    rw [hX]
    refine ⟨?_, ?_⟩
    · refine (((K.out.alloc _).far (p := ⟨w.heap.size, 0, none⟩) ?_ _).far (p := ⟨w.heap.size, 1, none⟩) ?_ _).far (p := ⟨w.heap.size, 2, none⟩) ?_ _
      all_goals
        show ¬ g1 = w.heap.size
        omega
    · have h1 := ((bel1 w (.cells #[.slice none 0 0, .slice none 0 0, .bool false] 49)).trans (HB.out.mono (by rw [he]; omega))).alloc (by omega) (.cells #[.slice (some ⟨g1, 0, none⟩) 64 64, .slice B 0 0, .bool true] 49)
      exact ((h1.setCell (p := ⟨w.heap.size, 0, none⟩) (Nat.le_refl _) _).setCell (p := ⟨w.heap.size, 1, none⟩) (Nat.le_refl _) _).setCell (p := ⟨w.heap.size, 2, none⟩) (Nat.le_refl _) _
  clear hX
  refine bodyPost_ret (v := .agg #[.slice (some ⟨g1, 0, none⟩) 64 64, .slice B 0 0, .bool true]) (by simp [results, Try.results78, go_sem, r0, r1, r2]) rfl ?_
  exact ⟨g1, B, rfl, by omega, hfin.1, hfin.2⟩
end Go.Proofs.Ytcaoekaephnimaa
