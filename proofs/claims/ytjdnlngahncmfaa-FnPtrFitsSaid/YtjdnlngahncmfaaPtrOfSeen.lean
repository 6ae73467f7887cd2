/- The walk of the law FnPtrOf. -/
import Derived.Test.YtjdnlngahncmfaaDrawPtr
namespace Go.Proofs.Ytjdnlngahncmfaa
open Go.RowKit
set_option linter.unusedVariables false

theorem OfPost.iff_no {a b e : Int} {s : ByteArray} {w : World} {r : Ending} {w' : World} (h : ofB a b e s = false) (hp : OfPost a b e s w r w') : r = .returned (.tuple #[.agg #[.int .i64 0, .int .i64 0, .int .i64 0, .int .i64 0, .int .i64 0], .bool false]) ∧ Below w.heap.size w w' := by
  obtain ⟨h1, h2⟩ := hp
  rw [h] at h1
  exact ⟨h1, h2⟩
theorem OfPost.iff_yes {a b e : Int} {s : ByteArray} {w : World} {r : Ending} {w' : World} (h : ofB a b e s = true) (hp : OfPost a b e s w r w') : r = .returned (.tuple #[.agg #[.int .i64 a, .int .i64 b, .int .i64 s.size, .int .i64 (sumOf s.data.toList), .int .i64 e], .bool true]) ∧ Below w.heap.size w w' := by
  obtain ⟨h1, h2⟩ := hp
  rw [h, if_pos rfl] at h1
  exact ⟨h1, h2⟩
theorem implPtrFits_v {a b c d e : Int} {s : ByteArray} {v : Bool} (h : fitsB a b c d e s = v) (hs : s.size ≤ maxLen) (w : World) :
    Calls Try.prog 9 #[.agg #[.int .i64 a, .int .i64 b, .int .i64 c, .int .i64 d, .int .i64 e], .string s] w fun r w' => r = .returned (.bool v) ∧ Below w.heap.size w w' := h ▸ implPtrFits_any a b c d e s hs w
theorem of_yes {a b e : Int} {s : ByteArray} (h : ofB a b e s = true) : okB a b s.size (sumOf s.data.toList) e = true ∧ holeB a b s.size (sumOf s.data.toList) e = false ∧ fitsB a b s.size (sumOf s.data.toList) e s = true := by
  have h0 := h
  unfold ofB at h
  rw [Bool.and_eq_true] at h
  obtain ⟨h1, h2⟩ := h
  have hh : holeB a b s.size (sumOf s.data.toList) e = false := by
    have : ¬ ((s.size : Int) = 0) := by
      simp only [inR, Bool.and_eq_true, decide_eq_true_eq] at h1
      omega
    unfold holeB
    rw [show ((s.size : Int) == 0) = false by rw [beq_eq_false_iff_ne]; exact this]
    simp
  refine ⟨h2, hh, ?_⟩
  unfold fitsB
  rw [h2, hh]
  simp

set_option maxHeartbeats 4000000 in
theorem fnPtrOf_walk (A1 : Option Addr) (n1 c1 : Nat) (z1 : List Int) (w : World) (h1 : U8s w A1 n1 c1 z1) :
    Calls Try.prog 3 #[.slice A1 n1 c1] w fun r w' => r = .returned (.bool true) ∧ Below w.heap.size w w' := by
  have m1 : n1 ≤ maxLen := Nat.le_trans h1.1 h1.2.1
  have H1 := hide h1
  clear h1
  unfold maxLen at m1
  by_cases g1 : (1048576 : Int) < (n1 : Int)
  · go_enter Try.func3, Try.ntmps3
    go_wp2_with fail
    go_ret
    exact ⟨rfl, Below.refl _ _⟩
  · go_enter Try.func3, Try.ntmps3
    go_wp2_with fail
    refine (drawPtrOf_any _ _ _ _ _ H1.out).mono ?_; rintro r w1 ⟨a, b, e, s, rfl, hs, hb1⟩
    have HB := hide hb1
    have hsm : s.size ≤ maxLen := by unfold maxLen; omega
    have HSM := hide hsm
    clear hb1 H1 hsm
    cases hv : ofB a b e s
    · have HV := hide hv
      clear hv
      go_wp2_with fail
      refine (implPtrOf_any a b e s HSM.out _).mono ?_; intro r w2 hp; obtain ⟨rfl, hb2⟩ := OfPost.iff_no HV.out hp; clear hp
      have hb3 := hb2.alloc hb2.size (.cells #[.int .i64 0, .int .i64 0, .int .i64 0, .int .i64 0, .int .i64 0] 26)
      have HB := hide (HB.out.trans (hb3.mono HB.out.size))
      have K1 := hide (Bk.fresh w2 26 #[.int .i64 0, .int .i64 0, .int .i64 0, .int .i64 0, .int .i64 0])
      clear hb2 hb3
      go_wp2_with fail
      refine (specPtrOf_any a b e s HSM.out _).mono ?_; intro r w3 hp; obtain ⟨rfl, hb4⟩ := OfPost.iff_no HV.out hp; clear hp
      have hb5 := hb4.alloc hb4.size (.cells #[.int .i64 0, .int .i64 0, .int .i64 0, .int .i64 0, .int .i64 0] 26)
      have HB := hide (HB.out.trans (hb5.mono HB.out.size))
      have K1 := hide (K1.out.after hb5)
      obtain ⟨q0, q1, q2, q3, q4⟩ := K1.out.c5
      clear hb4 hb5
      go_wp2_with fail
      go_ret
      exact ⟨rfl, HB.out⟩
    · have HV := hide hv
      have HO := hide (of_yes hv)
      clear hv
      obtain ⟨n, hn⟩ : ∃ n : Int, n = s.size := ⟨_, rfl⟩
      obtain ⟨d, hd⟩ : ∃ d : Int, d = sumOf s.data.toList := ⟨_, rfl⟩
      have HY := hide (fun (w : World) (r : Ending) (w' : World) (hp : OfPost a b e s w r w') => OfPost.iff_yes HV.out hp)
      rw [← hn, ← hd] at HO HY
      clear hn hd
      go_wp2_with fail
      refine (implPtrOf_any a b e s HSM.out _).mono ?_; intro r w2 hp; obtain ⟨rfl, hb2⟩ := HY.out _ _ _ hp; clear hp
      have hb3 := hb2.alloc hb2.size (.cells #[.int .i64 a, .int .i64 b, .int .i64 n, .int .i64 d, .int .i64 e] 26)
      have HB := hide (HB.out.trans (hb3.mono HB.out.size))
      have K1 := hide (Bk.fresh w2 26 #[.int .i64 a, .int .i64 b, .int .i64 n, .int .i64 d, .int .i64 e])
      clear hb2 hb3
      go_wp2_with fail
      refine (specPtrOf_any a b e s HSM.out _).mono ?_; intro r w3 hp; obtain ⟨rfl, hb4⟩ := HY.out _ _ _ hp; clear hp
      have hb5 := hb4.alloc hb4.size (.cells #[.int .i64 a, .int .i64 b, .int .i64 n, .int .i64 d, .int .i64 e] 26)
      have HB := hide (HB.out.trans (hb5.mono HB.out.size))
      have K1 := hide (K1.out.after hb5)
      obtain ⟨q0, q1, q2, q3, q4⟩ := K1.out.c5
      clear hb4 hb5
      go_wp2_with fail
      refine (implPtrOk_v HO.out.1 _).mono ?_; rintro r w4 ⟨rfl, hb6⟩
      have HB := hide (HB.out.trans (hb6.mono HB.out.size))
      have K1 := hide (K1.out.after hb6)
      clear hb6 q0 q1 q2 q3 q4
      obtain ⟨q0, q1, q2, q3, q4⟩ := K1.out.c5
      go_wp2_with fail
      refine (implPtrFits_v HO.out.2.2 HSM.out _).mono ?_; rintro r w5 ⟨rfl, hb6⟩
      have HB := hide (HB.out.trans (hb6.mono HB.out.size))
      have K1 := hide (K1.out.after hb6)
      clear hb6 q0 q1 q2 q3 q4
      obtain ⟨q0, q1, q2, q3, q4⟩ := K1.out.c5
      go_wp2_with fail
      refine (implPtrHole_v HO.out.2.1 _).mono ?_; rintro r w6 ⟨rfl, hb6⟩
      go_wp2_with fail
      go_ret
      exact ⟨rfl, HB.out.trans (hb6.mono HB.out.size)⟩
end Go.Proofs.Ytjdnlngahncmfaa
