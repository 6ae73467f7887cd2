/- Raids that came in, their sizes: szDisk, szDiskS, szRaid, with what is left counted. -/
import Derived.Test.YtcaoekaephnimaaDiskSz
import Derived.Test.YtcaoekaephnimaaQR
import Derived.Test.YtcaoekaephnimaaQR
namespace Go.Proofs.Ytcaoekaephnimaa
open Go.RowKit
set_option linter.unusedVariables false
set_option maxRecDepth 100000

/-- a size that is left over: nothing, or all that was asked is small -/
def LeftW2 (left : Int) (n : Nat) (zs : List (Int × ByteArray)) (w : World) (r : Ending) (w' : World) : Prop := (∃ v : Int, r = .returned (.int .i64 v) ∧ (v < 0 ∨ (0 ≤ v ∧ v + n ≤ left ∧ ∀ z ∈ zs, (z.2.size : Int) ≤ left))) ∧ Below w.heap.size w w'
set_option maxHeartbeats 2000000 in
theorem szWaitS_sum (A : Option Addr) (n c : Nat) (zs : List (Int × ByteArray)) (left : Int) (w : World) (h : Rd w 2 A n (waitCells zs)) (hz : ∀ z ∈ zs, z.2.size ≤ maxLen) (hm : n ≤ maxLen) (h0 : 0 ≤ left) (h1 : left ≤ 1048576) :
    Calls Try.prog 86 #[.slice A n c, .int .i64 left] w (LeftW2 left n zs w) := by
  unfold maxLen at hm
  have hzl : zs.length = n := by have := h.len; rw [waitCells_len] at this; omega
  have HZL := hide hzl
  have HZM := hide hz
  have H := hide h
  clear h hzl hz
  obtain ⟨m, hmm⟩ : ∃ m, m = left - (n : Int) := ⟨_, rfl⟩
  have jm : left - (n : Int) = m := hmm.symm
  have jw : IntKind.i64.wrap m = m := by rw [IntKind.wrap_i64]; omega
  by_cases hneg : m < 0
  · clear hmm
    go_enter Try.func86, Try.ntmps86
    go_wp2_with fail
    go_ret
    exact ⟨⟨-1, rfl, .inl (by omega)⟩, Below.refl _ _⟩
  · have HN := hide (show (n : Int) ≤ left by omega)
    have m2 : m ≤ left := by omega
    have m3 : m + n ≤ left := by omega
    clear hmm
    go_enter Try.func86, Try.ntmps86
    go_wp2_with fail
    go_loopw [1, 5] (fun q i wr => ∃ (k : Nat) (l : Int), k ≤ n ∧ 0 ≤ l ∧ l + n ≤ left ∧ Hid (Below w.heap.size w wr) ∧ Hid (∀ z ∈ zs.take k, (z.2.size : Int) ≤ left) ∧ q = .int .i64 l ∧ i = .int .i64 k) (fun _ i _ => n - (intOf i).toNat)
    case atStart => exact ⟨0, m, by omega, by omega, by omega, hide (Below.refl _ _), hide (by simp), rfl, rfl⟩
    case round =>
      obtain ⟨k, l, hk, l0, l1, HW, HT, rfl, rfl⟩ := hrel
      by_cases hlt : k < n
      · obtain ⟨b, o, z, rfl, hb, hz, hc0, hc1⟩ := (H.out.after HW.out).wait_at hlt
        have HZ := hide hz
        have hzm := hide (HZM.out z (List.mem_of_getElem? hz))
        have i0 : (0 : Int) ≤ (k : Int) := by omega
        have i1 : (k : Int) < (n : Int) := by omega
        clear hz
        by_cases hc : l < (z.2.size : Int)
        · have HV := hide (if_pos hc : (if l < (z.2.size : Int) then (-1 : Int) else l - z.2.size) = -1)
          clear hc
          go_wp2_with fail
          refine (szWait_v HV.out hzm.out l0 (by omega) _).mono ?_; rintro r w1 ⟨rfl, hb1⟩
          go_wp2_with fail
          go_ret
          exact ⟨⟨-1, rfl, .inl (by omega)⟩, HW.out.trans (hb1.mono HW.out.size)⟩
        · obtain ⟨d, hd⟩ : ∃ d, d = l - (z.2.size : Int) := ⟨_, rfl⟩
          have HV := hide (show (if l < (z.2.size : Int) then (-1 : Int) else l - z.2.size) = d by rw [if_neg hc, hd])
          have d0 : 0 ≤ d := by omega
          have d1 : ¬ d < 0 := by omega
          have d2 : d + n ≤ left := by omega
          have HT1 := hide (all_mem_snoc (p := fun z => (z.2.size : Int) ≤ left) HZ.out HT.out (by omega))
          clear hc hd
          go_wp2_with fail
          refine (szWait_v HV.out hzm.out l0 (by omega) _).mono ?_; rintro r w1 ⟨rfl, hb1⟩
          go_wp2_with fail
          go_roundw
          case rel => exact ⟨k + 1, d, by omega, d0, d2, hide (HW.out.trans (hb1.mono HW.out.size)), HT1, rfl, int_eq (by omega)⟩
          case measure => simp [intOf]; omega
      · go_wp2_with fail
        go_ret
        refine ⟨⟨l, rfl, .inr ⟨l0, l1, ?_⟩⟩, HW.out⟩
        have e : k = zs.length := by have := HZL.out; omega
        have := HT.out
        rwa [e, List.take_length] at this

theorem szT_sum {left : Int} {zs : List ByteArray} (h0 : 0 ≤ left) (h : 0 ≤ szT left zs) : szT left zs + zs.length ≤ left := by
  unfold szT at h ⊢
  by_cases hl : left < (zs.length : Int)
  · rw [if_pos hl, szT_gone _ _ rfl] at h
    omega
  · rw [if_neg hl] at h ⊢
    have := (szT_le zs (left - zs.length) (by omega)).1
    omega
def LeftD2 (left : Int) (n1 n2 : Nat) (z1 : List ByteArray) (z2 : List (Int × ByteArray)) (w : World) (r : Ending) (w' : World) : Prop := (∃ v : Int, r = .returned (.int .i64 v) ∧ (v < 0 ∨ (0 ≤ v ∧ v + n1 + n2 ≤ left ∧ (∀ z ∈ z1, z.size ≤ 1048576) ∧ ∀ z ∈ z2, z.2.size ≤ 1048576))) ∧ Below w.heap.size w w'
set_option maxHeartbeats 1000000 in
theorem szDisk_sum (A1 A2 : Option Addr) (n1 n2 c1 c2 : Nat) (z1 : List ByteArray) (z2 : List (Int × ByteArray)) (g : Bool) (left : Int) (h0 : 0 ≤ left) (hle : left ≤ 1048576) (w : World) (h1 : Strs w A1 n1 c1 z1) (h2 : WaitS w A2 n2 c2 z2) :
    Calls Try.prog 62 #[.agg #[.slice A1 n1 c1, .slice A2 n2 c2, .bool g], .int .i64 left] w (LeftD2 left n1 n2 z1 z2 w) := by
  obtain ⟨a1, b1, l1, m1, r1⟩ := h1
  obtain ⟨a2, b2, l2, m2, r2⟩ := h2
  have hb0 := bel1 w (.cells #[.slice A1 n1 c1, .slice A2 n2 c2, .bool g] 82)
  have K0 := hide (Bk.fresh w 82 #[.slice A1 n1 c1, .slice A2 n2 c2, .bool g])
  have H1 := hide (r1.after hb0)
  have H2 := hide (r2.after hb0)
  have HB := hide hb0
  have M1 := hide m1
  have M2 := hide (fun z hz => (m2 z hz).2)
  have N1 := hide (Nat.le_trans a1 b1)
  have N2 := hide (Nat.le_trans a2 b2)
  have L1 := hide l1
  clear r1 r2 hb0 m1 m2 a1 b1 a2 b2 l1 l2
  obtain ⟨l, hl⟩ : ∃ l, l = szT left z1 := ⟨_, rfl⟩
  have hb := szT_bd left z1 h0
  rw [← hl] at hb
  obtain ⟨hb1, hb2⟩ := hb
  have HL := hide hl
  clear hl
  by_cases hneg : l < 0
  · go_enter Try.func62, Try.ntmps62
    go_wp2_with fail
    refine (szStringS_any _ _ _ z1 _ _ N1.out M1.out H1.out (by omega) (by omega)).mono ?_; rintro r w1 ⟨rfl, rfl⟩
    rw [← HL.out]
    go_wp2_with fail
    go_ret
    exact ⟨⟨-1, rfl, .inl (by omega)⟩, HB.out⟩
  · have hp : 0 ≤ l := by omega
    have HS := hide (szT_fit (left := left) (zs := z1) h0 (by rw [← HL.out]; exact hp))
    have HS2 := hide (szT_sum (left := left) (zs := z1) h0 (by rw [← HL.out]; exact hp))
    rw [← HL.out] at HS2
    obtain ⟨q0, q1, q2⟩ := K0.out.c3
    go_enter Try.func62, Try.ntmps62
    go_wp2_with fail
    refine (szStringS_any _ _ _ z1 _ _ N1.out M1.out H1.out (by omega) (by omega)).mono ?_; rintro r w1 ⟨rfl, rfl⟩
    rw [← HL.out]
    go_wp2_with fail
    refine (szWaitS_sum _ _ _ z2 l _ H2.out M2.out N2.out hp (by omega)).mono ?_; rintro r w2 ⟨⟨v, rfl, hv⟩, hb3⟩
    have HV := hide hv
    have HB3 := hide (bnext HB.out (Nat.le_refl _) hb3)
    clear hv hb3
    by_cases hvn : v < 0
    · go_wp2_with fail
      go_ret
      exact ⟨⟨-1, rfl, .inl (by omega)⟩, HB3.out⟩
    · go_wp2_with fail
      go_ret
      refine ⟨⟨v, rfl, ?_⟩, HB3.out⟩
      rcases HV.out with h | ⟨h0, h1, h3⟩
      · exact .inl h
      · refine .inr ⟨h0, ?_, ?_, ?_⟩
        · have := HS2.out; have := L1.out; omega
        · intro z hz; have := HS.out.2 z hz; omega
        · intro z hz; have := h3 z hz; omega
/-- how much the disks have -/
def tot (ds : List DV) : Nat := (ds.map fun d => d.n1 + d.n2).sum
theorem tot_more {ds : List DV} {k : Nat} {d : DV} (h : ds[k]? = some d) : tot (ds.take (k + 1)) = tot (ds.take k) + (d.n1 + d.n2) := by
  unfold tot
  rw [List.take_add_one, h, List.map_append, List.sum_append]
  simp
/-- texts that are not long -/
def DV.Small (d : DV) : Prop := (∀ z ∈ d.z1, z.size ≤ 1048576) ∧ ∀ z ∈ d.z2, z.2.size ≤ 1048576
def LeftR (n : Nat) (ds : List DV) (w : World) (r : Ending) (w' : World) : Prop := (∃ v : Int, r = .returned (.int .i64 v) ∧ (v < 0 ∨ (0 ≤ v ∧ n + tot ds ≤ 1048576 ∧ ∀ d ∈ ds, d.Small))) ∧ Below w.heap.size w w'
set_option maxHeartbeats 2000000 in
theorem szDiskS_any (A : Option Addr) (n c : Nat) (ds : List DV) (w : World) (h : RaidS w A n c ds) :
    Calls Try.prog 37 #[.slice A n c, .int .i64 1048576] w (LeftR n ds w) := by
  obtain ⟨a1, b1, hl, hr, he⟩ := h
  have hm := Nat.le_trans a1 b1
  unfold maxLen at hm
  have HL := hide hl
  have H := hide hr
  have HE := hide he
  clear a1 b1 hl hr he
  obtain ⟨m, hmm⟩ : ∃ m : Int, m = 1048576 - (n : Int) := ⟨_, rfl⟩
  have jm : 1048576 - (n : Int) = m := hmm.symm
  have jw : IntKind.i64.wrap m = m := by rw [IntKind.wrap_i64]; omega
  by_cases hneg : m < 0
  · clear hmm
    go_enter Try.func37, Try.ntmps37
    go_wp2_with fail
    go_ret
    exact ⟨⟨-1, rfl, .inl (by omega)⟩, Below.refl _ _⟩
  · have hmn := hide hmm
    have m9 : m ≤ 1048576 := by omega
    clear hmm
    go_enter Try.func37, Try.ntmps37
    go_wp2_with fail
    go_loopw [1, 5] (fun q i wr => ∃ (k : Nat) (l : Int), k ≤ n ∧ 0 ≤ l ∧ l ≤ 1048576 ∧ Hid (l + tot (ds.take k) ≤ m) ∧ Hid (Below w.heap.size w wr) ∧ Hid (∀ d ∈ ds.take k, d.Small) ∧ q = .int .i64 l ∧ i = .int .i64 k) (fun _ i _ => n - (intOf i).toNat)
    case atStart => exact ⟨0, m, by omega, by omega, m9, hide (by simp [tot]), hide (Below.refl _ _), hide (by simp), rfl, rfl⟩
    case round =>
      obtain ⟨k, l, hk, l0, l9, HT, HW, HS, rfl, rfl⟩ := hrel
      by_cases hlt : k < n
      · obtain ⟨b, o, d, rfl, hb, hd, hc0, hc1, hc2⟩ := (H.out.after HW.out).disk_at hlt
        have HD := hide hd
        have i0 : (0 : Int) ≤ (k : Int) := by omega
        have i1 : (k : Int) < (n : Int) := by omega
        have hin := HE.out d (List.mem_of_getElem? hd)
        have HI1 := hide (show Strs wr d.A1 d.n1 d.c1 d.z1 from ⟨hin.1.1, hin.1.2.1, hin.1.2.2.1, hin.1.2.2.2.1, hin.1.2.2.2.2.after HW.out⟩)
        have HI2 := hide (show WaitS wr d.A2 d.n2 d.c2 d.z2 from ⟨hin.2.1, hin.2.2.1, hin.2.2.2.1, hin.2.2.2.2.1, hin.2.2.2.2.2.after HW.out⟩)
        clear hd hb hin
        go_wp2_with fail
        refine (szDisk_sum _ _ _ _ _ _ d.z1 d.z2 _ l l0 l9 _ HI1.out HI2.out).mono ?_; rintro r w1 ⟨⟨v, rfl, hv⟩, hb1⟩
        have HV := hide hv
        have HW := hide (HW.out.trans (hb1.mono HW.out.size))
        clear hv hb1 hc0 hc1 hc2
        by_cases hvn : v < 0
        · go_wp2_with fail
          go_ret
          exact ⟨⟨-1, rfl, .inl (by omega)⟩, HW.out⟩
        · have hv2 : 0 ≤ v ∧ v + d.n1 + d.n2 ≤ l ∧ d.Small := by
            rcases HV.out with h | ⟨h0, h1, h2, h3⟩
            · exact absurd h hvn
            · exact ⟨h0, h1, h2, h3⟩
          have HV2 := hide hv2
          clear hv2
          go_wp2_with fail
          go_roundw
          case rel => exact ⟨k + 1, v, by omega, HV2.out.1, by have := HV2.out.2.1; omega, hide (by rw [tot_more HD.out]; have := HV2.out.2.1; have := HT.out; omega), HW, hide (all_mem_snoc (p := fun d => DV.Small d) HD.out HS.out HV2.out.2.2), rfl, int_eq (by omega)⟩
          case measure => simp [intOf]; omega
      · go_wp2_with fail
        go_ret
        refine ⟨⟨l, rfl, .inr ⟨l0, ?_, ?_⟩⟩, HW.out⟩
        · have h1 := HT.out
          rw [List.take_of_length_le (by have := HL.out; omega)] at h1
          have := hmn.out
          omega
        · have := HS.out
          rwa [List.take_of_length_le (by have := HL.out; omega)] at this
set_option maxHeartbeats 400000 in
theorem szRaid_any (A : Option Addr) (n c : Nat) (ds : List DV) (w : World) (h : RaidS w A n c ds) :
    Calls Try.prog 15 #[.agg #[.slice A n c], .int .i64 1048576] w (LeftR n ds w) := by
  have hb0 := bel1 w (.cells #[.slice A n c] 31)
  have H := hide (h.after hb0)
  have HB := hide hb0
  clear h hb0
  go_enter Try.func15, Try.ntmps15
  go_wp2_with fail
  refine (szDiskS_any _ _ _ ds _ H.out).mono ?_; rintro r w1 ⟨⟨v, rfl, hv⟩, hb1⟩
  have HV := hide hv
  have HB1 := hide (bnext HB.out (Nat.le_refl _) hb1)
  clear hv hb1
  by_cases hvn : v < 0
  · go_wp2_with fail
    go_ret
    exact ⟨⟨-1, rfl, .inl (by omega)⟩, HB1.out⟩
  · go_wp2_with fail
    go_ret
    exact ⟨⟨v, rfl, HV.out⟩, HB1.out⟩
end Go.Proofs.Ytcaoekaephnimaa
