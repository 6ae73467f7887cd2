/- RunsPack of the program and of the reference: they pack by runs; the walk of the law FnExactRunsPack. -/
import Derived.Test.YtkbpnaliipbfiaaPack
import Derived.Test.YtkbpnaliipbfiaaBuilder
import Derived.Test.YtkbpnaliipbfiaaOwn
import Derived.Deep.RegionHeld
import Derived.BigQuiet
import Derived.Deep.QuietTactic
import Derived.Deep.Draws
import Derived.Lib.UnsafeStr
import Derived.Laws.BytesArg
import Derived.Deep.AppendLies
import Derived.Laws.IdiomStrings
namespace Go.Proofs.Ytkbpnaliipbfiaa
open Go.RowKit

theorem byteCells_len (l : List UInt8) : (Lib.byteCells l).length = l.length := by simp [Lib.byteCells]
theorem bc_snoc (l : List UInt8) (c : UInt8) (x : Int) (h : x = (c.toNat : Int)) : Lib.byteCells l ++ [.int .u8 x] = Lib.byteCells (l ++ [c]) := by simp [Lib.byteCells, h]
theorem isB_drewN {T e : TypeId} {B b : Nat} {bs : List Value} {w : World} (h : Lib.IsBuilder T e B b bs w) (n : Nat) : Lib.IsBuilder T e B b bs (w.drewN n) := h
theorem isB_snoc {T e : TypeId} {B b : Nat} {l : List UInt8} {x : Int} {c : UInt8} {w : World} (h : Lib.BuilderAt T e B b (.pointer (some ⟨b, 0, none⟩)) (Lib.byteCells l ++ [.int .u8 x]) w) (hx : x = (c.toNat : Int)) : Lib.IsBuilder T e B b (Lib.byteCells (l ++ [c])) w := .inr (bc_snoc l c x hx ▸ h)
theorem ofNat_48 (m : Nat) (h : m ≤ 9) : (48 : Int) + (m : Int) = ((UInt8.ofNat (48 + m)).toNat : Int) := by
  rw [UInt8.toNat_ofNat']
  omega

/-- the inner loop's fact: n bytes from k on are alike -/
def Alike (l : List UInt8) (k n : Nat) (c : UInt8) : Prop := lead c (n - 1) (l.drop (k + 1)) = n - 1

set_option maxHeartbeats 4000000 in
theorem implRunsPack_any (s : ByteArray) (w : World) (hs : s.size ≤ 20000000) :
    Calls Try.prog 9 #[.string s] w fun r w' => r = .returned (.string ⟨(pack s.data.toList).toArray⟩) ∧ Below w.heap.size w w' := by
  go_enter Try.func9, Try.ntmps9
  go_wp2_with fail
  go_loopw [4] (fun i wr => ∃ (k : Nat) (out : List UInt8), k ≤ s.size ∧ Hid (out.length ≤ 3 * k) ∧ Hid (out ++ pack (s.data.toList.drop k) = pack s.data.toList) ∧ Hid (Lib.IsBuilder 31 5 w.heap.size w.heap.size (Lib.byteCells out) wr) ∧ Hid (Below w.heap.size w wr) ∧ i = .int .i64 k) (fun i _ => s.size - (intOf i).toNat)
  case atStart => exact ⟨0, [], by omega, hide (by simp), hide rfl, hide (Lib.fresh_isBuilder _ _ w), hide (bel1 _ _), rfl⟩
  case round =>
    obtain ⟨k, out, hk, HL, HO, HB, HF, rfl⟩ := hrel
    obtain ⟨wo, rfl⟩ : ∃ wo : World, wo = wr := ⟨_, rfl⟩
    by_cases hlt : k < s.size
    · go_wp2_with fail
      go_loopw [5] (fun n wq => ∃ (m d : Nat), 1 ≤ m ∧ m ≤ 9 ∧ k + m ≤ s.size ∧ Hid (wq = wo.drewN d) ∧ Hid (Alike s.data.toList k m s[k]) ∧ n = .int .i64 m) (fun n _ => 9 - (intOf n).toNat)
      case atStart => exact ⟨1, 0, by omega, by omega, by omega, hide rfl, hide (by simp [Alike, lead]), rfl⟩
      case round =>
        obtain ⟨m, d, h1, h9, hkm, HW, HA, rfl⟩ := hrel
        have i0 : (0 : Int) ≤ (k : Int) := by omega
        have i1 : (k : Int) < (s.size : Int) := by omega
        have jw : IntKind.i64.wrap ((k : Int) + (m : Int)) = (k : Int) + (m : Int) := by rw [IntKind.wrap_i64]; omega
        have jn : ((k : Int) + (m : Int)).toNat = k + m := by omega
        have jp : (0 : Int) ≤ (k : Int) + (m : Int) := by omega
        by_cases hm : m < 9
        · have j0 : (m : Int) < 9 := by omega
          by_cases hin : k + m < s.size
          · have j1 : (k : Int) + (m : Int) < (s.size : Int) := by omega
            by_cases he : s[k + m] = s[k]
            · have je : ((s[k + m].toNat : Int) == (s[k].toNat : Int)) = true := by rw [he]; simp
              have HA1 := hide (show Alike s.data.toList k (m + 1) s[k] from lead_next s.data.toList k m s[k] h1 HA.out (by rw [at_of s (k + m) hin, he]))
              clear he
              go_wp2_with fail
              go_quiet (fail)
              go_wp2_with fail
              go_roundw
              case rel => exact ⟨m + 1, d + nq, by omega, by omega, by omega, hide (by rw [HW.out, World.drewN_drewN]), HA1, int_eq (by omega)⟩
              case measure => simp [intOf]; omega
            · have je : ((s[k + m].toNat : Int) == (s[k].toNat : Int)) = false := by rw [beq_eq_false_iff_ne]; intro e; exact he (UInt8.toNat_inj.1 (by omega))
              have HD := hide (lead_done _ _ _ _ h1 h9 HA.out (.inr (.inr ⟨_, at_of s (k + m) hin, he⟩)))
              clear he
              have HBx := hide (show Lib.IsBuilder 31 5 w.heap.size w.heap.size (Lib.byteCells out) wr by rw [HW.out]; exact isB_drewN HB.out d)
              have HFx := hide (show Below w.heap.size w wr by rw [HW.out]; exact below_drewN HF.out d)
              by_cases h4 : m < 4
              · by_cases hc : s[k] = 126
                · have HN := hide (show (out ++ [126] ++ [UInt8.ofNat (48 + m)] ++ [s[k]]) ++ pack (s.data.toList.drop (k + m)) = pack s.data.toList by have := pack_run s.data.toList out k m s[k] (at_of s k hlt) h1 HD.out (.inr hc) HO.out; simpa using this)
                  have jc : ((s[k].toNat : Int) == 126) = true := by rw [hc]; rfl
                  have j4 : (m : Int) < 4 := by omega
                  clear h4 hc
                  go_wp2_with fail
                  go_quiet (fail)
                  go_wp2_with fail
                  refine (wByte w.heap.size w.heap.size _ _ _ (isB_drewN HBx.out _) (by rw [byteCells_len]; have := HL.out; simp; omega) (by have := HFx.out.size; simpa using this)).mono ?_; rintro r x1 ⟨rfl, hB1, hb1⟩
                  have HB1 := hide (show Lib.IsBuilder 31 5 w.heap.size w.heap.size (Lib.byteCells (out ++ [126])) x1 from isB_snoc hB1 rfl)
                  have HF1 := hide ((below_drewN HFx.out _).trans hb1)
                  clear hB1 hb1
                  go_wp2_with fail
                  refine (wByte w.heap.size w.heap.size _ _ _ HB1.out (by rw [byteCells_len]; have := HL.out; simp; omega) HF1.out.size).mono ?_; rintro r x2 ⟨rfl, hB2, hb2⟩
                  have HB2 := hide (show Lib.IsBuilder 31 5 w.heap.size w.heap.size (Lib.byteCells (out ++ [126] ++ [UInt8.ofNat (48 + m)])) x2 from isB_snoc hB2 (ofNat_48 m h9))
                  have HF2 := hide (HF1.out.trans hb2)
                  clear hB2 hb2
                  go_wp2_with fail
                  refine (wByte w.heap.size w.heap.size _ _ _ HB2.out (by rw [byteCells_len]; have := HL.out; simp; omega) HF2.out.size).mono ?_; rintro r x3 ⟨rfl, hB3, hb3⟩
                  have HB3 := hide (show Lib.IsBuilder 31 5 w.heap.size w.heap.size (Lib.byteCells (out ++ [126] ++ [UInt8.ofNat (48 + m)] ++ [s[k]])) x3 from isB_snoc hB3 rfl)
                  have HF3 := hide (HF2.out.trans hb3)
                  clear hB3 hb3
                  go_wp2_with fail
                  go_roundw
                  case rel => exact ⟨k + m, out ++ [126] ++ [UInt8.ofNat (48 + m)] ++ [s[k]], by omega, hide (by have := HL.out; simp; omega), HN, HB3, HF3, int_eq (by omega)⟩
                  case measure => (simp [intOf]; try omega)
                · have HN := hide (pack_one s.data.toList out k m s[k] (at_of s k hlt) h1 HD.out h4 hc HO.out)
                  have jc : ((s[k].toNat : Int) == 126) = false := by rw [beq_eq_false_iff_ne]; intro e; exact hc (UInt8.toNat_inj.1 (by simpa using (by omega : s[k].toNat = 126)))
                  have j4 : (m : Int) < 4 := by omega
                  clear h4 hc
                  go_wp2_with fail
                  go_quiet (fail)
                  go_wp2_with fail
                  refine (wByte w.heap.size w.heap.size _ _ _ (isB_drewN HBx.out _) (by rw [byteCells_len]; have := HL.out; simp; omega) (by have := HFx.out.size; simpa using this)).mono ?_; rintro r x1 ⟨rfl, hB1, hb1⟩
                  have HB1 := hide (show Lib.IsBuilder 31 5 w.heap.size w.heap.size (Lib.byteCells (out ++ [s[k]])) x1 from isB_snoc hB1 rfl)
                  have HF1 := hide ((below_drewN HFx.out _).trans hb1)
                  clear hB1 hb1
                  go_wp2_with fail
                  go_roundw
                  case rel => exact ⟨k + 1, out ++ [s[k]], by omega, hide (by have := HL.out; simp; omega), HN, HB1, HF1, int_eq (by omega)⟩
                  case measure => (simp [intOf]; try omega)
              · have HN := hide (show (out ++ [126] ++ [UInt8.ofNat (48 + m)] ++ [s[k]]) ++ pack (s.data.toList.drop (k + m)) = pack s.data.toList by have := pack_run s.data.toList out k m s[k] (at_of s k hlt) h1 HD.out (.inl (by omega)) HO.out; simpa using this)
                have j4 : ¬ (m : Int) < 4 := by omega
                clear h4
                go_wp2_with fail
                go_quiet (fail)
                go_wp2_with fail
                refine (wByte w.heap.size w.heap.size _ _ _ (isB_drewN HBx.out _) (by rw [byteCells_len]; have := HL.out; simp; omega) (by have := HFx.out.size; simpa using this)).mono ?_; rintro r x1 ⟨rfl, hB1, hb1⟩
                have HB1 := hide (show Lib.IsBuilder 31 5 w.heap.size w.heap.size (Lib.byteCells (out ++ [126])) x1 from isB_snoc hB1 rfl)
                have HF1 := hide ((below_drewN HFx.out _).trans hb1)
                clear hB1 hb1
                go_wp2_with fail
                refine (wByte w.heap.size w.heap.size _ _ _ HB1.out (by rw [byteCells_len]; have := HL.out; simp; omega) HF1.out.size).mono ?_; rintro r x2 ⟨rfl, hB2, hb2⟩
                have HB2 := hide (show Lib.IsBuilder 31 5 w.heap.size w.heap.size (Lib.byteCells (out ++ [126] ++ [UInt8.ofNat (48 + m)])) x2 from isB_snoc hB2 (ofNat_48 m h9))
                have HF2 := hide (HF1.out.trans hb2)
                clear hB2 hb2
                go_wp2_with fail
                refine (wByte w.heap.size w.heap.size _ _ _ HB2.out (by rw [byteCells_len]; have := HL.out; simp; omega) HF2.out.size).mono ?_; rintro r x3 ⟨rfl, hB3, hb3⟩
                have HB3 := hide (show Lib.IsBuilder 31 5 w.heap.size w.heap.size (Lib.byteCells (out ++ [126] ++ [UInt8.ofNat (48 + m)] ++ [s[k]])) x3 from isB_snoc hB3 rfl)
                have HF3 := hide (HF2.out.trans hb3)
                clear hB3 hb3
                go_wp2_with fail
                go_roundw
                case rel => exact ⟨k + m, out ++ [126] ++ [UInt8.ofNat (48 + m)] ++ [s[k]], by omega, hide (by have := HL.out; simp; omega), HN, HB3, HF3, int_eq (by omega)⟩
                case measure => (simp [intOf]; try omega)
          · have j1 : decide ((k : Int) + (m : Int) < (s.size : Int)) = false := by simp; omega
            have HD := hide (lead_done _ _ _ _ h1 h9 HA.out (.inr (.inl (none_of s (k + m) (by omega)))))
            have HBx := hide (show Lib.IsBuilder 31 5 w.heap.size w.heap.size (Lib.byteCells out) wr by rw [HW.out]; exact isB_drewN HB.out d)
            have HFx := hide (show Below w.heap.size w wr by rw [HW.out]; exact below_drewN HF.out d)
            by_cases h4 : m < 4
            · by_cases hc : s[k] = 126
              · have HN := hide (show (out ++ [126] ++ [UInt8.ofNat (48 + m)] ++ [s[k]]) ++ pack (s.data.toList.drop (k + m)) = pack s.data.toList by have := pack_run s.data.toList out k m s[k] (at_of s k hlt) h1 HD.out (.inr hc) HO.out; simpa using this)
                have jc : ((s[k].toNat : Int) == 126) = true := by rw [hc]; rfl
                have j4 : (m : Int) < 4 := by omega
                clear h4 hc
                go_wp2_with fail
                go_quiet (fail)
                go_wp2_with fail
                refine (wByte w.heap.size w.heap.size _ _ _ (isB_drewN HBx.out _) (by rw [byteCells_len]; have := HL.out; simp; omega) (by have := HFx.out.size; simpa using this)).mono ?_; rintro r x1 ⟨rfl, hB1, hb1⟩
                have HB1 := hide (show Lib.IsBuilder 31 5 w.heap.size w.heap.size (Lib.byteCells (out ++ [126])) x1 from isB_snoc hB1 rfl)
                have HF1 := hide ((below_drewN HFx.out _).trans hb1)
                clear hB1 hb1
                go_wp2_with fail
                refine (wByte w.heap.size w.heap.size _ _ _ HB1.out (by rw [byteCells_len]; have := HL.out; simp; omega) HF1.out.size).mono ?_; rintro r x2 ⟨rfl, hB2, hb2⟩
                have HB2 := hide (show Lib.IsBuilder 31 5 w.heap.size w.heap.size (Lib.byteCells (out ++ [126] ++ [UInt8.ofNat (48 + m)])) x2 from isB_snoc hB2 (ofNat_48 m h9))
                have HF2 := hide (HF1.out.trans hb2)
                clear hB2 hb2
                go_wp2_with fail
                refine (wByte w.heap.size w.heap.size _ _ _ HB2.out (by rw [byteCells_len]; have := HL.out; simp; omega) HF2.out.size).mono ?_; rintro r x3 ⟨rfl, hB3, hb3⟩
                have HB3 := hide (show Lib.IsBuilder 31 5 w.heap.size w.heap.size (Lib.byteCells (out ++ [126] ++ [UInt8.ofNat (48 + m)] ++ [s[k]])) x3 from isB_snoc hB3 rfl)
                have HF3 := hide (HF2.out.trans hb3)
                clear hB3 hb3
                go_wp2_with fail
                go_roundw
                case rel => exact ⟨k + m, out ++ [126] ++ [UInt8.ofNat (48 + m)] ++ [s[k]], by omega, hide (by have := HL.out; simp; omega), HN, HB3, HF3, int_eq (by omega)⟩
                case measure => (simp [intOf]; try omega)
              · have HN := hide (pack_one s.data.toList out k m s[k] (at_of s k hlt) h1 HD.out h4 hc HO.out)
                have jc : ((s[k].toNat : Int) == 126) = false := by rw [beq_eq_false_iff_ne]; intro e; exact hc (UInt8.toNat_inj.1 (by simpa using (by omega : s[k].toNat = 126)))
                have j4 : (m : Int) < 4 := by omega
                clear h4 hc
                go_wp2_with fail
                go_quiet (fail)
                go_wp2_with fail
                refine (wByte w.heap.size w.heap.size _ _ _ (isB_drewN HBx.out _) (by rw [byteCells_len]; have := HL.out; simp; omega) (by have := HFx.out.size; simpa using this)).mono ?_; rintro r x1 ⟨rfl, hB1, hb1⟩
                have HB1 := hide (show Lib.IsBuilder 31 5 w.heap.size w.heap.size (Lib.byteCells (out ++ [s[k]])) x1 from isB_snoc hB1 rfl)
                have HF1 := hide ((below_drewN HFx.out _).trans hb1)
                clear hB1 hb1
                go_wp2_with fail
                go_roundw
                case rel => exact ⟨k + 1, out ++ [s[k]], by omega, hide (by have := HL.out; simp; omega), HN, HB1, HF1, int_eq (by omega)⟩
                case measure => (simp [intOf]; try omega)
            · have HN := hide (show (out ++ [126] ++ [UInt8.ofNat (48 + m)] ++ [s[k]]) ++ pack (s.data.toList.drop (k + m)) = pack s.data.toList by have := pack_run s.data.toList out k m s[k] (at_of s k hlt) h1 HD.out (.inl (by omega)) HO.out; simpa using this)
              have j4 : ¬ (m : Int) < 4 := by omega
              clear h4
              go_wp2_with fail
              go_quiet (fail)
              go_wp2_with fail
              refine (wByte w.heap.size w.heap.size _ _ _ (isB_drewN HBx.out _) (by rw [byteCells_len]; have := HL.out; simp; omega) (by have := HFx.out.size; simpa using this)).mono ?_; rintro r x1 ⟨rfl, hB1, hb1⟩
              have HB1 := hide (show Lib.IsBuilder 31 5 w.heap.size w.heap.size (Lib.byteCells (out ++ [126])) x1 from isB_snoc hB1 rfl)
              have HF1 := hide ((below_drewN HFx.out _).trans hb1)
              clear hB1 hb1
              go_wp2_with fail
              refine (wByte w.heap.size w.heap.size _ _ _ HB1.out (by rw [byteCells_len]; have := HL.out; simp; omega) HF1.out.size).mono ?_; rintro r x2 ⟨rfl, hB2, hb2⟩
              have HB2 := hide (show Lib.IsBuilder 31 5 w.heap.size w.heap.size (Lib.byteCells (out ++ [126] ++ [UInt8.ofNat (48 + m)])) x2 from isB_snoc hB2 (ofNat_48 m h9))
              have HF2 := hide (HF1.out.trans hb2)
              clear hB2 hb2
              go_wp2_with fail
              refine (wByte w.heap.size w.heap.size _ _ _ HB2.out (by rw [byteCells_len]; have := HL.out; simp; omega) HF2.out.size).mono ?_; rintro r x3 ⟨rfl, hB3, hb3⟩
              have HB3 := hide (show Lib.IsBuilder 31 5 w.heap.size w.heap.size (Lib.byteCells (out ++ [126] ++ [UInt8.ofNat (48 + m)] ++ [s[k]])) x3 from isB_snoc hB3 rfl)
              have HF3 := hide (HF2.out.trans hb3)
              clear hB3 hb3
              go_wp2_with fail
              go_roundw
              case rel => exact ⟨k + m, out ++ [126] ++ [UInt8.ofNat (48 + m)] ++ [s[k]], by omega, hide (by have := HL.out; simp; omega), HN, HB3, HF3, int_eq (by omega)⟩
              case measure => (simp [intOf]; try omega)
        · have j0 : decide ((m : Int) < 9) = false := by simp; omega
          have HD := hide (lead_done _ _ _ _ h1 h9 HA.out (.inl (by omega)))
          have HBx := hide (show Lib.IsBuilder 31 5 w.heap.size w.heap.size (Lib.byteCells out) wr by rw [HW.out]; exact isB_drewN HB.out d)
          have HFx := hide (show Below w.heap.size w wr by rw [HW.out]; exact below_drewN HF.out d)
          have h4 : ¬ m < 4 := by omega
          have HN := hide (show (out ++ [126] ++ [UInt8.ofNat (48 + m)] ++ [s[k]]) ++ pack (s.data.toList.drop (k + m)) = pack s.data.toList by have := pack_run s.data.toList out k m s[k] (at_of s k hlt) h1 HD.out (.inl (by omega)) HO.out; simpa using this)
          have j4 : ¬ (m : Int) < 4 := by omega
          clear h4
          go_wp2_with fail
          go_quiet (fail)
          go_wp2_with fail
          refine (wByte w.heap.size w.heap.size _ _ _ (isB_drewN HBx.out _) (by rw [byteCells_len]; have := HL.out; simp; omega) (by have := HFx.out.size; simpa using this)).mono ?_; rintro r x1 ⟨rfl, hB1, hb1⟩
          have HB1 := hide (show Lib.IsBuilder 31 5 w.heap.size w.heap.size (Lib.byteCells (out ++ [126])) x1 from isB_snoc hB1 rfl)
          have HF1 := hide ((below_drewN HFx.out _).trans hb1)
          clear hB1 hb1
          go_wp2_with fail
          refine (wByte w.heap.size w.heap.size _ _ _ HB1.out (by rw [byteCells_len]; have := HL.out; simp; omega) HF1.out.size).mono ?_; rintro r x2 ⟨rfl, hB2, hb2⟩
          have HB2 := hide (show Lib.IsBuilder 31 5 w.heap.size w.heap.size (Lib.byteCells (out ++ [126] ++ [UInt8.ofNat (48 + m)])) x2 from isB_snoc hB2 (ofNat_48 m h9))
          have HF2 := hide (HF1.out.trans hb2)
          clear hB2 hb2
          go_wp2_with fail
          refine (wByte w.heap.size w.heap.size _ _ _ HB2.out (by rw [byteCells_len]; have := HL.out; simp; omega) HF2.out.size).mono ?_; rintro r x3 ⟨rfl, hB3, hb3⟩
          have HB3 := hide (show Lib.IsBuilder 31 5 w.heap.size w.heap.size (Lib.byteCells (out ++ [126] ++ [UInt8.ofNat (48 + m)] ++ [s[k]])) x3 from isB_snoc hB3 rfl)
          have HF3 := hide (HF2.out.trans hb3)
          clear hB3 hb3
          go_wp2_with fail
          go_roundw
          case rel => exact ⟨k + m, out ++ [126] ++ [UInt8.ofNat (48 + m)] ++ [s[k]], by omega, hide (by have := HL.out; simp; omega), HN, HB3, HF3, int_eq (by omega)⟩
          case measure => (simp [intOf]; try omega)
    · go_wp2_with fail
      refine (bString _ _ _ _ HB.out HF.out.size).mono ?_; rintro r w2 ⟨rfl, hb2⟩
      have e := hide (show out = pack s.data.toList by have := HO.out; rw [List.drop_eq_nil_of_le (by simp; omega), pack_nil, List.append_nil] at this; exact this)
      go_wp2_with fail
      go_ret
      exact ⟨by rw [e.out]; rfl, HF.out.trans hb2⟩

set_option maxHeartbeats 4000000 in
theorem specRunsPack_any (s : ByteArray) (w : World) (hs : s.size ≤ 20000000) :
    Calls Try.prog 10 #[.string s] w fun r w' => r = .returned (.string ⟨(pack s.data.toList).toArray⟩) ∧ Below w.heap.size w w' := by
  obtain ⟨i0, hi, hz0, hz1, hz2⟩ := info_parts info_u8
  go_enter Try.func10, Try.ntmps10
  go_wp2_with fail
  go_loopw [3, 4] (fun v i wr => ∃ (k : Nat) (out : List UInt8), k ≤ s.size ∧ Hid (out.length ≤ 3 * k) ∧ Hid (out ++ pack (s.data.toList.drop k) = pack s.data.toList) ∧ Hid (wr.ownsRow w.heap.size 5 1 v out.length (Lib.byteCells out)) ∧ Hid (Below w.heap.size w wr) ∧ i = .int .i64 k) (fun _ i _ => s.size - (intOf i).toNat)
  case atStart => exact ⟨0, [], by omega, hide (by simp), hide rfl, hide (World.ownsRow_lit w #[] 0 (Nat.le_refl _) (by simp [maxLen]) rfl), hide (bel1 _ _), rfl⟩
  case round =>
    obtain ⟨k, out, hk, HL, HO, HB, HF, rfl⟩ := hrel
    obtain ⟨wo, rfl⟩ : ∃ wo : World, wo = wr := ⟨_, rfl⟩
    obtain ⟨v, rfl⟩ : ∃ v : Value, v = u3 := ⟨_, rfl⟩
    by_cases hlt : k < s.size
    · go_wp2_with fail
      go_loopw [5] (fun n wq => ∃ (m d : Nat), 1 ≤ m ∧ m ≤ 9 ∧ k + m ≤ s.size ∧ Hid (wq = wo.drewN d) ∧ Hid (Alike s.data.toList k m s[k]) ∧ n = .int .i64 m) (fun n _ => 9 - (intOf n).toNat)
      case atStart => exact ⟨1, 0, by omega, by omega, by omega, hide rfl, hide (by simp [Alike, lead]), rfl⟩
      case round =>
        obtain ⟨m, d, h1, h9, hkm, HW, HA, rfl⟩ := hrel
        have i0' : (0 : Int) ≤ (k : Int) := by omega
        have i1 : (k : Int) < (s.size : Int) := by omega
        have jw : IntKind.i64.wrap ((k : Int) + (m : Int)) = (k : Int) + (m : Int) := by rw [IntKind.wrap_i64]; omega
        have jn : ((k : Int) + (m : Int)).toNat = k + m := by omega
        have jp : (0 : Int) ≤ (k : Int) + (m : Int) := by omega
        by_cases hm : m < 9
        · have j0 : (m : Int) < 9 := by omega
          by_cases hin : k + m < s.size
          · have j1 : (k : Int) + (m : Int) < (s.size : Int) := by omega
            by_cases he : s[k + m] = s[k]
            · have je : ((s[k + m].toNat : Int) == (s[k].toNat : Int)) = true := by rw [he]; simp
              have HA1 := hide (show Alike s.data.toList k (m + 1) s[k] from lead_next s.data.toList k m s[k] h1 HA.out (by rw [at_of s (k + m) hin, he]))
              clear he
              go_wp2_with fail
              go_quiet (fail)
              go_wp2_with fail
              go_roundw
              case rel => exact ⟨m + 1, d + nq, by omega, by omega, by omega, hide (by rw [HW.out, World.drewN_drewN]), HA1, int_eq (by omega)⟩
              case measure => simp [intOf]; omega
            · have je : ((s[k + m].toNat : Int) == (s[k].toNat : Int)) = false := by rw [beq_eq_false_iff_ne]; intro e; exact he (UInt8.toNat_inj.1 (by omega))
              have HD := hide (lead_done _ _ _ _ h1 h9 HA.out (.inr (.inr ⟨_, at_of s (k + m) hin, he⟩)))
              clear he
              have HFx := hide (show Below w.heap.size w wr by rw [HW.out]; exact below_drewN HF.out d)
              have HWx := hide (show wr.ownsRow w.heap.size 5 1 v out.length (Lib.byteCells out) by rw [HW.out]; exact own_drewN HB.out d)
              by_cases h4 : m < 4
              · by_cases hc : s[k] = 126
                · have HN := hide (pack_run s.data.toList out k m s[k] (at_of s k hlt) h1 HD.out (.inr hc) HO.out)
                  have jc : ((s[k].toNat : Int) == 126) = true := by rw [hc]; rfl
                  have j4 : ¬ (4 : Int) ≤ (m : Int) := by omega
                  clear h4 hc
                  have HW1 := hide ((own_drewN HWx.out 0).alloc (.cells #[.int .u8 126, .int .u8 (48 + (m : Int)), .int .u8 s[k].toNat] 5))
                  have HFy := hide (HFx.out.alloc HFx.out.size (.cells #[.int .u8 126, .int .u8 (48 + (m : Int)), .int .u8 s[k].toNat] 5))
                  go_wp2_with fail
                  go_quiet (fail)
                  have HW1 := hide (own_drewN HW1.out nq)
                  have HFy := hide (below_drewN HFy.out nq)
                  have HNV := hide (show [Value.int .u8 126, .int .u8 (48 + (m : Int)), .int .u8 s[k].toNat] = Lib.byteCells [126, UInt8.ofNat (48 + m), s[k]] by rw [ofNat_48 m h9]; rfl)
                  go_wp2_with (at_builtin; refine wpList_append_own _ (by rfl) _ _ 25 (by rfl) w.heap.size 5 i0 (.int .u8 0) 1 1 Try.underlying25 hi hz0 hz1 hz2 rfl (by decide) _ out.length (Lib.byteCells out) (by rfl) HW1.out ⟨wr.heap.size, 0, none⟩ 3 3 [.int .u8 126, .int .u8 (48 + (m : Int)), .int .u8 s[k].toNat] (by rfl) rfl (World.news_of_block (heap_alloc_new _ _)) (by rw [HNV.out]; exact oneCells _) (by unfold maxLen; have := HL.out; omega) (by have := HL.out; omega) (by have := HFx.out.size; simp; omega) ?_; intro v' w1 hown' hgrow _; have HO1 := hide (own_snoc (more := [126, UInt8.ofNat (48 + m), s[k]]) hown' (by rw [HNV.out]) rfl); have HB1 := hide (bel_grown HFy.out HW1.out hgrow); clear hown' hgrow)
                  go_roundw
                  case rel => exact ⟨k + m, out ++ [126, UInt8.ofNat (48 + m), s[k]], by omega, hide (by have := HL.out; simp; omega), HN, HO1, HB1, int_eq (by omega)⟩
                  case measure => (simp [intOf]; try omega)
                · have HN := hide (pack_one s.data.toList out k m s[k] (at_of s k hlt) h1 HD.out h4 hc HO.out)
                  have jc : ((s[k].toNat : Int) == 126) = false := by rw [beq_eq_false_iff_ne]; intro e; exact hc (UInt8.toNat_inj.1 (by simpa using (by omega : s[k].toNat = 126)))
                  have j4 : ¬ (4 : Int) ≤ (m : Int) := by omega
                  have HW1 := hide ((own_drewN HWx.out 0).alloc (.cells #[.int .u8 s[k].toNat] 5))
                  have HFy := hide (HFx.out.alloc HFx.out.size (.cells #[.int .u8 s[k].toNat] 5))
                  clear h4 hc
                  go_wp2_with fail
                  go_quiet (fail)
                  have HW1 := hide (own_drewN HW1.out nq)
                  have HFy := hide (below_drewN HFy.out nq)
                  go_wp2_with (at_builtin; refine wpList_append_own _ (by rfl) _ _ 25 (by rfl) w.heap.size 5 i0 (.int .u8 0) 1 1 Try.underlying25 hi hz0 hz1 hz2 rfl (by decide) _ out.length (Lib.byteCells out) (by rfl) HW1.out ⟨wr.heap.size, 0, none⟩ 1 1 [.int .u8 s[k].toNat] (by rfl) rfl (World.news_of_block (heap_alloc_new _ _)) (by rw [show [Value.int .u8 s[k].toNat] = Lib.byteCells [s[k]] from rfl]; exact oneCells _) (by unfold maxLen; have := HL.out; omega) (by have := HL.out; omega) (by have := HFx.out.size; simp; omega) ?_; intro v' w1 hown' hgrow _; have HO1 := hide (own_snoc (more := [s[k]]) hown' (by rw [show [Value.int .u8 s[k].toNat] = Lib.byteCells [s[k]] from rfl]) rfl); have HB1 := hide (bel_grown HFy.out HW1.out hgrow); clear hown' hgrow)
                  go_roundw
                  case rel => exact ⟨k + 1, out ++ [s[k]], by omega, hide (by have := HL.out; simp; omega), HN, HO1, HB1, int_eq (by omega)⟩
                  case measure => (simp [intOf]; try omega)
              · have HN := hide (pack_run s.data.toList out k m s[k] (at_of s k hlt) h1 HD.out (.inl (by omega)) HO.out)
                have j4 : (4 : Int) ≤ (m : Int) := by omega
                clear h4
                have HW1 := hide ((own_drewN HWx.out 0).alloc (.cells #[.int .u8 126, .int .u8 (48 + (m : Int)), .int .u8 s[k].toNat] 5))
                have HFy := hide (HFx.out.alloc HFx.out.size (.cells #[.int .u8 126, .int .u8 (48 + (m : Int)), .int .u8 s[k].toNat] 5))
                go_wp2_with fail
                go_quiet (fail)
                have HW1 := hide (own_drewN HW1.out nq)
                have HFy := hide (below_drewN HFy.out nq)
                have HNV := hide (show [Value.int .u8 126, .int .u8 (48 + (m : Int)), .int .u8 s[k].toNat] = Lib.byteCells [126, UInt8.ofNat (48 + m), s[k]] by rw [ofNat_48 m h9]; rfl)
                go_wp2_with (at_builtin; refine wpList_append_own _ (by rfl) _ _ 25 (by rfl) w.heap.size 5 i0 (.int .u8 0) 1 1 Try.underlying25 hi hz0 hz1 hz2 rfl (by decide) _ out.length (Lib.byteCells out) (by rfl) HW1.out ⟨wr.heap.size, 0, none⟩ 3 3 [.int .u8 126, .int .u8 (48 + (m : Int)), .int .u8 s[k].toNat] (by rfl) rfl (World.news_of_block (heap_alloc_new _ _)) (by rw [HNV.out]; exact oneCells _) (by unfold maxLen; have := HL.out; omega) (by have := HL.out; omega) (by have := HFx.out.size; simp; omega) ?_; intro v' w1 hown' hgrow _; have HO1 := hide (own_snoc (more := [126, UInt8.ofNat (48 + m), s[k]]) hown' (by rw [HNV.out]) rfl); have HB1 := hide (bel_grown HFy.out HW1.out hgrow); clear hown' hgrow)
                go_roundw
                case rel => exact ⟨k + m, out ++ [126, UInt8.ofNat (48 + m), s[k]], by omega, hide (by have := HL.out; simp; omega), HN, HO1, HB1, int_eq (by omega)⟩
                case measure => (simp [intOf]; try omega)
          · have j1 : decide ((k : Int) + (m : Int) < (s.size : Int)) = false := by simp; omega
            have HD := hide (lead_done _ _ _ _ h1 h9 HA.out (.inr (.inl (none_of s (k + m) (by omega)))))
            have HFx := hide (show Below w.heap.size w wr by rw [HW.out]; exact below_drewN HF.out d)
            have HWx := hide (show wr.ownsRow w.heap.size 5 1 v out.length (Lib.byteCells out) by rw [HW.out]; exact own_drewN HB.out d)
            by_cases h4 : m < 4
            · by_cases hc : s[k] = 126
              · have HN := hide (pack_run s.data.toList out k m s[k] (at_of s k hlt) h1 HD.out (.inr hc) HO.out)
                have jc : ((s[k].toNat : Int) == 126) = true := by rw [hc]; rfl
                have j4 : ¬ (4 : Int) ≤ (m : Int) := by omega
                clear h4 hc
                have HW1 := hide ((own_drewN HWx.out 0).alloc (.cells #[.int .u8 126, .int .u8 (48 + (m : Int)), .int .u8 s[k].toNat] 5))
                have HFy := hide (HFx.out.alloc HFx.out.size (.cells #[.int .u8 126, .int .u8 (48 + (m : Int)), .int .u8 s[k].toNat] 5))
                go_wp2_with fail
                go_quiet (fail)
                have HW1 := hide (own_drewN HW1.out nq)
                have HFy := hide (below_drewN HFy.out nq)
                have HNV := hide (show [Value.int .u8 126, .int .u8 (48 + (m : Int)), .int .u8 s[k].toNat] = Lib.byteCells [126, UInt8.ofNat (48 + m), s[k]] by rw [ofNat_48 m h9]; rfl)
                go_wp2_with (at_builtin; refine wpList_append_own _ (by rfl) _ _ 25 (by rfl) w.heap.size 5 i0 (.int .u8 0) 1 1 Try.underlying25 hi hz0 hz1 hz2 rfl (by decide) _ out.length (Lib.byteCells out) (by rfl) HW1.out ⟨wr.heap.size, 0, none⟩ 3 3 [.int .u8 126, .int .u8 (48 + (m : Int)), .int .u8 s[k].toNat] (by rfl) rfl (World.news_of_block (heap_alloc_new _ _)) (by rw [HNV.out]; exact oneCells _) (by unfold maxLen; have := HL.out; omega) (by have := HL.out; omega) (by have := HFx.out.size; simp; omega) ?_; intro v' w1 hown' hgrow _; have HO1 := hide (own_snoc (more := [126, UInt8.ofNat (48 + m), s[k]]) hown' (by rw [HNV.out]) rfl); have HB1 := hide (bel_grown HFy.out HW1.out hgrow); clear hown' hgrow)
                go_roundw
                case rel => exact ⟨k + m, out ++ [126, UInt8.ofNat (48 + m), s[k]], by omega, hide (by have := HL.out; simp; omega), HN, HO1, HB1, int_eq (by omega)⟩
                case measure => (simp [intOf]; try omega)
              · have HN := hide (pack_one s.data.toList out k m s[k] (at_of s k hlt) h1 HD.out h4 hc HO.out)
                have jc : ((s[k].toNat : Int) == 126) = false := by rw [beq_eq_false_iff_ne]; intro e; exact hc (UInt8.toNat_inj.1 (by simpa using (by omega : s[k].toNat = 126)))
                have j4 : ¬ (4 : Int) ≤ (m : Int) := by omega
                have HW1 := hide ((own_drewN HWx.out 0).alloc (.cells #[.int .u8 s[k].toNat] 5))
                have HFy := hide (HFx.out.alloc HFx.out.size (.cells #[.int .u8 s[k].toNat] 5))
                clear h4 hc
                go_wp2_with fail
                go_quiet (fail)
                have HW1 := hide (own_drewN HW1.out nq)
                have HFy := hide (below_drewN HFy.out nq)
                go_wp2_with (at_builtin; refine wpList_append_own _ (by rfl) _ _ 25 (by rfl) w.heap.size 5 i0 (.int .u8 0) 1 1 Try.underlying25 hi hz0 hz1 hz2 rfl (by decide) _ out.length (Lib.byteCells out) (by rfl) HW1.out ⟨wr.heap.size, 0, none⟩ 1 1 [.int .u8 s[k].toNat] (by rfl) rfl (World.news_of_block (heap_alloc_new _ _)) (by rw [show [Value.int .u8 s[k].toNat] = Lib.byteCells [s[k]] from rfl]; exact oneCells _) (by unfold maxLen; have := HL.out; omega) (by have := HL.out; omega) (by have := HFx.out.size; simp; omega) ?_; intro v' w1 hown' hgrow _; have HO1 := hide (own_snoc (more := [s[k]]) hown' (by rw [show [Value.int .u8 s[k].toNat] = Lib.byteCells [s[k]] from rfl]) rfl); have HB1 := hide (bel_grown HFy.out HW1.out hgrow); clear hown' hgrow)
                go_roundw
                case rel => exact ⟨k + 1, out ++ [s[k]], by omega, hide (by have := HL.out; simp; omega), HN, HO1, HB1, int_eq (by omega)⟩
                case measure => (simp [intOf]; try omega)
            · have HN := hide (pack_run s.data.toList out k m s[k] (at_of s k hlt) h1 HD.out (.inl (by omega)) HO.out)
              have j4 : (4 : Int) ≤ (m : Int) := by omega
              clear h4
              have HW1 := hide ((own_drewN HWx.out 0).alloc (.cells #[.int .u8 126, .int .u8 (48 + (m : Int)), .int .u8 s[k].toNat] 5))
              have HFy := hide (HFx.out.alloc HFx.out.size (.cells #[.int .u8 126, .int .u8 (48 + (m : Int)), .int .u8 s[k].toNat] 5))
              go_wp2_with fail
              go_quiet (fail)
              have HW1 := hide (own_drewN HW1.out nq)
              have HFy := hide (below_drewN HFy.out nq)
              have HNV := hide (show [Value.int .u8 126, .int .u8 (48 + (m : Int)), .int .u8 s[k].toNat] = Lib.byteCells [126, UInt8.ofNat (48 + m), s[k]] by rw [ofNat_48 m h9]; rfl)
              go_wp2_with (at_builtin; refine wpList_append_own _ (by rfl) _ _ 25 (by rfl) w.heap.size 5 i0 (.int .u8 0) 1 1 Try.underlying25 hi hz0 hz1 hz2 rfl (by decide) _ out.length (Lib.byteCells out) (by rfl) HW1.out ⟨wr.heap.size, 0, none⟩ 3 3 [.int .u8 126, .int .u8 (48 + (m : Int)), .int .u8 s[k].toNat] (by rfl) rfl (World.news_of_block (heap_alloc_new _ _)) (by rw [HNV.out]; exact oneCells _) (by unfold maxLen; have := HL.out; omega) (by have := HL.out; omega) (by have := HFx.out.size; simp; omega) ?_; intro v' w1 hown' hgrow _; have HO1 := hide (own_snoc (more := [126, UInt8.ofNat (48 + m), s[k]]) hown' (by rw [HNV.out]) rfl); have HB1 := hide (bel_grown HFy.out HW1.out hgrow); clear hown' hgrow)
              go_roundw
              case rel => exact ⟨k + m, out ++ [126, UInt8.ofNat (48 + m), s[k]], by omega, hide (by have := HL.out; simp; omega), HN, HO1, HB1, int_eq (by omega)⟩
              case measure => (simp [intOf]; try omega)
        · have j0 : decide ((m : Int) < 9) = false := by simp; omega
          have HD := hide (lead_done _ _ _ _ h1 h9 HA.out (.inl (by omega)))
          have HFx := hide (show Below w.heap.size w wr by rw [HW.out]; exact below_drewN HF.out d)
          have HWx := hide (show wr.ownsRow w.heap.size 5 1 v out.length (Lib.byteCells out) by rw [HW.out]; exact own_drewN HB.out d)
          have h4 : ¬ m < 4 := by omega
          have HN := hide (pack_run s.data.toList out k m s[k] (at_of s k hlt) h1 HD.out (.inl (by omega)) HO.out)
          have j4 : (4 : Int) ≤ (m : Int) := by omega
          clear h4
          have HW1 := hide ((own_drewN HWx.out 0).alloc (.cells #[.int .u8 126, .int .u8 (48 + (m : Int)), .int .u8 s[k].toNat] 5))
          have HFy := hide (HFx.out.alloc HFx.out.size (.cells #[.int .u8 126, .int .u8 (48 + (m : Int)), .int .u8 s[k].toNat] 5))
          go_wp2_with fail
          go_quiet (fail)
          have HW1 := hide (own_drewN HW1.out nq)
          have HFy := hide (below_drewN HFy.out nq)
          have HNV := hide (show [Value.int .u8 126, .int .u8 (48 + (m : Int)), .int .u8 s[k].toNat] = Lib.byteCells [126, UInt8.ofNat (48 + m), s[k]] by rw [ofNat_48 m h9]; rfl)
          go_wp2_with (at_builtin; refine wpList_append_own _ (by rfl) _ _ 25 (by rfl) w.heap.size 5 i0 (.int .u8 0) 1 1 Try.underlying25 hi hz0 hz1 hz2 rfl (by decide) _ out.length (Lib.byteCells out) (by rfl) HW1.out ⟨wr.heap.size, 0, none⟩ 3 3 [.int .u8 126, .int .u8 (48 + (m : Int)), .int .u8 s[k].toNat] (by rfl) rfl (World.news_of_block (heap_alloc_new _ _)) (by rw [HNV.out]; exact oneCells _) (by unfold maxLen; have := HL.out; omega) (by have := HL.out; omega) (by have := HFx.out.size; simp; omega) ?_; intro v' w1 hown' hgrow _; have HO1 := hide (own_snoc (more := [126, UInt8.ofNat (48 + m), s[k]]) hown' (by rw [HNV.out]) rfl); have HB1 := hide (bel_grown HFy.out HW1.out hgrow); clear hown' hgrow)
          go_roundw
          case rel => exact ⟨k + m, out ++ [126, UInt8.ofNat (48 + m), s[k]], by omega, hide (by have := HL.out; simp; omega), HN, HO1, HB1, int_eq (by omega)⟩
          case measure => (simp [intOf]; try omega)
    · have e := hide (show out = pack s.data.toList by have := HO.out; rw [List.drop_eq_nil_of_le (by simp; omega), pack_nil, List.append_nil] at this; exact this)
      have hcv := str_of_own HB.out
      go_wp2_with fail
      go_ret
      exact ⟨by rw [e.out]; rfl, HF.out⟩

end Go.Proofs.Ytkbpnaliipbfiaa
