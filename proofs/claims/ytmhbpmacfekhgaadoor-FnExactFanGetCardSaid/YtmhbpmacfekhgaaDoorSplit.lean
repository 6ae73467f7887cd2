/- The shelf's contracts of strings.Split and strings.Join, laid at this program. -/
import Derived.Test.YtmhbpmacfekhgaaDoorCutC
import Derived.Test.YtmhbpmacfekhgaaDoorPieces
import Derived.Test.YtmhbpmacfekhgaaDoorFieldsGet
import Derived.Shelf.Strings.Split
import Derived.Shelf.Strings.OnBuilder
namespace Go.Proofs.YtmhbpmacfekhgaaDoor
open Go.Shelf Go.RowKit
set_option linter.unusedVariables false
def lays146_ren : Go.Shelf.Ren := ⟨fun | 138 => 74 | 143 => 75 | 146 => 46 | 195 => 83 | 197 => 84 | 217 => 97 | 218 => 85 | 219 => 86 | 221 => 64 | 224 => 99 | 225 => 98 | 260 => 96 | 266 => 109 | 267 => 100 | 268 => 73 | 314 => 110 | n => n, fun | 0 => 0 | 3 => 3 | 4 => 4 | 5 => 5 | 9 => 9 | 21 => 21 | 31 => 51 | 46 => 113 | 51 => 122 | 105 => 98 | 119 => 125 | 138 => 127 | 139 => 128 | 146 => 129 | n => n, fun | 1 => 0 | 3 => 4 | 4 => 5 |  n => n⟩
theorem lays146 : Go.Proofs.Lays.n146 Tryd.prog lays146_ren := {
  mixed := by kernel_rfl
  f138 := Tryd.func74.trans (congrArg some (by kernel_rfl))
  f143 := Tryd.func75.trans (congrArg some (by kernel_rfl))
  f146 := Tryd.func46.trans (congrArg some (by kernel_rfl))
  f195 := Tryd.func83.trans (congrArg some (by kernel_rfl))
  f197 := Tryd.func84.trans (congrArg some (by kernel_rfl))
  f217 := Tryd.func97.trans (congrArg some (by kernel_rfl))
  f218 := Tryd.func85.trans (congrArg some (by kernel_rfl))
  f219 := Tryd.func86.trans (congrArg some (by kernel_rfl))
  f221 := Tryd.func64.trans (congrArg some (by kernel_rfl))
  f224 := Tryd.func99.trans (congrArg some (by kernel_rfl))
  f225 := Tryd.func98.trans (congrArg some (by kernel_rfl))
  f260 := Tryd.func96.trans (congrArg some (by kernel_rfl))
  f266 := Tryd.func109.trans (congrArg some (by kernel_rfl))
  f267 := Tryd.func100.trans (congrArg some (by kernel_rfl))
  f268 := Tryd.func73.trans (congrArg some (by kernel_rfl))
  f314 := Tryd.func110.trans (congrArg some (by kernel_rfl))
  t0 := Tryd.underlying0
  a0 := Tryd.isAgg0
  z0 := Tryd.sizeOf0
  v0 := Tryd.zeroValue0
  t3 := Tryd.underlying3
  a3 := Tryd.isAgg3
  z3 := Tryd.sizeOf3
  v3 := Tryd.zeroValue3
  t4 := Tryd.underlying4
  a4 := Tryd.isAgg4
  z4 := Tryd.sizeOf4
  v4 := Tryd.zeroValue4
  t5 := Tryd.underlying5
  a5 := Tryd.isAgg5
  z5 := Tryd.sizeOf5
  v5 := Tryd.zeroValue5
  t9 := Tryd.underlying9
  a9 := Tryd.isAgg9
  z9 := Tryd.sizeOf9
  v9 := Tryd.zeroValue9
  t21 := Tryd.underlying21
  a21 := Tryd.isAgg21
  z21 := Tryd.sizeOf21
  v21 := Tryd.zeroValue21
  t31 := Tryd.underlying51
  a31 := Tryd.isAgg51
  z31 := Tryd.sizeOf51
  v31 := Tryd.zeroValue51
  t46 := Tryd.underlying113
  a46 := Tryd.isAgg113
  z46 := Tryd.sizeOf113
  v46 := Tryd.zeroValue113
  t51 := Tryd.underlying122
  a51 := Tryd.isAgg122
  z51 := Tryd.sizeOf122
  v51 := Tryd.zeroValue122
  t105 := Tryd.underlying98
  a105 := Tryd.isAgg98
  z105 := Tryd.sizeOf98
  v105 := Tryd.zeroValue98
  t119 := Tryd.underlying125
  a119 := Tryd.isAgg125
  z119 := Tryd.sizeOf125
  t138 := Tryd.underlying127
  a138 := Tryd.isAgg127
  z138 := Tryd.sizeOf127
  v138 := Tryd.zeroValue127
  t139 := Tryd.underlying128
  a139 := Tryd.isAgg128
  z139 := Tryd.sizeOf128
  v139 := Tryd.zeroValue128
  t146 := Tryd.underlying129
  a146 := Tryd.isAgg129
  z146 := Tryd.sizeOf129
  v146 := Tryd.zeroValue129
  g1 := by kernel_rfl
  g3 := by kernel_rfl
  g4 := by kernel_rfl
}
def lays156_ren : Go.Shelf.Ren := ⟨fun | 156 => 43 | 165 => 60 | 166 => 61 | 169 => 62 | 240 => 71 | 241 => 72 | 276 => 81 | 277 => 82 | n => n, fun | 0 => 0 | 3 => 3 | 4 => 4 | 5 => 5 | 9 => 9 | 20 => 20 | 31 => 51 | 37 => 32 | 70 => 71 | 72 => 73 | 75 => 76 | 76 => 77 | 80 => 79 | 127 => 89 | 164 => 95 | n => n, fun | n => n⟩
theorem lays156 : Go.Proofs.Lays.n156 Tryd.prog lays156_ren := {
  mixed := by kernel_rfl
  f156 := Tryd.func43.trans (congrArg some (by kernel_rfl))
  f165 := Tryd.func60.trans (congrArg some (by kernel_rfl))
  f166 := Tryd.func61.trans (congrArg some (by kernel_rfl))
  f169 := Tryd.func62.trans (congrArg some (by kernel_rfl))
  f240 := Tryd.func71.trans (congrArg some (by kernel_rfl))
  f241 := Tryd.func72.trans (congrArg some (by kernel_rfl))
  f276 := Tryd.func81.trans (congrArg some (by kernel_rfl))
  f277 := Tryd.func82.trans (congrArg some (by kernel_rfl))
  t0 := Tryd.underlying0
  a0 := Tryd.isAgg0
  z0 := Tryd.sizeOf0
  v0 := Tryd.zeroValue0
  t3 := Tryd.underlying3
  a3 := Tryd.isAgg3
  z3 := Tryd.sizeOf3
  v3 := Tryd.zeroValue3
  t4 := Tryd.underlying4
  a4 := Tryd.isAgg4
  z4 := Tryd.sizeOf4
  v4 := Tryd.zeroValue4
  t9 := Tryd.underlying9
  a9 := Tryd.isAgg9
  z9 := Tryd.sizeOf9
  v9 := Tryd.zeroValue9
  t20 := Tryd.underlying20
  a20 := Tryd.isAgg20
  z20 := Tryd.sizeOf20
  v20 := Tryd.zeroValue20
  t31 := Tryd.underlying51
  a31 := Tryd.isAgg51
  z31 := Tryd.sizeOf51
  v31 := Tryd.zeroValue51
  t37 := Tryd.underlying32
  a37 := Tryd.isAgg32
  z37 := Tryd.sizeOf32
  v37 := Tryd.zeroValue32
  t70 := Tryd.underlying71
  a70 := Tryd.isAgg71
  z70 := Tryd.sizeOf71
  v70 := Tryd.zeroValue71
  t72 := Tryd.underlying73
  a72 := Tryd.isAgg73
  z72 := Tryd.sizeOf73
  v72 := Tryd.zeroValue73
  t75 := Tryd.underlying76
  a75 := Tryd.isAgg76
  z75 := Tryd.sizeOf76
  v75 := Tryd.zeroValue76
  t76 := Tryd.underlying77
  a76 := Tryd.isAgg77
  z76 := Tryd.sizeOf77
  v76 := Tryd.zeroValue77
  t127 := Tryd.underlying89
  a127 := Tryd.isAgg89
  z127 := Tryd.sizeOf89
  v127 := Tryd.zeroValue89
  t164 := Tryd.underlying95
  a164 := Tryd.isAgg95
  z164 := Tryd.sizeOf95
  v164 := Tryd.zeroValue95
}
theorem extra156 : Builder.Extra Tryd.prog lays156_ren := {
  sizeBuilder := by kernel_rfl
  liesBuilder := by kernel_rfl
  t5 := Tryd.underlying5
  a5 := Tryd.isAgg5
  z5 := Tryd.sizeOf5
  v5 := Tryd.zeroValue5
  infoByte := by kernel_rfl
  cellsByte := by kernel_rfl
  sizeByte := by kernel_rfl
  neB5 := by decide }

/-- the pieces of a text -/
def pcs (c : UInt8) (s : ByteArray) : List ByteArray := (pieces c s.data.toList).map fun l => ⟨l.toArray⟩
theorem ba_list (zs : List ByteArray) : (zs.map (·.data.toList)).map (fun l => (⟨l.toArray⟩ : ByteArray)) = zs := by
  induction zs with
  | nil => rfl
  | cons z zs ih => rw [List.map_cons, List.map_cons, ih]
theorem list_ba (ls : List (List UInt8)) : (ls.map (fun l => (⟨l.toArray⟩ : ByteArray))).map (·.data.toList) = ls := by
  induction ls with
  | nil => rfl
  | cons z zs ih => rw [List.map_cons, List.map_cons, ih]
theorem pcs_of {c : UInt8} {s : ByteArray} {zs : List ByteArray} (h : zs.map (·.data.toList) = pieces c s.data.toList) : zs = pcs c s := by
  unfold pcs
  rw [← h, ba_list]
theorem pcs_lists (c : UInt8) (s : ByteArray) : (pcs c s).map (·.data.toList) = pieces c s.data.toList := list_ba _
theorem pcs_len (c : UInt8) (s : ByteArray) : (pcs c s).length = (pieces c s.data.toList).length := by unfold pcs; rw [List.length_map]
theorem splitB_pcs (c : UInt8) (s : ByteArray) : Lib.splitB ⟨#[c]⟩ 0 (Lib.countB s ⟨#[c]⟩) s = pcs c s :=
  pcs_of ((Lib.splitB_data ⟨#[c]⟩ 0 _ s).trans (split_pieces c s.data.toList))
theorem below_alloc {w : World} (o : Obj) : Below w.heap.size w (w.alloc o) := bel1 w o
theorem splitC (c : UInt8) (s : ByteArray) (w : World) (hs : s.size ≤ 1048576) (hx : Mx w) :
    Calls Tryd.prog 46 #[.string s, .string ⟨#[c]⟩] w fun e w' => e = .returned (.slice (some ⟨w.heap.size, 0, none⟩) (pcs c s).length (pcs c s).length) ∧ Bk w' w.heap.size 9 ((pcs c s).map Value.string).toArray ∧ Below w.heap.size w w' ∧ w.heap.size < w'.heap.size := by
  obtain ⟨m, hm⟩ := hx
  refine (Any.strings_Split lays146 info_str s ⟨#[c]⟩ m w (by omega) hm (Nat.le_refl 1)).mono ?_
  rintro e w' ⟨rfl, rfl⟩
  have hl : (pcs c s).length = Lib.countB s ⟨#[c]⟩ + 1 := by
    rw [← splitB_pcs]; exact Lib.splitB_all ⟨#[c]⟩ (Nat.le_refl 1) 0 _ s rfl
  rw [hl]
  refine ⟨rfl, ?_, bel1 _ _, by simp⟩
  rw [← splitB_pcs]
  exact Bk.fresh _ _ _
theorem joinC (A : Option Addr) (n c : Nat) (zs : List ByteArray) (sep : ByteArray) (w : World) (h : Rd w 1 A n (zs.map Value.string)) (h0 : 0 < n) (hc : n ≤ c) (hn : n ≤ 1000)
    (hlen : (Lib.join (zs.map (·.data.toList)) sep.data.toList).length ≤ 1000000) :
    Calls Tryd.prog 43 #[.slice A n c, .string sep] w fun e w' => e = .returned (.string ⟨(Lib.join (zs.map (·.data.toList)) sep.data.toList).toArray⟩) ∧ Below w.heap.size w w' := by
  have hl : zs.length = n := by have := h.len; simpa using this
  obtain ⟨b, o, rfl, hb, hcl⟩ := h.at_ h0
  subst hl
  exact Any.strings_Join lays156 extra156 b o c zs sep w (fun j x hx => hcl j _ (by rw [List.getElem?_map, hx]; rfl)) hb (by omega) hc (by omega)
end Go.Proofs.YtmhbpmacfekhgaaDoor
