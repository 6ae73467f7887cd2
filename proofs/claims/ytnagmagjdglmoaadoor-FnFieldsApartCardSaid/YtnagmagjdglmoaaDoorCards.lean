/-
  DERIVED. GIVEN WITH THE SEED: THE CARDS: each row of YtnagmagjdglmoaaDoorRows.lean that lists a variable, with what it lists TIED to the program's text (the seventh form; the later family's looks); each row that meets fmt, with fmt's text TOLD by the authors' own Lean function (tested against real Go, not proved from fmt's source: count such statements apart). THE CARD IS WHAT COUNTS. Prove the row's statement (the work); the ties are given (YtnagmagjdglmoaaDoorTie.lean); close each card by the builder's one call (the guide's Derived/Test/ToyasCard.lean, 'card_holds'). Laid BY PROGRAM, IN A SANDBOX (cutbox-door.mjs). By AI agents, Wed Nov 11 2026. No macro, syntax, notation, axiom, sorry.
-/
import Derived.Test.YtnagmagjdglmoaaDoorRows
import GoSem.ClaimSeven
namespace Go.Proofs.YtnagmagjdglmoaaDoor
namespace Rows

/-- THE TIED CARD OF 'laws.FnExactNumPut'. -/
def fnExactNumPutCard : Claim7 := { stood := { row := fnExactNumPutRow, standIns := [], harness := (true, "331daa435da41718066ef3dfae9e007c52d766f91f4ea66cee9b3b3e301036eb"), looks := true }, kinds := [], alts := [], laidByText := true, laidKinds := [.data, .data, .data], laidTests := true, laidLooks := .later }
def FnExactNumPutCardSaid : Prop := Claim7.holds Tryd.pinned (.plain (OpenSpec.ofChange fnExactNumPutSpec)) fnExactNumPutCard

/-- THE TIED CARD OF 'laws.FnExactNumGet'. -/
def fnExactNumGetCard : Claim7 := { stood := { row := fnExactNumGetRow, standIns := [], harness := (true, "331daa435da41718066ef3dfae9e007c52d766f91f4ea66cee9b3b3e301036eb"), looks := true }, kinds := [], alts := [], laidByText := true, laidKinds := [.data, .data, .data, .sentinel, .sentinel], laidTests := true, laidLooks := .later }
def FnExactNumGetCardSaid : Prop := Claim7.holds Tryd.pinned (.plain (OpenSpec.ofChange fnExactNumGetSpec)) fnExactNumGetCard

/-- THE TIED CARD OF 'laws.FnNumPut'. -/
def fnNumPutCard : Claim7 := { stood := { row := fnNumPutRow, standIns := [], harness := (true, "331daa435da41718066ef3dfae9e007c52d766f91f4ea66cee9b3b3e301036eb"), looks := true }, kinds := [], alts := [], laidByText := true, laidKinds := [.data, .data, .data, .sentinel, .sentinel], laidTests := true, laidLooks := .later }
def FnNumPutCardSaid : Prop := Claim7.holds Tryd.pinned (.plain (OpenSpec.ofChange fnNumPutSpec)) fnNumPutCard

/-- THE TIED CARD OF 'laws.FnNumGet'. -/
def fnNumGetCard : Claim7 := { stood := { row := fnNumGetRow, standIns := [], harness := (true, "331daa435da41718066ef3dfae9e007c52d766f91f4ea66cee9b3b3e301036eb"), looks := true }, kinds := [], alts := [], laidByText := true, laidKinds := [.data, .data, .data, .sentinel, .sentinel], laidTests := true, laidLooks := .later }
def FnNumGetCardSaid : Prop := Claim7.holds Tryd.pinned (.plain (OpenSpec.ofChange fnNumGetSpec)) fnNumGetCard

/-- THE TIED CARD OF 'laws.FnExactFieldsPut'. -/
def fnExactFieldsPutCard : Claim7 := { stood := { row := fnExactFieldsPutRow, standIns := [], harness := (true, "331daa435da41718066ef3dfae9e007c52d766f91f4ea66cee9b3b3e301036eb"), looks := true }, kinds := [], alts := [], laidByText := true, laidKinds := [.data, .data, .data], laidTests := true, laidLooks := .later }
def FnExactFieldsPutCardSaid : Prop := Claim7.holds Tryd.pinned (.plain (OpenSpec.ofChange fnExactFieldsPutSpec)) fnExactFieldsPutCard

/-- THE TIED CARD OF 'laws.FnExactFieldsGet'. -/
def fnExactFieldsGetCard : Claim7 := { stood := { row := fnExactFieldsGetRow, standIns := [], harness := (true, "331daa435da41718066ef3dfae9e007c52d766f91f4ea66cee9b3b3e301036eb"), looks := true }, kinds := [], alts := [], laidByText := true, laidKinds := [.data, .data, .data, .sentinel, .sentinel], laidTests := true, laidLooks := .later }
def FnExactFieldsGetCardSaid : Prop := Claim7.holds Tryd.pinned (.plain (OpenSpec.ofChange fnExactFieldsGetSpec)) fnExactFieldsGetCard

/-- THE TIED CARD OF 'laws.FnFieldsPut'. -/
def fnFieldsPutCard : Claim7 := { stood := { row := fnFieldsPutRow, standIns := [], harness := (true, "331daa435da41718066ef3dfae9e007c52d766f91f4ea66cee9b3b3e301036eb"), looks := true }, kinds := [], alts := [], laidByText := true, laidKinds := [.data, .data, .data, .sentinel, .sentinel], laidTests := true, laidLooks := .later }
def FnFieldsPutCardSaid : Prop := Claim7.holds Tryd.pinned (.plain (OpenSpec.ofChange fnFieldsPutSpec)) fnFieldsPutCard

/-- THE TIED CARD OF 'laws.FnFieldsGet'. -/
def fnFieldsGetCard : Claim7 := { stood := { row := fnFieldsGetRow, standIns := [], harness := (true, "331daa435da41718066ef3dfae9e007c52d766f91f4ea66cee9b3b3e301036eb"), looks := true }, kinds := [], alts := [], laidByText := true, laidKinds := [.data, .data, .data, .sentinel, .sentinel], laidTests := true, laidLooks := .later }
def FnFieldsGetCardSaid : Prop := Claim7.holds Tryd.pinned (.plain (OpenSpec.ofChange fnFieldsGetSpec)) fnFieldsGetCard

/-- THE TIED CARD OF 'laws.FnFieldsJoin'. -/
def fnFieldsJoinCard : Claim7 := { stood := { row := fnFieldsJoinRow, standIns := [], harness := (true, "331daa435da41718066ef3dfae9e007c52d766f91f4ea66cee9b3b3e301036eb"), looks := true }, kinds := [], alts := [], laidByText := true, laidKinds := [.data, .data, .data], laidTests := true, laidLooks := .later }
def FnFieldsJoinCardSaid : Prop := Claim7.holds Tryd.pinned (.plain (OpenSpec.ofChange fnFieldsJoinSpec)) fnFieldsJoinCard

/-- THE TIED CARD OF 'laws.FnFieldsApart'. -/
def fnFieldsApartCard : Claim7 := { stood := { row := fnFieldsApartRow, standIns := [], harness := (true, "331daa435da41718066ef3dfae9e007c52d766f91f4ea66cee9b3b3e301036eb"), looks := true }, kinds := [], alts := [], laidByText := true, laidKinds := [.data, .data, .data], laidTests := true, laidLooks := .later }
def FnFieldsApartCardSaid : Prop := Claim7.holds Tryd.pinned (.plain (OpenSpec.ofChange fnFieldsApartSpec)) fnFieldsApartCard

/-- THE SECOND FORM's CARD OF 'laws.FnExactNumPut'. -/
def fnExactNumPutUptoCard : Claim7 := { stood := { row := fnExactNumPutUptoRow, standIns := [], harness := (true, "331daa435da41718066ef3dfae9e007c52d766f91f4ea66cee9b3b3e301036eb"), looks := true }, kinds := [], alts := [], laidByText := true, laidKinds := [.data, .data, .data], laidTests := true, laidLooks := .later }
def FnExactNumPutUptoCardSaid : Prop := Claim7.holds Tryd.pinned (.plain (OpenSpec.upto fnExactNumPutSpec)) fnExactNumPutUptoCard

/-- THE SECOND FORM's CARD OF 'laws.FnExactNumGet'. -/
def fnExactNumGetUptoCard : Claim7 := { stood := { row := fnExactNumGetUptoRow, standIns := [], harness := (true, "331daa435da41718066ef3dfae9e007c52d766f91f4ea66cee9b3b3e301036eb"), looks := true }, kinds := [], alts := [], laidByText := true, laidKinds := [.data, .data, .data, .sentinel, .sentinel], laidTests := true, laidLooks := .later }
def FnExactNumGetUptoCardSaid : Prop := Claim7.holds Tryd.pinned (.plain (OpenSpec.upto fnExactNumGetSpec)) fnExactNumGetUptoCard

/-- THE SECOND FORM's CARD OF 'laws.FnNumPut'. -/
def fnNumPutUptoCard : Claim7 := { stood := { row := fnNumPutUptoRow, standIns := [], harness := (true, "331daa435da41718066ef3dfae9e007c52d766f91f4ea66cee9b3b3e301036eb"), looks := true }, kinds := [], alts := [], laidByText := true, laidKinds := [.data, .data, .data, .sentinel, .sentinel], laidTests := true, laidLooks := .later }
def FnNumPutUptoCardSaid : Prop := Claim7.holds Tryd.pinned (.plain (OpenSpec.upto fnNumPutSpec)) fnNumPutUptoCard

/-- THE SECOND FORM's CARD OF 'laws.FnNumGet'. -/
def fnNumGetUptoCard : Claim7 := { stood := { row := fnNumGetUptoRow, standIns := [], harness := (true, "331daa435da41718066ef3dfae9e007c52d766f91f4ea66cee9b3b3e301036eb"), looks := true }, kinds := [], alts := [], laidByText := true, laidKinds := [.data, .data, .data, .sentinel, .sentinel], laidTests := true, laidLooks := .later }
def FnNumGetUptoCardSaid : Prop := Claim7.holds Tryd.pinned (.plain (OpenSpec.upto fnNumGetSpec)) fnNumGetUptoCard

/-- THE SECOND FORM's CARD OF 'laws.FnExactFieldsPut'. -/
def fnExactFieldsPutUptoCard : Claim7 := { stood := { row := fnExactFieldsPutUptoRow, standIns := [], harness := (true, "331daa435da41718066ef3dfae9e007c52d766f91f4ea66cee9b3b3e301036eb"), looks := true }, kinds := [], alts := [], laidByText := true, laidKinds := [.data, .data, .data], laidTests := true, laidLooks := .later }
def FnExactFieldsPutUptoCardSaid : Prop := Claim7.holds Tryd.pinned (.plain (OpenSpec.upto fnExactFieldsPutSpec)) fnExactFieldsPutUptoCard

/-- THE SECOND FORM's CARD OF 'laws.FnExactFieldsGet'. -/
def fnExactFieldsGetUptoCard : Claim7 := { stood := { row := fnExactFieldsGetUptoRow, standIns := [], harness := (true, "331daa435da41718066ef3dfae9e007c52d766f91f4ea66cee9b3b3e301036eb"), looks := true }, kinds := [], alts := [], laidByText := true, laidKinds := [.data, .data, .data, .sentinel, .sentinel], laidTests := true, laidLooks := .later }
def FnExactFieldsGetUptoCardSaid : Prop := Claim7.holds Tryd.pinned (.plain (OpenSpec.upto fnExactFieldsGetSpec)) fnExactFieldsGetUptoCard

/-- THE SECOND FORM's CARD OF 'laws.FnFieldsPut'. -/
def fnFieldsPutUptoCard : Claim7 := { stood := { row := fnFieldsPutUptoRow, standIns := [], harness := (true, "331daa435da41718066ef3dfae9e007c52d766f91f4ea66cee9b3b3e301036eb"), looks := true }, kinds := [], alts := [], laidByText := true, laidKinds := [.data, .data, .data, .sentinel, .sentinel], laidTests := true, laidLooks := .later }
def FnFieldsPutUptoCardSaid : Prop := Claim7.holds Tryd.pinned (.plain (OpenSpec.upto fnFieldsPutSpec)) fnFieldsPutUptoCard

/-- THE SECOND FORM's CARD OF 'laws.FnFieldsGet'. -/
def fnFieldsGetUptoCard : Claim7 := { stood := { row := fnFieldsGetUptoRow, standIns := [], harness := (true, "331daa435da41718066ef3dfae9e007c52d766f91f4ea66cee9b3b3e301036eb"), looks := true }, kinds := [], alts := [], laidByText := true, laidKinds := [.data, .data, .data, .sentinel, .sentinel], laidTests := true, laidLooks := .later }
def FnFieldsGetUptoCardSaid : Prop := Claim7.holds Tryd.pinned (.plain (OpenSpec.upto fnFieldsGetSpec)) fnFieldsGetUptoCard

/-- THE SECOND FORM's CARD OF 'laws.FnFieldsJoin'. -/
def fnFieldsJoinUptoCard : Claim7 := { stood := { row := fnFieldsJoinUptoRow, standIns := [], harness := (true, "331daa435da41718066ef3dfae9e007c52d766f91f4ea66cee9b3b3e301036eb"), looks := true }, kinds := [], alts := [], laidByText := true, laidKinds := [.data, .data, .data], laidTests := true, laidLooks := .later }
def FnFieldsJoinUptoCardSaid : Prop := Claim7.holds Tryd.pinned (.plain (OpenSpec.upto fnFieldsJoinSpec)) fnFieldsJoinUptoCard

/-- THE SECOND FORM's CARD OF 'laws.FnFieldsApart'. -/
def fnFieldsApartUptoCard : Claim7 := { stood := { row := fnFieldsApartUptoRow, standIns := [], harness := (true, "331daa435da41718066ef3dfae9e007c52d766f91f4ea66cee9b3b3e301036eb"), looks := true }, kinds := [], alts := [], laidByText := true, laidKinds := [.data, .data, .data], laidTests := true, laidLooks := .later }
def FnFieldsApartUptoCardSaid : Prop := Claim7.holds Tryd.pinned (.plain (OpenSpec.upto fnFieldsApartSpec)) fnFieldsApartUptoCard
end Rows
end Go.Proofs.YtnagmagjdglmoaaDoor
