/-
  DERIVED. GIVEN WITH THE SEED: THE CARDS: each row of YtmhbpmacfekhgaaDoorRows.lean that lists a variable, with what it lists TIED to the program's text (the seventh form; the later family's looks); each row that meets fmt, with fmt's text TOLD by the authors' own Lean function (tested against real Go, not proved from fmt's source: count such statements apart). THE CARD IS WHAT COUNTS. Prove the row's statement (the work); the ties are given (YtmhbpmacfekhgaaDoorTie.lean); close each card by the builder's one call (the guide's Derived/Test/ToyasCard.lean, 'card_holds'). Laid BY PROGRAM, IN A SANDBOX (cutbox-door.mjs). By AI agents, Wed Nov 11 2026. No macro, syntax, notation, axiom, sorry.
-/
import Derived.Test.YtmhbpmacfekhgaaDoorRows
import GoSem.ClaimSeven
namespace Go.Proofs.YtmhbpmacfekhgaaDoor
namespace Rows

/-- THE TIED CARD OF 'laws.FnExactPtrPut'. -/
def fnExactPtrPutCard : Claim7 := { stood := { row := fnExactPtrPutRow, standIns := [], harness := (true, "f616a584fe454516a1634572b578d96db41d5fbac33987ed6120e5c77f9f9531"), looks := true }, kinds := [], alts := [], laidByText := true, laidKinds := [.data, .data, .data], laidTests := true, laidLooks := .later }
def FnExactPtrPutCardSaid : Prop := Claim7.holds Tryd.pinned (.plain (OpenSpec.ofChange fnExactPtrPutSpec)) fnExactPtrPutCard

/-- THE TIED CARD OF 'laws.FnExactPtrGet'. -/
def fnExactPtrGetCard : Claim7 := { stood := { row := fnExactPtrGetRow, standIns := [], harness := (true, "f616a584fe454516a1634572b578d96db41d5fbac33987ed6120e5c77f9f9531"), looks := true }, kinds := [], alts := [], laidByText := true, laidKinds := [.data, .data, .data, .data, .sentinel, .sentinel, .pinned], laidTests := true, laidLooks := .later }
def FnExactPtrGetCardSaid : Prop := Claim7.holds Tryd.pinned (.plain (OpenSpec.ofChange fnExactPtrGetSpec)) fnExactPtrGetCard

/-- THE TIED CARD OF 'laws.FnPtrPut'. -/
def fnPtrPutCard : Claim7 := { stood := { row := fnPtrPutRow, standIns := [], harness := (true, "f616a584fe454516a1634572b578d96db41d5fbac33987ed6120e5c77f9f9531"), looks := true }, kinds := [], alts := [], laidByText := true, laidKinds := [.data, .data, .data, .data, .sentinel, .sentinel, .pinned], laidTests := true, laidLooks := .later }
def FnPtrPutCardSaid : Prop := Claim7.holds Tryd.pinned (.plain (OpenSpec.ofChange fnPtrPutSpec)) fnPtrPutCard

/-- THE TIED CARD OF 'laws.FnPtrGet'. -/
def fnPtrGetCard : Claim7 := { stood := { row := fnPtrGetRow, standIns := [], harness := (true, "f616a584fe454516a1634572b578d96db41d5fbac33987ed6120e5c77f9f9531"), looks := true }, kinds := [], alts := [], laidByText := true, laidKinds := [.data, .data, .data, .data, .sentinel, .sentinel, .pinned], laidTests := true, laidLooks := .later }
def FnPtrGetCardSaid : Prop := Claim7.holds Tryd.pinned (.plain (OpenSpec.ofChange fnPtrGetSpec)) fnPtrGetCard

/-- THE TIED CARD OF 'laws.FnPtrHole'. -/
def fnPtrHoleCard : Claim7 := { stood := { row := fnPtrHoleRow, standIns := [], harness := (true, "f616a584fe454516a1634572b578d96db41d5fbac33987ed6120e5c77f9f9531"), looks := true }, kinds := [], alts := [], laidByText := true, laidKinds := [.data, .data, .data], laidTests := true, laidLooks := .later }
def FnPtrHoleCardSaid : Prop := Claim7.holds Tryd.pinned (.plain (OpenSpec.ofChange fnPtrHoleSpec)) fnPtrHoleCard

/-- THE TIED CARD OF 'laws.FnPtrOk'. -/
def fnPtrOkCard : Claim7 := { stood := { row := fnPtrOkRow, standIns := [], harness := (true, "f616a584fe454516a1634572b578d96db41d5fbac33987ed6120e5c77f9f9531"), looks := true }, kinds := [], alts := [], laidByText := true, laidKinds := [.data, .data, .data], laidTests := true, laidLooks := .later }
def FnPtrOkCardSaid : Prop := Claim7.holds Tryd.pinned (.plain (OpenSpec.ofChange fnPtrOkSpec)) fnPtrOkCard

/-- THE TIED CARD OF 'laws.FnPtrApart'. -/
def fnPtrApartCard : Claim7 := { stood := { row := fnPtrApartRow, standIns := [], harness := (true, "f616a584fe454516a1634572b578d96db41d5fbac33987ed6120e5c77f9f9531"), looks := true }, kinds := [], alts := [], laidByText := true, laidKinds := [.data, .data, .data], laidTests := true, laidLooks := .later }
def FnPtrApartCardSaid : Prop := Claim7.holds Tryd.pinned (.plain (OpenSpec.ofChange fnPtrApartSpec)) fnPtrApartCard

/-- THE TIED CARD OF 'laws.FnExactFanPut'. -/
def fnExactFanPutCard : Claim7 := { stood := { row := fnExactFanPutRow, standIns := [], harness := (true, "f616a584fe454516a1634572b578d96db41d5fbac33987ed6120e5c77f9f9531"), looks := true }, kinds := [], alts := [], laidByText := true, laidKinds := [.data, .data, .data], laidTests := true, laidLooks := .later }
def FnExactFanPutCardSaid : Prop := Claim7.holds Tryd.pinned (.plain (OpenSpec.ofChange fnExactFanPutSpec)) fnExactFanPutCard

/-- THE TIED CARD OF 'laws.FnExactFanGet'. -/
def fnExactFanGetCard : Claim7 := { stood := { row := fnExactFanGetRow, standIns := [], harness := (true, "f616a584fe454516a1634572b578d96db41d5fbac33987ed6120e5c77f9f9531"), looks := true }, kinds := [], alts := [], laidByText := true, laidKinds := [.data, .data, .data, .data, .sentinel, .sentinel, .pinned], laidTests := true, laidLooks := .later }
def FnExactFanGetCardSaid : Prop := Claim7.holds Tryd.pinned (.plain (OpenSpec.ofChange fnExactFanGetSpec)) fnExactFanGetCard

/-- THE TIED CARD OF 'laws.FnFanPut'. -/
def fnFanPutCard : Claim7 := { stood := { row := fnFanPutRow, standIns := [], harness := (true, "f616a584fe454516a1634572b578d96db41d5fbac33987ed6120e5c77f9f9531"), looks := true }, kinds := [], alts := [], laidByText := true, laidKinds := [.data, .data, .data, .data, .sentinel, .sentinel, .pinned], laidTests := true, laidLooks := .later }
def FnFanPutCardSaid : Prop := Claim7.holds Tryd.pinned (.plain (OpenSpec.ofChange fnFanPutSpec)) fnFanPutCard

/-- THE TIED CARD OF 'laws.FnFanGet'. -/
def fnFanGetCard : Claim7 := { stood := { row := fnFanGetRow, standIns := [], harness := (true, "f616a584fe454516a1634572b578d96db41d5fbac33987ed6120e5c77f9f9531"), looks := true }, kinds := [], alts := [], laidByText := true, laidKinds := [.data, .data, .data, .data, .sentinel, .sentinel, .pinned], laidTests := true, laidLooks := .later }
def FnFanGetCardSaid : Prop := Claim7.holds Tryd.pinned (.plain (OpenSpec.ofChange fnFanGetSpec)) fnFanGetCard

/-- THE SECOND FORM's CARD OF 'laws.FnExactPtrPut'. -/
def fnExactPtrPutUptoCard : Claim7 := { stood := { row := fnExactPtrPutUptoRow, standIns := [], harness := (true, "f616a584fe454516a1634572b578d96db41d5fbac33987ed6120e5c77f9f9531"), looks := true }, kinds := [], alts := [], laidByText := true, laidKinds := [.data, .data, .data], laidTests := true, laidLooks := .later }
def FnExactPtrPutUptoCardSaid : Prop := Claim7.holds Tryd.pinned (.plain (OpenSpec.upto fnExactPtrPutSpec)) fnExactPtrPutUptoCard

/-- THE SECOND FORM's CARD OF 'laws.FnExactPtrGet'. -/
def fnExactPtrGetUptoCard : Claim7 := { stood := { row := fnExactPtrGetUptoRow, standIns := [], harness := (true, "f616a584fe454516a1634572b578d96db41d5fbac33987ed6120e5c77f9f9531"), looks := true }, kinds := [], alts := [], laidByText := true, laidKinds := [.data, .data, .data, .data, .sentinel, .sentinel, .pinned], laidTests := true, laidLooks := .later }
def FnExactPtrGetUptoCardSaid : Prop := Claim7.holds Tryd.pinned (.plain (OpenSpec.upto fnExactPtrGetSpec)) fnExactPtrGetUptoCard

/-- THE SECOND FORM's CARD OF 'laws.FnPtrPut'. -/
def fnPtrPutUptoCard : Claim7 := { stood := { row := fnPtrPutUptoRow, standIns := [], harness := (true, "f616a584fe454516a1634572b578d96db41d5fbac33987ed6120e5c77f9f9531"), looks := true }, kinds := [], alts := [], laidByText := true, laidKinds := [.data, .data, .data, .data, .sentinel, .sentinel, .pinned], laidTests := true, laidLooks := .later }
def FnPtrPutUptoCardSaid : Prop := Claim7.holds Tryd.pinned (.plain (OpenSpec.upto fnPtrPutSpec)) fnPtrPutUptoCard

/-- THE SECOND FORM's CARD OF 'laws.FnPtrGet'. -/
def fnPtrGetUptoCard : Claim7 := { stood := { row := fnPtrGetUptoRow, standIns := [], harness := (true, "f616a584fe454516a1634572b578d96db41d5fbac33987ed6120e5c77f9f9531"), looks := true }, kinds := [], alts := [], laidByText := true, laidKinds := [.data, .data, .data, .data, .sentinel, .sentinel, .pinned], laidTests := true, laidLooks := .later }
def FnPtrGetUptoCardSaid : Prop := Claim7.holds Tryd.pinned (.plain (OpenSpec.upto fnPtrGetSpec)) fnPtrGetUptoCard

/-- THE SECOND FORM's CARD OF 'laws.FnPtrHole'. -/
def fnPtrHoleUptoCard : Claim7 := { stood := { row := fnPtrHoleUptoRow, standIns := [], harness := (true, "f616a584fe454516a1634572b578d96db41d5fbac33987ed6120e5c77f9f9531"), looks := true }, kinds := [], alts := [], laidByText := true, laidKinds := [.data, .data, .data], laidTests := true, laidLooks := .later }
def FnPtrHoleUptoCardSaid : Prop := Claim7.holds Tryd.pinned (.plain (OpenSpec.upto fnPtrHoleSpec)) fnPtrHoleUptoCard

/-- THE SECOND FORM's CARD OF 'laws.FnPtrOk'. -/
def fnPtrOkUptoCard : Claim7 := { stood := { row := fnPtrOkUptoRow, standIns := [], harness := (true, "f616a584fe454516a1634572b578d96db41d5fbac33987ed6120e5c77f9f9531"), looks := true }, kinds := [], alts := [], laidByText := true, laidKinds := [.data, .data, .data], laidTests := true, laidLooks := .later }
def FnPtrOkUptoCardSaid : Prop := Claim7.holds Tryd.pinned (.plain (OpenSpec.upto fnPtrOkSpec)) fnPtrOkUptoCard

/-- THE SECOND FORM's CARD OF 'laws.FnPtrApart'. -/
def fnPtrApartUptoCard : Claim7 := { stood := { row := fnPtrApartUptoRow, standIns := [], harness := (true, "f616a584fe454516a1634572b578d96db41d5fbac33987ed6120e5c77f9f9531"), looks := true }, kinds := [], alts := [], laidByText := true, laidKinds := [.data, .data, .data], laidTests := true, laidLooks := .later }
def FnPtrApartUptoCardSaid : Prop := Claim7.holds Tryd.pinned (.plain (OpenSpec.upto fnPtrApartSpec)) fnPtrApartUptoCard

/-- THE SECOND FORM's CARD OF 'laws.FnExactFanPut'. -/
def fnExactFanPutUptoCard : Claim7 := { stood := { row := fnExactFanPutUptoRow, standIns := [], harness := (true, "f616a584fe454516a1634572b578d96db41d5fbac33987ed6120e5c77f9f9531"), looks := true }, kinds := [], alts := [], laidByText := true, laidKinds := [.data, .data, .data], laidTests := true, laidLooks := .later }
def FnExactFanPutUptoCardSaid : Prop := Claim7.holds Tryd.pinned (.plain (OpenSpec.upto fnExactFanPutSpec)) fnExactFanPutUptoCard

/-- THE SECOND FORM's CARD OF 'laws.FnExactFanGet'. -/
def fnExactFanGetUptoCard : Claim7 := { stood := { row := fnExactFanGetUptoRow, standIns := [], harness := (true, "f616a584fe454516a1634572b578d96db41d5fbac33987ed6120e5c77f9f9531"), looks := true }, kinds := [], alts := [], laidByText := true, laidKinds := [.data, .data, .data, .data, .sentinel, .sentinel, .pinned], laidTests := true, laidLooks := .later }
def FnExactFanGetUptoCardSaid : Prop := Claim7.holds Tryd.pinned (.plain (OpenSpec.upto fnExactFanGetSpec)) fnExactFanGetUptoCard

/-- THE SECOND FORM's CARD OF 'laws.FnFanPut'. -/
def fnFanPutUptoCard : Claim7 := { stood := { row := fnFanPutUptoRow, standIns := [], harness := (true, "f616a584fe454516a1634572b578d96db41d5fbac33987ed6120e5c77f9f9531"), looks := true }, kinds := [], alts := [], laidByText := true, laidKinds := [.data, .data, .data, .data, .sentinel, .sentinel, .pinned], laidTests := true, laidLooks := .later }
def FnFanPutUptoCardSaid : Prop := Claim7.holds Tryd.pinned (.plain (OpenSpec.upto fnFanPutSpec)) fnFanPutUptoCard

/-- THE SECOND FORM's CARD OF 'laws.FnFanGet'. -/
def fnFanGetUptoCard : Claim7 := { stood := { row := fnFanGetUptoRow, standIns := [], harness := (true, "f616a584fe454516a1634572b578d96db41d5fbac33987ed6120e5c77f9f9531"), looks := true }, kinds := [], alts := [], laidByText := true, laidKinds := [.data, .data, .data, .data, .sentinel, .sentinel, .pinned], laidTests := true, laidLooks := .later }
def FnFanGetUptoCardSaid : Prop := Claim7.holds Tryd.pinned (.plain (OpenSpec.upto fnFanGetSpec)) fnFanGetUptoCard
end Rows
end Go.Proofs.YtmhbpmacfekhgaaDoor
