/-
  DERIVED. GIVEN WITH THE SEED: THE CARDS: each row of YtkeneiahhmbojaaGreatDoorRows.lean that lists a variable, with what it lists TIED to the program's text (the seventh form; the later family's looks); each row that meets fmt, with fmt's text TOLD by the authors' own Lean function (tested against real Go, not proved from fmt's source: count such statements apart). THE CARD IS WHAT COUNTS. Prove the row's statement (the work); the ties are given (YtkeneiahhmbojaaGreatDoorTie.lean); close each card by the builder's one call (the guide's Derived/Test/ToyasCard.lean, 'card_holds'). Laid BY PROGRAM, IN A SANDBOX (cutbox-door.mjs). By AI agents, Wed Nov 11 2026. No macro, syntax, notation, axiom, sorry.
-/
import Derived.Test.YtkeneiahhmbojaaGreatDoorRows
import GoSem.ClaimSeven
namespace Go.Proofs.YtkeneiahhmbojaaGreatDoor
namespace Rows

/-- THE TIED CARD OF 'portagelaw13.OpsRing'. -/
def opsRingCard : Claim7 := { stood := { row := opsRingRow, standIns := [], harness := (true, "61e204e1bc35ce011a647d74ba6b11620249c1443d33bb94c05fd27169a93804"), looks := true }, kinds := [], alts := [], laidByText := true, laidKinds := [.data, .data, .widerDeep, .widerDeep, .data, .data, .data, .data, .data, .data, .sentinel, .sentinel, .pinned, .pinned, .pinned], laidTests := true, laidLooks := .later }
def OpsRingCardSaid : Prop := Claim7.holds Tryz.pinned (.plain (OpenSpec.ofChange opsRingSpec)) opsRingCard

/-- THE TIED CARD OF 'portagelaw13.OpsBits'. -/
def opsBitsCard : Claim7 := { stood := { row := opsBitsRow, standIns := [], harness := (true, "61e204e1bc35ce011a647d74ba6b11620249c1443d33bb94c05fd27169a93804"), looks := true }, kinds := [], alts := [], laidByText := true, laidKinds := [.data, .data, .widerDeep, .widerDeep, .data, .data, .data, .data, .data, .data, .sentinel, .sentinel, .pinned, .pinned, .pinned], laidTests := true, laidLooks := .later }
def OpsBitsCardSaid : Prop := Claim7.holds Tryz.pinned (.plain (OpenSpec.ofChange opsBitsSpec)) opsBitsCard

/-- THE TIED CARD OF 'portagelaw13.OpsOrder'. -/
def opsOrderCard : Claim7 := { stood := { row := opsOrderRow, standIns := [], harness := (true, "61e204e1bc35ce011a647d74ba6b11620249c1443d33bb94c05fd27169a93804"), looks := true }, kinds := [], alts := [], laidByText := true, laidKinds := [.data, .data, .widerDeep, .widerDeep, .data, .data, .data, .data, .data, .data, .sentinel, .sentinel, .pinned, .pinned, .pinned], laidTests := true, laidLooks := .later }
def OpsOrderCardSaid : Prop := Claim7.holds Tryz.pinned (.plain (OpenSpec.ofChange opsOrderSpec)) opsOrderCard

/-- THE TIED CARD OF 'portagelaw13.OpsPieces'. -/
def opsPiecesCard : Claim7 := { stood := { row := opsPiecesRow, standIns := [], harness := (true, "61e204e1bc35ce011a647d74ba6b11620249c1443d33bb94c05fd27169a93804"), looks := true }, kinds := [], alts := [], laidByText := true, laidKinds := [.data, .data, .widerDeep, .widerDeep, .data, .data, .data, .data, .data, .data, .sentinel, .sentinel, .pinned, .pinned, .pinned], laidTests := true, laidLooks := .later }
def OpsPiecesCardSaid : Prop := Claim7.holds Tryz.pinned (.plain (OpenSpec.ofChange opsPiecesSpec)) opsPiecesCard

/-- THE TIED CARD OF 'portagelaw13.OpsBinds'. -/
def opsBindsCard : Claim7 := { stood := { row := opsBindsRow, standIns := [], harness := (true, "61e204e1bc35ce011a647d74ba6b11620249c1443d33bb94c05fd27169a93804"), looks := true }, kinds := [], alts := [], laidByText := true, laidKinds := [.data, .data, .widerDeep, .widerDeep, .data, .data, .data, .data, .data, .data, .sentinel, .sentinel, .pinned, .pinned, .pinned], laidTests := true, laidLooks := .later }
def OpsBindsCardSaid : Prop := Claim7.holds Tryz.pinned (.plain (OpenSpec.ofChange opsBindsSpec)) opsBindsCard

/-- THE SECOND FORM's CARD OF 'portagelaw13.OpsRing'. -/
def opsRingUptoCard : Claim7 := { stood := { row := opsRingUptoRow, standIns := [], harness := (true, "61e204e1bc35ce011a647d74ba6b11620249c1443d33bb94c05fd27169a93804"), looks := true }, kinds := [], alts := [], laidByText := true, laidKinds := [.data, .data, .widerDeep, .widerDeep, .data, .data, .data, .data, .data, .data, .sentinel, .sentinel, .pinned, .pinned, .pinned], laidTests := true, laidLooks := .later }
def OpsRingUptoCardSaid : Prop := Claim7.holds Tryz.pinned (.plain (OpenSpec.upto opsRingSpec)) opsRingUptoCard

/-- THE SECOND FORM's CARD OF 'portagelaw13.OpsBits'. -/
def opsBitsUptoCard : Claim7 := { stood := { row := opsBitsUptoRow, standIns := [], harness := (true, "61e204e1bc35ce011a647d74ba6b11620249c1443d33bb94c05fd27169a93804"), looks := true }, kinds := [], alts := [], laidByText := true, laidKinds := [.data, .data, .widerDeep, .widerDeep, .data, .data, .data, .data, .data, .data, .sentinel, .sentinel, .pinned, .pinned, .pinned], laidTests := true, laidLooks := .later }
def OpsBitsUptoCardSaid : Prop := Claim7.holds Tryz.pinned (.plain (OpenSpec.upto opsBitsSpec)) opsBitsUptoCard

/-- THE SECOND FORM's CARD OF 'portagelaw13.OpsOrder'. -/
def opsOrderUptoCard : Claim7 := { stood := { row := opsOrderUptoRow, standIns := [], harness := (true, "61e204e1bc35ce011a647d74ba6b11620249c1443d33bb94c05fd27169a93804"), looks := true }, kinds := [], alts := [], laidByText := true, laidKinds := [.data, .data, .widerDeep, .widerDeep, .data, .data, .data, .data, .data, .data, .sentinel, .sentinel, .pinned, .pinned, .pinned], laidTests := true, laidLooks := .later }
def OpsOrderUptoCardSaid : Prop := Claim7.holds Tryz.pinned (.plain (OpenSpec.upto opsOrderSpec)) opsOrderUptoCard

/-- THE SECOND FORM's CARD OF 'portagelaw13.OpsPieces'. -/
def opsPiecesUptoCard : Claim7 := { stood := { row := opsPiecesUptoRow, standIns := [], harness := (true, "61e204e1bc35ce011a647d74ba6b11620249c1443d33bb94c05fd27169a93804"), looks := true }, kinds := [], alts := [], laidByText := true, laidKinds := [.data, .data, .widerDeep, .widerDeep, .data, .data, .data, .data, .data, .data, .sentinel, .sentinel, .pinned, .pinned, .pinned], laidTests := true, laidLooks := .later }
def OpsPiecesUptoCardSaid : Prop := Claim7.holds Tryz.pinned (.plain (OpenSpec.upto opsPiecesSpec)) opsPiecesUptoCard

/-- THE SECOND FORM's CARD OF 'portagelaw13.OpsBinds'. -/
def opsBindsUptoCard : Claim7 := { stood := { row := opsBindsUptoRow, standIns := [], harness := (true, "61e204e1bc35ce011a647d74ba6b11620249c1443d33bb94c05fd27169a93804"), looks := true }, kinds := [], alts := [], laidByText := true, laidKinds := [.data, .data, .widerDeep, .widerDeep, .data, .data, .data, .data, .data, .data, .sentinel, .sentinel, .pinned, .pinned, .pinned], laidTests := true, laidLooks := .later }
def OpsBindsUptoCardSaid : Prop := Claim7.holds Tryz.pinned (.plain (OpenSpec.upto opsBindsSpec)) opsBindsUptoCard
end Rows
end Go.Proofs.YtkeneiahhmbojaaGreatDoor
