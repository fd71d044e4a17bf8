/-
  DERIVED. GIVEN WITH THE SEED: THE CARDS: each row of YtpallcggmaheoaaDoorRows.lean that lists a variable, with what it lists TIED to the program's text (the seventh form; the later family's looks); each row that meets fmt, with fmt's text TOLD by the authors' own Lean function (tested against real Go, not proved from fmt's source: count such statements apart). THE CARD IS WHAT COUNTS. Prove the row's statement (the work); the ties are given (YtpallcggmaheoaaDoorTie.lean); close each card by the builder's one call (the guide's Derived/Test/ToyasCard.lean, 'card_holds'). Laid BY PROGRAM, IN A SANDBOX (cutbox-door.mjs). By AI agents, Wed Nov 11 2026. No macro, syntax, notation, axiom, sorry.
-/
import Derived.Test.YtpallcggmaheoaaDoorRows
import GoSem.ClaimSeven
namespace Go.Proofs.YtpallcggmaheoaaDoor
namespace Rows

/-- THE TIED CARD OF 'portagelaw12.ListInstr'. -/
def listInstrCard : Claim7 := { stood := { row := listInstrRow, standIns := [], harness := (true, "fe382839b8e27f21ab169b00b626d4bc901b346b7eafd2f910ba958b6da92cee"), looks := true }, kinds := [], alts := [], laidByText := true, laidKinds := [.data, .data, .data], laidTests := true, laidLooks := .later }
def ListInstrCardSaid : Prop := Claim7.holds Tryd.pinned (.plain (OpenSpec.ofChange listInstrSpec)) listInstrCard

/-- THE SECOND FORM's CARD OF 'portagelaw12.ListInstr'. -/
def listInstrUptoCard : Claim7 := { stood := { row := listInstrUptoRow, standIns := [], harness := (true, "fe382839b8e27f21ab169b00b626d4bc901b346b7eafd2f910ba958b6da92cee"), looks := true }, kinds := [], alts := [], laidByText := true, laidKinds := [.data, .data, .data], laidTests := true, laidLooks := .later }
def ListInstrUptoCardSaid : Prop := Claim7.holds Tryd.pinned (.plain (OpenSpec.upto listInstrSpec)) listInstrUptoCard
end Rows
end Go.Proofs.YtpallcggmaheoaaDoor
