/-
  DERIVED. GIVEN WITH THE SEED: THE CARDS: each row of YthdnekagddjoeaaDoorRows.lean that lists a variable, with what it lists TIED to the program's text (the seventh form; the later family's looks); each row that meets fmt, with fmt's text TOLD by the authors' own Lean function (tested against real Go, not proved from fmt's source: count such statements apart). THE CARD IS WHAT COUNTS. Prove the row's statement (the work); the ties are given (YthdnekagddjoeaaDoorTie.lean); close each card by the builder's one call (the guide's Derived/Test/ToyasCard.lean, 'card_holds'). Laid BY PROGRAM, IN A SANDBOX (cutbox-door.mjs). By AI agents, Wed Nov 11 2026. No macro, syntax, notation, axiom, sorry.
-/
import Derived.Test.YthdnekagddjoeaaDoorRows
import GoSem.ClaimSeven
namespace Go.Proofs.YthdnekagddjoeaaDoor
namespace Rows

/-- THE TIED CARD OF 'portagelaw04.DecimalInt'. -/
def decimalIntCard : Claim7 := { stood := { row := decimalIntRow, standIns := [], harness := (true, "9581c9fe79ca373ac9f2af65884d1753f1f4aa77c6475709ac01b616a541babe"), looks := true }, kinds := [], alts := [], laidByText := true, laidKinds := [.data, .data, .data], laidTests := true, laidLooks := .later }
def DecimalIntCardSaid : Prop := Claim7.holds Tryd.pinned (.plain (OpenSpec.ofChange decimalIntSpec)) decimalIntCard

/-- THE TIED CARD OF 'portagelaw04.DecimalParseInt'. -/
def decimalParseIntCard : Claim7 := { stood := { row := decimalParseIntRow, standIns := [], harness := (true, "9581c9fe79ca373ac9f2af65884d1753f1f4aa77c6475709ac01b616a541babe"), looks := true }, kinds := [], alts := [], laidByText := true, laidKinds := [.data, .data, .data, .sentinel, .sentinel], laidTests := true, laidLooks := .later }
def DecimalParseIntCardSaid : Prop := Claim7.holds Tryd.pinned (.plain (OpenSpec.ofChange decimalParseIntSpec)) decimalParseIntCard

/-- THE TIED CARD OF 'portagelaw04.DecimalWhole'. -/
def decimalWholeCard : Claim7 := { stood := { row := decimalWholeRow, standIns := [], harness := (true, "9581c9fe79ca373ac9f2af65884d1753f1f4aa77c6475709ac01b616a541babe"), looks := true }, kinds := [], alts := [], laidByText := true, laidKinds := [.data, .data, .data, .sentinel, .sentinel], laidTests := true, laidLooks := .later }
def DecimalWholeCardSaid : Prop := Claim7.holds Tryd.pinned (.plain (OpenSpec.ofChange decimalWholeSpec)) decimalWholeCard

/-- THE SECOND FORM's CARD OF 'portagelaw04.DecimalInt'. -/
def decimalIntUptoCard : Claim7 := { stood := { row := decimalIntUptoRow, standIns := [], harness := (true, "9581c9fe79ca373ac9f2af65884d1753f1f4aa77c6475709ac01b616a541babe"), looks := true }, kinds := [], alts := [], laidByText := true, laidKinds := [.data, .data, .data], laidTests := true, laidLooks := .later }
def DecimalIntUptoCardSaid : Prop := Claim7.holds Tryd.pinned (.plain (OpenSpec.upto decimalIntSpec)) decimalIntUptoCard

/-- THE SECOND FORM's CARD OF 'portagelaw04.DecimalParseInt'. -/
def decimalParseIntUptoCard : Claim7 := { stood := { row := decimalParseIntUptoRow, standIns := [], harness := (true, "9581c9fe79ca373ac9f2af65884d1753f1f4aa77c6475709ac01b616a541babe"), looks := true }, kinds := [], alts := [], laidByText := true, laidKinds := [.data, .data, .data, .sentinel, .sentinel], laidTests := true, laidLooks := .later }
def DecimalParseIntUptoCardSaid : Prop := Claim7.holds Tryd.pinned (.plain (OpenSpec.upto decimalParseIntSpec)) decimalParseIntUptoCard

/-- THE SECOND FORM's CARD OF 'portagelaw04.DecimalWhole'. -/
def decimalWholeUptoCard : Claim7 := { stood := { row := decimalWholeUptoRow, standIns := [], harness := (true, "9581c9fe79ca373ac9f2af65884d1753f1f4aa77c6475709ac01b616a541babe"), looks := true }, kinds := [], alts := [], laidByText := true, laidKinds := [.data, .data, .data, .sentinel, .sentinel], laidTests := true, laidLooks := .later }
def DecimalWholeUptoCardSaid : Prop := Claim7.holds Tryd.pinned (.plain (OpenSpec.upto decimalWholeSpec)) decimalWholeUptoCard
end Rows
end Go.Proofs.YthdnekagddjoeaaDoor
