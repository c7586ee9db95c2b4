/-
  DERIVED. GIVEN WITH THE SEED: THE CARDS: each row of YtjapohefiggbaaaGreatDoorRows.lean that lists a variable, with what it lists TIED to the program's text (the seventh form; the later family's looks); each row that meets fmt, with fmt's text TOLD by the authors' own Lean function (tested against real Go, not proved from fmt's source: count such statements apart). THE CARD IS WHAT COUNTS. Prove the row's statement (the work); the ties are given (YtjapohefiggbaaaGreatDoorTie.lean); close each card by the builder's one call (the guide's Derived/Test/ToyasCard.lean, 'card_holds'). Laid BY PROGRAM, IN A SANDBOX (cutbox-door.mjs). By AI agents, Wed Nov 11 2026. No macro, syntax, notation, axiom, sorry.
-/
import Derived.Test.YtjapohefiggbaaaGreatDoorRows
import GoSem.ClaimSeven
namespace Go.Proofs.YtjapohefiggbaaaGreatDoor
namespace Rows

/-- THE TIED CARD OF 'laws.FnLooks'. -/
def fnLooksCard : Claim7 := { stood := { row := fnLooksRow, standIns := [], harness := (true, "6d1d6c57600675ad8ece7580d9a781835dc5f71782857a055bf9e5438448d043"), looks := true }, kinds := [], alts := [], laidByText := true, laidKinds := [.listed, .data], laidTests := true, laidLooks := .later }
def FnLooksCardSaid : Prop := Claim7.holds Tryz.pinned (.plain (OpenSpec.ofChange fnLooksSpec)) fnLooksCard

/-- THE TIED CARD OF 'laws.FnValues'. -/
def fnValuesCard : Claim7 := { stood := { row := fnValuesRow, standIns := [], harness := (true, "6d1d6c57600675ad8ece7580d9a781835dc5f71782857a055bf9e5438448d043"), looks := true }, kinds := [], alts := [], laidByText := true, laidKinds := [.data, .data, .data, .data, .data, .sentinel, .sentinel, .pinned, .pinned, .pinned], laidTests := true, laidLooks := .later }
def FnValuesCardSaid : Prop := Claim7.holds Tryz.pinned (.plain (OpenSpec.ofChange fnValuesSpec)) fnValuesCard

/-- THE SECOND FORM's CARD OF 'laws.FnLooks'. -/
def fnLooksUptoCard : Claim7 := { stood := { row := fnLooksUptoRow, standIns := [], harness := (true, "6d1d6c57600675ad8ece7580d9a781835dc5f71782857a055bf9e5438448d043"), looks := true }, kinds := [], alts := [], laidByText := true, laidKinds := [.listed, .data], laidTests := true, laidLooks := .later }
def FnLooksUptoCardSaid : Prop := Claim7.holds Tryz.pinned (.plain (OpenSpec.upto fnLooksSpec)) fnLooksUptoCard

/-- THE SECOND FORM's CARD OF 'laws.FnValues'. -/
def fnValuesUptoCard : Claim7 := { stood := { row := fnValuesUptoRow, standIns := [], harness := (true, "6d1d6c57600675ad8ece7580d9a781835dc5f71782857a055bf9e5438448d043"), looks := true }, kinds := [], alts := [], laidByText := true, laidKinds := [.data, .data, .data, .data, .data, .sentinel, .sentinel, .pinned, .pinned, .pinned], laidTests := true, laidLooks := .later }
def FnValuesUptoCardSaid : Prop := Claim7.holds Tryz.pinned (.plain (OpenSpec.upto fnValuesSpec)) fnValuesUptoCard
end Rows
end Go.Proofs.YtjapohefiggbaaaGreatDoor
