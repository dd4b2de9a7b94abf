/-
  DERIVED. GIVEN WITH THE SEED: THE CARDS: each row of YtfjkmpmjohojpaaGreatDoorRows.lean that lists a variable, with what it lists TIED to the program's text (the seventh form; the later family's looks); each row that meets fmt, with fmt's text TOLD by the authors' own Lean function (tested against real Go, not proved from fmt's source: count such statements apart). THE CARD IS WHAT COUNTS. Prove the row's statement (the work); the ties are given (YtfjkmpmjohojpaaGreatDoorTie.lean); close each card by the builder's one call (the guide's Derived/Test/ToyasCard.lean, 'card_holds'). Laid BY PROGRAM, IN A SANDBOX (cutbox-door.mjs). By AI agents, Wed Nov 11 2026. No macro, syntax, notation, axiom, sorry.
-/
import Derived.Test.YtfjkmpmjohojpaaGreatDoorRows
import GoSem.ClaimSeven
namespace Go.Proofs.YtfjkmpmjohojpaaGreatDoor
namespace Rows

/-- THE TIED CARD OF 'laws.FnInScans'. -/
def fnInScansCard : Claim7 := { stood := { row := fnInScansRow, standIns := [], harness := (true, "d149426e7569dca02142c6fea81cf14609c8503a79f8fcb7f6a7b35c0bef24b1"), looks := false }, kinds := [], alts := [], laidByText := true, laidKinds := [.data, .pinned], laidTests := true, laidLooks := .later }
def FnInScansCardSaid : Prop := Claim7.holds Tryz.pinned (.plain (OpenSpec.ofChange fnInScansSpec)) fnInScansCard

/-- THE SECOND FORM's CARD OF 'laws.FnInScans'. -/
def fnInScansUptoCard : Claim7 := { stood := { row := fnInScansUptoRow, standIns := [], harness := (true, "d149426e7569dca02142c6fea81cf14609c8503a79f8fcb7f6a7b35c0bef24b1"), looks := false }, kinds := [], alts := [], laidByText := true, laidKinds := [.data, .pinned], laidTests := true, laidLooks := .later }
def FnInScansUptoCardSaid : Prop := Claim7.holds Tryz.pinned (.plain (OpenSpec.upto fnInScansSpec)) fnInScansUptoCard
end Rows
end Go.Proofs.YtfjkmpmjohojpaaGreatDoor
