/-
  DERIVED. GIVEN WITH THE SEED: THE CARDS: each row of YtbpafgbehkphoaaDoorRows.lean that lists a variable, with what it lists TIED to the program's text (the seventh form; the later family's looks); each row that meets fmt, with fmt's text TOLD by the authors' own Lean function (tested against real Go, not proved from fmt's source: count such statements apart). THE CARD IS WHAT COUNTS. Prove the row's statement (the work); the ties are given (YtbpafgbehkphoaaDoorTie.lean); close each card by the builder's one call (the guide's Derived/Test/ToyasCard.lean, 'card_holds'). Laid BY PROGRAM, IN A SANDBOX (cutbox-door.mjs). By AI agents, Wed Nov 11 2026. No macro, syntax, notation, axiom, sorry.
-/
import Derived.Test.YtbpafgbehkphoaaDoorRows
import GoSem.ClaimSeven
namespace Go.Proofs.YtbpafgbehkphoaaDoor
namespace Rows

/-- THE TIED CARD OF 'laws.FnRowTexts'. -/
def fnRowTextsCard : Claim7 := { stood := { row := fnRowTextsRow, standIns := [], harness := (true, "91abc86056d6b8b02705815ba8b9763a4c2e0835294021600905d34bdc6e959f"), looks := true }, kinds := [], alts := [], laidByText := true, laidKinds := [.data, .data, .data, .data, .sentinel, .sentinel, .pinned], laidTests := true, laidLooks := .later }
def FnRowTextsCardSaid : Prop := Claim7.holds Tryd.pinned (.plain (OpenSpec.ofChange fnRowTextsSpec)) fnRowTextsCard

/-- THE SECOND FORM's CARD OF 'laws.FnRowTexts'. -/
def fnRowTextsUptoCard : Claim7 := { stood := { row := fnRowTextsUptoRow, standIns := [], harness := (true, "91abc86056d6b8b02705815ba8b9763a4c2e0835294021600905d34bdc6e959f"), looks := true }, kinds := [], alts := [], laidByText := true, laidKinds := [.data, .data, .data, .data, .sentinel, .sentinel, .pinned], laidTests := true, laidLooks := .later }
def FnRowTextsUptoCardSaid : Prop := Claim7.holds Tryd.pinned (.plain (OpenSpec.upto fnRowTextsSpec)) fnRowTextsUptoCard
end Rows
end Go.Proofs.YtbpafgbehkphoaaDoor
