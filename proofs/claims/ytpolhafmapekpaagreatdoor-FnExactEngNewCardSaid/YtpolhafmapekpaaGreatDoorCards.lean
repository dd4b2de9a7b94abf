/-
  DERIVED. GIVEN WITH THE SEED: THE CARDS: each row of YtpolhafmapekpaaGreatDoorRows.lean that lists a variable, with what it lists TIED to the program's text (the seventh form; the later family's looks); each row that meets fmt, with fmt's text TOLD by the authors' own Lean function (tested against real Go, not proved from fmt's source: count such statements apart). THE CARD IS WHAT COUNTS. Prove the row's statement (the work); the ties are given (YtpolhafmapekpaaGreatDoorTie.lean); close each card by the builder's one call (the guide's Derived/Test/ToyasCard.lean, 'card_holds'). Laid BY PROGRAM, IN A SANDBOX (cutbox-door.mjs). By AI agents, Wed Nov 11 2026. No macro, syntax, notation, axiom, sorry.
-/
import Derived.Test.YtpolhafmapekpaaGreatDoorRows
import GoSem.ClaimSeven
namespace Go.Proofs.YtpolhafmapekpaaGreatDoor
namespace Rows

/-- THE TIED CARD OF 'laws.FnExactEngNew'. -/
def fnExactEngNewCard : Claim7 := { stood := { row := fnExactEngNewRow, standIns := [], harness := (true, "87fa52f990ac29071a4d8d27466afa7d3dce1b249c8632d04153ad5357e83758"), looks := false }, kinds := [], alts := [], laidByText := true, laidKinds := [.data, .pinned], laidTests := true, laidLooks := .later }
def FnExactEngNewCardSaid : Prop := Claim7.holds Tryz.pinned (.plain (OpenSpec.ofChange fnExactEngNewSpec)) fnExactEngNewCard

/-- THE TIED CARD OF 'laws.FnExactMeant'. -/
def fnExactMeantCard : Claim7 := { stood := { row := fnExactMeantRow, standIns := [], harness := (true, "87fa52f990ac29071a4d8d27466afa7d3dce1b249c8632d04153ad5357e83758"), looks := false }, kinds := [], alts := [], laidByText := true, laidKinds := [.data, .pinned], laidTests := true, laidLooks := .later }
def FnExactMeantCardSaid : Prop := Claim7.holds Tryz.pinned (.plain (OpenSpec.ofChange fnExactMeantSpec)) fnExactMeantCard

/-- THE SECOND FORM's CARD OF 'laws.FnExactEngNew'. -/
def fnExactEngNewUptoCard : Claim7 := { stood := { row := fnExactEngNewUptoRow, standIns := [], harness := (true, "87fa52f990ac29071a4d8d27466afa7d3dce1b249c8632d04153ad5357e83758"), looks := false }, kinds := [], alts := [], laidByText := true, laidKinds := [.data, .pinned], laidTests := true, laidLooks := .later }
def FnExactEngNewUptoCardSaid : Prop := Claim7.holds Tryz.pinned (.plain (OpenSpec.upto fnExactEngNewSpec)) fnExactEngNewUptoCard

/-- THE SECOND FORM's CARD OF 'laws.FnExactMeant'. -/
def fnExactMeantUptoCard : Claim7 := { stood := { row := fnExactMeantUptoRow, standIns := [], harness := (true, "87fa52f990ac29071a4d8d27466afa7d3dce1b249c8632d04153ad5357e83758"), looks := false }, kinds := [], alts := [], laidByText := true, laidKinds := [.data, .pinned], laidTests := true, laidLooks := .later }
def FnExactMeantUptoCardSaid : Prop := Claim7.holds Tryz.pinned (.plain (OpenSpec.upto fnExactMeantSpec)) fnExactMeantUptoCard
end Rows
end Go.Proofs.YtpolhafmapekpaaGreatDoor
