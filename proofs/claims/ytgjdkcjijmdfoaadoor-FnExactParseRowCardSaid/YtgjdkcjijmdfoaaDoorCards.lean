/-
  DERIVED. GIVEN WITH THE SEED: THE CARDS: each row of YtgjdkcjijmdfoaaDoorRows.lean that lists a variable, with what it lists TIED to the program's text (the seventh form; the later family's looks); each row that meets fmt, with fmt's text TOLD by the authors' own Lean function (tested against real Go, not proved from fmt's source: count such statements apart). THE CARD IS WHAT COUNTS. Prove the row's statement (the work); the ties are given (YtgjdkcjijmdfoaaDoorTie.lean); close each card by the builder's one call (the guide's Derived/Test/ToyasCard.lean, 'card_holds'). Laid BY PROGRAM, IN A SANDBOX (cutbox-door.mjs). By AI agents, Wed Nov 11 2026. No macro, syntax, notation, axiom, sorry.
-/
import Derived.Test.YtgjdkcjijmdfoaaDoorRows
import GoSem.ClaimSeven
namespace Go.Proofs.YtgjdkcjijmdfoaaDoor
namespace Rows

/-- THE TIED CARD OF 'laws.FnExactRowText'. -/
def fnExactRowTextCard : Claim7 := { stood := { row := fnExactRowTextRow, standIns := [], harness := (true, "7ebfd54ad7900500dd914bd1de023b7374711c70b8531f63bf5e2d94fac77932"), looks := true }, kinds := [], alts := [], laidByText := true, laidKinds := [.data, .data, .data], laidTests := true, laidLooks := .later }
def FnExactRowTextCardSaid : Prop := Claim7.holds Tryd.pinned (.plain (OpenSpec.ofChange fnExactRowTextSpec)) fnExactRowTextCard

/-- THE TIED CARD OF 'laws.FnExactRowsText'. -/
def fnExactRowsTextCard : Claim7 := { stood := { row := fnExactRowsTextRow, standIns := [], harness := (true, "7ebfd54ad7900500dd914bd1de023b7374711c70b8531f63bf5e2d94fac77932"), looks := true }, kinds := [], alts := [], laidByText := true, laidKinds := [.data, .data, .data], laidTests := true, laidLooks := .later }
def FnExactRowsTextCardSaid : Prop := Claim7.holds Tryd.pinned (.plain (OpenSpec.ofChange fnExactRowsTextSpec)) fnExactRowsTextCard

/-- THE TIED CARD OF 'laws.FnExactScanOk'. -/
def fnExactScanOkCard : Claim7 := { stood := { row := fnExactScanOkRow, standIns := [], harness := (true, "7ebfd54ad7900500dd914bd1de023b7374711c70b8531f63bf5e2d94fac77932"), looks := true }, kinds := [], alts := [], laidByText := true, laidKinds := [.data, .pinned], laidTests := true, laidLooks := .later }
def FnExactScanOkCardSaid : Prop := Claim7.holds Tryd.pinned (.plain (OpenSpec.ofChange fnExactScanOkSpec)) fnExactScanOkCard

/-- THE TIED CARD OF 'laws.FnExactParseRow'. -/
def fnExactParseRowCard : Claim7 := { stood := { row := fnExactParseRowRow, standIns := [], harness := (true, "7ebfd54ad7900500dd914bd1de023b7374711c70b8531f63bf5e2d94fac77932"), looks := true }, kinds := [], alts := [], laidByText := true, laidKinds := [.data, .data, .data, .data, .sentinel, .sentinel, .pinned], laidTests := true, laidLooks := .later }
def FnExactParseRowCardSaid : Prop := Claim7.holds Tryd.pinned (.plain (OpenSpec.ofChange fnExactParseRowSpec)) fnExactParseRowCard

/-- THE SECOND FORM's CARD OF 'laws.FnExactRowText'. -/
def fnExactRowTextUptoCard : Claim7 := { stood := { row := fnExactRowTextUptoRow, standIns := [], harness := (true, "7ebfd54ad7900500dd914bd1de023b7374711c70b8531f63bf5e2d94fac77932"), looks := true }, kinds := [], alts := [], laidByText := true, laidKinds := [.data, .data, .data], laidTests := true, laidLooks := .later }
def FnExactRowTextUptoCardSaid : Prop := Claim7.holds Tryd.pinned (.plain (OpenSpec.upto fnExactRowTextSpec)) fnExactRowTextUptoCard

/-- THE SECOND FORM's CARD OF 'laws.FnExactRowsText'. -/
def fnExactRowsTextUptoCard : Claim7 := { stood := { row := fnExactRowsTextUptoRow, standIns := [], harness := (true, "7ebfd54ad7900500dd914bd1de023b7374711c70b8531f63bf5e2d94fac77932"), looks := true }, kinds := [], alts := [], laidByText := true, laidKinds := [.data, .data, .data], laidTests := true, laidLooks := .later }
def FnExactRowsTextUptoCardSaid : Prop := Claim7.holds Tryd.pinned (.plain (OpenSpec.upto fnExactRowsTextSpec)) fnExactRowsTextUptoCard

/-- THE SECOND FORM's CARD OF 'laws.FnExactScanOk'. -/
def fnExactScanOkUptoCard : Claim7 := { stood := { row := fnExactScanOkUptoRow, standIns := [], harness := (true, "7ebfd54ad7900500dd914bd1de023b7374711c70b8531f63bf5e2d94fac77932"), looks := true }, kinds := [], alts := [], laidByText := true, laidKinds := [.data, .pinned], laidTests := true, laidLooks := .later }
def FnExactScanOkUptoCardSaid : Prop := Claim7.holds Tryd.pinned (.plain (OpenSpec.upto fnExactScanOkSpec)) fnExactScanOkUptoCard

/-- THE SECOND FORM's CARD OF 'laws.FnExactParseRow'. -/
def fnExactParseRowUptoCard : Claim7 := { stood := { row := fnExactParseRowUptoRow, standIns := [], harness := (true, "7ebfd54ad7900500dd914bd1de023b7374711c70b8531f63bf5e2d94fac77932"), looks := true }, kinds := [], alts := [], laidByText := true, laidKinds := [.data, .data, .data, .data, .sentinel, .sentinel, .pinned], laidTests := true, laidLooks := .later }
def FnExactParseRowUptoCardSaid : Prop := Claim7.holds Tryd.pinned (.plain (OpenSpec.upto fnExactParseRowSpec)) fnExactParseRowUptoCard
end Rows
end Go.Proofs.YtgjdkcjijmdfoaaDoor
