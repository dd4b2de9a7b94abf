/-
  DERIVED. GIVEN WITH THE SEED: THE CARDS: each row of YtienjjjhjeigmaaGreatDoorRows.lean that lists a variable, with what it lists TIED to the program's text (the seventh form; the later family's looks); each row that meets fmt, with fmt's text TOLD by the authors' own Lean function (tested against real Go, not proved from fmt's source: count such statements apart). THE CARD IS WHAT COUNTS. Prove the row's statement (the work); the ties are given (YtienjjjhjeigmaaGreatDoorTie.lean); close each card by the builder's one call (the guide's Derived/Test/ToyasCard.lean, 'card_holds'). Laid BY PROGRAM, IN A SANDBOX (cutbox-door.mjs). By AI agents, Wed Nov 11 2026. No macro, syntax, notation, axiom, sorry.
-/
import Derived.Test.YtienjjjhjeigmaaGreatDoorRows
import GoSem.ClaimSeven
namespace Go.Proofs.YtienjjjhjeigmaaGreatDoor
namespace Rows

/-- THE TIED CARD OF 'laws.FnExactInScan'. -/
def fnExactInScanCard : Claim7 := { stood := { row := fnExactInScanRow, standIns := [], harness := (true, "ea5de087cf4eda57b51be692d46e2f89e46dbb9ef6d957d1965406eeb235cee6"), looks := false }, kinds := [], alts := [], laidByText := true, laidKinds := [.data, .pinned], laidTests := true, laidLooks := .later }
def FnExactInScanCardSaid : Prop := Claim7.holds Tryz.pinned (.plain (OpenSpec.ofChange fnExactInScanSpec)) fnExactInScanCard

/-- THE TIED CARD OF 'laws.FnExactEngOk'. -/
def fnExactEngOkCard : Claim7 := { stood := { row := fnExactEngOkRow, standIns := [], harness := (true, "ea5de087cf4eda57b51be692d46e2f89e46dbb9ef6d957d1965406eeb235cee6"), looks := false }, kinds := [], alts := [], laidByText := true, laidKinds := [.data, .pinned], laidTests := true, laidLooks := .later }
def FnExactEngOkCardSaid : Prop := Claim7.holds Tryz.pinned (.plain (OpenSpec.ofChange fnExactEngOkSpec)) fnExactEngOkCard

/-- THE TIED CARD OF 'laws.FnExactWhole'. -/
def fnExactWholeCard : Claim7 := { stood := { row := fnExactWholeRow, standIns := [], harness := (true, "ea5de087cf4eda57b51be692d46e2f89e46dbb9ef6d957d1965406eeb235cee6"), looks := false }, kinds := [], alts := [], laidByText := true, laidKinds := [.data, .pinned], laidTests := true, laidLooks := .later }
def FnExactWholeCardSaid : Prop := Claim7.holds Tryz.pinned (.plain (OpenSpec.ofChange fnExactWholeSpec)) fnExactWholeCard

/-- THE TIED CARD OF 'laws.FnExactSafe'. -/
def fnExactSafeCard : Claim7 := { stood := { row := fnExactSafeRow, standIns := [], harness := (true, "ea5de087cf4eda57b51be692d46e2f89e46dbb9ef6d957d1965406eeb235cee6"), looks := false }, kinds := [], alts := [], laidByText := true, laidKinds := [.data, .pinned], laidTests := true, laidLooks := .later }
def FnExactSafeCardSaid : Prop := Claim7.holds Tryz.pinned (.plain (OpenSpec.ofChange fnExactSafeSpec)) fnExactSafeCard

/-- THE SECOND FORM's CARD OF 'laws.FnExactInScan'. -/
def fnExactInScanUptoCard : Claim7 := { stood := { row := fnExactInScanUptoRow, standIns := [], harness := (true, "ea5de087cf4eda57b51be692d46e2f89e46dbb9ef6d957d1965406eeb235cee6"), looks := false }, kinds := [], alts := [], laidByText := true, laidKinds := [.data, .pinned], laidTests := true, laidLooks := .later }
def FnExactInScanUptoCardSaid : Prop := Claim7.holds Tryz.pinned (.plain (OpenSpec.upto fnExactInScanSpec)) fnExactInScanUptoCard

/-- THE SECOND FORM's CARD OF 'laws.FnExactEngOk'. -/
def fnExactEngOkUptoCard : Claim7 := { stood := { row := fnExactEngOkUptoRow, standIns := [], harness := (true, "ea5de087cf4eda57b51be692d46e2f89e46dbb9ef6d957d1965406eeb235cee6"), looks := false }, kinds := [], alts := [], laidByText := true, laidKinds := [.data, .pinned], laidTests := true, laidLooks := .later }
def FnExactEngOkUptoCardSaid : Prop := Claim7.holds Tryz.pinned (.plain (OpenSpec.upto fnExactEngOkSpec)) fnExactEngOkUptoCard

/-- THE SECOND FORM's CARD OF 'laws.FnExactWhole'. -/
def fnExactWholeUptoCard : Claim7 := { stood := { row := fnExactWholeUptoRow, standIns := [], harness := (true, "ea5de087cf4eda57b51be692d46e2f89e46dbb9ef6d957d1965406eeb235cee6"), looks := false }, kinds := [], alts := [], laidByText := true, laidKinds := [.data, .pinned], laidTests := true, laidLooks := .later }
def FnExactWholeUptoCardSaid : Prop := Claim7.holds Tryz.pinned (.plain (OpenSpec.upto fnExactWholeSpec)) fnExactWholeUptoCard

/-- THE SECOND FORM's CARD OF 'laws.FnExactSafe'. -/
def fnExactSafeUptoCard : Claim7 := { stood := { row := fnExactSafeUptoRow, standIns := [], harness := (true, "ea5de087cf4eda57b51be692d46e2f89e46dbb9ef6d957d1965406eeb235cee6"), looks := false }, kinds := [], alts := [], laidByText := true, laidKinds := [.data, .pinned], laidTests := true, laidLooks := .later }
def FnExactSafeUptoCardSaid : Prop := Claim7.holds Tryz.pinned (.plain (OpenSpec.upto fnExactSafeSpec)) fnExactSafeUptoCard
end Rows
end Go.Proofs.YtienjjjhjeigmaaGreatDoor
