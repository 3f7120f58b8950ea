/-
  DERIVED. GIVEN WITH THE SEED: THE CARDS: each row of YtcpmbhfnapijaaaGreatDoorRows.lean that lists a variable, with what it lists TIED to the program's text (the seventh form; the later family's looks); each row that meets fmt, with fmt's text TOLD by the authors' own Lean function (tested against real Go, not proved from fmt's source: count such statements apart). THE CARD IS WHAT COUNTS. Prove the row's statement (the work); the ties are given (YtcpmbhfnapijaaaGreatDoorTie.lean); close each card by the builder's one call (the guide's Derived/Test/ToyasCard.lean, 'card_holds'). Laid BY PROGRAM, IN A SANDBOX (cutbox-door.mjs). By AI agents, Wed Nov 11 2026. No macro, syntax, notation, axiom, sorry.
-/
import Derived.Test.YtcpmbhfnapijaaaGreatDoorRows
import GoSem.ClaimSeven
namespace Go.Proofs.YtcpmbhfnapijaaaGreatDoor
namespace Rows

/-- THE TIED CARD OF 'laws.FnRunPlan'. -/
def fnRunPlanCard : Claim7 := { stood := { row := fnRunPlanRow, standIns := [], harness := (true, "09f11bc68134716a65fa63dd62439e46a2981186231944598669981704fbf200"), looks := true }, kinds := [], alts := [], laidByText := true, laidKinds := [.data, .data, .data, .data, .sentinel, .sentinel, .mapped, .pinned], laidTests := true, laidLooks := .later }
def FnRunPlanCardSaid : Prop := Claim7.holds Tryz.pinned (.plain (OpenSpec.ofChange fnRunPlanSpec)) fnRunPlanCard

/-- THE TIED CARD OF 'laws.FnExactSharePlan'. -/
def fnExactSharePlanCard : Claim7 := { stood := { row := fnExactSharePlanRow, standIns := [], harness := (true, "09f11bc68134716a65fa63dd62439e46a2981186231944598669981704fbf200"), looks := true }, kinds := [], alts := [], laidByText := true, laidKinds := [.data, .data, .data, .data, .sentinel, .sentinel, .pinned], laidTests := true, laidLooks := .later }
def FnExactSharePlanCardSaid : Prop := Claim7.holds Tryz.pinned (.plain (OpenSpec.ofChange fnExactSharePlanSpec)) fnExactSharePlanCard

/-- THE TIED CARD OF 'laws.FnSharePlan'. -/
def fnSharePlanCard : Claim7 := { stood := { row := fnSharePlanRow, standIns := [], harness := (true, "09f11bc68134716a65fa63dd62439e46a2981186231944598669981704fbf200"), looks := true }, kinds := [], alts := [], laidByText := true, laidKinds := [.data, .data, .data, .data, .sentinel, .sentinel, .pinned], laidTests := true, laidLooks := .later }
def FnSharePlanCardSaid : Prop := Claim7.holds Tryz.pinned (.plain (OpenSpec.ofChange fnSharePlanSpec)) fnSharePlanCard

/-- THE TIED CARD OF 'laws.FnOneRule'. -/
def fnOneRuleCard : Claim7 := { stood := { row := fnOneRuleRow, standIns := [], harness := (true, "09f11bc68134716a65fa63dd62439e46a2981186231944598669981704fbf200"), looks := true }, kinds := [], alts := [], laidByText := true, laidKinds := [.data, .data, .data, .data, .sentinel, .sentinel, .mapped, .pinned], laidTests := true, laidLooks := .later }
def FnOneRuleCardSaid : Prop := Claim7.holds Tryz.pinned (.plain (OpenSpec.ofChange fnOneRuleSpec)) fnOneRuleCard

/-- THE TIED CARD OF 'laws.FnExactFoldPlan'. -/
def fnExactFoldPlanCard : Claim7 := { stood := { row := fnExactFoldPlanRow, standIns := [], harness := (true, "09f11bc68134716a65fa63dd62439e46a2981186231944598669981704fbf200"), looks := true }, kinds := [], alts := [], laidByText := true, laidKinds := [.data, .data, .data, .data, .sentinel, .sentinel, .pinned], laidTests := true, laidLooks := .later }
def FnExactFoldPlanCardSaid : Prop := Claim7.holds Tryz.pinned (.plain (OpenSpec.ofChange fnExactFoldPlanSpec)) fnExactFoldPlanCard

/-- THE TIED CARD OF 'laws.FnExactRunPlan'. -/
def fnExactRunPlanCard : Claim7 := { stood := { row := fnExactRunPlanRow, standIns := [], harness := (true, "09f11bc68134716a65fa63dd62439e46a2981186231944598669981704fbf200"), looks := true }, kinds := [], alts := [], laidByText := true, laidKinds := [.data, .data, .data, .data, .sentinel, .sentinel, .pinned], laidTests := true, laidLooks := .later }
def FnExactRunPlanCardSaid : Prop := Claim7.holds Tryz.pinned (.plain (OpenSpec.ofChange fnExactRunPlanSpec)) fnExactRunPlanCard

/-- THE TIED CARD OF 'laws.FnExactRunCode'. -/
def fnExactRunCodeCard : Claim7 := { stood := { row := fnExactRunCodeRow, standIns := [], harness := (true, "09f11bc68134716a65fa63dd62439e46a2981186231944598669981704fbf200"), looks := true }, kinds := [], alts := [], laidByText := true, laidKinds := [.data, .data, .data, .data, .sentinel, .sentinel, .pinned], laidTests := true, laidLooks := .later }
def FnExactRunCodeCardSaid : Prop := Claim7.holds Tryz.pinned (.plain (OpenSpec.ofChange fnExactRunCodeSpec)) fnExactRunCodeCard

/-- THE TIED CARD OF 'laws.FnExactBetterPlan'. -/
def fnExactBetterPlanCard : Claim7 := { stood := { row := fnExactBetterPlanRow, standIns := [], harness := (true, "09f11bc68134716a65fa63dd62439e46a2981186231944598669981704fbf200"), looks := true }, kinds := [], alts := [], laidByText := true, laidKinds := [.data, .data, .data, .data, .sentinel, .sentinel, .mapped, .pinned], laidTests := true, laidLooks := .later }
def FnExactBetterPlanCardSaid : Prop := Claim7.holds Tryz.pinned (.plain (OpenSpec.ofChange fnExactBetterPlanSpec)) fnExactBetterPlanCard

/-- THE TIED CARD OF 'laws.FnRunCode'. -/
def fnRunCodeCard : Claim7 := { stood := { row := fnRunCodeRow, standIns := [], harness := (true, "09f11bc68134716a65fa63dd62439e46a2981186231944598669981704fbf200"), looks := true }, kinds := [], alts := [], laidByText := true, laidKinds := [.data, .data, .data, .data, .sentinel, .sentinel, .pinned], laidTests := true, laidLooks := .later }
def FnRunCodeCardSaid : Prop := Claim7.holds Tryz.pinned (.plain (OpenSpec.ofChange fnRunCodeSpec)) fnRunCodeCard

/-- THE TIED CARD OF 'laws.FnFoldPlan'. -/
def fnFoldPlanCard : Claim7 := { stood := { row := fnFoldPlanRow, standIns := [], harness := (true, "09f11bc68134716a65fa63dd62439e46a2981186231944598669981704fbf200"), looks := true }, kinds := [], alts := [], laidByText := true, laidKinds := [.data, .data, .data, .data, .sentinel, .sentinel, .pinned], laidTests := true, laidLooks := .later }
def FnFoldPlanCardSaid : Prop := Claim7.holds Tryz.pinned (.plain (OpenSpec.ofChange fnFoldPlanSpec)) fnFoldPlanCard

/-- THE TIED CARD OF 'laws.FnBetterPlan'. -/
def fnBetterPlanCard : Claim7 := { stood := { row := fnBetterPlanRow, standIns := [], harness := (true, "09f11bc68134716a65fa63dd62439e46a2981186231944598669981704fbf200"), looks := true }, kinds := [], alts := [], laidByText := true, laidKinds := [.data, .data, .data, .data, .sentinel, .sentinel, .mapped, .pinned], laidTests := true, laidLooks := .later }
def FnBetterPlanCardSaid : Prop := Claim7.holds Tryz.pinned (.plain (OpenSpec.ofChange fnBetterPlanSpec)) fnBetterPlanCard

/-- THE SECOND FORM's CARD OF 'laws.FnRunPlan'. -/
def fnRunPlanUptoCard : Claim7 := { stood := { row := fnRunPlanUptoRow, standIns := [], harness := (true, "09f11bc68134716a65fa63dd62439e46a2981186231944598669981704fbf200"), looks := true }, kinds := [], alts := [], laidByText := true, laidKinds := [.data, .data, .data, .data, .sentinel, .sentinel, .mapped, .pinned], laidTests := true, laidLooks := .later }
def FnRunPlanUptoCardSaid : Prop := Claim7.holds Tryz.pinned (.plain (OpenSpec.upto fnRunPlanSpec)) fnRunPlanUptoCard

/-- THE SECOND FORM's CARD OF 'laws.FnExactSharePlan'. -/
def fnExactSharePlanUptoCard : Claim7 := { stood := { row := fnExactSharePlanUptoRow, standIns := [], harness := (true, "09f11bc68134716a65fa63dd62439e46a2981186231944598669981704fbf200"), looks := true }, kinds := [], alts := [], laidByText := true, laidKinds := [.data, .data, .data, .data, .sentinel, .sentinel, .pinned], laidTests := true, laidLooks := .later }
def FnExactSharePlanUptoCardSaid : Prop := Claim7.holds Tryz.pinned (.plain (OpenSpec.upto fnExactSharePlanSpec)) fnExactSharePlanUptoCard

/-- THE SECOND FORM's CARD OF 'laws.FnSharePlan'. -/
def fnSharePlanUptoCard : Claim7 := { stood := { row := fnSharePlanUptoRow, standIns := [], harness := (true, "09f11bc68134716a65fa63dd62439e46a2981186231944598669981704fbf200"), looks := true }, kinds := [], alts := [], laidByText := true, laidKinds := [.data, .data, .data, .data, .sentinel, .sentinel, .pinned], laidTests := true, laidLooks := .later }
def FnSharePlanUptoCardSaid : Prop := Claim7.holds Tryz.pinned (.plain (OpenSpec.upto fnSharePlanSpec)) fnSharePlanUptoCard

/-- THE SECOND FORM's CARD OF 'laws.FnOneRule'. -/
def fnOneRuleUptoCard : Claim7 := { stood := { row := fnOneRuleUptoRow, standIns := [], harness := (true, "09f11bc68134716a65fa63dd62439e46a2981186231944598669981704fbf200"), looks := true }, kinds := [], alts := [], laidByText := true, laidKinds := [.data, .data, .data, .data, .sentinel, .sentinel, .mapped, .pinned], laidTests := true, laidLooks := .later }
def FnOneRuleUptoCardSaid : Prop := Claim7.holds Tryz.pinned (.plain (OpenSpec.upto fnOneRuleSpec)) fnOneRuleUptoCard

/-- THE SECOND FORM's CARD OF 'laws.FnExactFoldPlan'. -/
def fnExactFoldPlanUptoCard : Claim7 := { stood := { row := fnExactFoldPlanUptoRow, standIns := [], harness := (true, "09f11bc68134716a65fa63dd62439e46a2981186231944598669981704fbf200"), looks := true }, kinds := [], alts := [], laidByText := true, laidKinds := [.data, .data, .data, .data, .sentinel, .sentinel, .pinned], laidTests := true, laidLooks := .later }
def FnExactFoldPlanUptoCardSaid : Prop := Claim7.holds Tryz.pinned (.plain (OpenSpec.upto fnExactFoldPlanSpec)) fnExactFoldPlanUptoCard

/-- THE SECOND FORM's CARD OF 'laws.FnExactRunPlan'. -/
def fnExactRunPlanUptoCard : Claim7 := { stood := { row := fnExactRunPlanUptoRow, standIns := [], harness := (true, "09f11bc68134716a65fa63dd62439e46a2981186231944598669981704fbf200"), looks := true }, kinds := [], alts := [], laidByText := true, laidKinds := [.data, .data, .data, .data, .sentinel, .sentinel, .pinned], laidTests := true, laidLooks := .later }
def FnExactRunPlanUptoCardSaid : Prop := Claim7.holds Tryz.pinned (.plain (OpenSpec.upto fnExactRunPlanSpec)) fnExactRunPlanUptoCard

/-- THE SECOND FORM's CARD OF 'laws.FnExactRunCode'. -/
def fnExactRunCodeUptoCard : Claim7 := { stood := { row := fnExactRunCodeUptoRow, standIns := [], harness := (true, "09f11bc68134716a65fa63dd62439e46a2981186231944598669981704fbf200"), looks := true }, kinds := [], alts := [], laidByText := true, laidKinds := [.data, .data, .data, .data, .sentinel, .sentinel, .pinned], laidTests := true, laidLooks := .later }
def FnExactRunCodeUptoCardSaid : Prop := Claim7.holds Tryz.pinned (.plain (OpenSpec.upto fnExactRunCodeSpec)) fnExactRunCodeUptoCard

/-- THE SECOND FORM's CARD OF 'laws.FnExactBetterPlan'. -/
def fnExactBetterPlanUptoCard : Claim7 := { stood := { row := fnExactBetterPlanUptoRow, standIns := [], harness := (true, "09f11bc68134716a65fa63dd62439e46a2981186231944598669981704fbf200"), looks := true }, kinds := [], alts := [], laidByText := true, laidKinds := [.data, .data, .data, .data, .sentinel, .sentinel, .mapped, .pinned], laidTests := true, laidLooks := .later }
def FnExactBetterPlanUptoCardSaid : Prop := Claim7.holds Tryz.pinned (.plain (OpenSpec.upto fnExactBetterPlanSpec)) fnExactBetterPlanUptoCard

/-- THE SECOND FORM's CARD OF 'laws.FnRunCode'. -/
def fnRunCodeUptoCard : Claim7 := { stood := { row := fnRunCodeUptoRow, standIns := [], harness := (true, "09f11bc68134716a65fa63dd62439e46a2981186231944598669981704fbf200"), looks := true }, kinds := [], alts := [], laidByText := true, laidKinds := [.data, .data, .data, .data, .sentinel, .sentinel, .pinned], laidTests := true, laidLooks := .later }
def FnRunCodeUptoCardSaid : Prop := Claim7.holds Tryz.pinned (.plain (OpenSpec.upto fnRunCodeSpec)) fnRunCodeUptoCard

/-- THE SECOND FORM's CARD OF 'laws.FnFoldPlan'. -/
def fnFoldPlanUptoCard : Claim7 := { stood := { row := fnFoldPlanUptoRow, standIns := [], harness := (true, "09f11bc68134716a65fa63dd62439e46a2981186231944598669981704fbf200"), looks := true }, kinds := [], alts := [], laidByText := true, laidKinds := [.data, .data, .data, .data, .sentinel, .sentinel, .pinned], laidTests := true, laidLooks := .later }
def FnFoldPlanUptoCardSaid : Prop := Claim7.holds Tryz.pinned (.plain (OpenSpec.upto fnFoldPlanSpec)) fnFoldPlanUptoCard

/-- THE SECOND FORM's CARD OF 'laws.FnBetterPlan'. -/
def fnBetterPlanUptoCard : Claim7 := { stood := { row := fnBetterPlanUptoRow, standIns := [], harness := (true, "09f11bc68134716a65fa63dd62439e46a2981186231944598669981704fbf200"), looks := true }, kinds := [], alts := [], laidByText := true, laidKinds := [.data, .data, .data, .data, .sentinel, .sentinel, .mapped, .pinned], laidTests := true, laidLooks := .later }
def FnBetterPlanUptoCardSaid : Prop := Claim7.holds Tryz.pinned (.plain (OpenSpec.upto fnBetterPlanSpec)) fnBetterPlanUptoCard
end Rows
end Go.Proofs.YtcpmbhfnapijaaaGreatDoor
