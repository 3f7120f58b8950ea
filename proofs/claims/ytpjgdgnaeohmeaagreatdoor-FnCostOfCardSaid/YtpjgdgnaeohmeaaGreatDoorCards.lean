/-
  DERIVED. GIVEN WITH THE SEED: THE CARDS: each row of YtpjgdgnaeohmeaaGreatDoorRows.lean that lists a variable, with what it lists TIED to the program's text (the seventh form; the later family's looks); each row that meets fmt, with fmt's text TOLD by the authors' own Lean function (tested against real Go, not proved from fmt's source: count such statements apart). THE CARD IS WHAT COUNTS. Prove the row's statement (the work); the ties are given (YtpjgdgnaeohmeaaGreatDoorTie.lean); close each card by the builder's one call (the guide's Derived/Test/ToyasCard.lean, 'card_holds'). Laid BY PROGRAM, IN A SANDBOX (cutbox-door.mjs). By AI agents, Wed Nov 11 2026. No macro, syntax, notation, axiom, sorry.
-/
import Derived.Test.YtpjgdgnaeohmeaaGreatDoorRows
import GoSem.ClaimSeven
namespace Go.Proofs.YtpjgdgnaeohmeaaGreatDoor
namespace Rows

/-- THE TIED CARD OF 'laws.FnCodeOf'. -/
def fnCodeOfCard : Claim7 := { stood := { row := fnCodeOfRow, standIns := [], harness := (true, "f19cf6484f882f7ccefc24dd4284a0a11a834f68bb52dd53a7d3e11edc8848eb"), looks := true }, kinds := [], alts := [], laidByText := true, laidKinds := [.data, .data, .data, .data, .sentinel, .sentinel, .pinned], laidTests := true, laidLooks := .later }
def FnCodeOfCardSaid : Prop := Claim7.holds Tryz.pinned (.plain (OpenSpec.ofChange fnCodeOfSpec)) fnCodeOfCard

/-- THE TIED CARD OF 'laws.FnExactSharePlan'. -/
def fnExactSharePlanCard : Claim7 := { stood := { row := fnExactSharePlanRow, standIns := [], harness := (true, "f19cf6484f882f7ccefc24dd4284a0a11a834f68bb52dd53a7d3e11edc8848eb"), looks := true }, kinds := [], alts := [], laidByText := true, laidKinds := [.data, .data, .data, .data, .sentinel, .sentinel, .pinned], laidTests := true, laidLooks := .later }
def FnExactSharePlanCardSaid : Prop := Claim7.holds Tryz.pinned (.plain (OpenSpec.ofChange fnExactSharePlanSpec)) fnExactSharePlanCard

/-- THE TIED CARD OF 'laws.FnNormalOf'. -/
def fnNormalOfCard : Claim7 := { stood := { row := fnNormalOfRow, standIns := [], harness := (true, "f19cf6484f882f7ccefc24dd4284a0a11a834f68bb52dd53a7d3e11edc8848eb"), looks := true }, kinds := [], alts := [], laidByText := true, laidKinds := [.data, .data, .data, .data, .sentinel, .sentinel, .mapped, .pinned], laidTests := true, laidLooks := .later }
def FnNormalOfCardSaid : Prop := Claim7.holds Tryz.pinned (.plain (OpenSpec.ofChange fnNormalOfSpec)) fnNormalOfCard

/-- THE TIED CARD OF 'laws.FnCostOf'. -/
def fnCostOfCard : Claim7 := { stood := { row := fnCostOfRow, standIns := [], harness := (true, "f19cf6484f882f7ccefc24dd4284a0a11a834f68bb52dd53a7d3e11edc8848eb"), looks := true }, kinds := [], alts := [], laidByText := true, laidKinds := [.data, .data, .data, .data, .sentinel, .sentinel, .pinned], laidTests := true, laidLooks := .later }
def FnCostOfCardSaid : Prop := Claim7.holds Tryz.pinned (.plain (OpenSpec.ofChange fnCostOfSpec)) fnCostOfCard

/-- THE SECOND FORM's CARD OF 'laws.FnCodeOf'. -/
def fnCodeOfUptoCard : Claim7 := { stood := { row := fnCodeOfUptoRow, standIns := [], harness := (true, "f19cf6484f882f7ccefc24dd4284a0a11a834f68bb52dd53a7d3e11edc8848eb"), looks := true }, kinds := [], alts := [], laidByText := true, laidKinds := [.data, .data, .data, .data, .sentinel, .sentinel, .pinned], laidTests := true, laidLooks := .later }
def FnCodeOfUptoCardSaid : Prop := Claim7.holds Tryz.pinned (.plain (OpenSpec.upto fnCodeOfSpec)) fnCodeOfUptoCard

/-- THE SECOND FORM's CARD OF 'laws.FnExactSharePlan'. -/
def fnExactSharePlanUptoCard : Claim7 := { stood := { row := fnExactSharePlanUptoRow, standIns := [], harness := (true, "f19cf6484f882f7ccefc24dd4284a0a11a834f68bb52dd53a7d3e11edc8848eb"), looks := true }, kinds := [], alts := [], laidByText := true, laidKinds := [.data, .data, .data, .data, .sentinel, .sentinel, .pinned], laidTests := true, laidLooks := .later }
def FnExactSharePlanUptoCardSaid : Prop := Claim7.holds Tryz.pinned (.plain (OpenSpec.upto fnExactSharePlanSpec)) fnExactSharePlanUptoCard

/-- THE SECOND FORM's CARD OF 'laws.FnNormalOf'. -/
def fnNormalOfUptoCard : Claim7 := { stood := { row := fnNormalOfUptoRow, standIns := [], harness := (true, "f19cf6484f882f7ccefc24dd4284a0a11a834f68bb52dd53a7d3e11edc8848eb"), looks := true }, kinds := [], alts := [], laidByText := true, laidKinds := [.data, .data, .data, .data, .sentinel, .sentinel, .mapped, .pinned], laidTests := true, laidLooks := .later }
def FnNormalOfUptoCardSaid : Prop := Claim7.holds Tryz.pinned (.plain (OpenSpec.upto fnNormalOfSpec)) fnNormalOfUptoCard

/-- THE SECOND FORM's CARD OF 'laws.FnCostOf'. -/
def fnCostOfUptoCard : Claim7 := { stood := { row := fnCostOfUptoRow, standIns := [], harness := (true, "f19cf6484f882f7ccefc24dd4284a0a11a834f68bb52dd53a7d3e11edc8848eb"), looks := true }, kinds := [], alts := [], laidByText := true, laidKinds := [.data, .data, .data, .data, .sentinel, .sentinel, .pinned], laidTests := true, laidLooks := .later }
def FnCostOfUptoCardSaid : Prop := Claim7.holds Tryz.pinned (.plain (OpenSpec.upto fnCostOfSpec)) fnCostOfUptoCard
end Rows
end Go.Proofs.YtpjgdgnaeohmeaaGreatDoor
