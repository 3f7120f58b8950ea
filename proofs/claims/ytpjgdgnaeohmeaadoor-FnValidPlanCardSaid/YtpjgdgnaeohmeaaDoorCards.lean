/-
  DERIVED. GIVEN WITH THE SEED: THE CARDS: each row of YtpjgdgnaeohmeaaDoorRows.lean that lists a variable, with what it lists TIED to the program's text (the seventh form; the later family's looks); each row that meets fmt, with fmt's text TOLD by the authors' own Lean function (tested against real Go, not proved from fmt's source: count such statements apart). THE CARD IS WHAT COUNTS. Prove the row's statement (the work); the ties are given (YtpjgdgnaeohmeaaDoorTie.lean); close each card by the builder's one call (the guide's Derived/Test/ToyasCard.lean, 'card_holds'). Laid BY PROGRAM, IN A SANDBOX (cutbox-door.mjs). By AI agents, Wed Nov 11 2026. No macro, syntax, notation, axiom, sorry.
-/
import Derived.Test.YtpjgdgnaeohmeaaDoorRows
import GoSem.ClaimSeven
namespace Go.Proofs.YtpjgdgnaeohmeaaDoor
namespace Rows

/-- THE TIED CARD OF 'laws.FnExactValidPlan'. -/
def fnExactValidPlanCard : Claim7 := { stood := { row := fnExactValidPlanRow, standIns := [], harness := (true, "d387691b8bc5ae048dbda609ad3bdb6324877d7d1372a19b0aaa3d4321cec1a2"), looks := true }, kinds := [], alts := [], laidByText := true, laidKinds := [.data, .data, .data, .data, .sentinel, .sentinel, .pinned], laidTests := true, laidLooks := .later }
def FnExactValidPlanCardSaid : Prop := Claim7.holds Tryd.pinned (.plain (OpenSpec.ofChange fnExactValidPlanSpec)) fnExactValidPlanCard

/-- THE TIED CARD OF 'laws.FnExactCostOf'. -/
def fnExactCostOfCard : Claim7 := { stood := { row := fnExactCostOfRow, standIns := [], harness := (true, "d387691b8bc5ae048dbda609ad3bdb6324877d7d1372a19b0aaa3d4321cec1a2"), looks := true }, kinds := [], alts := [], laidByText := true, laidKinds := [.data, .data, .data, .data, .sentinel, .sentinel, .pinned], laidTests := true, laidLooks := .later }
def FnExactCostOfCardSaid : Prop := Claim7.holds Tryd.pinned (.plain (OpenSpec.ofChange fnExactCostOfSpec)) fnExactCostOfCard

/-- THE TIED CARD OF 'laws.FnExactCodeOf'. -/
def fnExactCodeOfCard : Claim7 := { stood := { row := fnExactCodeOfRow, standIns := [], harness := (true, "d387691b8bc5ae048dbda609ad3bdb6324877d7d1372a19b0aaa3d4321cec1a2"), looks := true }, kinds := [], alts := [], laidByText := true, laidKinds := [.data, .data, .data, .data, .sentinel, .sentinel, .pinned], laidTests := true, laidLooks := .later }
def FnExactCodeOfCardSaid : Prop := Claim7.holds Tryd.pinned (.plain (OpenSpec.ofChange fnExactCodeOfSpec)) fnExactCodeOfCard

/-- THE TIED CARD OF 'laws.FnExactNormalOf'. -/
def fnExactNormalOfCard : Claim7 := { stood := { row := fnExactNormalOfRow, standIns := [], harness := (true, "d387691b8bc5ae048dbda609ad3bdb6324877d7d1372a19b0aaa3d4321cec1a2"), looks := true }, kinds := [], alts := [], laidByText := true, laidKinds := [.data, .data, .data, .data, .sentinel, .sentinel, .mapped, .pinned], laidTests := true, laidLooks := .later }
def FnExactNormalOfCardSaid : Prop := Claim7.holds Tryd.pinned (.plain (OpenSpec.ofChange fnExactNormalOfSpec)) fnExactNormalOfCard

/-- THE TIED CARD OF 'laws.FnValidPlan'. -/
def fnValidPlanCard : Claim7 := { stood := { row := fnValidPlanRow, standIns := [], harness := (true, "d387691b8bc5ae048dbda609ad3bdb6324877d7d1372a19b0aaa3d4321cec1a2"), looks := true }, kinds := [], alts := [], laidByText := true, laidKinds := [.data, .data, .data, .data, .sentinel, .sentinel, .pinned], laidTests := true, laidLooks := .later }
def FnValidPlanCardSaid : Prop := Claim7.holds Tryd.pinned (.plain (OpenSpec.ofChange fnValidPlanSpec)) fnValidPlanCard

/-- THE TIED CARD OF 'laws.FnExactOneRule'. -/
def fnExactOneRuleCard : Claim7 := { stood := { row := fnExactOneRuleRow, standIns := [], harness := (true, "d387691b8bc5ae048dbda609ad3bdb6324877d7d1372a19b0aaa3d4321cec1a2"), looks := true }, kinds := [], alts := [], laidByText := true, laidKinds := [.data, .data, .data, .data, .sentinel, .sentinel, .mapped, .pinned], laidTests := true, laidLooks := .later }
def FnExactOneRuleCardSaid : Prop := Claim7.holds Tryd.pinned (.plain (OpenSpec.ofChange fnExactOneRuleSpec)) fnExactOneRuleCard

/-- THE SECOND FORM's CARD OF 'laws.FnExactValidPlan'. -/
def fnExactValidPlanUptoCard : Claim7 := { stood := { row := fnExactValidPlanUptoRow, standIns := [], harness := (true, "d387691b8bc5ae048dbda609ad3bdb6324877d7d1372a19b0aaa3d4321cec1a2"), looks := true }, kinds := [], alts := [], laidByText := true, laidKinds := [.data, .data, .data, .data, .sentinel, .sentinel, .pinned], laidTests := true, laidLooks := .later }
def FnExactValidPlanUptoCardSaid : Prop := Claim7.holds Tryd.pinned (.plain (OpenSpec.upto fnExactValidPlanSpec)) fnExactValidPlanUptoCard

/-- THE SECOND FORM's CARD OF 'laws.FnExactCostOf'. -/
def fnExactCostOfUptoCard : Claim7 := { stood := { row := fnExactCostOfUptoRow, standIns := [], harness := (true, "d387691b8bc5ae048dbda609ad3bdb6324877d7d1372a19b0aaa3d4321cec1a2"), looks := true }, kinds := [], alts := [], laidByText := true, laidKinds := [.data, .data, .data, .data, .sentinel, .sentinel, .pinned], laidTests := true, laidLooks := .later }
def FnExactCostOfUptoCardSaid : Prop := Claim7.holds Tryd.pinned (.plain (OpenSpec.upto fnExactCostOfSpec)) fnExactCostOfUptoCard

/-- THE SECOND FORM's CARD OF 'laws.FnExactCodeOf'. -/
def fnExactCodeOfUptoCard : Claim7 := { stood := { row := fnExactCodeOfUptoRow, standIns := [], harness := (true, "d387691b8bc5ae048dbda609ad3bdb6324877d7d1372a19b0aaa3d4321cec1a2"), looks := true }, kinds := [], alts := [], laidByText := true, laidKinds := [.data, .data, .data, .data, .sentinel, .sentinel, .pinned], laidTests := true, laidLooks := .later }
def FnExactCodeOfUptoCardSaid : Prop := Claim7.holds Tryd.pinned (.plain (OpenSpec.upto fnExactCodeOfSpec)) fnExactCodeOfUptoCard

/-- THE SECOND FORM's CARD OF 'laws.FnExactNormalOf'. -/
def fnExactNormalOfUptoCard : Claim7 := { stood := { row := fnExactNormalOfUptoRow, standIns := [], harness := (true, "d387691b8bc5ae048dbda609ad3bdb6324877d7d1372a19b0aaa3d4321cec1a2"), looks := true }, kinds := [], alts := [], laidByText := true, laidKinds := [.data, .data, .data, .data, .sentinel, .sentinel, .mapped, .pinned], laidTests := true, laidLooks := .later }
def FnExactNormalOfUptoCardSaid : Prop := Claim7.holds Tryd.pinned (.plain (OpenSpec.upto fnExactNormalOfSpec)) fnExactNormalOfUptoCard

/-- THE SECOND FORM's CARD OF 'laws.FnValidPlan'. -/
def fnValidPlanUptoCard : Claim7 := { stood := { row := fnValidPlanUptoRow, standIns := [], harness := (true, "d387691b8bc5ae048dbda609ad3bdb6324877d7d1372a19b0aaa3d4321cec1a2"), looks := true }, kinds := [], alts := [], laidByText := true, laidKinds := [.data, .data, .data, .data, .sentinel, .sentinel, .pinned], laidTests := true, laidLooks := .later }
def FnValidPlanUptoCardSaid : Prop := Claim7.holds Tryd.pinned (.plain (OpenSpec.upto fnValidPlanSpec)) fnValidPlanUptoCard

/-- THE SECOND FORM's CARD OF 'laws.FnExactOneRule'. -/
def fnExactOneRuleUptoCard : Claim7 := { stood := { row := fnExactOneRuleUptoRow, standIns := [], harness := (true, "d387691b8bc5ae048dbda609ad3bdb6324877d7d1372a19b0aaa3d4321cec1a2"), looks := true }, kinds := [], alts := [], laidByText := true, laidKinds := [.data, .data, .data, .data, .sentinel, .sentinel, .mapped, .pinned], laidTests := true, laidLooks := .later }
def FnExactOneRuleUptoCardSaid : Prop := Claim7.holds Tryd.pinned (.plain (OpenSpec.upto fnExactOneRuleSpec)) fnExactOneRuleUptoCard
end Rows
end Go.Proofs.YtpjgdgnaeohmeaaDoor
