/-
  DERIVED. GIVEN WITH THE SEED: THE CARDS: each row of YtagllmiiglicfaaGreatDoorRows.lean that lists a variable, with what it lists TIED to the program's text (the seventh form; the later family's looks); each row that meets fmt, with fmt's text TOLD by the authors' own Lean function (tested against real Go, not proved from fmt's source: count such statements apart). THE CARD IS WHAT COUNTS. Prove the row's statement (the work); the ties are given (YtagllmiiglicfaaGreatDoorTie.lean); close each card by the builder's one call (the guide's Derived/Test/ToyasCard.lean, 'card_holds'). Laid BY PROGRAM, IN A SANDBOX (cutbox-door.mjs). By AI agents, Wed Nov 11 2026. No macro, syntax, notation, axiom, sorry.
-/
import Derived.Test.YtagllmiiglicfaaGreatDoorRows
import GoSem.ClaimSeven
namespace Go.Proofs.YtagllmiiglicfaaGreatDoor
namespace Rows

/-- THE TIED CARD OF 'laws.FnExactSharePlan'. -/
def fnExactSharePlanCard : Claim7 := { stood := { row := fnExactSharePlanRow, standIns := [], harness := (true, "5b78044bc8eae15654efa9ce01b1e76d5112e8ebba24b94d35f1a71cb47b8c1d"), looks := true }, kinds := [], alts := [], laidByText := true, laidKinds := [.data, .data, .data, .data, .sentinel, .sentinel, .pinned], laidTests := true, laidLooks := .later }
def FnExactSharePlanCardSaid : Prop := Claim7.holds Tryz.pinned (.plain (OpenSpec.ofChange fnExactSharePlanSpec)) fnExactSharePlanCard

/-- THE SECOND FORM's CARD OF 'laws.FnExactSharePlan'. -/
def fnExactSharePlanUptoCard : Claim7 := { stood := { row := fnExactSharePlanUptoRow, standIns := [], harness := (true, "5b78044bc8eae15654efa9ce01b1e76d5112e8ebba24b94d35f1a71cb47b8c1d"), looks := true }, kinds := [], alts := [], laidByText := true, laidKinds := [.data, .data, .data, .data, .sentinel, .sentinel, .pinned], laidTests := true, laidLooks := .later }
def FnExactSharePlanUptoCardSaid : Prop := Claim7.holds Tryz.pinned (.plain (OpenSpec.upto fnExactSharePlanSpec)) fnExactSharePlanUptoCard
end Rows
end Go.Proofs.YtagllmiiglicfaaGreatDoor
