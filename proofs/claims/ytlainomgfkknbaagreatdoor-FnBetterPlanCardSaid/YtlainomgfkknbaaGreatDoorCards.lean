/-
  DERIVED. GIVEN WITH THE SEED: THE CARDS: each row of YtlainomgfkknbaaGreatDoorRows.lean that lists a variable, with what it lists TIED to the program's text (the seventh form; the later family's looks); each row that meets fmt, with fmt's text TOLD by the authors' own Lean function (tested against real Go, not proved from fmt's source: count such statements apart). THE CARD IS WHAT COUNTS. Prove the row's statement (the work); the ties are given (YtlainomgfkknbaaGreatDoorTie.lean); close each card by the builder's one call (the guide's Derived/Test/ToyasCard.lean, 'card_holds'). Laid BY PROGRAM, IN A SANDBOX (cutbox-door.mjs). By AI agents, Wed Nov 11 2026. No macro, syntax, notation, axiom, sorry.
-/
import Derived.Test.YtlainomgfkknbaaGreatDoorRows
import GoSem.ClaimSeven
namespace Go.Proofs.YtlainomgfkknbaaGreatDoor
namespace Rows

/-- THE TIED CARD OF 'laws.FnBetterPlan'. -/
def fnBetterPlanCard : Claim7 := { stood := { row := fnBetterPlanRow, standIns := [], harness := (true, "d9d488fcfa8f9f9e49e59d4e0573c7fe93836b195a8416cadba3d7893619c3f4"), looks := true }, kinds := [], alts := [], laidByText := true, laidKinds := [.data, .data, .data, .data, .sentinel, .sentinel, .mapped, .pinned], laidTests := true, laidLooks := .later }
def FnBetterPlanCardSaid : Prop := Claim7.holds Tryz.pinned (.plain (OpenSpec.ofChange fnBetterPlanSpec)) fnBetterPlanCard

/-- THE SECOND FORM's CARD OF 'laws.FnBetterPlan'. -/
def fnBetterPlanUptoCard : Claim7 := { stood := { row := fnBetterPlanUptoRow, standIns := [], harness := (true, "d9d488fcfa8f9f9e49e59d4e0573c7fe93836b195a8416cadba3d7893619c3f4"), looks := true }, kinds := [], alts := [], laidByText := true, laidKinds := [.data, .data, .data, .data, .sentinel, .sentinel, .mapped, .pinned], laidTests := true, laidLooks := .later }
def FnBetterPlanUptoCardSaid : Prop := Claim7.holds Tryz.pinned (.plain (OpenSpec.upto fnBetterPlanSpec)) fnBetterPlanUptoCard
end Rows
end Go.Proofs.YtlainomgfkknbaaGreatDoor
