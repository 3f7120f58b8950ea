/- What the row tells of the program, reckoned out. Conditions: none. -/
import Derived.SevenTiedAt
import Derived.KernelRfl
import Derived.Test.YtcpmbhfnapijaaaGreatDoorRows
import Derived.Test.YtcpmbhfnapijaaaGreatDoorCards
namespace Go.Proofs.YtcpmbhfnapijaaaGreatDoor
open Go
theorem fnExactBetterPlan_k1 : (Rows.fnExactBetterPlanRow.inPlace == Tryz.pinned.checked.prog.inPlace 10) = true := by kernel_rfl
theorem fnExactBetterPlan_k2 : (Rows.fnExactBetterPlanRow.unfollowed == Tryz.pinned.checked.prog.unfollowed 10) = true := by kernel_rfl
theorem fnExactBetterPlan_k3 : (Rows.fnExactBetterPlanRow.recurses == Tryz.pinned.checked.prog.recurses 10) = true := by kernel_rfl
theorem fnExactBetterPlan_k4 : (Rows.fnExactBetterPlanRow.named == Tryz.pinned.checked.prog.varsNamed 10) = true := by kernel_rfl
end Go.Proofs.YtcpmbhfnapijaaaGreatDoor
