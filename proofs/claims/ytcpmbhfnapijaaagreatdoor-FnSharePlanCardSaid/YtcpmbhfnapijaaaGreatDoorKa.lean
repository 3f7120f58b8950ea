/- What the row tells of the program, reckoned out. Conditions: none. -/
import Derived.SevenTiedAt
import Derived.KernelRfl
import Derived.Test.YtcpmbhfnapijaaaGreatDoorRows
import Derived.Test.YtcpmbhfnapijaaaGreatDoorCards
namespace Go.Proofs.YtcpmbhfnapijaaaGreatDoor
open Go
theorem fnSharePlan_k1 : (Rows.fnSharePlanRow.inPlace == Tryz.pinned.checked.prog.inPlace 5) = true := by kernel_rfl
theorem fnSharePlan_k2 : (Rows.fnSharePlanRow.unfollowed == Tryz.pinned.checked.prog.unfollowed 5) = true := by kernel_rfl
theorem fnSharePlan_k3 : (Rows.fnSharePlanRow.recurses == Tryz.pinned.checked.prog.recurses 5) = true := by kernel_rfl
theorem fnSharePlan_k4 : (Rows.fnSharePlanRow.named == Tryz.pinned.checked.prog.varsNamed 5) = true := by kernel_rfl
end Go.Proofs.YtcpmbhfnapijaaaGreatDoor
