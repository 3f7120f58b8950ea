/- What the row tells of the program, reckoned out. Conditions: none. -/
import Derived.SevenTiedAt
import Derived.KernelRfl
import Derived.Test.YtcpmbhfnapijaaaGreatDoorRows
import Derived.Test.YtcpmbhfnapijaaaGreatDoorCards
namespace Go.Proofs.YtcpmbhfnapijaaaGreatDoor
open Go
theorem fnFoldPlan_k1 : (Rows.fnFoldPlanRow.inPlace == Tryz.pinned.checked.prog.inPlace 12) = true := by kernel_rfl
theorem fnFoldPlan_k2 : (Rows.fnFoldPlanRow.unfollowed == Tryz.pinned.checked.prog.unfollowed 12) = true := by kernel_rfl
theorem fnFoldPlan_k3 : (Rows.fnFoldPlanRow.recurses == Tryz.pinned.checked.prog.recurses 12) = true := by kernel_rfl
theorem fnFoldPlan_k4 : (Rows.fnFoldPlanRow.named == Tryz.pinned.checked.prog.varsNamed 12) = true := by kernel_rfl
end Go.Proofs.YtcpmbhfnapijaaaGreatDoor
