/- What the row tells of the program, reckoned out. Conditions: none. -/
import Derived.SevenTiedAt
import Derived.KernelRfl
import Derived.Test.YtcpmbhfnapijaaaGreatDoorRows
import Derived.Test.YtcpmbhfnapijaaaGreatDoorCards
namespace Go.Proofs.YtcpmbhfnapijaaaGreatDoor
open Go
theorem fnExactFoldPlan_k1 : (Rows.fnExactFoldPlanRow.inPlace == Tryz.pinned.checked.prog.inPlace 7) = true := by kernel_rfl
theorem fnExactFoldPlan_k2 : (Rows.fnExactFoldPlanRow.unfollowed == Tryz.pinned.checked.prog.unfollowed 7) = true := by kernel_rfl
theorem fnExactFoldPlan_k3 : (Rows.fnExactFoldPlanRow.recurses == Tryz.pinned.checked.prog.recurses 7) = true := by kernel_rfl
theorem fnExactFoldPlan_k4 : (Rows.fnExactFoldPlanRow.named == Tryz.pinned.checked.prog.varsNamed 7) = true := by kernel_rfl
end Go.Proofs.YtcpmbhfnapijaaaGreatDoor
