/- What the row tells of the program, reckoned out. Conditions: none. -/
import Derived.SevenTiedAt
import Derived.KernelRfl
import Derived.Test.YtagllmiiglicfaaGreatDoorRows
import Derived.Test.YtagllmiiglicfaaGreatDoorCards
namespace Go.Proofs.YtagllmiiglicfaaGreatDoor
open Go
theorem fnExactSharePlan_k1 : (Rows.fnExactSharePlanRow.inPlace == Tryz.pinned.checked.prog.inPlace 3) = true := by kernel_rfl
theorem fnExactSharePlan_k2 : (Rows.fnExactSharePlanRow.unfollowed == Tryz.pinned.checked.prog.unfollowed 3) = true := by kernel_rfl
theorem fnExactSharePlan_k3 : (Rows.fnExactSharePlanRow.recurses == Tryz.pinned.checked.prog.recurses 3) = true := by kernel_rfl
theorem fnExactSharePlan_k4 : (Rows.fnExactSharePlanRow.named == Tryz.pinned.checked.prog.varsNamed 3) = true := by kernel_rfl
end Go.Proofs.YtagllmiiglicfaaGreatDoor
