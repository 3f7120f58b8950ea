/- What the row tells of the program, reckoned out. Conditions: none. -/
import Derived.SevenTiedAt
import Derived.KernelRfl
import Derived.Test.YtagllmiiglicfaaGreatDoorRows
import Derived.Test.YtagllmiiglicfaaGreatDoorCards
namespace Go.Proofs.YtagllmiiglicfaaGreatDoor
open Go
theorem fnExactSharePlan_k6 : true = Tryz.pinned.checked.prog.looks [] := by kernel_rfl
theorem fnExactSharePlan_k7 : false = Rows.fnExactSharePlanRow.goesBy Tryz.pinned.checked.prog := by kernel_rfl
end Go.Proofs.YtagllmiiglicfaaGreatDoor
