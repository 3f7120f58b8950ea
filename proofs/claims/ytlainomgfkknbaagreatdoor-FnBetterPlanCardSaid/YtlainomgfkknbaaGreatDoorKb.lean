/- What the row tells of the program, reckoned out. Conditions: none. -/
import Derived.SevenTiedAt
import Derived.KernelRfl
import Derived.Test.YtlainomgfkknbaaGreatDoorRows
import Derived.Test.YtlainomgfkknbaaGreatDoorCards
namespace Go.Proofs.YtlainomgfkknbaaGreatDoor
open Go
theorem fnBetterPlan_k6 : true = Tryz.pinned.checked.prog.looks [] := by kernel_rfl
theorem fnBetterPlan_k7 : false = Rows.fnBetterPlanRow.goesBy Tryz.pinned.checked.prog := by kernel_rfl
end Go.Proofs.YtlainomgfkknbaaGreatDoor
