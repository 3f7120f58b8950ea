/- What the row tells of the program, reckoned out. Conditions: none. -/
import Derived.SevenTiedAt
import Derived.KernelRfl
import Derived.Test.YtlainomgfkknbaaGreatDoorRows
import Derived.Test.YtlainomgfkknbaaGreatDoorCards
namespace Go.Proofs.YtlainomgfkknbaaGreatDoor
open Go
theorem fnBetterPlan_k1 : (Rows.fnBetterPlanRow.inPlace == Tryz.pinned.checked.prog.inPlace 3) = true := by kernel_rfl
theorem fnBetterPlan_k2 : (Rows.fnBetterPlanRow.unfollowed == Tryz.pinned.checked.prog.unfollowed 3) = true := by kernel_rfl
theorem fnBetterPlan_k3 : (Rows.fnBetterPlanRow.recurses == Tryz.pinned.checked.prog.recurses 3) = true := by kernel_rfl
theorem fnBetterPlan_k4 : (Rows.fnBetterPlanRow.named == Tryz.pinned.checked.prog.varsNamed 3) = true := by kernel_rfl
end Go.Proofs.YtlainomgfkknbaaGreatDoor
