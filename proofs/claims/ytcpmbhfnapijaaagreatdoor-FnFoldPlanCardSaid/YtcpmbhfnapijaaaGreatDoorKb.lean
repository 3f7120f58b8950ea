/- What the row tells of the program, reckoned out. Conditions: none. -/
import Derived.SevenTiedAt
import Derived.KernelRfl
import Derived.Test.YtcpmbhfnapijaaaGreatDoorRows
import Derived.Test.YtcpmbhfnapijaaaGreatDoorCards
namespace Go.Proofs.YtcpmbhfnapijaaaGreatDoor
open Go
theorem fnFoldPlan_k6 : true = Tryz.pinned.checked.prog.looks [] := by kernel_rfl
theorem fnFoldPlan_k7 : false = Rows.fnFoldPlanRow.goesBy Tryz.pinned.checked.prog := by kernel_rfl
end Go.Proofs.YtcpmbhfnapijaaaGreatDoor
