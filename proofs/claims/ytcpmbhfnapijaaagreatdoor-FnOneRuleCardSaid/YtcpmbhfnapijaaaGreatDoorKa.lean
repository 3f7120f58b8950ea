/- What the row tells of the program, reckoned out. Conditions: none. -/
import Derived.SevenTiedAt
import Derived.KernelRfl
import Derived.Test.YtcpmbhfnapijaaaGreatDoorRows
import Derived.Test.YtcpmbhfnapijaaaGreatDoorCards
namespace Go.Proofs.YtcpmbhfnapijaaaGreatDoor
open Go
theorem fnOneRule_k1 : (Rows.fnOneRuleRow.inPlace == Tryz.pinned.checked.prog.inPlace 6) = true := by kernel_rfl
theorem fnOneRule_k2 : (Rows.fnOneRuleRow.unfollowed == Tryz.pinned.checked.prog.unfollowed 6) = true := by kernel_rfl
theorem fnOneRule_k3 : (Rows.fnOneRuleRow.recurses == Tryz.pinned.checked.prog.recurses 6) = true := by kernel_rfl
theorem fnOneRule_k4 : (Rows.fnOneRuleRow.named == Tryz.pinned.checked.prog.varsNamed 6) = true := by kernel_rfl
end Go.Proofs.YtcpmbhfnapijaaaGreatDoor
