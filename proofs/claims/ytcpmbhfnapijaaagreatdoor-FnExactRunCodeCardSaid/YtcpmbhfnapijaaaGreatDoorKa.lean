/- What the row tells of the program, reckoned out. Conditions: none. -/
import Derived.SevenTiedAt
import Derived.KernelRfl
import Derived.Test.YtcpmbhfnapijaaaGreatDoorRows
import Derived.Test.YtcpmbhfnapijaaaGreatDoorCards
namespace Go.Proofs.YtcpmbhfnapijaaaGreatDoor
open Go
theorem fnExactRunCode_k1 : (Rows.fnExactRunCodeRow.inPlace == Tryz.pinned.checked.prog.inPlace 9) = true := by kernel_rfl
theorem fnExactRunCode_k2 : (Rows.fnExactRunCodeRow.unfollowed == Tryz.pinned.checked.prog.unfollowed 9) = true := by kernel_rfl
theorem fnExactRunCode_k3 : (Rows.fnExactRunCodeRow.recurses == Tryz.pinned.checked.prog.recurses 9) = true := by kernel_rfl
theorem fnExactRunCode_k4 : (Rows.fnExactRunCodeRow.named == Tryz.pinned.checked.prog.varsNamed 9) = true := by kernel_rfl
end Go.Proofs.YtcpmbhfnapijaaaGreatDoor
