/- What the row tells of the program, reckoned out. Conditions: none. -/
import Derived.SevenTiedAt
import Derived.KernelRfl
import Derived.Test.YtcpmbhfnapijaaaGreatDoorRows
import Derived.Test.YtcpmbhfnapijaaaGreatDoorCards
namespace Go.Proofs.YtcpmbhfnapijaaaGreatDoor
open Go
theorem fnRunCode_k1 : (Rows.fnRunCodeRow.inPlace == Tryz.pinned.checked.prog.inPlace 11) = true := by kernel_rfl
theorem fnRunCode_k2 : (Rows.fnRunCodeRow.unfollowed == Tryz.pinned.checked.prog.unfollowed 11) = true := by kernel_rfl
theorem fnRunCode_k3 : (Rows.fnRunCodeRow.recurses == Tryz.pinned.checked.prog.recurses 11) = true := by kernel_rfl
theorem fnRunCode_k4 : (Rows.fnRunCodeRow.named == Tryz.pinned.checked.prog.varsNamed 11) = true := by kernel_rfl
end Go.Proofs.YtcpmbhfnapijaaaGreatDoor
