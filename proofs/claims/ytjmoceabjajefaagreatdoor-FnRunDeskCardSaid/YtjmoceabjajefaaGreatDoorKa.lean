/- What the row tells of the program, reckoned out. Conditions: none. -/
import Derived.SevenTiedAt
import Derived.KernelRfl
import Derived.Test.YtjmoceabjajefaaGreatDoorRows
import Derived.Test.YtjmoceabjajefaaGreatDoorCards
namespace Go.Proofs.YtjmoceabjajefaaGreatDoor
open Go
theorem fnRunDesk_k1:(Rows.fnRunDeskRow.inPlace==Tryz.pinned.checked.prog.inPlace 4)=true:=by kernel_rfl
theorem fnRunDesk_k2:(Rows.fnRunDeskRow.unfollowed==Tryz.pinned.checked.prog.unfollowed 4)=true:=by kernel_rfl
theorem fnRunDesk_k3:(Rows.fnRunDeskRow.recurses==Tryz.pinned.checked.prog.recurses 4)=true:=by kernel_rfl
theorem fnRunDesk_k4:(Rows.fnRunDeskRow.named==Tryz.pinned.checked.prog.varsNamed 4)=true:=by kernel_rfl
end Go.Proofs.YtjmoceabjajefaaGreatDoor
