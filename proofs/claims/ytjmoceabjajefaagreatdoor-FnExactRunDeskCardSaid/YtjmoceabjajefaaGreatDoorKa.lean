/- What the row tells of the program, reckoned out. Conditions: none. -/
import Derived.SevenTiedAt
import Derived.KernelRfl
import Derived.Test.YtjmoceabjajefaaGreatDoorRows
import Derived.Test.YtjmoceabjajefaaGreatDoorCards
namespace Go.Proofs.YtjmoceabjajefaaGreatDoor
open Go
theorem fnExactRunDesk_k1:(Rows.fnExactRunDeskRow.inPlace==Tryz.pinned.checked.prog.inPlace 3)=true:=by kernel_rfl
theorem fnExactRunDesk_k2:(Rows.fnExactRunDeskRow.unfollowed==Tryz.pinned.checked.prog.unfollowed 3)=true:=by kernel_rfl
theorem fnExactRunDesk_k3:(Rows.fnExactRunDeskRow.recurses==Tryz.pinned.checked.prog.recurses 3)=true:=by kernel_rfl
theorem fnExactRunDesk_k4:(Rows.fnExactRunDeskRow.named==Tryz.pinned.checked.prog.varsNamed 3)=true:=by kernel_rfl
end Go.Proofs.YtjmoceabjajefaaGreatDoor
