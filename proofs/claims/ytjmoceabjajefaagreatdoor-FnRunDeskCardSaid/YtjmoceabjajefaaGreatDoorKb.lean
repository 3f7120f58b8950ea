/- What the row tells of the program, reckoned out. Conditions: none. -/
import Derived.SevenTiedAt
import Derived.KernelRfl
import Derived.Test.YtjmoceabjajefaaGreatDoorRows
import Derived.Test.YtjmoceabjajefaaGreatDoorCards
namespace Go.Proofs.YtjmoceabjajefaaGreatDoor
open Go
theorem fnRunDesk_k6:true=Tryz.pinned.checked.prog.looks []:=by kernel_rfl
theorem fnRunDesk_k7:false=Rows.fnRunDeskRow.goesBy Tryz.pinned.checked.prog:=by kernel_rfl
end Go.Proofs.YtjmoceabjajefaaGreatDoor
