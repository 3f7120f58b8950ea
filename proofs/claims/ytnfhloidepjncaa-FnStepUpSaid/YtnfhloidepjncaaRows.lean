/-
  No cell of these rows narrows 'for every input' (looked for: loops, veiled, ifaces, maps, wideKeys, modest, calm, conditions, laid).
  DERIVED. THE GIVEN ROWS OF THIS SEAT. 5 by the template 'for every input the law returns true; each argument reads behind the call as it read before'; 0 by the template 'total and deterministic' (their statements: YtnfhloidepjncaaTotals.lean).
  GIVEN WITH THE SEED: the statements are not yours to turn. If you find one false, say at which input.
  Laid BY PROGRAM, IN A SANDBOX (cutbox-rows.mjs): the forced cells as the released guide's own fill.sh prints them over the translation 96cb8f9d4c61d338… (all of the seat's roots in one cut). By AI agents, Wed Nov 11 2026. No macro, syntax, notation, axiom, sorry.
-/
import Derived.Test.YtnfhloidepjncaaChecked
import GoSem.Claim
import GoSem.ClaimJoined
import GoSem.ClaimMapViews
import Derived.JoinedTies
import Derived.KernelRfl
namespace Go.Proofs.Ytnfhloidepjncaa
/- THE CELL 'sum', in the pinned program and in every row, IS THE sha256 OF THE DUMP (.gsa) THAT YtnfhloidepjncaaProg.lean LOADS. Nothing in Lean hashes anything: it is a label: what it is worth is what the hold of that sum in a sandbox is worth. -/
noncomputable def Try.pinned : Pinned := { name := "ytnfhloidepjncaa", sum := "96cb8f9d4c61d338eebd6eefe40fc564773dcd42ebedc36a8a64bfdc53881a47", checked := Try.checked }
namespace Rows
def none {H : Type} : Left H := { results := [], args := [] }

/-- 'laws.FnClosedBy': WHATEVER THE INPUT: true; the input reads as it did. -/
def fnClosedBySpec : ChangeSpec := { name := "fnClosedBy", fn := fun _ => fun
  | [d] => { results := [.lit (.bool true)], args := [d] }
  | _ => none }
def fnClosedByRow : OpenClaim := { program := "ytnfhloidepjncaa", sum := "96cb8f9d4c61d338eebd6eefe40fc564773dcd42ebedc36a8a64bfdc53881a47", func := "loop.example/countedchances/laws.FnClosedBy", spec := "fnClosedBy", unfollowed := true, recurses := true, apart := false }
def FnClosedBySaid : Prop := fnClosedByRow.holds Try.pinned (OpenSpec.ofChange fnClosedBySpec)

/-- ITS FALSE NEIGHBOUR: 'it returns false'. Refute it at one input. -/
def fnClosedByWrong : ChangeSpec := { name := "fnClosedBy", fn := fun _ => fun
  | [d] => { results := [.lit (.bool false)], args := [d] }
  | _ => none }
def FnClosedByWrongFalsely : Prop := fnClosedByRow.holds Try.pinned (OpenSpec.ofChange fnClosedByWrong)

/-- 'laws.FnSmallSteps': WHATEVER THE INPUT: true; the input reads as it did. -/
def fnSmallStepsSpec : ChangeSpec := { name := "fnSmallSteps", fn := fun _ => fun
  | [d] => { results := [.lit (.bool true)], args := [d] }
  | _ => none }
def fnSmallStepsRow : OpenClaim := { program := "ytnfhloidepjncaa", sum := "96cb8f9d4c61d338eebd6eefe40fc564773dcd42ebedc36a8a64bfdc53881a47", func := "loop.example/countedchances/laws.FnSmallSteps", spec := "fnSmallSteps", unfollowed := true, recurses := true, apart := false }
def FnSmallStepsSaid : Prop := fnSmallStepsRow.holds Try.pinned (OpenSpec.ofChange fnSmallStepsSpec)

/-- ITS FALSE NEIGHBOUR: 'it returns false'. Refute it at one input. -/
def fnSmallStepsWrong : ChangeSpec := { name := "fnSmallSteps", fn := fun _ => fun
  | [d] => { results := [.lit (.bool false)], args := [d] }
  | _ => none }
def FnSmallStepsWrongFalsely : Prop := fnSmallStepsRow.holds Try.pinned (OpenSpec.ofChange fnSmallStepsWrong)

/-- 'laws.FnStepsByJoins': WHATEVER THE INPUT: true; the input reads as it did. -/
def fnStepsByJoinsSpec : ChangeSpec := { name := "fnStepsByJoins", fn := fun _ => fun
  | [d] => { results := [.lit (.bool true)], args := [d] }
  | _ => none }
def fnStepsByJoinsRow : OpenClaim := { program := "ytnfhloidepjncaa", sum := "96cb8f9d4c61d338eebd6eefe40fc564773dcd42ebedc36a8a64bfdc53881a47", func := "loop.example/countedchances/laws.FnStepsByJoins", spec := "fnStepsByJoins", unfollowed := true, recurses := true, apart := false }
def FnStepsByJoinsSaid : Prop := fnStepsByJoinsRow.holds Try.pinned (OpenSpec.ofChange fnStepsByJoinsSpec)

/-- ITS FALSE NEIGHBOUR: 'it returns false'. Refute it at one input. -/
def fnStepsByJoinsWrong : ChangeSpec := { name := "fnStepsByJoins", fn := fun _ => fun
  | [d] => { results := [.lit (.bool false)], args := [d] }
  | _ => none }
def FnStepsByJoinsWrongFalsely : Prop := fnStepsByJoinsRow.holds Try.pinned (OpenSpec.ofChange fnStepsByJoinsWrong)

/-- 'laws.FnStepDown': WHATEVER THE INPUT: true; the input reads as it did. -/
def fnStepDownSpec : ChangeSpec := { name := "fnStepDown", fn := fun _ => fun
  | [d] => { results := [.lit (.bool true)], args := [d] }
  | _ => none }
def fnStepDownRow : OpenClaim := { program := "ytnfhloidepjncaa", sum := "96cb8f9d4c61d338eebd6eefe40fc564773dcd42ebedc36a8a64bfdc53881a47", func := "loop.example/countedchances/laws.FnStepDown", spec := "fnStepDown", unfollowed := true, recurses := true, apart := false }
def FnStepDownSaid : Prop := fnStepDownRow.holds Try.pinned (OpenSpec.ofChange fnStepDownSpec)

/-- ITS FALSE NEIGHBOUR: 'it returns false'. Refute it at one input. -/
def fnStepDownWrong : ChangeSpec := { name := "fnStepDown", fn := fun _ => fun
  | [d] => { results := [.lit (.bool false)], args := [d] }
  | _ => none }
def FnStepDownWrongFalsely : Prop := fnStepDownRow.holds Try.pinned (OpenSpec.ofChange fnStepDownWrong)

/-- 'laws.FnStepUp': WHATEVER THE INPUT: true; the input reads as it did. -/
def fnStepUpSpec : ChangeSpec := { name := "fnStepUp", fn := fun _ => fun
  | [d] => { results := [.lit (.bool true)], args := [d] }
  | _ => none }
def fnStepUpRow : OpenClaim := { program := "ytnfhloidepjncaa", sum := "96cb8f9d4c61d338eebd6eefe40fc564773dcd42ebedc36a8a64bfdc53881a47", func := "loop.example/countedchances/laws.FnStepUp", spec := "fnStepUp", unfollowed := true, recurses := true, apart := false }
def FnStepUpSaid : Prop := fnStepUpRow.holds Try.pinned (OpenSpec.ofChange fnStepUpSpec)

/-- ITS FALSE NEIGHBOUR: 'it returns false'. Refute it at one input. -/
def fnStepUpWrong : ChangeSpec := { name := "fnStepUp", fn := fun _ => fun
  | [d] => { results := [.lit (.bool false)], args := [d] }
  | _ => none }
def FnStepUpWrongFalsely : Prop := fnStepUpRow.holds Try.pinned (OpenSpec.ofChange fnStepUpWrong)

/- THE SECOND FORM. 'bulk': how many values and letters a reading holds, each counted each time it is reached (what is shared counts as often as it is met; a slice's spare places count too). A statement '..UptoSaid' is the law's where the arguments, and the package variables that the reading takes, are together of bulk at most 1048576: NARROWER than '..Said'. Prove '..Said' where nothing that the law and all that it calls make is longer than what came in: it says more and counts as full. Else prove '..UptoSaid'. A law counts once. -/
mutual
def uptoBulk {H : Type} : DataW H → Nat
  | .lit (.string bytes) => bytes.length + 1
  | .lit _ => 1
  | .nil => 1
  | .ptr d => uptoBulk d + 1
  | .slice elems spare => uptoBulkAll elems + uptoBulkAll spare + 1
  | .agg parts => uptoBulkAll parts + 1
  | .iface _ d => uptoBulk d + 1
  | .map entries => uptoBulkEntries entries + 1
  | .held _ => 1
def uptoBulkAll {H : Type} : List (DataW H) → Nat
  | [] => 0
  | d :: r => uptoBulk d + uptoBulkAll r
def uptoBulkEntries {H : Type} : List (Lit × DataW H) → Nat
  | [] => 0
  | x :: r => uptoBulkEntry x + uptoBulkEntries r
def uptoBulkEntry {H : Type} : Lit × DataW H → Nat
  | (.string bytes, d) => bytes.length + uptoBulk d + 1
  | (_, d) => uptoBulk d + 1
 end
def uptoSmall : (H : Type) → List (DataW H) → Bool := fun _ ds => decide (uptoBulkAll ds ≤ 1048576)
def OpenSpec.upto (s : _root_.Go.ChangeSpec) : _root_.Go.OpenSpec := { _root_.Go.OpenSpec.ofChange s with cond := some uptoSmall }

/-- 'laws.FnClosedBy', WHERE WHAT IT READS IS OF BULK AT MOST 1048576: true; the input reads as it did. -/
def fnClosedByUptoRow : OpenClaim := { program := "ytnfhloidepjncaa", sum := "96cb8f9d4c61d338eebd6eefe40fc564773dcd42ebedc36a8a64bfdc53881a47", func := "loop.example/countedchances/laws.FnClosedBy", spec := "fnClosedBy", unfollowed := true, recurses := true, apart := false, narrowed := true }
def FnClosedByUptoSaid : Prop := fnClosedByUptoRow.holds Try.pinned (OpenSpec.upto fnClosedBySpec)

/-- 'laws.FnSmallSteps', WHERE WHAT IT READS IS OF BULK AT MOST 1048576: true; the input reads as it did. -/
def fnSmallStepsUptoRow : OpenClaim := { program := "ytnfhloidepjncaa", sum := "96cb8f9d4c61d338eebd6eefe40fc564773dcd42ebedc36a8a64bfdc53881a47", func := "loop.example/countedchances/laws.FnSmallSteps", spec := "fnSmallSteps", unfollowed := true, recurses := true, apart := false, narrowed := true }
def FnSmallStepsUptoSaid : Prop := fnSmallStepsUptoRow.holds Try.pinned (OpenSpec.upto fnSmallStepsSpec)

/-- 'laws.FnStepsByJoins', WHERE WHAT IT READS IS OF BULK AT MOST 1048576: true; the input reads as it did. -/
def fnStepsByJoinsUptoRow : OpenClaim := { program := "ytnfhloidepjncaa", sum := "96cb8f9d4c61d338eebd6eefe40fc564773dcd42ebedc36a8a64bfdc53881a47", func := "loop.example/countedchances/laws.FnStepsByJoins", spec := "fnStepsByJoins", unfollowed := true, recurses := true, apart := false, narrowed := true }
def FnStepsByJoinsUptoSaid : Prop := fnStepsByJoinsUptoRow.holds Try.pinned (OpenSpec.upto fnStepsByJoinsSpec)

/-- 'laws.FnStepDown', WHERE WHAT IT READS IS OF BULK AT MOST 1048576: true; the input reads as it did. -/
def fnStepDownUptoRow : OpenClaim := { program := "ytnfhloidepjncaa", sum := "96cb8f9d4c61d338eebd6eefe40fc564773dcd42ebedc36a8a64bfdc53881a47", func := "loop.example/countedchances/laws.FnStepDown", spec := "fnStepDown", unfollowed := true, recurses := true, apart := false, narrowed := true }
def FnStepDownUptoSaid : Prop := fnStepDownUptoRow.holds Try.pinned (OpenSpec.upto fnStepDownSpec)

/-- 'laws.FnStepUp', WHERE WHAT IT READS IS OF BULK AT MOST 1048576: true; the input reads as it did. -/
def fnStepUpUptoRow : OpenClaim := { program := "ytnfhloidepjncaa", sum := "96cb8f9d4c61d338eebd6eefe40fc564773dcd42ebedc36a8a64bfdc53881a47", func := "loop.example/countedchances/laws.FnStepUp", spec := "fnStepUp", unfollowed := true, recurses := true, apart := false, narrowed := true }
def FnStepUpUptoSaid : Prop := fnStepUpUptoRow.holds Try.pinned (OpenSpec.upto fnStepUpSpec)

end Rows
end Go.Proofs.Ytnfhloidepjncaa
