/-
  No cell of these rows narrows 'for every input' (looked for: loops, veiled, ifaces, maps, wideKeys, modest, calm, conditions, laid).
  DERIVED. THE GIVEN ROWS OF THIS SEAT. 10 by the template 'for every input the law returns true; each argument reads behind the call as it read before'; 0 by the template 'total and deterministic' (their statements: YthmimfbjoeeggaaTotals.lean).
  GIVEN WITH THE SEED: the statements are not yours to turn. If you find one false, say at which input.
  Laid BY PROGRAM, IN A SANDBOX (cutbox-rows.mjs): the forced cells as the released guide's own fill.sh prints them over the translation 71629f6da1b8527b… (all of the seat's roots in one cut). By AI agents, Wed Nov 11 2026. No macro, syntax, notation, axiom, sorry.
-/
import Derived.Test.YthmimfbjoeeggaaChecked
import GoSem.Claim
import GoSem.ClaimJoined
import GoSem.ClaimMapViews
import Derived.JoinedTies
import Derived.KernelRfl
namespace Go.Proofs.Ythmimfbjoeeggaa
/- THE CELL 'sum', in the pinned program and in every row, IS THE sha256 OF THE DUMP (.gsa) THAT YthmimfbjoeeggaaProg.lean LOADS. Nothing in Lean hashes anything: it is a label: what it is worth is what the hold of that sum in a sandbox is worth. -/
noncomputable def Try.pinned : Pinned := { name := "ythmimfbjoeeggaa", sum := "71629f6da1b8527b0938ad798227d335ecb7e671700df273212830998fa9682f", checked := Try.checked }
namespace Rows
def none {H : Type} : Left H := { results := [], args := [] }

/-- 'laws.FnExactCornersOf': WHATEVER THE INPUT: true; the input reads as it did. -/
def fnExactCornersOfSpec : ChangeSpec := { name := "fnExactCornersOf", fn := fun _ => fun
  | [d1, d2] => { results := [.lit (.bool true)], args := [d1, d2] }
  | _ => none }
def fnExactCornersOfRow : OpenClaim := { program := "ythmimfbjoeeggaa", sum := "71629f6da1b8527b0938ad798227d335ecb7e671700df273212830998fa9682f", func := "loop.example/countedchances/laws.FnExactCornersOf", spec := "fnExactCornersOf", unfollowed := true, recurses := true, apart := false }
def FnExactCornersOfSaid : Prop := fnExactCornersOfRow.holds Try.pinned (OpenSpec.ofChange fnExactCornersOfSpec)

/-- ITS FALSE NEIGHBOUR: 'it returns false'. Refute it at one input. -/
def fnExactCornersOfWrong : ChangeSpec := { name := "fnExactCornersOf", fn := fun _ => fun
  | [d1, d2] => { results := [.lit (.bool false)], args := [d1, d2] }
  | _ => none }
def FnExactCornersOfWrongFalsely : Prop := fnExactCornersOfRow.holds Try.pinned (OpenSpec.ofChange fnExactCornersOfWrong)

/-- 'laws.FnExactWrongByCorners': WHATEVER THE INPUT: true; the input reads as it did. -/
def fnExactWrongByCornersSpec : ChangeSpec := { name := "fnExactWrongByCorners", fn := fun _ => fun
  | [d1, d2] => { results := [.lit (.bool true)], args := [d1, d2] }
  | _ => none }
def fnExactWrongByCornersRow : OpenClaim := { program := "ythmimfbjoeeggaa", sum := "71629f6da1b8527b0938ad798227d335ecb7e671700df273212830998fa9682f", func := "loop.example/countedchances/laws.FnExactWrongByCorners", spec := "fnExactWrongByCorners", unfollowed := true, recurses := true, apart := false }
def FnExactWrongByCornersSaid : Prop := fnExactWrongByCornersRow.holds Try.pinned (OpenSpec.ofChange fnExactWrongByCornersSpec)

/-- ITS FALSE NEIGHBOUR: 'it returns false'. Refute it at one input. -/
def fnExactWrongByCornersWrong : ChangeSpec := { name := "fnExactWrongByCorners", fn := fun _ => fun
  | [d1, d2] => { results := [.lit (.bool false)], args := [d1, d2] }
  | _ => none }
def FnExactWrongByCornersWrongFalsely : Prop := fnExactWrongByCornersRow.holds Try.pinned (OpenSpec.ofChange fnExactWrongByCornersWrong)

/-- 'laws.FnCornersOf': WHATEVER THE INPUT: true; the input reads as it did. -/
def fnCornersOfSpec : ChangeSpec := { name := "fnCornersOf", fn := fun _ => fun
  | [d] => { results := [.lit (.bool true)], args := [d] }
  | _ => none }
def fnCornersOfRow : OpenClaim := { program := "ythmimfbjoeeggaa", sum := "71629f6da1b8527b0938ad798227d335ecb7e671700df273212830998fa9682f", func := "loop.example/countedchances/laws.FnCornersOf", spec := "fnCornersOf", unfollowed := true, recurses := true, apart := false }
def FnCornersOfSaid : Prop := fnCornersOfRow.holds Try.pinned (OpenSpec.ofChange fnCornersOfSpec)

/-- ITS FALSE NEIGHBOUR: 'it returns false'. Refute it at one input. -/
def fnCornersOfWrong : ChangeSpec := { name := "fnCornersOf", fn := fun _ => fun
  | [d] => { results := [.lit (.bool false)], args := [d] }
  | _ => none }
def FnCornersOfWrongFalsely : Prop := fnCornersOfRow.holds Try.pinned (OpenSpec.ofChange fnCornersOfWrong)

/-- 'laws.FnExactAreaByCorners': WHATEVER THE INPUT: true; the input reads as it did. -/
def fnExactAreaByCornersSpec : ChangeSpec := { name := "fnExactAreaByCorners", fn := fun _ => fun
  | [d1, d2] => { results := [.lit (.bool true)], args := [d1, d2] }
  | _ => none }
def fnExactAreaByCornersRow : OpenClaim := { program := "ythmimfbjoeeggaa", sum := "71629f6da1b8527b0938ad798227d335ecb7e671700df273212830998fa9682f", func := "loop.example/countedchances/laws.FnExactAreaByCorners", spec := "fnExactAreaByCorners", unfollowed := true, recurses := true, apart := false }
def FnExactAreaByCornersSaid : Prop := fnExactAreaByCornersRow.holds Try.pinned (OpenSpec.ofChange fnExactAreaByCornersSpec)

/-- ITS FALSE NEIGHBOUR: 'it returns false'. Refute it at one input. -/
def fnExactAreaByCornersWrong : ChangeSpec := { name := "fnExactAreaByCorners", fn := fun _ => fun
  | [d1, d2] => { results := [.lit (.bool false)], args := [d1, d2] }
  | _ => none }
def FnExactAreaByCornersWrongFalsely : Prop := fnExactAreaByCornersRow.holds Try.pinned (OpenSpec.ofChange fnExactAreaByCornersWrong)

/-- 'laws.FnWrongByCorners': WHATEVER THE INPUT: true; the input reads as it did. -/
def fnWrongByCornersSpec : ChangeSpec := { name := "fnWrongByCorners", fn := fun _ => fun
  | [d] => { results := [.lit (.bool true)], args := [d] }
  | _ => none }
def fnWrongByCornersRow : OpenClaim := { program := "ythmimfbjoeeggaa", sum := "71629f6da1b8527b0938ad798227d335ecb7e671700df273212830998fa9682f", func := "loop.example/countedchances/laws.FnWrongByCorners", spec := "fnWrongByCorners", unfollowed := true, recurses := true, apart := false }
def FnWrongByCornersSaid : Prop := fnWrongByCornersRow.holds Try.pinned (OpenSpec.ofChange fnWrongByCornersSpec)

/-- ITS FALSE NEIGHBOUR: 'it returns false'. Refute it at one input. -/
def fnWrongByCornersWrong : ChangeSpec := { name := "fnWrongByCorners", fn := fun _ => fun
  | [d] => { results := [.lit (.bool false)], args := [d] }
  | _ => none }
def FnWrongByCornersWrongFalsely : Prop := fnWrongByCornersRow.holds Try.pinned (OpenSpec.ofChange fnWrongByCornersWrong)

/-- 'laws.FnEdgeOf': WHATEVER THE INPUT: true; the input reads as it did. -/
def fnEdgeOfSpec : ChangeSpec := { name := "fnEdgeOf", fn := fun _ => fun
  | [d] => { results := [.lit (.bool true)], args := [d] }
  | _ => none }
def fnEdgeOfRow : OpenClaim := { program := "ythmimfbjoeeggaa", sum := "71629f6da1b8527b0938ad798227d335ecb7e671700df273212830998fa9682f", func := "loop.example/countedchances/laws.FnEdgeOf", spec := "fnEdgeOf", unfollowed := true, recurses := true, apart := false }
def FnEdgeOfSaid : Prop := fnEdgeOfRow.holds Try.pinned (OpenSpec.ofChange fnEdgeOfSpec)

/-- ITS FALSE NEIGHBOUR: 'it returns false'. Refute it at one input. -/
def fnEdgeOfWrong : ChangeSpec := { name := "fnEdgeOf", fn := fun _ => fun
  | [d] => { results := [.lit (.bool false)], args := [d] }
  | _ => none }
def FnEdgeOfWrongFalsely : Prop := fnEdgeOfRow.holds Try.pinned (OpenSpec.ofChange fnEdgeOfWrong)

/-- 'laws.FnExactChancesOf': WHATEVER THE INPUT: true; the input reads as it did. -/
def fnExactChancesOfSpec : ChangeSpec := { name := "fnExactChancesOf", fn := fun _ => fun
  | [d1, d2] => { results := [.lit (.bool true)], args := [d1, d2] }
  | _ => none }
def fnExactChancesOfRow : OpenClaim := { program := "ythmimfbjoeeggaa", sum := "71629f6da1b8527b0938ad798227d335ecb7e671700df273212830998fa9682f", func := "loop.example/countedchances/laws.FnExactChancesOf", spec := "fnExactChancesOf", unfollowed := true, recurses := true, apart := false }
def FnExactChancesOfSaid : Prop := fnExactChancesOfRow.holds Try.pinned (OpenSpec.ofChange fnExactChancesOfSpec)

/-- ITS FALSE NEIGHBOUR: 'it returns false'. Refute it at one input. -/
def fnExactChancesOfWrong : ChangeSpec := { name := "fnExactChancesOf", fn := fun _ => fun
  | [d1, d2] => { results := [.lit (.bool false)], args := [d1, d2] }
  | _ => none }
def FnExactChancesOfWrongFalsely : Prop := fnExactChancesOfRow.holds Try.pinned (OpenSpec.ofChange fnExactChancesOfWrong)

/-- 'laws.FnChancesOf': WHATEVER THE INPUT: true; the input reads as it did. -/
def fnChancesOfSpec : ChangeSpec := { name := "fnChancesOf", fn := fun _ => fun
  | [d] => { results := [.lit (.bool true)], args := [d] }
  | _ => none }
def fnChancesOfRow : OpenClaim := { program := "ythmimfbjoeeggaa", sum := "71629f6da1b8527b0938ad798227d335ecb7e671700df273212830998fa9682f", func := "loop.example/countedchances/laws.FnChancesOf", spec := "fnChancesOf", unfollowed := true, recurses := true, apart := false }
def FnChancesOfSaid : Prop := fnChancesOfRow.holds Try.pinned (OpenSpec.ofChange fnChancesOfSpec)

/-- ITS FALSE NEIGHBOUR: 'it returns false'. Refute it at one input. -/
def fnChancesOfWrong : ChangeSpec := { name := "fnChancesOf", fn := fun _ => fun
  | [d] => { results := [.lit (.bool false)], args := [d] }
  | _ => none }
def FnChancesOfWrongFalsely : Prop := fnChancesOfRow.holds Try.pinned (OpenSpec.ofChange fnChancesOfWrong)

/-- 'laws.FnAreaByPairs': WHATEVER THE INPUT: true; the input reads as it did. -/
def fnAreaByPairsSpec : ChangeSpec := { name := "fnAreaByPairs", fn := fun _ => fun
  | [d] => { results := [.lit (.bool true)], args := [d] }
  | _ => none }
def fnAreaByPairsRow : OpenClaim := { program := "ythmimfbjoeeggaa", sum := "71629f6da1b8527b0938ad798227d335ecb7e671700df273212830998fa9682f", func := "loop.example/countedchances/laws.FnAreaByPairs", spec := "fnAreaByPairs", unfollowed := true, recurses := true, apart := false }
def FnAreaByPairsSaid : Prop := fnAreaByPairsRow.holds Try.pinned (OpenSpec.ofChange fnAreaByPairsSpec)

/-- ITS FALSE NEIGHBOUR: 'it returns false'. Refute it at one input. -/
def fnAreaByPairsWrong : ChangeSpec := { name := "fnAreaByPairs", fn := fun _ => fun
  | [d] => { results := [.lit (.bool false)], args := [d] }
  | _ => none }
def FnAreaByPairsWrongFalsely : Prop := fnAreaByPairsRow.holds Try.pinned (OpenSpec.ofChange fnAreaByPairsWrong)

/-- 'laws.FnAreaByCorners': WHATEVER THE INPUT: true; the input reads as it did. -/
def fnAreaByCornersSpec : ChangeSpec := { name := "fnAreaByCorners", fn := fun _ => fun
  | [d] => { results := [.lit (.bool true)], args := [d] }
  | _ => none }
def fnAreaByCornersRow : OpenClaim := { program := "ythmimfbjoeeggaa", sum := "71629f6da1b8527b0938ad798227d335ecb7e671700df273212830998fa9682f", func := "loop.example/countedchances/laws.FnAreaByCorners", spec := "fnAreaByCorners", unfollowed := true, recurses := true, apart := false }
def FnAreaByCornersSaid : Prop := fnAreaByCornersRow.holds Try.pinned (OpenSpec.ofChange fnAreaByCornersSpec)

/-- ITS FALSE NEIGHBOUR: 'it returns false'. Refute it at one input. -/
def fnAreaByCornersWrong : ChangeSpec := { name := "fnAreaByCorners", fn := fun _ => fun
  | [d] => { results := [.lit (.bool false)], args := [d] }
  | _ => none }
def FnAreaByCornersWrongFalsely : Prop := fnAreaByCornersRow.holds Try.pinned (OpenSpec.ofChange fnAreaByCornersWrong)

/- THE SECOND FORM. 'bulk': how many values and letters a reading holds, each counted each time it is reached (what is shared counts as often as it is met; a slice's spare places count too). A statement '..UptoSaid' is the law's where the arguments, and the package variables that the reading takes, are together of bulk at most 1048576: NARROWER than '..Said'. Prove '..Said' where nothing that the law and all that it calls make is longer than what came in: it says more and counts as full. Else prove '..UptoSaid'. A law counts once. -/
mutual
def uptoBulk {H : Type} : DataW H → Nat
  | .lit (.string bytes) => bytes.length + 1
  | .lit _ => 1
  | .nil => 1
  | .ptr d => uptoBulk d + 1
  | .slice elems spare => uptoBulkAll elems + uptoBulkAll spare + 1
  | .agg parts => uptoBulkAll parts + 1
  | .iface _ d => uptoBulk d + 1
  | .map entries => uptoBulkEntries entries + 1
  | .held _ => 1
def uptoBulkAll {H : Type} : List (DataW H) → Nat
  | [] => 0
  | d :: r => uptoBulk d + uptoBulkAll r
def uptoBulkEntries {H : Type} : List (Lit × DataW H) → Nat
  | [] => 0
  | x :: r => uptoBulkEntry x + uptoBulkEntries r
def uptoBulkEntry {H : Type} : Lit × DataW H → Nat
  | (.string bytes, d) => bytes.length + uptoBulk d + 1
  | (_, d) => uptoBulk d + 1
 end
def uptoSmall : (H : Type) → List (DataW H) → Bool := fun _ ds => decide (uptoBulkAll ds ≤ 1048576)
def OpenSpec.upto (s : _root_.Go.ChangeSpec) : _root_.Go.OpenSpec := { _root_.Go.OpenSpec.ofChange s with cond := some uptoSmall }

/-- 'laws.FnExactCornersOf', WHERE WHAT IT READS IS OF BULK AT MOST 1048576: true; the input reads as it did. -/
def fnExactCornersOfUptoRow : OpenClaim := { program := "ythmimfbjoeeggaa", sum := "71629f6da1b8527b0938ad798227d335ecb7e671700df273212830998fa9682f", func := "loop.example/countedchances/laws.FnExactCornersOf", spec := "fnExactCornersOf", unfollowed := true, recurses := true, apart := false, narrowed := true }
def FnExactCornersOfUptoSaid : Prop := fnExactCornersOfUptoRow.holds Try.pinned (OpenSpec.upto fnExactCornersOfSpec)

/-- 'laws.FnExactWrongByCorners', WHERE WHAT IT READS IS OF BULK AT MOST 1048576: true; the input reads as it did. -/
def fnExactWrongByCornersUptoRow : OpenClaim := { program := "ythmimfbjoeeggaa", sum := "71629f6da1b8527b0938ad798227d335ecb7e671700df273212830998fa9682f", func := "loop.example/countedchances/laws.FnExactWrongByCorners", spec := "fnExactWrongByCorners", unfollowed := true, recurses := true, apart := false, narrowed := true }
def FnExactWrongByCornersUptoSaid : Prop := fnExactWrongByCornersUptoRow.holds Try.pinned (OpenSpec.upto fnExactWrongByCornersSpec)

/-- 'laws.FnCornersOf', WHERE WHAT IT READS IS OF BULK AT MOST 1048576: true; the input reads as it did. -/
def fnCornersOfUptoRow : OpenClaim := { program := "ythmimfbjoeeggaa", sum := "71629f6da1b8527b0938ad798227d335ecb7e671700df273212830998fa9682f", func := "loop.example/countedchances/laws.FnCornersOf", spec := "fnCornersOf", unfollowed := true, recurses := true, apart := false, narrowed := true }
def FnCornersOfUptoSaid : Prop := fnCornersOfUptoRow.holds Try.pinned (OpenSpec.upto fnCornersOfSpec)

/-- 'laws.FnExactAreaByCorners', WHERE WHAT IT READS IS OF BULK AT MOST 1048576: true; the input reads as it did. -/
def fnExactAreaByCornersUptoRow : OpenClaim := { program := "ythmimfbjoeeggaa", sum := "71629f6da1b8527b0938ad798227d335ecb7e671700df273212830998fa9682f", func := "loop.example/countedchances/laws.FnExactAreaByCorners", spec := "fnExactAreaByCorners", unfollowed := true, recurses := true, apart := false, narrowed := true }
def FnExactAreaByCornersUptoSaid : Prop := fnExactAreaByCornersUptoRow.holds Try.pinned (OpenSpec.upto fnExactAreaByCornersSpec)

/-- 'laws.FnWrongByCorners', WHERE WHAT IT READS IS OF BULK AT MOST 1048576: true; the input reads as it did. -/
def fnWrongByCornersUptoRow : OpenClaim := { program := "ythmimfbjoeeggaa", sum := "71629f6da1b8527b0938ad798227d335ecb7e671700df273212830998fa9682f", func := "loop.example/countedchances/laws.FnWrongByCorners", spec := "fnWrongByCorners", unfollowed := true, recurses := true, apart := false, narrowed := true }
def FnWrongByCornersUptoSaid : Prop := fnWrongByCornersUptoRow.holds Try.pinned (OpenSpec.upto fnWrongByCornersSpec)

/-- 'laws.FnEdgeOf', WHERE WHAT IT READS IS OF BULK AT MOST 1048576: true; the input reads as it did. -/
def fnEdgeOfUptoRow : OpenClaim := { program := "ythmimfbjoeeggaa", sum := "71629f6da1b8527b0938ad798227d335ecb7e671700df273212830998fa9682f", func := "loop.example/countedchances/laws.FnEdgeOf", spec := "fnEdgeOf", unfollowed := true, recurses := true, apart := false, narrowed := true }
def FnEdgeOfUptoSaid : Prop := fnEdgeOfUptoRow.holds Try.pinned (OpenSpec.upto fnEdgeOfSpec)

/-- 'laws.FnExactChancesOf', WHERE WHAT IT READS IS OF BULK AT MOST 1048576: true; the input reads as it did. -/
def fnExactChancesOfUptoRow : OpenClaim := { program := "ythmimfbjoeeggaa", sum := "71629f6da1b8527b0938ad798227d335ecb7e671700df273212830998fa9682f", func := "loop.example/countedchances/laws.FnExactChancesOf", spec := "fnExactChancesOf", unfollowed := true, recurses := true, apart := false, narrowed := true }
def FnExactChancesOfUptoSaid : Prop := fnExactChancesOfUptoRow.holds Try.pinned (OpenSpec.upto fnExactChancesOfSpec)

/-- 'laws.FnChancesOf', WHERE WHAT IT READS IS OF BULK AT MOST 1048576: true; the input reads as it did. -/
def fnChancesOfUptoRow : OpenClaim := { program := "ythmimfbjoeeggaa", sum := "71629f6da1b8527b0938ad798227d335ecb7e671700df273212830998fa9682f", func := "loop.example/countedchances/laws.FnChancesOf", spec := "fnChancesOf", unfollowed := true, recurses := true, apart := false, narrowed := true }
def FnChancesOfUptoSaid : Prop := fnChancesOfUptoRow.holds Try.pinned (OpenSpec.upto fnChancesOfSpec)

/-- 'laws.FnAreaByPairs', WHERE WHAT IT READS IS OF BULK AT MOST 1048576: true; the input reads as it did. -/
def fnAreaByPairsUptoRow : OpenClaim := { program := "ythmimfbjoeeggaa", sum := "71629f6da1b8527b0938ad798227d335ecb7e671700df273212830998fa9682f", func := "loop.example/countedchances/laws.FnAreaByPairs", spec := "fnAreaByPairs", unfollowed := true, recurses := true, apart := false, narrowed := true }
def FnAreaByPairsUptoSaid : Prop := fnAreaByPairsUptoRow.holds Try.pinned (OpenSpec.upto fnAreaByPairsSpec)

/-- 'laws.FnAreaByCorners', WHERE WHAT IT READS IS OF BULK AT MOST 1048576: true; the input reads as it did. -/
def fnAreaByCornersUptoRow : OpenClaim := { program := "ythmimfbjoeeggaa", sum := "71629f6da1b8527b0938ad798227d335ecb7e671700df273212830998fa9682f", func := "loop.example/countedchances/laws.FnAreaByCorners", spec := "fnAreaByCorners", unfollowed := true, recurses := true, apart := false, narrowed := true }
def FnAreaByCornersUptoSaid : Prop := fnAreaByCornersUptoRow.holds Try.pinned (OpenSpec.upto fnAreaByCornersSpec)

end Rows
end Go.Proofs.Ythmimfbjoeeggaa
