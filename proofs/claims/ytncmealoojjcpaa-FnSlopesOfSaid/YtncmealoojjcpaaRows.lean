/-
  No cell of these rows narrows 'for every input' (looked for: loops, veiled, ifaces, maps, wideKeys, modest, calm, conditions, laid).
  DERIVED. THE GIVEN ROWS OF THIS SEAT. 9 by the template 'for every input the law returns true; each argument reads behind the call as it read before'; 0 by the template 'total and deterministic' (their statements: YtncmealoojjcpaaTotals.lean).
  GIVEN WITH THE SEED: the statements are not yours to turn. If you find one false, say at which input.
  Laid BY PROGRAM, IN A SANDBOX (cutbox-rows.mjs): the forced cells as the released guide's own fill.sh prints them over the translation 995527a5fdcec2de… (all of the seat's roots in one cut). By AI agents, Wed Nov 11 2026. No macro, syntax, notation, axiom, sorry.
-/
import Derived.Test.YtncmealoojjcpaaChecked
import GoSem.Claim
import GoSem.ClaimJoined
import GoSem.ClaimMapViews
import Derived.JoinedTies
import Derived.KernelRfl
namespace Go.Proofs.Ytncmealoojjcpaa
/- THE CELL 'sum', in the pinned program and in every row, IS THE sha256 OF THE DUMP (.gsa) THAT YtncmealoojjcpaaProg.lean LOADS. Nothing in Lean hashes anything: it is a label: what it is worth is what the hold of that sum in a sandbox is worth. -/
noncomputable def Try.pinned : Pinned := { name := "ytncmealoojjcpaa", sum := "995527a5fdcec2de0c38ebc599e6ed47e1d78cba5198e1de07700035e322bf8b", checked := Try.checked }
namespace Rows
def none {H : Type} : Left H := { results := [], args := [] }

/-- 'laws.FnExactMiddleSlope': WHATEVER THE INPUT: true; the input reads as it did. -/
def fnExactMiddleSlopeSpec : ChangeSpec := { name := "fnExactMiddleSlope", fn := fun _ => fun
  | [d1, d2] => { results := [.lit (.bool true)], args := [d1, d2] }
  | _ => none }
def fnExactMiddleSlopeRow : OpenClaim := { program := "ytncmealoojjcpaa", sum := "995527a5fdcec2de0c38ebc599e6ed47e1d78cba5198e1de07700035e322bf8b", func := "loop.example/countedchances/laws.FnExactMiddleSlope", spec := "fnExactMiddleSlope", unfollowed := true, recurses := true, apart := false }
def FnExactMiddleSlopeSaid : Prop := fnExactMiddleSlopeRow.holds Try.pinned (OpenSpec.ofChange fnExactMiddleSlopeSpec)

/-- ITS FALSE NEIGHBOUR: 'it returns false'. Refute it at one input. -/
def fnExactMiddleSlopeWrong : ChangeSpec := { name := "fnExactMiddleSlope", fn := fun _ => fun
  | [d1, d2] => { results := [.lit (.bool false)], args := [d1, d2] }
  | _ => none }
def FnExactMiddleSlopeWrongFalsely : Prop := fnExactMiddleSlopeRow.holds Try.pinned (OpenSpec.ofChange fnExactMiddleSlopeWrong)

/-- 'laws.FnMiddlePieces': WHATEVER THE INPUT: true; the input reads as it did. -/
def fnMiddlePiecesSpec : ChangeSpec := { name := "fnMiddlePieces", fn := fun _ => fun
  | [d] => { results := [.lit (.bool true)], args := [d] }
  | _ => none }
def fnMiddlePiecesRow : OpenClaim := { program := "ytncmealoojjcpaa", sum := "995527a5fdcec2de0c38ebc599e6ed47e1d78cba5198e1de07700035e322bf8b", func := "loop.example/countedchances/laws.FnMiddlePieces", spec := "fnMiddlePieces", unfollowed := true, recurses := true, apart := false }
def FnMiddlePiecesSaid : Prop := fnMiddlePiecesRow.holds Try.pinned (OpenSpec.ofChange fnMiddlePiecesSpec)

/-- ITS FALSE NEIGHBOUR: 'it returns false'. Refute it at one input. -/
def fnMiddlePiecesWrong : ChangeSpec := { name := "fnMiddlePieces", fn := fun _ => fun
  | [d] => { results := [.lit (.bool false)], args := [d] }
  | _ => none }
def FnMiddlePiecesWrongFalsely : Prop := fnMiddlePiecesRow.holds Try.pinned (OpenSpec.ofChange fnMiddlePiecesWrong)

/-- 'laws.FnExactSlopesOf': WHATEVER THE INPUT: true; the input reads as it did. -/
def fnExactSlopesOfSpec : ChangeSpec := { name := "fnExactSlopesOf", fn := fun _ => fun
  | [d1, d2] => { results := [.lit (.bool true)], args := [d1, d2] }
  | _ => none }
def fnExactSlopesOfRow : OpenClaim := { program := "ytncmealoojjcpaa", sum := "995527a5fdcec2de0c38ebc599e6ed47e1d78cba5198e1de07700035e322bf8b", func := "loop.example/countedchances/laws.FnExactSlopesOf", spec := "fnExactSlopesOf", unfollowed := true, recurses := true, apart := false }
def FnExactSlopesOfSaid : Prop := fnExactSlopesOfRow.holds Try.pinned (OpenSpec.ofChange fnExactSlopesOfSpec)

/-- ITS FALSE NEIGHBOUR: 'it returns false'. Refute it at one input. -/
def fnExactSlopesOfWrong : ChangeSpec := { name := "fnExactSlopesOf", fn := fun _ => fun
  | [d1, d2] => { results := [.lit (.bool false)], args := [d1, d2] }
  | _ => none }
def FnExactSlopesOfWrongFalsely : Prop := fnExactSlopesOfRow.holds Try.pinned (OpenSpec.ofChange fnExactSlopesOfWrong)

/-- 'laws.FnSlopesOf': WHATEVER THE INPUT: true; the input reads as it did. -/
def fnSlopesOfSpec : ChangeSpec := { name := "fnSlopesOf", fn := fun _ => fun
  | [d] => { results := [.lit (.bool true)], args := [d] }
  | _ => none }
def fnSlopesOfRow : OpenClaim := { program := "ytncmealoojjcpaa", sum := "995527a5fdcec2de0c38ebc599e6ed47e1d78cba5198e1de07700035e322bf8b", func := "loop.example/countedchances/laws.FnSlopesOf", spec := "fnSlopesOf", unfollowed := true, recurses := true, apart := false }
def FnSlopesOfSaid : Prop := fnSlopesOfRow.holds Try.pinned (OpenSpec.ofChange fnSlopesOfSpec)

/-- ITS FALSE NEIGHBOUR: 'it returns false'. Refute it at one input. -/
def fnSlopesOfWrong : ChangeSpec := { name := "fnSlopesOf", fn := fun _ => fun
  | [d] => { results := [.lit (.bool false)], args := [d] }
  | _ => none }
def FnSlopesOfWrongFalsely : Prop := fnSlopesOfRow.holds Try.pinned (OpenSpec.ofChange fnSlopesOfWrong)

/-- 'laws.FnExactGapChance': WHATEVER THE INPUT: true; the input reads as it did. -/
def fnExactGapChanceSpec : ChangeSpec := { name := "fnExactGapChance", fn := fun _ => fun
  | [d1, d2] => { results := [.lit (.bool true)], args := [d1, d2] }
  | _ => none }
def fnExactGapChanceRow : OpenClaim := { program := "ytncmealoojjcpaa", sum := "995527a5fdcec2de0c38ebc599e6ed47e1d78cba5198e1de07700035e322bf8b", func := "loop.example/countedchances/laws.FnExactGapChance", spec := "fnExactGapChance", unfollowed := true, recurses := true, apart := false }
def FnExactGapChanceSaid : Prop := fnExactGapChanceRow.holds Try.pinned (OpenSpec.ofChange fnExactGapChanceSpec)

/-- ITS FALSE NEIGHBOUR: 'it returns false'. Refute it at one input. -/
def fnExactGapChanceWrong : ChangeSpec := { name := "fnExactGapChance", fn := fun _ => fun
  | [d1, d2] => { results := [.lit (.bool false)], args := [d1, d2] }
  | _ => none }
def FnExactGapChanceWrongFalsely : Prop := fnExactGapChanceRow.holds Try.pinned (OpenSpec.ofChange fnExactGapChanceWrong)

/-- 'laws.FnExactStripByPairs': WHATEVER THE INPUT: true; the input reads as it did. -/
def fnExactStripByPairsSpec : ChangeSpec := { name := "fnExactStripByPairs", fn := fun _ => fun
  | [d1, d2] => { results := [.lit (.bool true)], args := [d1, d2] }
  | _ => none }
def fnExactStripByPairsRow : OpenClaim := { program := "ytncmealoojjcpaa", sum := "995527a5fdcec2de0c38ebc599e6ed47e1d78cba5198e1de07700035e322bf8b", func := "loop.example/countedchances/laws.FnExactStripByPairs", spec := "fnExactStripByPairs", unfollowed := true, recurses := true, apart := false }
def FnExactStripByPairsSaid : Prop := fnExactStripByPairsRow.holds Try.pinned (OpenSpec.ofChange fnExactStripByPairsSpec)

/-- ITS FALSE NEIGHBOUR: 'it returns false'. Refute it at one input. -/
def fnExactStripByPairsWrong : ChangeSpec := { name := "fnExactStripByPairs", fn := fun _ => fun
  | [d1, d2] => { results := [.lit (.bool false)], args := [d1, d2] }
  | _ => none }
def FnExactStripByPairsWrongFalsely : Prop := fnExactStripByPairsRow.holds Try.pinned (OpenSpec.ofChange fnExactStripByPairsWrong)

/-- 'laws.FnMiddleSlope': WHATEVER THE INPUT: true; the input reads as it did. -/
def fnMiddleSlopeSpec : ChangeSpec := { name := "fnMiddleSlope", fn := fun _ => fun
  | [d] => { results := [.lit (.bool true)], args := [d] }
  | _ => none }
def fnMiddleSlopeRow : OpenClaim := { program := "ytncmealoojjcpaa", sum := "995527a5fdcec2de0c38ebc599e6ed47e1d78cba5198e1de07700035e322bf8b", func := "loop.example/countedchances/laws.FnMiddleSlope", spec := "fnMiddleSlope", unfollowed := true, recurses := true, apart := false }
def FnMiddleSlopeSaid : Prop := fnMiddleSlopeRow.holds Try.pinned (OpenSpec.ofChange fnMiddleSlopeSpec)

/-- ITS FALSE NEIGHBOUR: 'it returns false'. Refute it at one input. -/
def fnMiddleSlopeWrong : ChangeSpec := { name := "fnMiddleSlope", fn := fun _ => fun
  | [d] => { results := [.lit (.bool false)], args := [d] }
  | _ => none }
def FnMiddleSlopeWrongFalsely : Prop := fnMiddleSlopeRow.holds Try.pinned (OpenSpec.ofChange fnMiddleSlopeWrong)

/-- 'laws.FnGapChance': WHATEVER THE INPUT: true; the input reads as it did. -/
def fnGapChanceSpec : ChangeSpec := { name := "fnGapChance", fn := fun _ => fun
  | [d] => { results := [.lit (.bool true)], args := [d] }
  | _ => none }
def fnGapChanceRow : OpenClaim := { program := "ytncmealoojjcpaa", sum := "995527a5fdcec2de0c38ebc599e6ed47e1d78cba5198e1de07700035e322bf8b", func := "loop.example/countedchances/laws.FnGapChance", spec := "fnGapChance", unfollowed := true, recurses := true, apart := false }
def FnGapChanceSaid : Prop := fnGapChanceRow.holds Try.pinned (OpenSpec.ofChange fnGapChanceSpec)

/-- ITS FALSE NEIGHBOUR: 'it returns false'. Refute it at one input. -/
def fnGapChanceWrong : ChangeSpec := { name := "fnGapChance", fn := fun _ => fun
  | [d] => { results := [.lit (.bool false)], args := [d] }
  | _ => none }
def FnGapChanceWrongFalsely : Prop := fnGapChanceRow.holds Try.pinned (OpenSpec.ofChange fnGapChanceWrong)

/-- 'laws.FnStripByPairs': WHATEVER THE INPUT: true; the input reads as it did. -/
def fnStripByPairsSpec : ChangeSpec := { name := "fnStripByPairs", fn := fun _ => fun
  | [d] => { results := [.lit (.bool true)], args := [d] }
  | _ => none }
def fnStripByPairsRow : OpenClaim := { program := "ytncmealoojjcpaa", sum := "995527a5fdcec2de0c38ebc599e6ed47e1d78cba5198e1de07700035e322bf8b", func := "loop.example/countedchances/laws.FnStripByPairs", spec := "fnStripByPairs", unfollowed := true, recurses := true, apart := false }
def FnStripByPairsSaid : Prop := fnStripByPairsRow.holds Try.pinned (OpenSpec.ofChange fnStripByPairsSpec)

/-- ITS FALSE NEIGHBOUR: 'it returns false'. Refute it at one input. -/
def fnStripByPairsWrong : ChangeSpec := { name := "fnStripByPairs", fn := fun _ => fun
  | [d] => { results := [.lit (.bool false)], args := [d] }
  | _ => none }
def FnStripByPairsWrongFalsely : Prop := fnStripByPairsRow.holds Try.pinned (OpenSpec.ofChange fnStripByPairsWrong)

/- THE SECOND FORM. 'bulk': how many values and letters a reading holds, each counted each time it is reached (what is shared counts as often as it is met; a slice's spare places count too). A statement '..UptoSaid' is the law's where the arguments, and the package variables that the reading takes, are together of bulk at most 1048576: NARROWER than '..Said'. Prove '..Said' where nothing that the law and all that it calls make is longer than what came in: it says more and counts as full. Else prove '..UptoSaid'. A law counts once. -/
mutual
def uptoBulk {H : Type} : DataW H → Nat
  | .lit (.string bytes) => bytes.length + 1
  | .lit _ => 1
  | .nil => 1
  | .ptr d => uptoBulk d + 1
  | .slice elems spare => uptoBulkAll elems + uptoBulkAll spare + 1
  | .agg parts => uptoBulkAll parts + 1
  | .iface _ d => uptoBulk d + 1
  | .map entries => uptoBulkEntries entries + 1
  | .held _ => 1
def uptoBulkAll {H : Type} : List (DataW H) → Nat
  | [] => 0
  | d :: r => uptoBulk d + uptoBulkAll r
def uptoBulkEntries {H : Type} : List (Lit × DataW H) → Nat
  | [] => 0
  | x :: r => uptoBulkEntry x + uptoBulkEntries r
def uptoBulkEntry {H : Type} : Lit × DataW H → Nat
  | (.string bytes, d) => bytes.length + uptoBulk d + 1
  | (_, d) => uptoBulk d + 1
 end
def uptoSmall : (H : Type) → List (DataW H) → Bool := fun _ ds => decide (uptoBulkAll ds ≤ 1048576)
def OpenSpec.upto (s : _root_.Go.ChangeSpec) : _root_.Go.OpenSpec := { _root_.Go.OpenSpec.ofChange s with cond := some uptoSmall }

/-- 'laws.FnExactMiddleSlope', WHERE WHAT IT READS IS OF BULK AT MOST 1048576: true; the input reads as it did. -/
def fnExactMiddleSlopeUptoRow : OpenClaim := { program := "ytncmealoojjcpaa", sum := "995527a5fdcec2de0c38ebc599e6ed47e1d78cba5198e1de07700035e322bf8b", func := "loop.example/countedchances/laws.FnExactMiddleSlope", spec := "fnExactMiddleSlope", unfollowed := true, recurses := true, apart := false, narrowed := true }
def FnExactMiddleSlopeUptoSaid : Prop := fnExactMiddleSlopeUptoRow.holds Try.pinned (OpenSpec.upto fnExactMiddleSlopeSpec)

/-- 'laws.FnMiddlePieces', WHERE WHAT IT READS IS OF BULK AT MOST 1048576: true; the input reads as it did. -/
def fnMiddlePiecesUptoRow : OpenClaim := { program := "ytncmealoojjcpaa", sum := "995527a5fdcec2de0c38ebc599e6ed47e1d78cba5198e1de07700035e322bf8b", func := "loop.example/countedchances/laws.FnMiddlePieces", spec := "fnMiddlePieces", unfollowed := true, recurses := true, apart := false, narrowed := true }
def FnMiddlePiecesUptoSaid : Prop := fnMiddlePiecesUptoRow.holds Try.pinned (OpenSpec.upto fnMiddlePiecesSpec)

/-- 'laws.FnExactSlopesOf', WHERE WHAT IT READS IS OF BULK AT MOST 1048576: true; the input reads as it did. -/
def fnExactSlopesOfUptoRow : OpenClaim := { program := "ytncmealoojjcpaa", sum := "995527a5fdcec2de0c38ebc599e6ed47e1d78cba5198e1de07700035e322bf8b", func := "loop.example/countedchances/laws.FnExactSlopesOf", spec := "fnExactSlopesOf", unfollowed := true, recurses := true, apart := false, narrowed := true }
def FnExactSlopesOfUptoSaid : Prop := fnExactSlopesOfUptoRow.holds Try.pinned (OpenSpec.upto fnExactSlopesOfSpec)

/-- 'laws.FnSlopesOf', WHERE WHAT IT READS IS OF BULK AT MOST 1048576: true; the input reads as it did. -/
def fnSlopesOfUptoRow : OpenClaim := { program := "ytncmealoojjcpaa", sum := "995527a5fdcec2de0c38ebc599e6ed47e1d78cba5198e1de07700035e322bf8b", func := "loop.example/countedchances/laws.FnSlopesOf", spec := "fnSlopesOf", unfollowed := true, recurses := true, apart := false, narrowed := true }
def FnSlopesOfUptoSaid : Prop := fnSlopesOfUptoRow.holds Try.pinned (OpenSpec.upto fnSlopesOfSpec)

/-- 'laws.FnExactGapChance', WHERE WHAT IT READS IS OF BULK AT MOST 1048576: true; the input reads as it did. -/
def fnExactGapChanceUptoRow : OpenClaim := { program := "ytncmealoojjcpaa", sum := "995527a5fdcec2de0c38ebc599e6ed47e1d78cba5198e1de07700035e322bf8b", func := "loop.example/countedchances/laws.FnExactGapChance", spec := "fnExactGapChance", unfollowed := true, recurses := true, apart := false, narrowed := true }
def FnExactGapChanceUptoSaid : Prop := fnExactGapChanceUptoRow.holds Try.pinned (OpenSpec.upto fnExactGapChanceSpec)

/-- 'laws.FnExactStripByPairs', WHERE WHAT IT READS IS OF BULK AT MOST 1048576: true; the input reads as it did. -/
def fnExactStripByPairsUptoRow : OpenClaim := { program := "ytncmealoojjcpaa", sum := "995527a5fdcec2de0c38ebc599e6ed47e1d78cba5198e1de07700035e322bf8b", func := "loop.example/countedchances/laws.FnExactStripByPairs", spec := "fnExactStripByPairs", unfollowed := true, recurses := true, apart := false, narrowed := true }
def FnExactStripByPairsUptoSaid : Prop := fnExactStripByPairsUptoRow.holds Try.pinned (OpenSpec.upto fnExactStripByPairsSpec)

/-- 'laws.FnMiddleSlope', WHERE WHAT IT READS IS OF BULK AT MOST 1048576: true; the input reads as it did. -/
def fnMiddleSlopeUptoRow : OpenClaim := { program := "ytncmealoojjcpaa", sum := "995527a5fdcec2de0c38ebc599e6ed47e1d78cba5198e1de07700035e322bf8b", func := "loop.example/countedchances/laws.FnMiddleSlope", spec := "fnMiddleSlope", unfollowed := true, recurses := true, apart := false, narrowed := true }
def FnMiddleSlopeUptoSaid : Prop := fnMiddleSlopeUptoRow.holds Try.pinned (OpenSpec.upto fnMiddleSlopeSpec)

/-- 'laws.FnGapChance', WHERE WHAT IT READS IS OF BULK AT MOST 1048576: true; the input reads as it did. -/
def fnGapChanceUptoRow : OpenClaim := { program := "ytncmealoojjcpaa", sum := "995527a5fdcec2de0c38ebc599e6ed47e1d78cba5198e1de07700035e322bf8b", func := "loop.example/countedchances/laws.FnGapChance", spec := "fnGapChance", unfollowed := true, recurses := true, apart := false, narrowed := true }
def FnGapChanceUptoSaid : Prop := fnGapChanceUptoRow.holds Try.pinned (OpenSpec.upto fnGapChanceSpec)

/-- 'laws.FnStripByPairs', WHERE WHAT IT READS IS OF BULK AT MOST 1048576: true; the input reads as it did. -/
def fnStripByPairsUptoRow : OpenClaim := { program := "ytncmealoojjcpaa", sum := "995527a5fdcec2de0c38ebc599e6ed47e1d78cba5198e1de07700035e322bf8b", func := "loop.example/countedchances/laws.FnStripByPairs", spec := "fnStripByPairs", unfollowed := true, recurses := true, apart := false, narrowed := true }
def FnStripByPairsUptoSaid : Prop := fnStripByPairsUptoRow.holds Try.pinned (OpenSpec.upto fnStripByPairsSpec)

end Rows
end Go.Proofs.Ytncmealoojjcpaa
