/-
  No cell of these rows narrows 'for every input' (looked for: loops, veiled, ifaces, maps, wideKeys, modest, calm, conditions, laid).
  DERIVED. THE GIVEN ROWS OF THIS SEAT. 7 by the template 'for every input the law returns true; each argument reads behind the call as it read before'; 0 by the template 'total and deterministic' (their statements: YtfgfgkpmkfjeiaaTotals.lean).
  GIVEN WITH THE SEED: the statements are not yours to turn. If you find one false, say at which input.
  Laid BY PROGRAM, IN A SANDBOX (cutbox-rows.mjs): the forced cells as the released guide's own fill.sh prints them over the translation f9d96e77f46a569f… (all of the seat's roots in one cut). By AI agents, Wed Nov 11 2026. No macro, syntax, notation, axiom, sorry.
-/
import Derived.Test.YtfgfgkpmkfjeiaaChecked
import GoSem.Claim
import GoSem.ClaimJoined
import GoSem.ClaimMapViews
import Derived.JoinedTies
import Derived.KernelRfl
namespace Go.Proofs.Ytfgfgkpmkfjeiaa
/- THE CELL 'sum', in the pinned program and in every row, IS THE sha256 OF THE DUMP (.gsa) THAT YtfgfgkpmkfjeiaaProg.lean LOADS. Nothing in Lean hashes anything: it is a label: what it is worth is what the hold of that sum in a sandbox is worth. -/
noncomputable def Try.pinned : Pinned := { name := "ytfgfgkpmkfjeiaa", sum := "f9d96e77f46a569fc4927fdaaf49569a96b55f6098f8ae7e06c29606e301c168", checked := Try.checked }
namespace Rows
def none {H : Type} : Left H := { results := [], args := [] }

/-- 'laws.FnFactorsTell': WHATEVER THE INPUT: true; the input reads as it did. -/
def fnFactorsTellSpec : ChangeSpec := { name := "fnFactorsTell", fn := fun _ => fun
  | [d1, d2] => { results := [.lit (.bool true)], args := [d1, d2] }
  | _ => none }
def fnFactorsTellRow : OpenClaim := { program := "ytfgfgkpmkfjeiaa", sum := "f9d96e77f46a569fc4927fdaaf49569a96b55f6098f8ae7e06c29606e301c168", func := "loop.example/g01125/laws.FnFactorsTell", spec := "fnFactorsTell", unfollowed := true, recurses := true, apart := false }
def FnFactorsTellSaid : Prop := fnFactorsTellRow.holds Try.pinned (OpenSpec.ofChange fnFactorsTellSpec)

/-- ITS FALSE NEIGHBOUR: 'it returns false'. Refute it at one input. -/
def fnFactorsTellWrong : ChangeSpec := { name := "fnFactorsTell", fn := fun _ => fun
  | [d1, d2] => { results := [.lit (.bool false)], args := [d1, d2] }
  | _ => none }
def FnFactorsTellWrongFalsely : Prop := fnFactorsTellRow.holds Try.pinned (OpenSpec.ofChange fnFactorsTellWrong)

/-- 'laws.FnAlikeLengths': WHATEVER THE INPUT: true; the input reads as it did. -/
def fnAlikeLengthsSpec : ChangeSpec := { name := "fnAlikeLengths", fn := fun _ => fun
  | [d1, d2] => { results := [.lit (.bool true)], args := [d1, d2] }
  | _ => none }
def fnAlikeLengthsRow : OpenClaim := { program := "ytfgfgkpmkfjeiaa", sum := "f9d96e77f46a569fc4927fdaaf49569a96b55f6098f8ae7e06c29606e301c168", func := "loop.example/g01125/laws.FnAlikeLengths", spec := "fnAlikeLengths", unfollowed := true, recurses := true, apart := false }
def FnAlikeLengthsSaid : Prop := fnAlikeLengthsRow.holds Try.pinned (OpenSpec.ofChange fnAlikeLengthsSpec)

/-- ITS FALSE NEIGHBOUR: 'it returns false'. Refute it at one input. -/
def fnAlikeLengthsWrong : ChangeSpec := { name := "fnAlikeLengths", fn := fun _ => fun
  | [d1, d2] => { results := [.lit (.bool false)], args := [d1, d2] }
  | _ => none }
def FnAlikeLengthsWrongFalsely : Prop := fnAlikeLengthsRow.holds Try.pinned (OpenSpec.ofChange fnAlikeLengthsWrong)

/-- 'laws.FnPolynomialsOfRooks': WHATEVER THE INPUT: true; the input reads as it did. -/
def fnPolynomialsOfRooksSpec : ChangeSpec := { name := "fnPolynomialsOfRooks", fn := fun _ => fun
  | [d1, d2] => { results := [.lit (.bool true)], args := [d1, d2] }
  | _ => none }
def fnPolynomialsOfRooksRow : OpenClaim := { program := "ytfgfgkpmkfjeiaa", sum := "f9d96e77f46a569fc4927fdaaf49569a96b55f6098f8ae7e06c29606e301c168", func := "loop.example/g01125/laws.FnPolynomialsOfRooks", spec := "fnPolynomialsOfRooks", unfollowed := true, recurses := true, apart := false }
def FnPolynomialsOfRooksSaid : Prop := fnPolynomialsOfRooksRow.holds Try.pinned (OpenSpec.ofChange fnPolynomialsOfRooksSpec)

/-- ITS FALSE NEIGHBOUR: 'it returns false'. Refute it at one input. -/
def fnPolynomialsOfRooksWrong : ChangeSpec := { name := "fnPolynomialsOfRooks", fn := fun _ => fun
  | [d1, d2] => { results := [.lit (.bool false)], args := [d1, d2] }
  | _ => none }
def FnPolynomialsOfRooksWrongFalsely : Prop := fnPolynomialsOfRooksRow.holds Try.pinned (OpenSpec.ofChange fnPolynomialsOfRooksWrong)

/-- 'laws.FnBoardsJoined': WHATEVER THE INPUT: true; the input reads as it did. -/
def fnBoardsJoinedSpec : ChangeSpec := { name := "fnBoardsJoined", fn := fun _ => fun
  | [d1, d2] => { results := [.lit (.bool true)], args := [d1, d2] }
  | _ => none }
def fnBoardsJoinedRow : OpenClaim := { program := "ytfgfgkpmkfjeiaa", sum := "f9d96e77f46a569fc4927fdaaf49569a96b55f6098f8ae7e06c29606e301c168", func := "loop.example/g01125/laws.FnBoardsJoined", spec := "fnBoardsJoined", unfollowed := true, recurses := true, apart := false }
def FnBoardsJoinedSaid : Prop := fnBoardsJoinedRow.holds Try.pinned (OpenSpec.ofChange fnBoardsJoinedSpec)

/-- ITS FALSE NEIGHBOUR: 'it returns false'. Refute it at one input. -/
def fnBoardsJoinedWrong : ChangeSpec := { name := "fnBoardsJoined", fn := fun _ => fun
  | [d1, d2] => { results := [.lit (.bool false)], args := [d1, d2] }
  | _ => none }
def FnBoardsJoinedWrongFalsely : Prop := fnBoardsJoinedRow.holds Try.pinned (OpenSpec.ofChange fnBoardsJoinedWrong)

/-- 'laws.FnRookNumbersMultiply': WHATEVER THE INPUT: true; the input reads as it did. -/
def fnRookNumbersMultiplySpec : ChangeSpec := { name := "fnRookNumbersMultiply", fn := fun _ => fun
  | [d1, d2] => { results := [.lit (.bool true)], args := [d1, d2] }
  | _ => none }
def fnRookNumbersMultiplyRow : OpenClaim := { program := "ytfgfgkpmkfjeiaa", sum := "f9d96e77f46a569fc4927fdaaf49569a96b55f6098f8ae7e06c29606e301c168", func := "loop.example/g01125/laws.FnRookNumbersMultiply", spec := "fnRookNumbersMultiply", unfollowed := true, recurses := true, apart := false }
def FnRookNumbersMultiplySaid : Prop := fnRookNumbersMultiplyRow.holds Try.pinned (OpenSpec.ofChange fnRookNumbersMultiplySpec)

/-- ITS FALSE NEIGHBOUR: 'it returns false'. Refute it at one input. -/
def fnRookNumbersMultiplyWrong : ChangeSpec := { name := "fnRookNumbersMultiply", fn := fun _ => fun
  | [d1, d2] => { results := [.lit (.bool false)], args := [d1, d2] }
  | _ => none }
def FnRookNumbersMultiplyWrongFalsely : Prop := fnRookNumbersMultiplyRow.holds Try.pinned (OpenSpec.ofChange fnRookNumbersMultiplyWrong)

/-- 'laws.FnPlacementsListed': WHATEVER THE INPUT: true; the input reads as it did. -/
def fnPlacementsListedSpec : ChangeSpec := { name := "fnPlacementsListed", fn := fun _ => fun
  | [d1, d2] => { results := [.lit (.bool true)], args := [d1, d2] }
  | _ => none }
def fnPlacementsListedRow : OpenClaim := { program := "ytfgfgkpmkfjeiaa", sum := "f9d96e77f46a569fc4927fdaaf49569a96b55f6098f8ae7e06c29606e301c168", func := "loop.example/g01125/laws.FnPlacementsListed", spec := "fnPlacementsListed", unfollowed := true, recurses := true, apart := false }
def FnPlacementsListedSaid : Prop := fnPlacementsListedRow.holds Try.pinned (OpenSpec.ofChange fnPlacementsListedSpec)

/-- ITS FALSE NEIGHBOUR: 'it returns false'. Refute it at one input. -/
def fnPlacementsListedWrong : ChangeSpec := { name := "fnPlacementsListed", fn := fun _ => fun
  | [d1, d2] => { results := [.lit (.bool false)], args := [d1, d2] }
  | _ => none }
def FnPlacementsListedWrongFalsely : Prop := fnPlacementsListedRow.holds Try.pinned (OpenSpec.ofChange fnPlacementsListedWrong)

/-- 'laws.FnOrderedBoards': WHATEVER THE INPUT: true; the input reads as it did. -/
def fnOrderedBoardsSpec : ChangeSpec := { name := "fnOrderedBoards", fn := fun _ => fun
  | [d1, d2] => { results := [.lit (.bool true)], args := [d1, d2] }
  | _ => none }
def fnOrderedBoardsRow : OpenClaim := { program := "ytfgfgkpmkfjeiaa", sum := "f9d96e77f46a569fc4927fdaaf49569a96b55f6098f8ae7e06c29606e301c168", func := "loop.example/g01125/laws.FnOrderedBoards", spec := "fnOrderedBoards", unfollowed := true, recurses := true, apart := false }
def FnOrderedBoardsSaid : Prop := fnOrderedBoardsRow.holds Try.pinned (OpenSpec.ofChange fnOrderedBoardsSpec)

/-- ITS FALSE NEIGHBOUR: 'it returns false'. Refute it at one input. -/
def fnOrderedBoardsWrong : ChangeSpec := { name := "fnOrderedBoards", fn := fun _ => fun
  | [d1, d2] => { results := [.lit (.bool false)], args := [d1, d2] }
  | _ => none }
def FnOrderedBoardsWrongFalsely : Prop := fnOrderedBoardsRow.holds Try.pinned (OpenSpec.ofChange fnOrderedBoardsWrong)

/- THE SECOND FORM. 'bulk': how many values and letters a reading holds, each counted each time it is reached (what is shared counts as often as it is met; a slice's spare places count too). A statement '..UptoSaid' is the law's where the arguments, and the package variables that the reading takes, are together of bulk at most 1048576: NARROWER than '..Said'. Prove '..Said' where nothing that the law and all that it calls make is longer than what came in: it says more and counts as full. Else prove '..UptoSaid'. A law counts once. -/
mutual
def uptoBulk {H : Type} : DataW H → Nat
  | .lit (.string bytes) => bytes.length + 1
  | .lit _ => 1
  | .nil => 1
  | .ptr d => uptoBulk d + 1
  | .slice elems spare => uptoBulkAll elems + uptoBulkAll spare + 1
  | .agg parts => uptoBulkAll parts + 1
  | .iface _ d => uptoBulk d + 1
  | .map entries => uptoBulkEntries entries + 1
  | .held _ => 1
def uptoBulkAll {H : Type} : List (DataW H) → Nat
  | [] => 0
  | d :: r => uptoBulk d + uptoBulkAll r
def uptoBulkEntries {H : Type} : List (Lit × DataW H) → Nat
  | [] => 0
  | x :: r => uptoBulkEntry x + uptoBulkEntries r
def uptoBulkEntry {H : Type} : Lit × DataW H → Nat
  | (.string bytes, d) => bytes.length + uptoBulk d + 1
  | (_, d) => uptoBulk d + 1
 end
def uptoSmall : (H : Type) → List (DataW H) → Bool := fun _ ds => decide (uptoBulkAll ds ≤ 1048576)
def OpenSpec.upto (s : _root_.Go.ChangeSpec) : _root_.Go.OpenSpec := { _root_.Go.OpenSpec.ofChange s with cond := some uptoSmall }

/-- 'laws.FnFactorsTell', WHERE WHAT IT READS IS OF BULK AT MOST 1048576: true; the input reads as it did. -/
def fnFactorsTellUptoRow : OpenClaim := { program := "ytfgfgkpmkfjeiaa", sum := "f9d96e77f46a569fc4927fdaaf49569a96b55f6098f8ae7e06c29606e301c168", func := "loop.example/g01125/laws.FnFactorsTell", spec := "fnFactorsTell", unfollowed := true, recurses := true, apart := false, narrowed := true }
def FnFactorsTellUptoSaid : Prop := fnFactorsTellUptoRow.holds Try.pinned (OpenSpec.upto fnFactorsTellSpec)

/-- 'laws.FnAlikeLengths', WHERE WHAT IT READS IS OF BULK AT MOST 1048576: true; the input reads as it did. -/
def fnAlikeLengthsUptoRow : OpenClaim := { program := "ytfgfgkpmkfjeiaa", sum := "f9d96e77f46a569fc4927fdaaf49569a96b55f6098f8ae7e06c29606e301c168", func := "loop.example/g01125/laws.FnAlikeLengths", spec := "fnAlikeLengths", unfollowed := true, recurses := true, apart := false, narrowed := true }
def FnAlikeLengthsUptoSaid : Prop := fnAlikeLengthsUptoRow.holds Try.pinned (OpenSpec.upto fnAlikeLengthsSpec)

/-- 'laws.FnPolynomialsOfRooks', WHERE WHAT IT READS IS OF BULK AT MOST 1048576: true; the input reads as it did. -/
def fnPolynomialsOfRooksUptoRow : OpenClaim := { program := "ytfgfgkpmkfjeiaa", sum := "f9d96e77f46a569fc4927fdaaf49569a96b55f6098f8ae7e06c29606e301c168", func := "loop.example/g01125/laws.FnPolynomialsOfRooks", spec := "fnPolynomialsOfRooks", unfollowed := true, recurses := true, apart := false, narrowed := true }
def FnPolynomialsOfRooksUptoSaid : Prop := fnPolynomialsOfRooksUptoRow.holds Try.pinned (OpenSpec.upto fnPolynomialsOfRooksSpec)

/-- 'laws.FnBoardsJoined', WHERE WHAT IT READS IS OF BULK AT MOST 1048576: true; the input reads as it did. -/
def fnBoardsJoinedUptoRow : OpenClaim := { program := "ytfgfgkpmkfjeiaa", sum := "f9d96e77f46a569fc4927fdaaf49569a96b55f6098f8ae7e06c29606e301c168", func := "loop.example/g01125/laws.FnBoardsJoined", spec := "fnBoardsJoined", unfollowed := true, recurses := true, apart := false, narrowed := true }
def FnBoardsJoinedUptoSaid : Prop := fnBoardsJoinedUptoRow.holds Try.pinned (OpenSpec.upto fnBoardsJoinedSpec)

/-- 'laws.FnRookNumbersMultiply', WHERE WHAT IT READS IS OF BULK AT MOST 1048576: true; the input reads as it did. -/
def fnRookNumbersMultiplyUptoRow : OpenClaim := { program := "ytfgfgkpmkfjeiaa", sum := "f9d96e77f46a569fc4927fdaaf49569a96b55f6098f8ae7e06c29606e301c168", func := "loop.example/g01125/laws.FnRookNumbersMultiply", spec := "fnRookNumbersMultiply", unfollowed := true, recurses := true, apart := false, narrowed := true }
def FnRookNumbersMultiplyUptoSaid : Prop := fnRookNumbersMultiplyUptoRow.holds Try.pinned (OpenSpec.upto fnRookNumbersMultiplySpec)

/-- 'laws.FnPlacementsListed', WHERE WHAT IT READS IS OF BULK AT MOST 1048576: true; the input reads as it did. -/
def fnPlacementsListedUptoRow : OpenClaim := { program := "ytfgfgkpmkfjeiaa", sum := "f9d96e77f46a569fc4927fdaaf49569a96b55f6098f8ae7e06c29606e301c168", func := "loop.example/g01125/laws.FnPlacementsListed", spec := "fnPlacementsListed", unfollowed := true, recurses := true, apart := false, narrowed := true }
def FnPlacementsListedUptoSaid : Prop := fnPlacementsListedUptoRow.holds Try.pinned (OpenSpec.upto fnPlacementsListedSpec)

/-- 'laws.FnOrderedBoards', WHERE WHAT IT READS IS OF BULK AT MOST 1048576: true; the input reads as it did. -/
def fnOrderedBoardsUptoRow : OpenClaim := { program := "ytfgfgkpmkfjeiaa", sum := "f9d96e77f46a569fc4927fdaaf49569a96b55f6098f8ae7e06c29606e301c168", func := "loop.example/g01125/laws.FnOrderedBoards", spec := "fnOrderedBoards", unfollowed := true, recurses := true, apart := false, narrowed := true }
def FnOrderedBoardsUptoSaid : Prop := fnOrderedBoardsUptoRow.holds Try.pinned (OpenSpec.upto fnOrderedBoardsSpec)

end Rows
end Go.Proofs.Ytfgfgkpmkfjeiaa
