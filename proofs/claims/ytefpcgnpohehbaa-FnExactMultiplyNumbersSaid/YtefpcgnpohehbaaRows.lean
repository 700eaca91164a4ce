/-
  No cell of these rows narrows 'for every input' (looked for: loops, veiled, ifaces, maps, wideKeys, modest, calm, conditions, laid).
  DERIVED. THE GIVEN ROWS OF THIS SEAT. 14 by the template 'for every input the law returns true; each argument reads behind the call as it read before'; 0 by the template 'total and deterministic' (their statements: YtefpcgnpohehbaaTotals.lean).
  GIVEN WITH THE SEED: the statements are not yours to turn. If you find one false, say at which input.
  Laid BY PROGRAM, IN A SANDBOX (cutbox-rows.mjs): the forced cells as the released guide's own fill.sh prints them over the translation 73d4bad5e7cc3b24… (all of the seat's roots in one cut). By AI agents, Wed Nov 11 2026. No macro, syntax, notation, axiom, sorry.
-/
import Derived.Test.YtefpcgnpohehbaaChecked
import GoSem.Claim
import GoSem.ClaimJoined
import GoSem.ClaimMapViews
import Derived.JoinedTies
import Derived.KernelRfl
namespace Go.Proofs.Ytefpcgnpohehbaa
/- THE CELL 'sum', in the pinned program and in every row, IS THE sha256 OF THE DUMP (.gsa) THAT YtefpcgnpohehbaaProg.lean LOADS. Nothing in Lean hashes anything: it is a label: what it is worth is what the hold of that sum in a sandbox is worth. -/
noncomputable def Try.pinned : Pinned := { name := "ytefpcgnpohehbaa", sum := "73d4bad5e7cc3b24cc749749dda6fa6f37f317932cfef701eda3fd3026c73cf5", checked := Try.checked }
namespace Rows
def none {H : Type} : Left H := { results := [], args := [] }

/-- 'laws.FnExactIsPlacement': WHATEVER THE INPUT: true; the input reads as it did. -/
def fnExactIsPlacementSpec : ChangeSpec := { name := "fnExactIsPlacement", fn := fun _ => fun
  | [d1, d2] => { results := [.lit (.bool true)], args := [d1, d2] }
  | _ => none }
def fnExactIsPlacementRow : OpenClaim := { program := "ytefpcgnpohehbaa", sum := "73d4bad5e7cc3b24cc749749dda6fa6f37f317932cfef701eda3fd3026c73cf5", func := "loop.example/g01125/laws.FnExactIsPlacement", spec := "fnExactIsPlacement", unfollowed := true, recurses := true, apart := false }
def FnExactIsPlacementSaid : Prop := fnExactIsPlacementRow.holds Try.pinned (OpenSpec.ofChange fnExactIsPlacementSpec)

/-- ITS FALSE NEIGHBOUR: 'it returns false'. Refute it at one input. -/
def fnExactIsPlacementWrong : ChangeSpec := { name := "fnExactIsPlacement", fn := fun _ => fun
  | [d1, d2] => { results := [.lit (.bool false)], args := [d1, d2] }
  | _ => none }
def FnExactIsPlacementWrongFalsely : Prop := fnExactIsPlacementRow.holds Try.pinned (OpenSpec.ofChange fnExactIsPlacementWrong)

/-- 'laws.FnExactRookNumbers': WHATEVER THE INPUT: true; the input reads as it did. -/
def fnExactRookNumbersSpec : ChangeSpec := { name := "fnExactRookNumbers", fn := fun _ => fun
  | [d] => { results := [.lit (.bool true)], args := [d] }
  | _ => none }
def fnExactRookNumbersRow : OpenClaim := { program := "ytefpcgnpohehbaa", sum := "73d4bad5e7cc3b24cc749749dda6fa6f37f317932cfef701eda3fd3026c73cf5", func := "loop.example/g01125/laws.FnExactRookNumbers", spec := "fnExactRookNumbers", unfollowed := true, recurses := true, apart := false }
def FnExactRookNumbersSaid : Prop := fnExactRookNumbersRow.holds Try.pinned (OpenSpec.ofChange fnExactRookNumbersSpec)

/-- ITS FALSE NEIGHBOUR: 'it returns false'. Refute it at one input. -/
def fnExactRookNumbersWrong : ChangeSpec := { name := "fnExactRookNumbers", fn := fun _ => fun
  | [d] => { results := [.lit (.bool false)], args := [d] }
  | _ => none }
def FnExactRookNumbersWrongFalsely : Prop := fnExactRookNumbersRow.holds Try.pinned (OpenSpec.ofChange fnExactRookNumbersWrong)

/-- 'laws.FnExactMostRooks': WHATEVER THE INPUT: true; the input reads as it did. -/
def fnExactMostRooksSpec : ChangeSpec := { name := "fnExactMostRooks", fn := fun _ => fun
  | [d] => { results := [.lit (.bool true)], args := [d] }
  | _ => none }
def fnExactMostRooksRow : OpenClaim := { program := "ytefpcgnpohehbaa", sum := "73d4bad5e7cc3b24cc749749dda6fa6f37f317932cfef701eda3fd3026c73cf5", func := "loop.example/g01125/laws.FnExactMostRooks", spec := "fnExactMostRooks", unfollowed := true, recurses := true, apart := false }
def FnExactMostRooksSaid : Prop := fnExactMostRooksRow.holds Try.pinned (OpenSpec.ofChange fnExactMostRooksSpec)

/-- ITS FALSE NEIGHBOUR: 'it returns false'. Refute it at one input. -/
def fnExactMostRooksWrong : ChangeSpec := { name := "fnExactMostRooks", fn := fun _ => fun
  | [d] => { results := [.lit (.bool false)], args := [d] }
  | _ => none }
def FnExactMostRooksWrongFalsely : Prop := fnExactMostRooksRow.holds Try.pinned (OpenSpec.ofChange fnExactMostRooksWrong)

/-- 'laws.FnExactPlacementsOf': WHATEVER THE INPUT: true; the input reads as it did. -/
def fnExactPlacementsOfSpec : ChangeSpec := { name := "fnExactPlacementsOf", fn := fun _ => fun
  | [d1, d2] => { results := [.lit (.bool true)], args := [d1, d2] }
  | _ => none }
def fnExactPlacementsOfRow : OpenClaim := { program := "ytefpcgnpohehbaa", sum := "73d4bad5e7cc3b24cc749749dda6fa6f37f317932cfef701eda3fd3026c73cf5", func := "loop.example/g01125/laws.FnExactPlacementsOf", spec := "fnExactPlacementsOf", unfollowed := true, recurses := true, apart := false }
def FnExactPlacementsOfSaid : Prop := fnExactPlacementsOfRow.holds Try.pinned (OpenSpec.ofChange fnExactPlacementsOfSpec)

/-- ITS FALSE NEIGHBOUR: 'it returns false'. Refute it at one input. -/
def fnExactPlacementsOfWrong : ChangeSpec := { name := "fnExactPlacementsOf", fn := fun _ => fun
  | [d1, d2] => { results := [.lit (.bool false)], args := [d1, d2] }
  | _ => none }
def FnExactPlacementsOfWrongFalsely : Prop := fnExactPlacementsOfRow.holds Try.pinned (OpenSpec.ofChange fnExactPlacementsOfWrong)

/-- 'laws.FnExactPlacementWith': WHATEVER THE INPUT: true; the input reads as it did. -/
def fnExactPlacementWithSpec : ChangeSpec := { name := "fnExactPlacementWith", fn := fun _ => fun
  | [d1, d2, d3] => { results := [.lit (.bool true)], args := [d1, d2, d3] }
  | _ => none }
def fnExactPlacementWithRow : OpenClaim := { program := "ytefpcgnpohehbaa", sum := "73d4bad5e7cc3b24cc749749dda6fa6f37f317932cfef701eda3fd3026c73cf5", func := "loop.example/g01125/laws.FnExactPlacementWith", spec := "fnExactPlacementWith", unfollowed := true, recurses := true, apart := false }
def FnExactPlacementWithSaid : Prop := fnExactPlacementWithRow.holds Try.pinned (OpenSpec.ofChange fnExactPlacementWithSpec)

/-- ITS FALSE NEIGHBOUR: 'it returns false'. Refute it at one input. -/
def fnExactPlacementWithWrong : ChangeSpec := { name := "fnExactPlacementWith", fn := fun _ => fun
  | [d1, d2, d3] => { results := [.lit (.bool false)], args := [d1, d2, d3] }
  | _ => none }
def FnExactPlacementWithWrongFalsely : Prop := fnExactPlacementWithRow.holds Try.pinned (OpenSpec.ofChange fnExactPlacementWithWrong)

/-- 'laws.FnExactRankPlacement': WHATEVER THE INPUT: true; the input reads as it did. -/
def fnExactRankPlacementSpec : ChangeSpec := { name := "fnExactRankPlacement", fn := fun _ => fun
  | [d1, d2] => { results := [.lit (.bool true)], args := [d1, d2] }
  | _ => none }
def fnExactRankPlacementRow : OpenClaim := { program := "ytefpcgnpohehbaa", sum := "73d4bad5e7cc3b24cc749749dda6fa6f37f317932cfef701eda3fd3026c73cf5", func := "loop.example/g01125/laws.FnExactRankPlacement", spec := "fnExactRankPlacement", unfollowed := true, recurses := true, apart := false }
def FnExactRankPlacementSaid : Prop := fnExactRankPlacementRow.holds Try.pinned (OpenSpec.ofChange fnExactRankPlacementSpec)

/-- ITS FALSE NEIGHBOUR: 'it returns false'. Refute it at one input. -/
def fnExactRankPlacementWrong : ChangeSpec := { name := "fnExactRankPlacement", fn := fun _ => fun
  | [d1, d2] => { results := [.lit (.bool false)], args := [d1, d2] }
  | _ => none }
def FnExactRankPlacementWrongFalsely : Prop := fnExactRankPlacementRow.holds Try.pinned (OpenSpec.ofChange fnExactRankPlacementWrong)

/-- 'laws.FnExactPermanentOf': WHATEVER THE INPUT: true; the input reads as it did. -/
def fnExactPermanentOfSpec : ChangeSpec := { name := "fnExactPermanentOf", fn := fun _ => fun
  | [d] => { results := [.lit (.bool true)], args := [d] }
  | _ => none }
def fnExactPermanentOfRow : OpenClaim := { program := "ytefpcgnpohehbaa", sum := "73d4bad5e7cc3b24cc749749dda6fa6f37f317932cfef701eda3fd3026c73cf5", func := "loop.example/g01125/laws.FnExactPermanentOf", spec := "fnExactPermanentOf", unfollowed := true, recurses := true, apart := false }
def FnExactPermanentOfSaid : Prop := fnExactPermanentOfRow.holds Try.pinned (OpenSpec.ofChange fnExactPermanentOfSpec)

/-- ITS FALSE NEIGHBOUR: 'it returns false'. Refute it at one input. -/
def fnExactPermanentOfWrong : ChangeSpec := { name := "fnExactPermanentOf", fn := fun _ => fun
  | [d] => { results := [.lit (.bool false)], args := [d] }
  | _ => none }
def FnExactPermanentOfWrongFalsely : Prop := fnExactPermanentOfRow.holds Try.pinned (OpenSpec.ofChange fnExactPermanentOfWrong)

/-- 'laws.FnExactRookPolynomialAt': WHATEVER THE INPUT: true; the input reads as it did. -/
def fnExactRookPolynomialAtSpec : ChangeSpec := { name := "fnExactRookPolynomialAt", fn := fun _ => fun
  | [d1, d2] => { results := [.lit (.bool true)], args := [d1, d2] }
  | _ => none }
def fnExactRookPolynomialAtRow : OpenClaim := { program := "ytefpcgnpohehbaa", sum := "73d4bad5e7cc3b24cc749749dda6fa6f37f317932cfef701eda3fd3026c73cf5", func := "loop.example/g01125/laws.FnExactRookPolynomialAt", spec := "fnExactRookPolynomialAt", unfollowed := true, recurses := true, apart := false }
def FnExactRookPolynomialAtSaid : Prop := fnExactRookPolynomialAtRow.holds Try.pinned (OpenSpec.ofChange fnExactRookPolynomialAtSpec)

/-- ITS FALSE NEIGHBOUR: 'it returns false'. Refute it at one input. -/
def fnExactRookPolynomialAtWrong : ChangeSpec := { name := "fnExactRookPolynomialAt", fn := fun _ => fun
  | [d1, d2] => { results := [.lit (.bool false)], args := [d1, d2] }
  | _ => none }
def FnExactRookPolynomialAtWrongFalsely : Prop := fnExactRookPolynomialAtRow.holds Try.pinned (OpenSpec.ofChange fnExactRookPolynomialAtWrong)

/-- 'laws.FnExactFactorialAt': WHATEVER THE INPUT: true; the input reads as it did. -/
def fnExactFactorialAtSpec : ChangeSpec := { name := "fnExactFactorialAt", fn := fun _ => fun
  | [d1, d2] => { results := [.lit (.bool true)], args := [d1, d2] }
  | _ => none }
def fnExactFactorialAtRow : OpenClaim := { program := "ytefpcgnpohehbaa", sum := "73d4bad5e7cc3b24cc749749dda6fa6f37f317932cfef701eda3fd3026c73cf5", func := "loop.example/g01125/laws.FnExactFactorialAt", spec := "fnExactFactorialAt", unfollowed := true, recurses := true, apart := false }
def FnExactFactorialAtSaid : Prop := fnExactFactorialAtRow.holds Try.pinned (OpenSpec.ofChange fnExactFactorialAtSpec)

/-- ITS FALSE NEIGHBOUR: 'it returns false'. Refute it at one input. -/
def fnExactFactorialAtWrong : ChangeSpec := { name := "fnExactFactorialAt", fn := fun _ => fun
  | [d1, d2] => { results := [.lit (.bool false)], args := [d1, d2] }
  | _ => none }
def FnExactFactorialAtWrongFalsely : Prop := fnExactFactorialAtRow.holds Try.pinned (OpenSpec.ofChange fnExactFactorialAtWrong)

/-- 'laws.FnExactMultiplyNumbers': WHATEVER THE INPUT: true; the input reads as it did. -/
def fnExactMultiplyNumbersSpec : ChangeSpec := { name := "fnExactMultiplyNumbers", fn := fun _ => fun
  | [d1, d2] => { results := [.lit (.bool true)], args := [d1, d2] }
  | _ => none }
def fnExactMultiplyNumbersRow : OpenClaim := { program := "ytefpcgnpohehbaa", sum := "73d4bad5e7cc3b24cc749749dda6fa6f37f317932cfef701eda3fd3026c73cf5", func := "loop.example/g01125/laws.FnExactMultiplyNumbers", spec := "fnExactMultiplyNumbers", unfollowed := true, recurses := true, apart := false }
def FnExactMultiplyNumbersSaid : Prop := fnExactMultiplyNumbersRow.holds Try.pinned (OpenSpec.ofChange fnExactMultiplyNumbersSpec)

/-- ITS FALSE NEIGHBOUR: 'it returns false'. Refute it at one input. -/
def fnExactMultiplyNumbersWrong : ChangeSpec := { name := "fnExactMultiplyNumbers", fn := fun _ => fun
  | [d1, d2] => { results := [.lit (.bool false)], args := [d1, d2] }
  | _ => none }
def FnExactMultiplyNumbersWrongFalsely : Prop := fnExactMultiplyNumbersRow.holds Try.pinned (OpenSpec.ofChange fnExactMultiplyNumbersWrong)

/-- 'laws.FnExactNumbersOfComplement': WHATEVER THE INPUT: true; the input reads as it did. -/
def fnExactNumbersOfComplementSpec : ChangeSpec := { name := "fnExactNumbersOfComplement", fn := fun _ => fun
  | [d] => { results := [.lit (.bool true)], args := [d] }
  | _ => none }
def fnExactNumbersOfComplementRow : OpenClaim := { program := "ytefpcgnpohehbaa", sum := "73d4bad5e7cc3b24cc749749dda6fa6f37f317932cfef701eda3fd3026c73cf5", func := "loop.example/g01125/laws.FnExactNumbersOfComplement", spec := "fnExactNumbersOfComplement", unfollowed := true, recurses := true, apart := false }
def FnExactNumbersOfComplementSaid : Prop := fnExactNumbersOfComplementRow.holds Try.pinned (OpenSpec.ofChange fnExactNumbersOfComplementSpec)

/-- ITS FALSE NEIGHBOUR: 'it returns false'. Refute it at one input. -/
def fnExactNumbersOfComplementWrong : ChangeSpec := { name := "fnExactNumbersOfComplement", fn := fun _ => fun
  | [d] => { results := [.lit (.bool false)], args := [d] }
  | _ => none }
def FnExactNumbersOfComplementWrongFalsely : Prop := fnExactNumbersOfComplementRow.holds Try.pinned (OpenSpec.ofChange fnExactNumbersOfComplementWrong)

/-- 'laws.FnExactAreAlike': WHATEVER THE INPUT: true; the input reads as it did. -/
def fnExactAreAlikeSpec : ChangeSpec := { name := "fnExactAreAlike", fn := fun _ => fun
  | [d1, d2] => { results := [.lit (.bool true)], args := [d1, d2] }
  | _ => none }
def fnExactAreAlikeRow : OpenClaim := { program := "ytefpcgnpohehbaa", sum := "73d4bad5e7cc3b24cc749749dda6fa6f37f317932cfef701eda3fd3026c73cf5", func := "loop.example/g01125/laws.FnExactAreAlike", spec := "fnExactAreAlike", unfollowed := true, recurses := true, apart := false }
def FnExactAreAlikeSaid : Prop := fnExactAreAlikeRow.holds Try.pinned (OpenSpec.ofChange fnExactAreAlikeSpec)

/-- ITS FALSE NEIGHBOUR: 'it returns false'. Refute it at one input. -/
def fnExactAreAlikeWrong : ChangeSpec := { name := "fnExactAreAlike", fn := fun _ => fun
  | [d1, d2] => { results := [.lit (.bool false)], args := [d1, d2] }
  | _ => none }
def FnExactAreAlikeWrongFalsely : Prop := fnExactAreAlikeRow.holds Try.pinned (OpenSpec.ofChange fnExactAreAlikeWrong)

/-- 'laws.FnExactCountWithCell': WHATEVER THE INPUT: true; the input reads as it did. -/
def fnExactCountWithCellSpec : ChangeSpec := { name := "fnExactCountWithCell", fn := fun _ => fun
  | [d1, d2, d3, d4] => { results := [.lit (.bool true)], args := [d1, d2, d3, d4] }
  | _ => none }
def fnExactCountWithCellRow : OpenClaim := { program := "ytefpcgnpohehbaa", sum := "73d4bad5e7cc3b24cc749749dda6fa6f37f317932cfef701eda3fd3026c73cf5", func := "loop.example/g01125/laws.FnExactCountWithCell", spec := "fnExactCountWithCell", unfollowed := true, recurses := true, apart := false }
def FnExactCountWithCellSaid : Prop := fnExactCountWithCellRow.holds Try.pinned (OpenSpec.ofChange fnExactCountWithCellSpec)

/-- ITS FALSE NEIGHBOUR: 'it returns false'. Refute it at one input. -/
def fnExactCountWithCellWrong : ChangeSpec := { name := "fnExactCountWithCell", fn := fun _ => fun
  | [d1, d2, d3, d4] => { results := [.lit (.bool false)], args := [d1, d2, d3, d4] }
  | _ => none }
def FnExactCountWithCellWrongFalsely : Prop := fnExactCountWithCellRow.holds Try.pinned (OpenSpec.ofChange fnExactCountWithCellWrong)

/-- 'laws.FnExactTurnPlacement': WHATEVER THE INPUT: true; the input reads as it did. -/
def fnExactTurnPlacementSpec : ChangeSpec := { name := "fnExactTurnPlacement", fn := fun _ => fun
  | [d1, d2] => { results := [.lit (.bool true)], args := [d1, d2] }
  | _ => none }
def fnExactTurnPlacementRow : OpenClaim := { program := "ytefpcgnpohehbaa", sum := "73d4bad5e7cc3b24cc749749dda6fa6f37f317932cfef701eda3fd3026c73cf5", func := "loop.example/g01125/laws.FnExactTurnPlacement", spec := "fnExactTurnPlacement", unfollowed := true, recurses := true, apart := false }
def FnExactTurnPlacementSaid : Prop := fnExactTurnPlacementRow.holds Try.pinned (OpenSpec.ofChange fnExactTurnPlacementSpec)

/-- ITS FALSE NEIGHBOUR: 'it returns false'. Refute it at one input. -/
def fnExactTurnPlacementWrong : ChangeSpec := { name := "fnExactTurnPlacement", fn := fun _ => fun
  | [d1, d2] => { results := [.lit (.bool false)], args := [d1, d2] }
  | _ => none }
def FnExactTurnPlacementWrongFalsely : Prop := fnExactTurnPlacementRow.holds Try.pinned (OpenSpec.ofChange fnExactTurnPlacementWrong)

/- THE SECOND FORM. 'bulk': how many values and letters a reading holds, each counted each time it is reached (what is shared counts as often as it is met; a slice's spare places count too). A statement '..UptoSaid' is the law's where the arguments, and the package variables that the reading takes, are together of bulk at most 1048576: NARROWER than '..Said'. Prove '..Said' where nothing that the law and all that it calls make is longer than what came in: it says more and counts as full. Else prove '..UptoSaid'. A law counts once. -/
mutual
def uptoBulk {H : Type} : DataW H → Nat
  | .lit (.string bytes) => bytes.length + 1
  | .lit _ => 1
  | .nil => 1
  | .ptr d => uptoBulk d + 1
  | .slice elems spare => uptoBulkAll elems + uptoBulkAll spare + 1
  | .agg parts => uptoBulkAll parts + 1
  | .iface _ d => uptoBulk d + 1
  | .map entries => uptoBulkEntries entries + 1
  | .held _ => 1
def uptoBulkAll {H : Type} : List (DataW H) → Nat
  | [] => 0
  | d :: r => uptoBulk d + uptoBulkAll r
def uptoBulkEntries {H : Type} : List (Lit × DataW H) → Nat
  | [] => 0
  | x :: r => uptoBulkEntry x + uptoBulkEntries r
def uptoBulkEntry {H : Type} : Lit × DataW H → Nat
  | (.string bytes, d) => bytes.length + uptoBulk d + 1
  | (_, d) => uptoBulk d + 1
 end
def uptoSmall : (H : Type) → List (DataW H) → Bool := fun _ ds => decide (uptoBulkAll ds ≤ 1048576)
def OpenSpec.upto (s : _root_.Go.ChangeSpec) : _root_.Go.OpenSpec := { _root_.Go.OpenSpec.ofChange s with cond := some uptoSmall }

/-- 'laws.FnExactIsPlacement', WHERE WHAT IT READS IS OF BULK AT MOST 1048576: true; the input reads as it did. -/
def fnExactIsPlacementUptoRow : OpenClaim := { program := "ytefpcgnpohehbaa", sum := "73d4bad5e7cc3b24cc749749dda6fa6f37f317932cfef701eda3fd3026c73cf5", func := "loop.example/g01125/laws.FnExactIsPlacement", spec := "fnExactIsPlacement", unfollowed := true, recurses := true, apart := false, narrowed := true }
def FnExactIsPlacementUptoSaid : Prop := fnExactIsPlacementUptoRow.holds Try.pinned (OpenSpec.upto fnExactIsPlacementSpec)

/-- 'laws.FnExactRookNumbers', WHERE WHAT IT READS IS OF BULK AT MOST 1048576: true; the input reads as it did. -/
def fnExactRookNumbersUptoRow : OpenClaim := { program := "ytefpcgnpohehbaa", sum := "73d4bad5e7cc3b24cc749749dda6fa6f37f317932cfef701eda3fd3026c73cf5", func := "loop.example/g01125/laws.FnExactRookNumbers", spec := "fnExactRookNumbers", unfollowed := true, recurses := true, apart := false, narrowed := true }
def FnExactRookNumbersUptoSaid : Prop := fnExactRookNumbersUptoRow.holds Try.pinned (OpenSpec.upto fnExactRookNumbersSpec)

/-- 'laws.FnExactMostRooks', WHERE WHAT IT READS IS OF BULK AT MOST 1048576: true; the input reads as it did. -/
def fnExactMostRooksUptoRow : OpenClaim := { program := "ytefpcgnpohehbaa", sum := "73d4bad5e7cc3b24cc749749dda6fa6f37f317932cfef701eda3fd3026c73cf5", func := "loop.example/g01125/laws.FnExactMostRooks", spec := "fnExactMostRooks", unfollowed := true, recurses := true, apart := false, narrowed := true }
def FnExactMostRooksUptoSaid : Prop := fnExactMostRooksUptoRow.holds Try.pinned (OpenSpec.upto fnExactMostRooksSpec)

/-- 'laws.FnExactPlacementsOf', WHERE WHAT IT READS IS OF BULK AT MOST 1048576: true; the input reads as it did. -/
def fnExactPlacementsOfUptoRow : OpenClaim := { program := "ytefpcgnpohehbaa", sum := "73d4bad5e7cc3b24cc749749dda6fa6f37f317932cfef701eda3fd3026c73cf5", func := "loop.example/g01125/laws.FnExactPlacementsOf", spec := "fnExactPlacementsOf", unfollowed := true, recurses := true, apart := false, narrowed := true }
def FnExactPlacementsOfUptoSaid : Prop := fnExactPlacementsOfUptoRow.holds Try.pinned (OpenSpec.upto fnExactPlacementsOfSpec)

/-- 'laws.FnExactPlacementWith', WHERE WHAT IT READS IS OF BULK AT MOST 1048576: true; the input reads as it did. -/
def fnExactPlacementWithUptoRow : OpenClaim := { program := "ytefpcgnpohehbaa", sum := "73d4bad5e7cc3b24cc749749dda6fa6f37f317932cfef701eda3fd3026c73cf5", func := "loop.example/g01125/laws.FnExactPlacementWith", spec := "fnExactPlacementWith", unfollowed := true, recurses := true, apart := false, narrowed := true }
def FnExactPlacementWithUptoSaid : Prop := fnExactPlacementWithUptoRow.holds Try.pinned (OpenSpec.upto fnExactPlacementWithSpec)

/-- 'laws.FnExactRankPlacement', WHERE WHAT IT READS IS OF BULK AT MOST 1048576: true; the input reads as it did. -/
def fnExactRankPlacementUptoRow : OpenClaim := { program := "ytefpcgnpohehbaa", sum := "73d4bad5e7cc3b24cc749749dda6fa6f37f317932cfef701eda3fd3026c73cf5", func := "loop.example/g01125/laws.FnExactRankPlacement", spec := "fnExactRankPlacement", unfollowed := true, recurses := true, apart := false, narrowed := true }
def FnExactRankPlacementUptoSaid : Prop := fnExactRankPlacementUptoRow.holds Try.pinned (OpenSpec.upto fnExactRankPlacementSpec)

/-- 'laws.FnExactPermanentOf', WHERE WHAT IT READS IS OF BULK AT MOST 1048576: true; the input reads as it did. -/
def fnExactPermanentOfUptoRow : OpenClaim := { program := "ytefpcgnpohehbaa", sum := "73d4bad5e7cc3b24cc749749dda6fa6f37f317932cfef701eda3fd3026c73cf5", func := "loop.example/g01125/laws.FnExactPermanentOf", spec := "fnExactPermanentOf", unfollowed := true, recurses := true, apart := false, narrowed := true }
def FnExactPermanentOfUptoSaid : Prop := fnExactPermanentOfUptoRow.holds Try.pinned (OpenSpec.upto fnExactPermanentOfSpec)

/-- 'laws.FnExactRookPolynomialAt', WHERE WHAT IT READS IS OF BULK AT MOST 1048576: true; the input reads as it did. -/
def fnExactRookPolynomialAtUptoRow : OpenClaim := { program := "ytefpcgnpohehbaa", sum := "73d4bad5e7cc3b24cc749749dda6fa6f37f317932cfef701eda3fd3026c73cf5", func := "loop.example/g01125/laws.FnExactRookPolynomialAt", spec := "fnExactRookPolynomialAt", unfollowed := true, recurses := true, apart := false, narrowed := true }
def FnExactRookPolynomialAtUptoSaid : Prop := fnExactRookPolynomialAtUptoRow.holds Try.pinned (OpenSpec.upto fnExactRookPolynomialAtSpec)

/-- 'laws.FnExactFactorialAt', WHERE WHAT IT READS IS OF BULK AT MOST 1048576: true; the input reads as it did. -/
def fnExactFactorialAtUptoRow : OpenClaim := { program := "ytefpcgnpohehbaa", sum := "73d4bad5e7cc3b24cc749749dda6fa6f37f317932cfef701eda3fd3026c73cf5", func := "loop.example/g01125/laws.FnExactFactorialAt", spec := "fnExactFactorialAt", unfollowed := true, recurses := true, apart := false, narrowed := true }
def FnExactFactorialAtUptoSaid : Prop := fnExactFactorialAtUptoRow.holds Try.pinned (OpenSpec.upto fnExactFactorialAtSpec)

/-- 'laws.FnExactMultiplyNumbers', WHERE WHAT IT READS IS OF BULK AT MOST 1048576: true; the input reads as it did. -/
def fnExactMultiplyNumbersUptoRow : OpenClaim := { program := "ytefpcgnpohehbaa", sum := "73d4bad5e7cc3b24cc749749dda6fa6f37f317932cfef701eda3fd3026c73cf5", func := "loop.example/g01125/laws.FnExactMultiplyNumbers", spec := "fnExactMultiplyNumbers", unfollowed := true, recurses := true, apart := false, narrowed := true }
def FnExactMultiplyNumbersUptoSaid : Prop := fnExactMultiplyNumbersUptoRow.holds Try.pinned (OpenSpec.upto fnExactMultiplyNumbersSpec)

/-- 'laws.FnExactNumbersOfComplement', WHERE WHAT IT READS IS OF BULK AT MOST 1048576: true; the input reads as it did. -/
def fnExactNumbersOfComplementUptoRow : OpenClaim := { program := "ytefpcgnpohehbaa", sum := "73d4bad5e7cc3b24cc749749dda6fa6f37f317932cfef701eda3fd3026c73cf5", func := "loop.example/g01125/laws.FnExactNumbersOfComplement", spec := "fnExactNumbersOfComplement", unfollowed := true, recurses := true, apart := false, narrowed := true }
def FnExactNumbersOfComplementUptoSaid : Prop := fnExactNumbersOfComplementUptoRow.holds Try.pinned (OpenSpec.upto fnExactNumbersOfComplementSpec)

/-- 'laws.FnExactAreAlike', WHERE WHAT IT READS IS OF BULK AT MOST 1048576: true; the input reads as it did. -/
def fnExactAreAlikeUptoRow : OpenClaim := { program := "ytefpcgnpohehbaa", sum := "73d4bad5e7cc3b24cc749749dda6fa6f37f317932cfef701eda3fd3026c73cf5", func := "loop.example/g01125/laws.FnExactAreAlike", spec := "fnExactAreAlike", unfollowed := true, recurses := true, apart := false, narrowed := true }
def FnExactAreAlikeUptoSaid : Prop := fnExactAreAlikeUptoRow.holds Try.pinned (OpenSpec.upto fnExactAreAlikeSpec)

/-- 'laws.FnExactCountWithCell', WHERE WHAT IT READS IS OF BULK AT MOST 1048576: true; the input reads as it did. -/
def fnExactCountWithCellUptoRow : OpenClaim := { program := "ytefpcgnpohehbaa", sum := "73d4bad5e7cc3b24cc749749dda6fa6f37f317932cfef701eda3fd3026c73cf5", func := "loop.example/g01125/laws.FnExactCountWithCell", spec := "fnExactCountWithCell", unfollowed := true, recurses := true, apart := false, narrowed := true }
def FnExactCountWithCellUptoSaid : Prop := fnExactCountWithCellUptoRow.holds Try.pinned (OpenSpec.upto fnExactCountWithCellSpec)

/-- 'laws.FnExactTurnPlacement', WHERE WHAT IT READS IS OF BULK AT MOST 1048576: true; the input reads as it did. -/
def fnExactTurnPlacementUptoRow : OpenClaim := { program := "ytefpcgnpohehbaa", sum := "73d4bad5e7cc3b24cc749749dda6fa6f37f317932cfef701eda3fd3026c73cf5", func := "loop.example/g01125/laws.FnExactTurnPlacement", spec := "fnExactTurnPlacement", unfollowed := true, recurses := true, apart := false, narrowed := true }
def FnExactTurnPlacementUptoSaid : Prop := fnExactTurnPlacementUptoRow.holds Try.pinned (OpenSpec.upto fnExactTurnPlacementSpec)

end Rows
end Go.Proofs.Ytefpcgnpohehbaa
