/-
  No cell of these rows narrows 'for every input' (looked for: loops, veiled, ifaces, maps, wideKeys, modest, calm, conditions, laid).
  DERIVED. THE GIVEN ROWS OF THIS SEAT. 9 by the template 'for every input the law returns true; each argument reads behind the call as it read before'; 0 by the template 'total and deterministic' (their statements: YtlbffjkckpdclaaTotals.lean).
  GIVEN WITH THE SEED: the statements are not yours to turn. If you find one false, say at which input.
  Laid BY PROGRAM, IN A SANDBOX (cutbox-rows.mjs): the forced cells as the released guide's own fill.sh prints them over the translation 1c8ea27213681499… (all of the seat's roots in one cut). By AI agents, Wed Nov 11 2026. No macro, syntax, notation, axiom, sorry.
-/
import Derived.Test.YtlbffjkckpdclaaChecked
import GoSem.Claim
import GoSem.ClaimJoined
import GoSem.ClaimMapViews
import Derived.JoinedTies
import Derived.KernelRfl
namespace Go.Proofs.Ytlbffjkckpdclaa
/- THE CELL 'sum', in the pinned program and in every row, IS THE sha256 OF THE DUMP (.gsa) THAT YtlbffjkckpdclaaProg.lean LOADS. Nothing in Lean hashes anything: it is a label: what it is worth is what the hold of that sum in a sandbox is worth. -/
noncomputable def Try.pinned : Pinned := { name := "ytlbffjkckpdclaa", sum := "1c8ea27213681499da271b2d8e9ce7d5973f498728a0b8641f13eb667681ca2d", checked := Try.checked }
namespace Rows
def none {H : Type} : Left H := { results := [], args := [] }

/-- 'laws.FnExactComplementOf': WHATEVER THE INPUT: true; the input reads as it did. -/
def fnExactComplementOfSpec : ChangeSpec := { name := "fnExactComplementOf", fn := fun _ => fun
  | [d] => { results := [.lit (.bool true)], args := [d] }
  | _ => none }
def fnExactComplementOfRow : OpenClaim := { program := "ytlbffjkckpdclaa", sum := "1c8ea27213681499da271b2d8e9ce7d5973f498728a0b8641f13eb667681ca2d", func := "loop.example/g01125/laws.FnExactComplementOf", spec := "fnExactComplementOf", unfollowed := true, recurses := true, apart := false }
def FnExactComplementOfSaid : Prop := fnExactComplementOfRow.holds Try.pinned (OpenSpec.ofChange fnExactComplementOfSpec)

/-- ITS FALSE NEIGHBOUR: 'it returns false'. Refute it at one input. -/
def fnExactComplementOfWrong : ChangeSpec := { name := "fnExactComplementOf", fn := fun _ => fun
  | [d] => { results := [.lit (.bool false)], args := [d] }
  | _ => none }
def FnExactComplementOfWrongFalsely : Prop := fnExactComplementOfRow.holds Try.pinned (OpenSpec.ofChange fnExactComplementOfWrong)

/-- 'laws.FnExactMirrorBoard': WHATEVER THE INPUT: true; the input reads as it did. -/
def fnExactMirrorBoardSpec : ChangeSpec := { name := "fnExactMirrorBoard", fn := fun _ => fun
  | [d] => { results := [.lit (.bool true)], args := [d] }
  | _ => none }
def fnExactMirrorBoardRow : OpenClaim := { program := "ytlbffjkckpdclaa", sum := "1c8ea27213681499da271b2d8e9ce7d5973f498728a0b8641f13eb667681ca2d", func := "loop.example/g01125/laws.FnExactMirrorBoard", spec := "fnExactMirrorBoard", unfollowed := true, recurses := true, apart := false }
def FnExactMirrorBoardSaid : Prop := fnExactMirrorBoardRow.holds Try.pinned (OpenSpec.ofChange fnExactMirrorBoardSpec)

/-- ITS FALSE NEIGHBOUR: 'it returns false'. Refute it at one input. -/
def fnExactMirrorBoardWrong : ChangeSpec := { name := "fnExactMirrorBoard", fn := fun _ => fun
  | [d] => { results := [.lit (.bool false)], args := [d] }
  | _ => none }
def FnExactMirrorBoardWrongFalsely : Prop := fnExactMirrorBoardRow.holds Try.pinned (OpenSpec.ofChange fnExactMirrorBoardWrong)

/-- 'laws.FnExactOrderRows': WHATEVER THE INPUT: true; the input reads as it did. -/
def fnExactOrderRowsSpec : ChangeSpec := { name := "fnExactOrderRows", fn := fun _ => fun
  | [d1, d2] => { results := [.lit (.bool true)], args := [d1, d2] }
  | _ => none }
def fnExactOrderRowsRow : OpenClaim := { program := "ytlbffjkckpdclaa", sum := "1c8ea27213681499da271b2d8e9ce7d5973f498728a0b8641f13eb667681ca2d", func := "loop.example/g01125/laws.FnExactOrderRows", spec := "fnExactOrderRows", unfollowed := true, recurses := true, apart := false }
def FnExactOrderRowsSaid : Prop := fnExactOrderRowsRow.holds Try.pinned (OpenSpec.ofChange fnExactOrderRowsSpec)

/-- ITS FALSE NEIGHBOUR: 'it returns false'. Refute it at one input. -/
def fnExactOrderRowsWrong : ChangeSpec := { name := "fnExactOrderRows", fn := fun _ => fun
  | [d1, d2] => { results := [.lit (.bool false)], args := [d1, d2] }
  | _ => none }
def FnExactOrderRowsWrongFalsely : Prop := fnExactOrderRowsRow.holds Try.pinned (OpenSpec.ofChange fnExactOrderRowsWrong)

/-- 'laws.FnExactStackBoards': WHATEVER THE INPUT: true; the input reads as it did. -/
def fnExactStackBoardsSpec : ChangeSpec := { name := "fnExactStackBoards", fn := fun _ => fun
  | [d1, d2] => { results := [.lit (.bool true)], args := [d1, d2] }
  | _ => none }
def fnExactStackBoardsRow : OpenClaim := { program := "ytlbffjkckpdclaa", sum := "1c8ea27213681499da271b2d8e9ce7d5973f498728a0b8641f13eb667681ca2d", func := "loop.example/g01125/laws.FnExactStackBoards", spec := "fnExactStackBoards", unfollowed := true, recurses := true, apart := false }
def FnExactStackBoardsSaid : Prop := fnExactStackBoardsRow.holds Try.pinned (OpenSpec.ofChange fnExactStackBoardsSpec)

/-- ITS FALSE NEIGHBOUR: 'it returns false'. Refute it at one input. -/
def fnExactStackBoardsWrong : ChangeSpec := { name := "fnExactStackBoards", fn := fun _ => fun
  | [d1, d2] => { results := [.lit (.bool false)], args := [d1, d2] }
  | _ => none }
def FnExactStackBoardsWrongFalsely : Prop := fnExactStackBoardsRow.holds Try.pinned (OpenSpec.ofChange fnExactStackBoardsWrong)

/-- 'laws.FnExactUnionOf': WHATEVER THE INPUT: true; the input reads as it did. -/
def fnExactUnionOfSpec : ChangeSpec := { name := "fnExactUnionOf", fn := fun _ => fun
  | [d1, d2] => { results := [.lit (.bool true)], args := [d1, d2] }
  | _ => none }
def fnExactUnionOfRow : OpenClaim := { program := "ytlbffjkckpdclaa", sum := "1c8ea27213681499da271b2d8e9ce7d5973f498728a0b8641f13eb667681ca2d", func := "loop.example/g01125/laws.FnExactUnionOf", spec := "fnExactUnionOf", unfollowed := true, recurses := true, apart := false }
def FnExactUnionOfSaid : Prop := fnExactUnionOfRow.holds Try.pinned (OpenSpec.ofChange fnExactUnionOfSpec)

/-- ITS FALSE NEIGHBOUR: 'it returns false'. Refute it at one input. -/
def fnExactUnionOfWrong : ChangeSpec := { name := "fnExactUnionOf", fn := fun _ => fun
  | [d1, d2] => { results := [.lit (.bool false)], args := [d1, d2] }
  | _ => none }
def FnExactUnionOfWrongFalsely : Prop := fnExactUnionOfRow.holds Try.pinned (OpenSpec.ofChange fnExactUnionOfWrong)

/-- 'laws.FnExactMeetOf': WHATEVER THE INPUT: true; the input reads as it did. -/
def fnExactMeetOfSpec : ChangeSpec := { name := "fnExactMeetOf", fn := fun _ => fun
  | [d1, d2] => { results := [.lit (.bool true)], args := [d1, d2] }
  | _ => none }
def fnExactMeetOfRow : OpenClaim := { program := "ytlbffjkckpdclaa", sum := "1c8ea27213681499da271b2d8e9ce7d5973f498728a0b8641f13eb667681ca2d", func := "loop.example/g01125/laws.FnExactMeetOf", spec := "fnExactMeetOf", unfollowed := true, recurses := true, apart := false }
def FnExactMeetOfSaid : Prop := fnExactMeetOfRow.holds Try.pinned (OpenSpec.ofChange fnExactMeetOfSpec)

/-- ITS FALSE NEIGHBOUR: 'it returns false'. Refute it at one input. -/
def fnExactMeetOfWrong : ChangeSpec := { name := "fnExactMeetOf", fn := fun _ => fun
  | [d1, d2] => { results := [.lit (.bool false)], args := [d1, d2] }
  | _ => none }
def FnExactMeetOfWrongFalsely : Prop := fnExactMeetOfRow.holds Try.pinned (OpenSpec.ofChange fnExactMeetOfWrong)

/-- 'laws.FnExactBoardText': WHATEVER THE INPUT: true; the input reads as it did. -/
def fnExactBoardTextSpec : ChangeSpec := { name := "fnExactBoardText", fn := fun _ => fun
  | [d] => { results := [.lit (.bool true)], args := [d] }
  | _ => none }
def fnExactBoardTextRow : OpenClaim := { program := "ytlbffjkckpdclaa", sum := "1c8ea27213681499da271b2d8e9ce7d5973f498728a0b8641f13eb667681ca2d", func := "loop.example/g01125/laws.FnExactBoardText", spec := "fnExactBoardText", inPlace := ["internal/abi.NoEscape", "internal/bytealg.MakeNoZero"], unfollowed := true, recurses := true, apart := false }
def FnExactBoardTextSaid : Prop := fnExactBoardTextRow.holds Try.pinned (OpenSpec.ofChange fnExactBoardTextSpec)

/-- ITS FALSE NEIGHBOUR: 'it returns false'. Refute it at one input. -/
def fnExactBoardTextWrong : ChangeSpec := { name := "fnExactBoardText", fn := fun _ => fun
  | [d] => { results := [.lit (.bool false)], args := [d] }
  | _ => none }
def FnExactBoardTextWrongFalsely : Prop := fnExactBoardTextRow.holds Try.pinned (OpenSpec.ofChange fnExactBoardTextWrong)

/-- 'laws.FnExactCellsOf': WHATEVER THE INPUT: true; the input reads as it did. -/
def fnExactCellsOfSpec : ChangeSpec := { name := "fnExactCellsOf", fn := fun _ => fun
  | [d] => { results := [.lit (.bool true)], args := [d] }
  | _ => none }
def fnExactCellsOfRow : OpenClaim := { program := "ytlbffjkckpdclaa", sum := "1c8ea27213681499da271b2d8e9ce7d5973f498728a0b8641f13eb667681ca2d", func := "loop.example/g01125/laws.FnExactCellsOf", spec := "fnExactCellsOf", unfollowed := true, recurses := true, apart := false }
def FnExactCellsOfSaid : Prop := fnExactCellsOfRow.holds Try.pinned (OpenSpec.ofChange fnExactCellsOfSpec)

/-- ITS FALSE NEIGHBOUR: 'it returns false'. Refute it at one input. -/
def fnExactCellsOfWrong : ChangeSpec := { name := "fnExactCellsOf", fn := fun _ => fun
  | [d] => { results := [.lit (.bool false)], args := [d] }
  | _ => none }
def FnExactCellsOfWrongFalsely : Prop := fnExactCellsOfRow.holds Try.pinned (OpenSpec.ofChange fnExactCellsOfWrong)

/-- 'laws.FnExactFromCells': WHATEVER THE INPUT: true; the input reads as it did. -/
def fnExactFromCellsSpec : ChangeSpec := { name := "fnExactFromCells", fn := fun _ => fun
  | [d1, d2, d3] => { results := [.lit (.bool true)], args := [d1, d2, d3] }
  | _ => none }
def fnExactFromCellsRow : OpenClaim := { program := "ytlbffjkckpdclaa", sum := "1c8ea27213681499da271b2d8e9ce7d5973f498728a0b8641f13eb667681ca2d", func := "loop.example/g01125/laws.FnExactFromCells", spec := "fnExactFromCells", apart := false }
def FnExactFromCellsSaid : Prop := fnExactFromCellsRow.holds Try.pinned (OpenSpec.ofChange fnExactFromCellsSpec)

/-- ITS FALSE NEIGHBOUR: 'it returns false'. Refute it at one input. -/
def fnExactFromCellsWrong : ChangeSpec := { name := "fnExactFromCells", fn := fun _ => fun
  | [d1, d2, d3] => { results := [.lit (.bool false)], args := [d1, d2, d3] }
  | _ => none }
def FnExactFromCellsWrongFalsely : Prop := fnExactFromCellsRow.holds Try.pinned (OpenSpec.ofChange fnExactFromCellsWrong)

/- THE SECOND FORM. 'bulk': how many values and letters a reading holds, each counted each time it is reached (what is shared counts as often as it is met; a slice's spare places count too). A statement '..UptoSaid' is the law's where the arguments, and the package variables that the reading takes, are together of bulk at most 1048576: NARROWER than '..Said'. Prove '..Said' where nothing that the law and all that it calls make is longer than what came in: it says more and counts as full. Else prove '..UptoSaid'. A law counts once. -/
mutual
def uptoBulk {H : Type} : DataW H → Nat
  | .lit (.string bytes) => bytes.length + 1
  | .lit _ => 1
  | .nil => 1
  | .ptr d => uptoBulk d + 1
  | .slice elems spare => uptoBulkAll elems + uptoBulkAll spare + 1
  | .agg parts => uptoBulkAll parts + 1
  | .iface _ d => uptoBulk d + 1
  | .map entries => uptoBulkEntries entries + 1
  | .held _ => 1
def uptoBulkAll {H : Type} : List (DataW H) → Nat
  | [] => 0
  | d :: r => uptoBulk d + uptoBulkAll r
def uptoBulkEntries {H : Type} : List (Lit × DataW H) → Nat
  | [] => 0
  | x :: r => uptoBulkEntry x + uptoBulkEntries r
def uptoBulkEntry {H : Type} : Lit × DataW H → Nat
  | (.string bytes, d) => bytes.length + uptoBulk d + 1
  | (_, d) => uptoBulk d + 1
 end
def uptoSmall : (H : Type) → List (DataW H) → Bool := fun _ ds => decide (uptoBulkAll ds ≤ 1048576)
def OpenSpec.upto (s : _root_.Go.ChangeSpec) : _root_.Go.OpenSpec := { _root_.Go.OpenSpec.ofChange s with cond := some uptoSmall }

/-- 'laws.FnExactComplementOf', WHERE WHAT IT READS IS OF BULK AT MOST 1048576: true; the input reads as it did. -/
def fnExactComplementOfUptoRow : OpenClaim := { program := "ytlbffjkckpdclaa", sum := "1c8ea27213681499da271b2d8e9ce7d5973f498728a0b8641f13eb667681ca2d", func := "loop.example/g01125/laws.FnExactComplementOf", spec := "fnExactComplementOf", unfollowed := true, recurses := true, apart := false, narrowed := true }
def FnExactComplementOfUptoSaid : Prop := fnExactComplementOfUptoRow.holds Try.pinned (OpenSpec.upto fnExactComplementOfSpec)

/-- 'laws.FnExactMirrorBoard', WHERE WHAT IT READS IS OF BULK AT MOST 1048576: true; the input reads as it did. -/
def fnExactMirrorBoardUptoRow : OpenClaim := { program := "ytlbffjkckpdclaa", sum := "1c8ea27213681499da271b2d8e9ce7d5973f498728a0b8641f13eb667681ca2d", func := "loop.example/g01125/laws.FnExactMirrorBoard", spec := "fnExactMirrorBoard", unfollowed := true, recurses := true, apart := false, narrowed := true }
def FnExactMirrorBoardUptoSaid : Prop := fnExactMirrorBoardUptoRow.holds Try.pinned (OpenSpec.upto fnExactMirrorBoardSpec)

/-- 'laws.FnExactOrderRows', WHERE WHAT IT READS IS OF BULK AT MOST 1048576: true; the input reads as it did. -/
def fnExactOrderRowsUptoRow : OpenClaim := { program := "ytlbffjkckpdclaa", sum := "1c8ea27213681499da271b2d8e9ce7d5973f498728a0b8641f13eb667681ca2d", func := "loop.example/g01125/laws.FnExactOrderRows", spec := "fnExactOrderRows", unfollowed := true, recurses := true, apart := false, narrowed := true }
def FnExactOrderRowsUptoSaid : Prop := fnExactOrderRowsUptoRow.holds Try.pinned (OpenSpec.upto fnExactOrderRowsSpec)

/-- 'laws.FnExactStackBoards', WHERE WHAT IT READS IS OF BULK AT MOST 1048576: true; the input reads as it did. -/
def fnExactStackBoardsUptoRow : OpenClaim := { program := "ytlbffjkckpdclaa", sum := "1c8ea27213681499da271b2d8e9ce7d5973f498728a0b8641f13eb667681ca2d", func := "loop.example/g01125/laws.FnExactStackBoards", spec := "fnExactStackBoards", unfollowed := true, recurses := true, apart := false, narrowed := true }
def FnExactStackBoardsUptoSaid : Prop := fnExactStackBoardsUptoRow.holds Try.pinned (OpenSpec.upto fnExactStackBoardsSpec)

/-- 'laws.FnExactUnionOf', WHERE WHAT IT READS IS OF BULK AT MOST 1048576: true; the input reads as it did. -/
def fnExactUnionOfUptoRow : OpenClaim := { program := "ytlbffjkckpdclaa", sum := "1c8ea27213681499da271b2d8e9ce7d5973f498728a0b8641f13eb667681ca2d", func := "loop.example/g01125/laws.FnExactUnionOf", spec := "fnExactUnionOf", unfollowed := true, recurses := true, apart := false, narrowed := true }
def FnExactUnionOfUptoSaid : Prop := fnExactUnionOfUptoRow.holds Try.pinned (OpenSpec.upto fnExactUnionOfSpec)

/-- 'laws.FnExactMeetOf', WHERE WHAT IT READS IS OF BULK AT MOST 1048576: true; the input reads as it did. -/
def fnExactMeetOfUptoRow : OpenClaim := { program := "ytlbffjkckpdclaa", sum := "1c8ea27213681499da271b2d8e9ce7d5973f498728a0b8641f13eb667681ca2d", func := "loop.example/g01125/laws.FnExactMeetOf", spec := "fnExactMeetOf", unfollowed := true, recurses := true, apart := false, narrowed := true }
def FnExactMeetOfUptoSaid : Prop := fnExactMeetOfUptoRow.holds Try.pinned (OpenSpec.upto fnExactMeetOfSpec)

/-- 'laws.FnExactBoardText', WHERE WHAT IT READS IS OF BULK AT MOST 1048576: true; the input reads as it did. -/
def fnExactBoardTextUptoRow : OpenClaim := { program := "ytlbffjkckpdclaa", sum := "1c8ea27213681499da271b2d8e9ce7d5973f498728a0b8641f13eb667681ca2d", func := "loop.example/g01125/laws.FnExactBoardText", spec := "fnExactBoardText", inPlace := ["internal/abi.NoEscape", "internal/bytealg.MakeNoZero"], unfollowed := true, recurses := true, apart := false, narrowed := true }
def FnExactBoardTextUptoSaid : Prop := fnExactBoardTextUptoRow.holds Try.pinned (OpenSpec.upto fnExactBoardTextSpec)

/-- 'laws.FnExactCellsOf', WHERE WHAT IT READS IS OF BULK AT MOST 1048576: true; the input reads as it did. -/
def fnExactCellsOfUptoRow : OpenClaim := { program := "ytlbffjkckpdclaa", sum := "1c8ea27213681499da271b2d8e9ce7d5973f498728a0b8641f13eb667681ca2d", func := "loop.example/g01125/laws.FnExactCellsOf", spec := "fnExactCellsOf", unfollowed := true, recurses := true, apart := false, narrowed := true }
def FnExactCellsOfUptoSaid : Prop := fnExactCellsOfUptoRow.holds Try.pinned (OpenSpec.upto fnExactCellsOfSpec)

/-- 'laws.FnExactFromCells', WHERE WHAT IT READS IS OF BULK AT MOST 1048576: true; the input reads as it did. -/
def fnExactFromCellsUptoRow : OpenClaim := { program := "ytlbffjkckpdclaa", sum := "1c8ea27213681499da271b2d8e9ce7d5973f498728a0b8641f13eb667681ca2d", func := "loop.example/g01125/laws.FnExactFromCells", spec := "fnExactFromCells", apart := false, narrowed := true }
def FnExactFromCellsUptoSaid : Prop := fnExactFromCellsUptoRow.holds Try.pinned (OpenSpec.upto fnExactFromCellsSpec)

end Rows
end Go.Proofs.Ytlbffjkckpdclaa
