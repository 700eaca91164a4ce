/-
  No cell of these rows narrows 'for every input' (looked for: loops, veiled, ifaces, maps, wideKeys, modest, calm, conditions, laid).
  DERIVED. THE GIVEN ROWS OF THIS SEAT. 6 by the template 'for every input the law returns true; each argument reads behind the call as it read before'; 0 by the template 'total and deterministic' (their statements: YtmnkloghenjmoaaTotals.lean).
  GIVEN WITH THE SEED: the statements are not yours to turn. If you find one false, say at which input.
  Laid BY PROGRAM, IN A SANDBOX (cutbox-rows.mjs): the forced cells as the released guide's own fill.sh prints them over the translation 2903b4ff08faabcd… (all of the seat's roots in one cut). By AI agents, Wed Nov 11 2026. No macro, syntax, notation, axiom, sorry.
-/
import Derived.Test.YtmnkloghenjmoaaChecked
import GoSem.Claim
import GoSem.ClaimJoined
import GoSem.ClaimMapViews
import Derived.JoinedTies
import Derived.KernelRfl
namespace Go.Proofs.Ytmnkloghenjmoaa
/- THE CELL 'sum', in the pinned program and in every row, IS THE sha256 OF THE DUMP (.gsa) THAT YtmnkloghenjmoaaProg.lean LOADS. Nothing in Lean hashes anything: it is a label: what it is worth is what the hold of that sum in a sandbox is worth. -/
noncomputable def Try.pinned : Pinned := { name := "ytmnkloghenjmoaa", sum := "2903b4ff08faabcd5459a72d986f3f93456ee578d5d8773179d86da597dd8797", checked := Try.checked }
namespace Rows
def none {H : Type} : Left H := { results := [], args := [] }

/-- 'laws.FnExactConstants': WHATEVER THE INPUT: true; the input reads as it did. -/
def fnExactConstantsSpec : ChangeSpec := { name := "fnExactConstants", fn := fun _ => fun
  | [] => { results := [.lit (.bool true)], args := [] }
  | _ => none }
def fnExactConstantsRow : OpenClaim := { program := "ytmnkloghenjmoaa", sum := "2903b4ff08faabcd5459a72d986f3f93456ee578d5d8773179d86da597dd8797", func := "loop.example/g01125/laws.FnExactConstants", spec := "fnExactConstants", apart := false }
def FnExactConstantsSaid : Prop := fnExactConstantsRow.holds Try.pinned (OpenSpec.ofChange fnExactConstantsSpec)

/-- ITS FALSE NEIGHBOUR: 'it returns false'. Refute it at one input. -/
def fnExactConstantsWrong : ChangeSpec := { name := "fnExactConstants", fn := fun _ => fun
  | [] => { results := [.lit (.bool false)], args := [] }
  | _ => none }
def FnExactConstantsWrongFalsely : Prop := fnExactConstantsRow.holds Try.pinned (OpenSpec.ofChange fnExactConstantsWrong)

/-- 'laws.FnExactAreLengths': WHATEVER THE INPUT: true; the input reads as it did. -/
def fnExactAreLengthsSpec : ChangeSpec := { name := "fnExactAreLengths", fn := fun _ => fun
  | [d] => { results := [.lit (.bool true)], args := [d] }
  | _ => none }
def fnExactAreLengthsRow : OpenClaim := { program := "ytmnkloghenjmoaa", sum := "2903b4ff08faabcd5459a72d986f3f93456ee578d5d8773179d86da597dd8797", func := "loop.example/g01125/laws.FnExactAreLengths", spec := "fnExactAreLengths", apart := false }
def FnExactAreLengthsSaid : Prop := fnExactAreLengthsRow.holds Try.pinned (OpenSpec.ofChange fnExactAreLengthsSpec)

/-- ITS FALSE NEIGHBOUR: 'it returns false'. Refute it at one input. -/
def fnExactAreLengthsWrong : ChangeSpec := { name := "fnExactAreLengths", fn := fun _ => fun
  | [d] => { results := [.lit (.bool false)], args := [d] }
  | _ => none }
def FnExactAreLengthsWrongFalsely : Prop := fnExactAreLengthsRow.holds Try.pinned (OpenSpec.ofChange fnExactAreLengthsWrong)

/-- 'laws.FnExactCountRooks': WHATEVER THE INPUT: true; the input reads as it did. -/
def fnExactCountRooksSpec : ChangeSpec := { name := "fnExactCountRooks", fn := fun _ => fun
  | [d] => { results := [.lit (.bool true)], args := [d] }
  | _ => none }
def fnExactCountRooksRow : OpenClaim := { program := "ytmnkloghenjmoaa", sum := "2903b4ff08faabcd5459a72d986f3f93456ee578d5d8773179d86da597dd8797", func := "loop.example/g01125/laws.FnExactCountRooks", spec := "fnExactCountRooks", unfollowed := true, recurses := true, apart := false }
def FnExactCountRooksSaid : Prop := fnExactCountRooksRow.holds Try.pinned (OpenSpec.ofChange fnExactCountRooksSpec)

/-- ITS FALSE NEIGHBOUR: 'it returns false'. Refute it at one input. -/
def fnExactCountRooksWrong : ChangeSpec := { name := "fnExactCountRooks", fn := fun _ => fun
  | [d] => { results := [.lit (.bool false)], args := [d] }
  | _ => none }
def FnExactCountRooksWrongFalsely : Prop := fnExactCountRooksRow.holds Try.pinned (OpenSpec.ofChange fnExactCountRooksWrong)

/-- 'laws.FnExactFullBoard': WHATEVER THE INPUT: true; the input reads as it did. -/
def fnExactFullBoardSpec : ChangeSpec := { name := "fnExactFullBoard", fn := fun _ => fun
  | [d1, d2] => { results := [.lit (.bool true)], args := [d1, d2] }
  | _ => none }
def fnExactFullBoardRow : OpenClaim := { program := "ytmnkloghenjmoaa", sum := "2903b4ff08faabcd5459a72d986f3f93456ee578d5d8773179d86da597dd8797", func := "loop.example/g01125/laws.FnExactFullBoard", spec := "fnExactFullBoard", apart := false }
def FnExactFullBoardSaid : Prop := fnExactFullBoardRow.holds Try.pinned (OpenSpec.ofChange fnExactFullBoardSpec)

/-- ITS FALSE NEIGHBOUR: 'it returns false'. Refute it at one input. -/
def fnExactFullBoardWrong : ChangeSpec := { name := "fnExactFullBoard", fn := fun _ => fun
  | [d1, d2] => { results := [.lit (.bool false)], args := [d1, d2] }
  | _ => none }
def FnExactFullBoardWrongFalsely : Prop := fnExactFullBoardRow.holds Try.pinned (OpenSpec.ofChange fnExactFullBoardWrong)

/-- 'laws.FnExactIsBoard': WHATEVER THE INPUT: true; the input reads as it did. -/
def fnExactIsBoardSpec : ChangeSpec := { name := "fnExactIsBoard", fn := fun _ => fun
  | [d] => { results := [.lit (.bool true)], args := [d] }
  | _ => none }
def fnExactIsBoardRow : OpenClaim := { program := "ytmnkloghenjmoaa", sum := "2903b4ff08faabcd5459a72d986f3f93456ee578d5d8773179d86da597dd8797", func := "loop.example/g01125/laws.FnExactIsBoard", spec := "fnExactIsBoard", unfollowed := true, recurses := true, apart := false }
def FnExactIsBoardSaid : Prop := fnExactIsBoardRow.holds Try.pinned (OpenSpec.ofChange fnExactIsBoardSpec)

/-- ITS FALSE NEIGHBOUR: 'it returns false'. Refute it at one input. -/
def fnExactIsBoardWrong : ChangeSpec := { name := "fnExactIsBoard", fn := fun _ => fun
  | [d] => { results := [.lit (.bool false)], args := [d] }
  | _ => none }
def FnExactIsBoardWrongFalsely : Prop := fnExactIsBoardRow.holds Try.pinned (OpenSpec.ofChange fnExactIsBoardWrong)

/-- 'laws.FnExactFullPlacements': WHATEVER THE INPUT: true; the input reads as it did. -/
def fnExactFullPlacementsSpec : ChangeSpec := { name := "fnExactFullPlacements", fn := fun _ => fun
  | [d] => { results := [.lit (.bool true)], args := [d] }
  | _ => none }
def fnExactFullPlacementsRow : OpenClaim := { program := "ytmnkloghenjmoaa", sum := "2903b4ff08faabcd5459a72d986f3f93456ee578d5d8773179d86da597dd8797", func := "loop.example/g01125/laws.FnExactFullPlacements", spec := "fnExactFullPlacements", apart := false }
def FnExactFullPlacementsSaid : Prop := fnExactFullPlacementsRow.holds Try.pinned (OpenSpec.ofChange fnExactFullPlacementsSpec)

/-- ITS FALSE NEIGHBOUR: 'it returns false'. Refute it at one input. -/
def fnExactFullPlacementsWrong : ChangeSpec := { name := "fnExactFullPlacements", fn := fun _ => fun
  | [d] => { results := [.lit (.bool false)], args := [d] }
  | _ => none }
def FnExactFullPlacementsWrongFalsely : Prop := fnExactFullPlacementsRow.holds Try.pinned (OpenSpec.ofChange fnExactFullPlacementsWrong)

/- THE SECOND FORM. 'bulk': how many values and letters a reading holds, each counted each time it is reached (what is shared counts as often as it is met; a slice's spare places count too). A statement '..UptoSaid' is the law's where the arguments, and the package variables that the reading takes, are together of bulk at most 1048576: NARROWER than '..Said'. Prove '..Said' where nothing that the law and all that it calls make is longer than what came in: it says more and counts as full. Else prove '..UptoSaid'. A law counts once. -/
mutual
def uptoBulk {H : Type} : DataW H → Nat
  | .lit (.string bytes) => bytes.length + 1
  | .lit _ => 1
  | .nil => 1
  | .ptr d => uptoBulk d + 1
  | .slice elems spare => uptoBulkAll elems + uptoBulkAll spare + 1
  | .agg parts => uptoBulkAll parts + 1
  | .iface _ d => uptoBulk d + 1
  | .map entries => uptoBulkEntries entries + 1
  | .held _ => 1
def uptoBulkAll {H : Type} : List (DataW H) → Nat
  | [] => 0
  | d :: r => uptoBulk d + uptoBulkAll r
def uptoBulkEntries {H : Type} : List (Lit × DataW H) → Nat
  | [] => 0
  | x :: r => uptoBulkEntry x + uptoBulkEntries r
def uptoBulkEntry {H : Type} : Lit × DataW H → Nat
  | (.string bytes, d) => bytes.length + uptoBulk d + 1
  | (_, d) => uptoBulk d + 1
 end
def uptoSmall : (H : Type) → List (DataW H) → Bool := fun _ ds => decide (uptoBulkAll ds ≤ 1048576)
def OpenSpec.upto (s : _root_.Go.ChangeSpec) : _root_.Go.OpenSpec := { _root_.Go.OpenSpec.ofChange s with cond := some uptoSmall }

/-- 'laws.FnExactConstants', WHERE WHAT IT READS IS OF BULK AT MOST 1048576: true; the input reads as it did. -/
def fnExactConstantsUptoRow : OpenClaim := { program := "ytmnkloghenjmoaa", sum := "2903b4ff08faabcd5459a72d986f3f93456ee578d5d8773179d86da597dd8797", func := "loop.example/g01125/laws.FnExactConstants", spec := "fnExactConstants", apart := false, narrowed := true }
def FnExactConstantsUptoSaid : Prop := fnExactConstantsUptoRow.holds Try.pinned (OpenSpec.upto fnExactConstantsSpec)

/-- 'laws.FnExactAreLengths', WHERE WHAT IT READS IS OF BULK AT MOST 1048576: true; the input reads as it did. -/
def fnExactAreLengthsUptoRow : OpenClaim := { program := "ytmnkloghenjmoaa", sum := "2903b4ff08faabcd5459a72d986f3f93456ee578d5d8773179d86da597dd8797", func := "loop.example/g01125/laws.FnExactAreLengths", spec := "fnExactAreLengths", apart := false, narrowed := true }
def FnExactAreLengthsUptoSaid : Prop := fnExactAreLengthsUptoRow.holds Try.pinned (OpenSpec.upto fnExactAreLengthsSpec)

/-- 'laws.FnExactCountRooks', WHERE WHAT IT READS IS OF BULK AT MOST 1048576: true; the input reads as it did. -/
def fnExactCountRooksUptoRow : OpenClaim := { program := "ytmnkloghenjmoaa", sum := "2903b4ff08faabcd5459a72d986f3f93456ee578d5d8773179d86da597dd8797", func := "loop.example/g01125/laws.FnExactCountRooks", spec := "fnExactCountRooks", unfollowed := true, recurses := true, apart := false, narrowed := true }
def FnExactCountRooksUptoSaid : Prop := fnExactCountRooksUptoRow.holds Try.pinned (OpenSpec.upto fnExactCountRooksSpec)

/-- 'laws.FnExactFullBoard', WHERE WHAT IT READS IS OF BULK AT MOST 1048576: true; the input reads as it did. -/
def fnExactFullBoardUptoRow : OpenClaim := { program := "ytmnkloghenjmoaa", sum := "2903b4ff08faabcd5459a72d986f3f93456ee578d5d8773179d86da597dd8797", func := "loop.example/g01125/laws.FnExactFullBoard", spec := "fnExactFullBoard", apart := false, narrowed := true }
def FnExactFullBoardUptoSaid : Prop := fnExactFullBoardUptoRow.holds Try.pinned (OpenSpec.upto fnExactFullBoardSpec)

/-- 'laws.FnExactIsBoard', WHERE WHAT IT READS IS OF BULK AT MOST 1048576: true; the input reads as it did. -/
def fnExactIsBoardUptoRow : OpenClaim := { program := "ytmnkloghenjmoaa", sum := "2903b4ff08faabcd5459a72d986f3f93456ee578d5d8773179d86da597dd8797", func := "loop.example/g01125/laws.FnExactIsBoard", spec := "fnExactIsBoard", unfollowed := true, recurses := true, apart := false, narrowed := true }
def FnExactIsBoardUptoSaid : Prop := fnExactIsBoardUptoRow.holds Try.pinned (OpenSpec.upto fnExactIsBoardSpec)

/-- 'laws.FnExactFullPlacements', WHERE WHAT IT READS IS OF BULK AT MOST 1048576: true; the input reads as it did. -/
def fnExactFullPlacementsUptoRow : OpenClaim := { program := "ytmnkloghenjmoaa", sum := "2903b4ff08faabcd5459a72d986f3f93456ee578d5d8773179d86da597dd8797", func := "loop.example/g01125/laws.FnExactFullPlacements", spec := "fnExactFullPlacements", apart := false, narrowed := true }
def FnExactFullPlacementsUptoSaid : Prop := fnExactFullPlacementsUptoRow.holds Try.pinned (OpenSpec.upto fnExactFullPlacementsSpec)

end Rows
end Go.Proofs.Ytmnkloghenjmoaa
