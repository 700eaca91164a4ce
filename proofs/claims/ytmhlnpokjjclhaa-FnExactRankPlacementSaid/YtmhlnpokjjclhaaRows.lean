/-
  No cell of these rows narrows 'for every input' (looked for: loops, veiled, ifaces, maps, wideKeys, modest, calm, conditions, laid).
  DERIVED. THE GIVEN ROWS OF THIS SEAT. 5 by the template 'for every input the law returns true; each argument reads behind the call as it read before'; 0 by the template 'total and deterministic' (their statements: YtmhlnpokjjclhaaTotals.lean).
  GIVEN WITH THE SEED: the statements are not yours to turn. If you find one false, say at which input.
  Laid BY PROGRAM, IN A SANDBOX (cutbox-rows.mjs): the forced cells as the released guide's own fill.sh prints them over the translation 34ed68d1f2d0b043… (all of the seat's roots in one cut). By AI agents, Wed Nov 11 2026. No macro, syntax, notation, axiom, sorry.
-/
import Derived.Test.YtmhlnpokjjclhaaChecked
import GoSem.Claim
import GoSem.ClaimJoined
import GoSem.ClaimMapViews
import Derived.JoinedTies
import Derived.KernelRfl
namespace Go.Proofs.Ytmhlnpokjjclhaa
/- THE CELL 'sum', in the pinned program and in every row, IS THE sha256 OF THE DUMP (.gsa) THAT YtmhlnpokjjclhaaProg.lean LOADS. Nothing in Lean hashes anything: it is a label: what it is worth is what the hold of that sum in a sandbox is worth. -/
noncomputable def Try.pinned : Pinned := { name := "ytmhlnpokjjclhaa", sum := "34ed68d1f2d0b04395b1fd94c2796bd22bb4bf8edfa9720c7217fd9ce28c6b12", checked := Try.checked }
namespace Rows
def none {H : Type} : Left H := { results := [], args := [] }

/-- 'laws.FnExactCountWithCell': WHATEVER THE INPUT: true; the input reads as it did. -/
def fnExactCountWithCellSpec : ChangeSpec := { name := "fnExactCountWithCell", fn := fun _ => fun
  | [d1, d2, d3, d4] => { results := [.lit (.bool true)], args := [d1, d2, d3, d4] }
  | _ => none }
def fnExactCountWithCellRow : OpenClaim := { program := "ytmhlnpokjjclhaa", sum := "34ed68d1f2d0b04395b1fd94c2796bd22bb4bf8edfa9720c7217fd9ce28c6b12", func := "loop.example/g01125/laws.FnExactCountWithCell", spec := "fnExactCountWithCell", unfollowed := true, recurses := true, apart := false }
def FnExactCountWithCellSaid : Prop := fnExactCountWithCellRow.holds Try.pinned (OpenSpec.ofChange fnExactCountWithCellSpec)

/-- ITS FALSE NEIGHBOUR: 'it returns false'. Refute it at one input. -/
def fnExactCountWithCellWrong : ChangeSpec := { name := "fnExactCountWithCell", fn := fun _ => fun
  | [d1, d2, d3, d4] => { results := [.lit (.bool false)], args := [d1, d2, d3, d4] }
  | _ => none }
def FnExactCountWithCellWrongFalsely : Prop := fnExactCountWithCellRow.holds Try.pinned (OpenSpec.ofChange fnExactCountWithCellWrong)

/-- 'laws.FnExactPlacementWith': WHATEVER THE INPUT: true; the input reads as it did. -/
def fnExactPlacementWithSpec : ChangeSpec := { name := "fnExactPlacementWith", fn := fun _ => fun
  | [d1, d2, d3] => { results := [.lit (.bool true)], args := [d1, d2, d3] }
  | _ => none }
def fnExactPlacementWithRow : OpenClaim := { program := "ytmhlnpokjjclhaa", sum := "34ed68d1f2d0b04395b1fd94c2796bd22bb4bf8edfa9720c7217fd9ce28c6b12", func := "loop.example/g01125/laws.FnExactPlacementWith", spec := "fnExactPlacementWith", unfollowed := true, recurses := true, apart := false }
def FnExactPlacementWithSaid : Prop := fnExactPlacementWithRow.holds Try.pinned (OpenSpec.ofChange fnExactPlacementWithSpec)

/-- ITS FALSE NEIGHBOUR: 'it returns false'. Refute it at one input. -/
def fnExactPlacementWithWrong : ChangeSpec := { name := "fnExactPlacementWith", fn := fun _ => fun
  | [d1, d2, d3] => { results := [.lit (.bool false)], args := [d1, d2, d3] }
  | _ => none }
def FnExactPlacementWithWrongFalsely : Prop := fnExactPlacementWithRow.holds Try.pinned (OpenSpec.ofChange fnExactPlacementWithWrong)

/-- 'laws.FnExactRankPlacement': WHATEVER THE INPUT: true; the input reads as it did. -/
def fnExactRankPlacementSpec : ChangeSpec := { name := "fnExactRankPlacement", fn := fun _ => fun
  | [d1, d2] => { results := [.lit (.bool true)], args := [d1, d2] }
  | _ => none }
def fnExactRankPlacementRow : OpenClaim := { program := "ytmhlnpokjjclhaa", sum := "34ed68d1f2d0b04395b1fd94c2796bd22bb4bf8edfa9720c7217fd9ce28c6b12", func := "loop.example/g01125/laws.FnExactRankPlacement", spec := "fnExactRankPlacement", unfollowed := true, recurses := true, apart := false }
def FnExactRankPlacementSaid : Prop := fnExactRankPlacementRow.holds Try.pinned (OpenSpec.ofChange fnExactRankPlacementSpec)

/-- ITS FALSE NEIGHBOUR: 'it returns false'. Refute it at one input. -/
def fnExactRankPlacementWrong : ChangeSpec := { name := "fnExactRankPlacement", fn := fun _ => fun
  | [d1, d2] => { results := [.lit (.bool false)], args := [d1, d2] }
  | _ => none }
def FnExactRankPlacementWrongFalsely : Prop := fnExactRankPlacementRow.holds Try.pinned (OpenSpec.ofChange fnExactRankPlacementWrong)

/-- 'laws.FnExactPlacementsOf': WHATEVER THE INPUT: true; the input reads as it did. -/
def fnExactPlacementsOfSpec : ChangeSpec := { name := "fnExactPlacementsOf", fn := fun _ => fun
  | [d1, d2] => { results := [.lit (.bool true)], args := [d1, d2] }
  | _ => none }
def fnExactPlacementsOfRow : OpenClaim := { program := "ytmhlnpokjjclhaa", sum := "34ed68d1f2d0b04395b1fd94c2796bd22bb4bf8edfa9720c7217fd9ce28c6b12", func := "loop.example/g01125/laws.FnExactPlacementsOf", spec := "fnExactPlacementsOf", unfollowed := true, recurses := true, apart := false }
def FnExactPlacementsOfSaid : Prop := fnExactPlacementsOfRow.holds Try.pinned (OpenSpec.ofChange fnExactPlacementsOfSpec)

/-- ITS FALSE NEIGHBOUR: 'it returns false'. Refute it at one input. -/
def fnExactPlacementsOfWrong : ChangeSpec := { name := "fnExactPlacementsOf", fn := fun _ => fun
  | [d1, d2] => { results := [.lit (.bool false)], args := [d1, d2] }
  | _ => none }
def FnExactPlacementsOfWrongFalsely : Prop := fnExactPlacementsOfRow.holds Try.pinned (OpenSpec.ofChange fnExactPlacementsOfWrong)

/-- 'laws.FnExactTurnPlacement': WHATEVER THE INPUT: true; the input reads as it did. -/
def fnExactTurnPlacementSpec : ChangeSpec := { name := "fnExactTurnPlacement", fn := fun _ => fun
  | [d1, d2] => { results := [.lit (.bool true)], args := [d1, d2] }
  | _ => none }
def fnExactTurnPlacementRow : OpenClaim := { program := "ytmhlnpokjjclhaa", sum := "34ed68d1f2d0b04395b1fd94c2796bd22bb4bf8edfa9720c7217fd9ce28c6b12", func := "loop.example/g01125/laws.FnExactTurnPlacement", spec := "fnExactTurnPlacement", unfollowed := true, recurses := true, apart := false }
def FnExactTurnPlacementSaid : Prop := fnExactTurnPlacementRow.holds Try.pinned (OpenSpec.ofChange fnExactTurnPlacementSpec)

/-- ITS FALSE NEIGHBOUR: 'it returns false'. Refute it at one input. -/
def fnExactTurnPlacementWrong : ChangeSpec := { name := "fnExactTurnPlacement", fn := fun _ => fun
  | [d1, d2] => { results := [.lit (.bool false)], args := [d1, d2] }
  | _ => none }
def FnExactTurnPlacementWrongFalsely : Prop := fnExactTurnPlacementRow.holds Try.pinned (OpenSpec.ofChange fnExactTurnPlacementWrong)

/- THE SECOND FORM. 'bulk': how many values and letters a reading holds, each counted each time it is reached (what is shared counts as often as it is met; a slice's spare places count too). A statement '..UptoSaid' is the law's where the arguments, and the package variables that the reading takes, are together of bulk at most 1048576: NARROWER than '..Said'. Prove '..Said' where nothing that the law and all that it calls make is longer than what came in: it says more and counts as full. Else prove '..UptoSaid'. A law counts once. -/
mutual
def uptoBulk {H : Type} : DataW H → Nat
  | .lit (.string bytes) => bytes.length + 1
  | .lit _ => 1
  | .nil => 1
  | .ptr d => uptoBulk d + 1
  | .slice elems spare => uptoBulkAll elems + uptoBulkAll spare + 1
  | .agg parts => uptoBulkAll parts + 1
  | .iface _ d => uptoBulk d + 1
  | .map entries => uptoBulkEntries entries + 1
  | .held _ => 1
def uptoBulkAll {H : Type} : List (DataW H) → Nat
  | [] => 0
  | d :: r => uptoBulk d + uptoBulkAll r
def uptoBulkEntries {H : Type} : List (Lit × DataW H) → Nat
  | [] => 0
  | x :: r => uptoBulkEntry x + uptoBulkEntries r
def uptoBulkEntry {H : Type} : Lit × DataW H → Nat
  | (.string bytes, d) => bytes.length + uptoBulk d + 1
  | (_, d) => uptoBulk d + 1
 end
def uptoSmall : (H : Type) → List (DataW H) → Bool := fun _ ds => decide (uptoBulkAll ds ≤ 1048576)
def OpenSpec.upto (s : _root_.Go.ChangeSpec) : _root_.Go.OpenSpec := { _root_.Go.OpenSpec.ofChange s with cond := some uptoSmall }

/-- 'laws.FnExactCountWithCell', WHERE WHAT IT READS IS OF BULK AT MOST 1048576: true; the input reads as it did. -/
def fnExactCountWithCellUptoRow : OpenClaim := { program := "ytmhlnpokjjclhaa", sum := "34ed68d1f2d0b04395b1fd94c2796bd22bb4bf8edfa9720c7217fd9ce28c6b12", func := "loop.example/g01125/laws.FnExactCountWithCell", spec := "fnExactCountWithCell", unfollowed := true, recurses := true, apart := false, narrowed := true }
def FnExactCountWithCellUptoSaid : Prop := fnExactCountWithCellUptoRow.holds Try.pinned (OpenSpec.upto fnExactCountWithCellSpec)

/-- 'laws.FnExactPlacementWith', WHERE WHAT IT READS IS OF BULK AT MOST 1048576: true; the input reads as it did. -/
def fnExactPlacementWithUptoRow : OpenClaim := { program := "ytmhlnpokjjclhaa", sum := "34ed68d1f2d0b04395b1fd94c2796bd22bb4bf8edfa9720c7217fd9ce28c6b12", func := "loop.example/g01125/laws.FnExactPlacementWith", spec := "fnExactPlacementWith", unfollowed := true, recurses := true, apart := false, narrowed := true }
def FnExactPlacementWithUptoSaid : Prop := fnExactPlacementWithUptoRow.holds Try.pinned (OpenSpec.upto fnExactPlacementWithSpec)

/-- 'laws.FnExactRankPlacement', WHERE WHAT IT READS IS OF BULK AT MOST 1048576: true; the input reads as it did. -/
def fnExactRankPlacementUptoRow : OpenClaim := { program := "ytmhlnpokjjclhaa", sum := "34ed68d1f2d0b04395b1fd94c2796bd22bb4bf8edfa9720c7217fd9ce28c6b12", func := "loop.example/g01125/laws.FnExactRankPlacement", spec := "fnExactRankPlacement", unfollowed := true, recurses := true, apart := false, narrowed := true }
def FnExactRankPlacementUptoSaid : Prop := fnExactRankPlacementUptoRow.holds Try.pinned (OpenSpec.upto fnExactRankPlacementSpec)

/-- 'laws.FnExactPlacementsOf', WHERE WHAT IT READS IS OF BULK AT MOST 1048576: true; the input reads as it did. -/
def fnExactPlacementsOfUptoRow : OpenClaim := { program := "ytmhlnpokjjclhaa", sum := "34ed68d1f2d0b04395b1fd94c2796bd22bb4bf8edfa9720c7217fd9ce28c6b12", func := "loop.example/g01125/laws.FnExactPlacementsOf", spec := "fnExactPlacementsOf", unfollowed := true, recurses := true, apart := false, narrowed := true }
def FnExactPlacementsOfUptoSaid : Prop := fnExactPlacementsOfUptoRow.holds Try.pinned (OpenSpec.upto fnExactPlacementsOfSpec)

/-- 'laws.FnExactTurnPlacement', WHERE WHAT IT READS IS OF BULK AT MOST 1048576: true; the input reads as it did. -/
def fnExactTurnPlacementUptoRow : OpenClaim := { program := "ytmhlnpokjjclhaa", sum := "34ed68d1f2d0b04395b1fd94c2796bd22bb4bf8edfa9720c7217fd9ce28c6b12", func := "loop.example/g01125/laws.FnExactTurnPlacement", spec := "fnExactTurnPlacement", unfollowed := true, recurses := true, apart := false, narrowed := true }
def FnExactTurnPlacementUptoSaid : Prop := fnExactTurnPlacementUptoRow.holds Try.pinned (OpenSpec.upto fnExactTurnPlacementSpec)

end Rows
end Go.Proofs.Ytmhlnpokjjclhaa
