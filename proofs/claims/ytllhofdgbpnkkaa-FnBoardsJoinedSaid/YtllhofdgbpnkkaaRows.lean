/-
  No cell of these rows narrows 'for every input' (looked for: loops, veiled, ifaces, maps, wideKeys, modest, calm, conditions, laid).
  DERIVED. THE GIVEN ROWS OF THIS SEAT. 3 by the template 'for every input the law returns true; each argument reads behind the call as it read before'; 0 by the template 'total and deterministic' (their statements: YtllhofdgbpnkkaaTotals.lean).
  GIVEN WITH THE SEED: the statements are not yours to turn. If you find one false, say at which input.
  Laid BY PROGRAM, IN A SANDBOX (cutbox-rows.mjs): the forced cells as the released guide's own fill.sh prints them over the translation 4b6b4b98c0a7ded3… (all of the seat's roots in one cut). By AI agents, Wed Nov 11 2026. No macro, syntax, notation, axiom, sorry.
-/
import Derived.Test.YtllhofdgbpnkkaaChecked
import GoSem.Claim
import GoSem.ClaimJoined
import GoSem.ClaimMapViews
import Derived.JoinedTies
import Derived.KernelRfl
namespace Go.Proofs.Ytllhofdgbpnkkaa
/- THE CELL 'sum', in the pinned program and in every row, IS THE sha256 OF THE DUMP (.gsa) THAT YtllhofdgbpnkkaaProg.lean LOADS. Nothing in Lean hashes anything: it is a label: what it is worth is what the hold of that sum in a sandbox is worth. -/
noncomputable def Try.pinned : Pinned := { name := "ytllhofdgbpnkkaa", sum := "4b6b4b98c0a7ded364e0c4ef24ceb06506736ebc9425e6149852ce313c2a347e", checked := Try.checked }
namespace Rows
def none {H : Type} : Left H := { results := [], args := [] }

/-- 'laws.FnBoardsJoined': WHATEVER THE INPUT: true; the input reads as it did. -/
def fnBoardsJoinedSpec : ChangeSpec := { name := "fnBoardsJoined", fn := fun _ => fun
  | [d1, d2] => { results := [.lit (.bool true)], args := [d1, d2] }
  | _ => none }
def fnBoardsJoinedRow : OpenClaim := { program := "ytllhofdgbpnkkaa", sum := "4b6b4b98c0a7ded364e0c4ef24ceb06506736ebc9425e6149852ce313c2a347e", func := "loop.example/g01125/laws.FnBoardsJoined", spec := "fnBoardsJoined", unfollowed := true, recurses := true, apart := false }
def FnBoardsJoinedSaid : Prop := fnBoardsJoinedRow.holds Try.pinned (OpenSpec.ofChange fnBoardsJoinedSpec)

/-- ITS FALSE NEIGHBOUR: 'it returns false'. Refute it at one input. -/
def fnBoardsJoinedWrong : ChangeSpec := { name := "fnBoardsJoined", fn := fun _ => fun
  | [d1, d2] => { results := [.lit (.bool false)], args := [d1, d2] }
  | _ => none }
def FnBoardsJoinedWrongFalsely : Prop := fnBoardsJoinedRow.holds Try.pinned (OpenSpec.ofChange fnBoardsJoinedWrong)

/-- 'laws.FnRookNumbersMultiply': WHATEVER THE INPUT: true; the input reads as it did. -/
def fnRookNumbersMultiplySpec : ChangeSpec := { name := "fnRookNumbersMultiply", fn := fun _ => fun
  | [d1, d2] => { results := [.lit (.bool true)], args := [d1, d2] }
  | _ => none }
def fnRookNumbersMultiplyRow : OpenClaim := { program := "ytllhofdgbpnkkaa", sum := "4b6b4b98c0a7ded364e0c4ef24ceb06506736ebc9425e6149852ce313c2a347e", func := "loop.example/g01125/laws.FnRookNumbersMultiply", spec := "fnRookNumbersMultiply", unfollowed := true, recurses := true, apart := false }
def FnRookNumbersMultiplySaid : Prop := fnRookNumbersMultiplyRow.holds Try.pinned (OpenSpec.ofChange fnRookNumbersMultiplySpec)

/-- ITS FALSE NEIGHBOUR: 'it returns false'. Refute it at one input. -/
def fnRookNumbersMultiplyWrong : ChangeSpec := { name := "fnRookNumbersMultiply", fn := fun _ => fun
  | [d1, d2] => { results := [.lit (.bool false)], args := [d1, d2] }
  | _ => none }
def FnRookNumbersMultiplyWrongFalsely : Prop := fnRookNumbersMultiplyRow.holds Try.pinned (OpenSpec.ofChange fnRookNumbersMultiplyWrong)

/-- 'laws.FnPlacementsListed': WHATEVER THE INPUT: true; the input reads as it did. -/
def fnPlacementsListedSpec : ChangeSpec := { name := "fnPlacementsListed", fn := fun _ => fun
  | [d1, d2] => { results := [.lit (.bool true)], args := [d1, d2] }
  | _ => none }
def fnPlacementsListedRow : OpenClaim := { program := "ytllhofdgbpnkkaa", sum := "4b6b4b98c0a7ded364e0c4ef24ceb06506736ebc9425e6149852ce313c2a347e", func := "loop.example/g01125/laws.FnPlacementsListed", spec := "fnPlacementsListed", unfollowed := true, recurses := true, apart := false }
def FnPlacementsListedSaid : Prop := fnPlacementsListedRow.holds Try.pinned (OpenSpec.ofChange fnPlacementsListedSpec)

/-- ITS FALSE NEIGHBOUR: 'it returns false'. Refute it at one input. -/
def fnPlacementsListedWrong : ChangeSpec := { name := "fnPlacementsListed", fn := fun _ => fun
  | [d1, d2] => { results := [.lit (.bool false)], args := [d1, d2] }
  | _ => none }
def FnPlacementsListedWrongFalsely : Prop := fnPlacementsListedRow.holds Try.pinned (OpenSpec.ofChange fnPlacementsListedWrong)

/- THE SECOND FORM. 'bulk': how many values and letters a reading holds, each counted each time it is reached (what is shared counts as often as it is met; a slice's spare places count too). A statement '..UptoSaid' is the law's where the arguments, and the package variables that the reading takes, are together of bulk at most 1048576: NARROWER than '..Said'. Prove '..Said' where nothing that the law and all that it calls make is longer than what came in: it says more and counts as full. Else prove '..UptoSaid'. A law counts once. -/
mutual
def uptoBulk {H : Type} : DataW H → Nat
  | .lit (.string bytes) => bytes.length + 1
  | .lit _ => 1
  | .nil => 1
  | .ptr d => uptoBulk d + 1
  | .slice elems spare => uptoBulkAll elems + uptoBulkAll spare + 1
  | .agg parts => uptoBulkAll parts + 1
  | .iface _ d => uptoBulk d + 1
  | .map entries => uptoBulkEntries entries + 1
  | .held _ => 1
def uptoBulkAll {H : Type} : List (DataW H) → Nat
  | [] => 0
  | d :: r => uptoBulk d + uptoBulkAll r
def uptoBulkEntries {H : Type} : List (Lit × DataW H) → Nat
  | [] => 0
  | x :: r => uptoBulkEntry x + uptoBulkEntries r
def uptoBulkEntry {H : Type} : Lit × DataW H → Nat
  | (.string bytes, d) => bytes.length + uptoBulk d + 1
  | (_, d) => uptoBulk d + 1
 end
def uptoSmall : (H : Type) → List (DataW H) → Bool := fun _ ds => decide (uptoBulkAll ds ≤ 1048576)
def OpenSpec.upto (s : _root_.Go.ChangeSpec) : _root_.Go.OpenSpec := { _root_.Go.OpenSpec.ofChange s with cond := some uptoSmall }

/-- 'laws.FnBoardsJoined', WHERE WHAT IT READS IS OF BULK AT MOST 1048576: true; the input reads as it did. -/
def fnBoardsJoinedUptoRow : OpenClaim := { program := "ytllhofdgbpnkkaa", sum := "4b6b4b98c0a7ded364e0c4ef24ceb06506736ebc9425e6149852ce313c2a347e", func := "loop.example/g01125/laws.FnBoardsJoined", spec := "fnBoardsJoined", unfollowed := true, recurses := true, apart := false, narrowed := true }
def FnBoardsJoinedUptoSaid : Prop := fnBoardsJoinedUptoRow.holds Try.pinned (OpenSpec.upto fnBoardsJoinedSpec)

/-- 'laws.FnRookNumbersMultiply', WHERE WHAT IT READS IS OF BULK AT MOST 1048576: true; the input reads as it did. -/
def fnRookNumbersMultiplyUptoRow : OpenClaim := { program := "ytllhofdgbpnkkaa", sum := "4b6b4b98c0a7ded364e0c4ef24ceb06506736ebc9425e6149852ce313c2a347e", func := "loop.example/g01125/laws.FnRookNumbersMultiply", spec := "fnRookNumbersMultiply", unfollowed := true, recurses := true, apart := false, narrowed := true }
def FnRookNumbersMultiplyUptoSaid : Prop := fnRookNumbersMultiplyUptoRow.holds Try.pinned (OpenSpec.upto fnRookNumbersMultiplySpec)

/-- 'laws.FnPlacementsListed', WHERE WHAT IT READS IS OF BULK AT MOST 1048576: true; the input reads as it did. -/
def fnPlacementsListedUptoRow : OpenClaim := { program := "ytllhofdgbpnkkaa", sum := "4b6b4b98c0a7ded364e0c4ef24ceb06506736ebc9425e6149852ce313c2a347e", func := "loop.example/g01125/laws.FnPlacementsListed", spec := "fnPlacementsListed", unfollowed := true, recurses := true, apart := false, narrowed := true }
def FnPlacementsListedUptoSaid : Prop := fnPlacementsListedUptoRow.holds Try.pinned (OpenSpec.upto fnPlacementsListedSpec)

end Rows
end Go.Proofs.Ytllhofdgbpnkkaa
