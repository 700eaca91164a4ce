/-
  No cell of these rows narrows 'for every input' (looked for: loops, veiled, ifaces, maps, wideKeys, modest, calm, conditions, laid).
  DERIVED. THE GIVEN ROWS OF THIS SEAT. 4 by the template 'for every input the law returns true; each argument reads behind the call as it read before'; 0 by the template 'total and deterministic' (their statements: YtbjijnehgjfhlaaTotals.lean).
  GIVEN WITH THE SEED: the statements are not yours to turn. If you find one false, say at which input.
  Laid BY PROGRAM, IN A SANDBOX (cutbox-rows.mjs): the forced cells as the released guide's own fill.sh prints them over the translation 08ad8f4d9029f0d7… (all of the seat's roots in one cut). By AI agents, Wed Nov 11 2026. No macro, syntax, notation, axiom, sorry.
-/
import Derived.Test.YtbjijnehgjfhlaaChecked
import GoSem.Claim
import GoSem.ClaimJoined
import GoSem.ClaimMapViews
import Derived.JoinedTies
import Derived.KernelRfl
namespace Go.Proofs.Ytbjijnehgjfhlaa
/- THE CELL 'sum', in the pinned program and in every row, IS THE sha256 OF THE DUMP (.gsa) THAT YtbjijnehgjfhlaaProg.lean LOADS. Nothing in Lean hashes anything: it is a label: what it is worth is what the hold of that sum in a sandbox is worth. -/
noncomputable def Try.pinned : Pinned := { name := "ytbjijnehgjfhlaa", sum := "08ad8f4d9029f0d7c5fdd81e04c788af87bc0651991223e53b1c61bfa4c93b0a", checked := Try.checked }
namespace Rows
def none {H : Type} : Left H := { results := [], args := [] }

/-- 'laws.FnExactLengthsFrom': WHATEVER THE INPUT: true; the input reads as it did. -/
def fnExactLengthsFromSpec : ChangeSpec := { name := "fnExactLengthsFrom", fn := fun _ => fun
  | [d] => { results := [.lit (.bool true)], args := [d] }
  | _ => none }
def fnExactLengthsFromRow : OpenClaim := { program := "ytbjijnehgjfhlaa", sum := "08ad8f4d9029f0d7c5fdd81e04c788af87bc0651991223e53b1c61bfa4c93b0a", func := "loop.example/g01125/laws.FnExactLengthsFrom", spec := "fnExactLengthsFrom", unfollowed := true, recurses := true, apart := false }
def FnExactLengthsFromSaid : Prop := fnExactLengthsFromRow.holds Try.pinned (OpenSpec.ofChange fnExactLengthsFromSpec)

/-- ITS FALSE NEIGHBOUR: 'it returns false'. Refute it at one input. -/
def fnExactLengthsFromWrong : ChangeSpec := { name := "fnExactLengthsFrom", fn := fun _ => fun
  | [d] => { results := [.lit (.bool false)], args := [d] }
  | _ => none }
def FnExactLengthsFromWrongFalsely : Prop := fnExactLengthsFromRow.holds Try.pinned (OpenSpec.ofChange fnExactLengthsFromWrong)

/-- 'laws.FnExactClassOf': WHATEVER THE INPUT: true; the input reads as it did. -/
def fnExactClassOfSpec : ChangeSpec := { name := "fnExactClassOf", fn := fun _ => fun
  | [d] => { results := [.lit (.bool true)], args := [d] }
  | _ => none }
def fnExactClassOfRow : OpenClaim := { program := "ytbjijnehgjfhlaa", sum := "08ad8f4d9029f0d7c5fdd81e04c788af87bc0651991223e53b1c61bfa4c93b0a", func := "loop.example/g01125/laws.FnExactClassOf", spec := "fnExactClassOf", unfollowed := true, recurses := true, apart := false }
def FnExactClassOfSaid : Prop := fnExactClassOfRow.holds Try.pinned (OpenSpec.ofChange fnExactClassOfSpec)

/-- ITS FALSE NEIGHBOUR: 'it returns false'. Refute it at one input. -/
def fnExactClassOfWrong : ChangeSpec := { name := "fnExactClassOf", fn := fun _ => fun
  | [d] => { results := [.lit (.bool false)], args := [d] }
  | _ => none }
def FnExactClassOfWrongFalsely : Prop := fnExactClassOfRow.holds Try.pinned (OpenSpec.ofChange fnExactClassOfWrong)

/-- 'laws.FnExactStrictOf': WHATEVER THE INPUT: true; the input reads as it did. -/
def fnExactStrictOfSpec : ChangeSpec := { name := "fnExactStrictOf", fn := fun _ => fun
  | [d] => { results := [.lit (.bool true)], args := [d] }
  | _ => none }
def fnExactStrictOfRow : OpenClaim := { program := "ytbjijnehgjfhlaa", sum := "08ad8f4d9029f0d7c5fdd81e04c788af87bc0651991223e53b1c61bfa4c93b0a", func := "loop.example/g01125/laws.FnExactStrictOf", spec := "fnExactStrictOf", recurses := true, apart := false }
def FnExactStrictOfSaid : Prop := fnExactStrictOfRow.holds Try.pinned (OpenSpec.ofChange fnExactStrictOfSpec)

/-- ITS FALSE NEIGHBOUR: 'it returns false'. Refute it at one input. -/
def fnExactStrictOfWrong : ChangeSpec := { name := "fnExactStrictOf", fn := fun _ => fun
  | [d] => { results := [.lit (.bool false)], args := [d] }
  | _ => none }
def FnExactStrictOfWrongFalsely : Prop := fnExactStrictOfRow.holds Try.pinned (OpenSpec.ofChange fnExactStrictOfWrong)

/-- 'laws.FnExactOrderOf': WHATEVER THE INPUT: true; the input reads as it did. -/
def fnExactOrderOfSpec : ChangeSpec := { name := "fnExactOrderOf", fn := fun _ => fun
  | [d] => { results := [.lit (.bool true)], args := [d] }
  | _ => none }
def fnExactOrderOfRow : OpenClaim := { program := "ytbjijnehgjfhlaa", sum := "08ad8f4d9029f0d7c5fdd81e04c788af87bc0651991223e53b1c61bfa4c93b0a", func := "loop.example/g01125/laws.FnExactOrderOf", spec := "fnExactOrderOf", unfollowed := true, recurses := true, apart := false }
def FnExactOrderOfSaid : Prop := fnExactOrderOfRow.holds Try.pinned (OpenSpec.ofChange fnExactOrderOfSpec)

/-- ITS FALSE NEIGHBOUR: 'it returns false'. Refute it at one input. -/
def fnExactOrderOfWrong : ChangeSpec := { name := "fnExactOrderOf", fn := fun _ => fun
  | [d] => { results := [.lit (.bool false)], args := [d] }
  | _ => none }
def FnExactOrderOfWrongFalsely : Prop := fnExactOrderOfRow.holds Try.pinned (OpenSpec.ofChange fnExactOrderOfWrong)

/- THE SECOND FORM. 'bulk': how many values and letters a reading holds, each counted each time it is reached (what is shared counts as often as it is met; a slice's spare places count too). A statement '..UptoSaid' is the law's where the arguments, and the package variables that the reading takes, are together of bulk at most 1048576: NARROWER than '..Said'. Prove '..Said' where nothing that the law and all that it calls make is longer than what came in: it says more and counts as full. Else prove '..UptoSaid'. A law counts once. -/
mutual
def uptoBulk {H : Type} : DataW H → Nat
  | .lit (.string bytes) => bytes.length + 1
  | .lit _ => 1
  | .nil => 1
  | .ptr d => uptoBulk d + 1
  | .slice elems spare => uptoBulkAll elems + uptoBulkAll spare + 1
  | .agg parts => uptoBulkAll parts + 1
  | .iface _ d => uptoBulk d + 1
  | .map entries => uptoBulkEntries entries + 1
  | .held _ => 1
def uptoBulkAll {H : Type} : List (DataW H) → Nat
  | [] => 0
  | d :: r => uptoBulk d + uptoBulkAll r
def uptoBulkEntries {H : Type} : List (Lit × DataW H) → Nat
  | [] => 0
  | x :: r => uptoBulkEntry x + uptoBulkEntries r
def uptoBulkEntry {H : Type} : Lit × DataW H → Nat
  | (.string bytes, d) => bytes.length + uptoBulk d + 1
  | (_, d) => uptoBulk d + 1
 end
def uptoSmall : (H : Type) → List (DataW H) → Bool := fun _ ds => decide (uptoBulkAll ds ≤ 1048576)
def OpenSpec.upto (s : _root_.Go.ChangeSpec) : _root_.Go.OpenSpec := { _root_.Go.OpenSpec.ofChange s with cond := some uptoSmall }

/-- 'laws.FnExactLengthsFrom', WHERE WHAT IT READS IS OF BULK AT MOST 1048576: true; the input reads as it did. -/
def fnExactLengthsFromUptoRow : OpenClaim := { program := "ytbjijnehgjfhlaa", sum := "08ad8f4d9029f0d7c5fdd81e04c788af87bc0651991223e53b1c61bfa4c93b0a", func := "loop.example/g01125/laws.FnExactLengthsFrom", spec := "fnExactLengthsFrom", unfollowed := true, recurses := true, apart := false, narrowed := true }
def FnExactLengthsFromUptoSaid : Prop := fnExactLengthsFromUptoRow.holds Try.pinned (OpenSpec.upto fnExactLengthsFromSpec)

/-- 'laws.FnExactClassOf', WHERE WHAT IT READS IS OF BULK AT MOST 1048576: true; the input reads as it did. -/
def fnExactClassOfUptoRow : OpenClaim := { program := "ytbjijnehgjfhlaa", sum := "08ad8f4d9029f0d7c5fdd81e04c788af87bc0651991223e53b1c61bfa4c93b0a", func := "loop.example/g01125/laws.FnExactClassOf", spec := "fnExactClassOf", unfollowed := true, recurses := true, apart := false, narrowed := true }
def FnExactClassOfUptoSaid : Prop := fnExactClassOfUptoRow.holds Try.pinned (OpenSpec.upto fnExactClassOfSpec)

/-- 'laws.FnExactStrictOf', WHERE WHAT IT READS IS OF BULK AT MOST 1048576: true; the input reads as it did. -/
def fnExactStrictOfUptoRow : OpenClaim := { program := "ytbjijnehgjfhlaa", sum := "08ad8f4d9029f0d7c5fdd81e04c788af87bc0651991223e53b1c61bfa4c93b0a", func := "loop.example/g01125/laws.FnExactStrictOf", spec := "fnExactStrictOf", recurses := true, apart := false, narrowed := true }
def FnExactStrictOfUptoSaid : Prop := fnExactStrictOfUptoRow.holds Try.pinned (OpenSpec.upto fnExactStrictOfSpec)

/-- 'laws.FnExactOrderOf', WHERE WHAT IT READS IS OF BULK AT MOST 1048576: true; the input reads as it did. -/
def fnExactOrderOfUptoRow : OpenClaim := { program := "ytbjijnehgjfhlaa", sum := "08ad8f4d9029f0d7c5fdd81e04c788af87bc0651991223e53b1c61bfa4c93b0a", func := "loop.example/g01125/laws.FnExactOrderOf", spec := "fnExactOrderOf", unfollowed := true, recurses := true, apart := false, narrowed := true }
def FnExactOrderOfUptoSaid : Prop := fnExactOrderOfUptoRow.holds Try.pinned (OpenSpec.upto fnExactOrderOfSpec)

end Rows
end Go.Proofs.Ytbjijnehgjfhlaa
