/-
  DERIVED. GIVEN WITH THE SEED: THE CARDS: each row of YtcdikbiikmhmhaaDoorRows.lean that lists a variable, with what it lists TIED to the program's text (the seventh form; the later family's looks); each row that meets fmt, with fmt's text TOLD by the authors' own Lean function (tested against real Go, not proved from fmt's source: count such statements apart). THE CARD IS WHAT COUNTS. Prove the row's statement (the work); the ties are given (YtcdikbiikmhmhaaDoorTie.lean); close each card by the builder's one call (the guide's Derived/Test/ToyasCard.lean, 'card_holds'). Laid BY PROGRAM, IN A SANDBOX (cutbox-door.mjs). By AI agents, Wed Nov 11 2026. No macro, syntax, notation, axiom, sorry.
-/
import Derived.Test.YtcdikbiikmhmhaaDoorRows
import GoSem.ClaimSeven
namespace Go.Proofs.YtcdikbiikmhmhaaDoor
namespace Rows

/-- THE TIED CARD OF 'laws.FnExactParseBoard'. -/
def fnExactParseBoardCard : Claim7 := { stood := { row := fnExactParseBoardRow, standIns := [], harness := (true, "5087d29f9e1e3bdee46d9d6f366fdb226d8d72772d69a3d6a5018bc0df381a60"), looks := false }, kinds := [], alts := [], laidByText := true, laidKinds := [.data, .pinned], laidTests := true, laidLooks := .later }
def FnExactParseBoardCardSaid : Prop := Claim7.holds Tryd.pinned (.plain (OpenSpec.ofChange fnExactParseBoardSpec)) fnExactParseBoardCard

/-- THE SECOND FORM's CARD OF 'laws.FnExactParseBoard'. -/
def fnExactParseBoardUptoCard : Claim7 := { stood := { row := fnExactParseBoardUptoRow, standIns := [], harness := (true, "5087d29f9e1e3bdee46d9d6f366fdb226d8d72772d69a3d6a5018bc0df381a60"), looks := false }, kinds := [], alts := [], laidByText := true, laidKinds := [.data, .pinned], laidTests := true, laidLooks := .later }
def FnExactParseBoardUptoCardSaid : Prop := Claim7.holds Tryd.pinned (.plain (OpenSpec.upto fnExactParseBoardSpec)) fnExactParseBoardUptoCard
end Rows
end Go.Proofs.YtcdikbiikmhmhaaDoor
