/-
  DERIVED. GIVEN WITH THE SEED: THE CARDS: each row of YtllhofdgbpnkkaaDoorRows.lean that lists a variable, with what it lists TIED to the program's text (the seventh form; the later family's looks); each row that meets fmt, with fmt's text TOLD by the authors' own Lean function (tested against real Go, not proved from fmt's source: count such statements apart). THE CARD IS WHAT COUNTS. Prove the row's statement (the work); the ties are given (YtllhofdgbpnkkaaDoorTie.lean); close each card by the builder's one call (the guide's Derived/Test/ToyasCard.lean, 'card_holds'). Laid BY PROGRAM, IN A SANDBOX (cutbox-door.mjs). By AI agents, Wed Nov 11 2026. No macro, syntax, notation, axiom, sorry.
-/
import Derived.Test.YtllhofdgbpnkkaaDoorRows
import GoSem.ClaimSeven
namespace Go.Proofs.YtllhofdgbpnkkaaDoor
namespace Rows

/-- THE TIED CARD OF 'laws.FnBoardsTurned'. -/
def fnBoardsTurnedCard : Claim7 := { stood := { row := fnBoardsTurnedRow, standIns := [], harness := (true, "3cb11471582345c3fe6ab6ba6f45067f2982d6547c3f85ee23d90c5a1b417fc9"), looks := false }, kinds := [], alts := [], laidByText := true, laidKinds := [.data, .pinned], laidTests := true, laidLooks := .later }
def FnBoardsTurnedCardSaid : Prop := Claim7.holds Tryd.pinned (.plain (OpenSpec.ofChange fnBoardsTurnedSpec)) fnBoardsTurnedCard

/-- THE SECOND FORM's CARD OF 'laws.FnBoardsTurned'. -/
def fnBoardsTurnedUptoCard : Claim7 := { stood := { row := fnBoardsTurnedUptoRow, standIns := [], harness := (true, "3cb11471582345c3fe6ab6ba6f45067f2982d6547c3f85ee23d90c5a1b417fc9"), looks := false }, kinds := [], alts := [], laidByText := true, laidKinds := [.data, .pinned], laidTests := true, laidLooks := .later }
def FnBoardsTurnedUptoCardSaid : Prop := Claim7.holds Tryd.pinned (.plain (OpenSpec.upto fnBoardsTurnedSpec)) fnBoardsTurnedUptoCard
end Rows
end Go.Proofs.YtllhofdgbpnkkaaDoor
