/-
  DERIVED. GIVEN WITH THE SEED: THE CARDS: each row of YtopifagbbmhgfaaDoorRows.lean that lists a variable, with what it lists TIED to the program's text (the seventh form; the later family's looks); each row that meets fmt, with fmt's text TOLD by the authors' own Lean function (tested against real Go, not proved from fmt's source: count such statements apart). THE CARD IS WHAT COUNTS. Prove the row's statement (the work); the ties are given (YtopifagbbmhgfaaDoorTie.lean); close each card by the builder's one call (the guide's Derived/Test/ToyasCard.lean, 'card_holds'). Laid BY PROGRAM, IN A SANDBOX (cutbox-door.mjs). By AI agents, Wed Nov 11 2026. No macro, syntax, notation, axiom, sorry.
-/
import Derived.Test.YtopifagbbmhgfaaDoorRows
import GoSem.ClaimSeven
namespace Go.Proofs.YtopifagbbmhgfaaDoor
namespace Rows

/-- THE TIED CARD OF 'onceweblaw08.EvalLiteral'. -/
def evalLiteralCard : Claim7 := { stood := { row := evalLiteralRow, standIns := [], harness := (true, "6c54c58e5c544c22c46a46ac5ae5d7db36cea48914c546d6f2bd6ed94df9401a"), looks := false }, kinds := [], alts := [], laidByText := true, laidKinds := [.widerDeep, .data, .widerDeep], laidTests := true, laidLooks := .later }
def EvalLiteralCardSaid : Prop := Claim7.holds Tryd.pinned (.plain (OpenSpec.ofChange evalLiteralSpec)) evalLiteralCard

/-- THE SECOND FORM's CARD OF 'onceweblaw08.EvalLiteral'. -/
def evalLiteralUptoCard : Claim7 := { stood := { row := evalLiteralUptoRow, standIns := [], harness := (true, "6c54c58e5c544c22c46a46ac5ae5d7db36cea48914c546d6f2bd6ed94df9401a"), looks := false }, kinds := [], alts := [], laidByText := true, laidKinds := [.widerDeep, .data, .widerDeep], laidTests := true, laidLooks := .later }
def EvalLiteralUptoCardSaid : Prop := Claim7.holds Tryd.pinned (.plain (OpenSpec.upto evalLiteralSpec)) evalLiteralUptoCard
end Rows
end Go.Proofs.YtopifagbbmhgfaaDoor
