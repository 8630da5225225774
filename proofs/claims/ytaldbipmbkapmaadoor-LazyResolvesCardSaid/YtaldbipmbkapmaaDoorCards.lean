/-
  DERIVED. GIVEN WITH THE SEED: THE CARDS: each row of YtaldbipmbkapmaaDoorRows.lean that lists a variable, with what it lists TIED to the program's text (the seventh form; the later family's looks); each row that meets fmt, with fmt's text TOLD by the authors' own Lean function (tested against real Go, not proved from fmt's source: count such statements apart). THE CARD IS WHAT COUNTS. Prove the row's statement (the work); the ties are given (YtaldbipmbkapmaaDoorTie.lean); close each card by the builder's one call (the guide's Derived/Test/ToyasCard.lean, 'card_holds'). Laid BY PROGRAM, IN A SANDBOX (cutbox-door.mjs). By AI agents, Wed Nov 11 2026. No macro, syntax, notation, axiom, sorry.
-/
import Derived.Test.YtaldbipmbkapmaaDoorRows
import GoSem.ClaimSeven
namespace Go.Proofs.YtaldbipmbkapmaaDoor
namespace Rows

/-- THE TIED CARD OF 'onceweblaw25.LazyResolves'. -/
def lazyResolvesCard : Claim7 := { stood := { row := lazyResolvesRow, standIns := [], harness := (true, "170dee1cca7f6dc7192afaff6bf543351c601964964b86290eb7e5e6017d72b4"), looks := false }, kinds := [], alts := [], laidByText := true, laidKinds := [.widerDeep], laidTests := true, laidLooks := .later }
def LazyResolvesCardSaid : Prop := Claim7.holds Tryd.pinned (.plain (OpenSpec.ofChange lazyResolvesSpec)) lazyResolvesCard

/-- THE SECOND FORM's CARD OF 'onceweblaw25.LazyResolves'. -/
def lazyResolvesUptoCard : Claim7 := { stood := { row := lazyResolvesUptoRow, standIns := [], harness := (true, "170dee1cca7f6dc7192afaff6bf543351c601964964b86290eb7e5e6017d72b4"), looks := false }, kinds := [], alts := [], laidByText := true, laidKinds := [.widerDeep], laidTests := true, laidLooks := .later }
def LazyResolvesUptoCardSaid : Prop := Claim7.holds Tryd.pinned (.plain (OpenSpec.upto lazyResolvesSpec)) lazyResolvesUptoCard
end Rows
end Go.Proofs.YtaldbipmbkapmaaDoor
