/-
  DERIVED. GIVEN WITH THE SEED: THE CARDS: each row of YtikcopbjconkfaaDoorRows.lean that lists a variable, with what it lists TIED to the program's text (the seventh form; the later family's looks); each row that meets fmt, with fmt's text TOLD by the authors' own Lean function (tested against real Go, not proved from fmt's source: count such statements apart). THE CARD IS WHAT COUNTS. Prove the row's statement (the work); the ties are given (YtikcopbjconkfaaDoorTie.lean); close each card by the builder's one call (the guide's Derived/Test/ToyasCard.lean, 'card_holds'). Laid BY PROGRAM, IN A SANDBOX (cutbox-door.mjs). By AI agents, Wed Nov 11 2026. No macro, syntax, notation, axiom, sorry.
-/
import Derived.Test.YtikcopbjconkfaaDoorRows
import GoSem.ClaimSeven
namespace Go.Proofs.YtikcopbjconkfaaDoor
namespace Rows

/-- THE TIED CARD OF 'onceweblaw25.LazyResolves'. -/
def lazyResolvesCard : Claim7 := { stood := { row := lazyResolvesRow, standIns := [], harness := (true, "7da0572a4c764b5f6eb712a28841cdebc2a8c956c679bc178c2d9670617866a8"), looks := false }, kinds := [], alts := [], laidByText := true, laidKinds := [.widerDeep], laidTests := true, laidLooks := .later }
def LazyResolvesCardSaid : Prop := Claim7.holds Tryd.pinned (.plain (OpenSpec.ofChange lazyResolvesSpec)) lazyResolvesCard

/-- THE TIED CARD OF 'onceweblaw26.AuditChecks'. -/
def auditChecksCard : Claim7 := { stood := { row := auditChecksRow, standIns := [], harness := (true, "7da0572a4c764b5f6eb712a28841cdebc2a8c956c679bc178c2d9670617866a8"), looks := false }, kinds := [], alts := [], laidByText := true, laidKinds := [.widerDeep, .data, .widerDeep], laidTests := true, laidLooks := .later }
def AuditChecksCardSaid : Prop := Claim7.holds Tryd.pinned (.plain (OpenSpec.ofChange auditChecksSpec)) auditChecksCard

/-- THE TIED CARD OF 'onceweblaw26.AuditFronts'. -/
def auditFrontsCard : Claim7 := { stood := { row := auditFrontsRow, standIns := [], harness := (true, "7da0572a4c764b5f6eb712a28841cdebc2a8c956c679bc178c2d9670617866a8"), looks := false }, kinds := [], alts := [], laidByText := true, laidKinds := [.widerDeep, .data, .widerDeep], laidTests := true, laidLooks := .later }
def AuditFrontsCardSaid : Prop := Claim7.holds Tryd.pinned (.plain (OpenSpec.ofChange auditFrontsSpec)) auditFrontsCard

/-- THE TIED CARD OF 'onceweblaw26.AuditTwice'. -/
def auditTwiceCard : Claim7 := { stood := { row := auditTwiceRow, standIns := [], harness := (true, "7da0572a4c764b5f6eb712a28841cdebc2a8c956c679bc178c2d9670617866a8"), looks := false }, kinds := [], alts := [], laidByText := true, laidKinds := [.widerDeep, .data, .widerDeep], laidTests := true, laidLooks := .later }
def AuditTwiceCardSaid : Prop := Claim7.holds Tryd.pinned (.plain (OpenSpec.ofChange auditTwiceSpec)) auditTwiceCard

/-- THE TIED CARD OF 'onceweblaw26.AuditLacks'. -/
def auditLacksCard : Claim7 := { stood := { row := auditLacksRow, standIns := [], harness := (true, "7da0572a4c764b5f6eb712a28841cdebc2a8c956c679bc178c2d9670617866a8"), looks := false }, kinds := [], alts := [], laidByText := true, laidKinds := [.widerDeep, .data, .widerDeep], laidTests := true, laidLooks := .later }
def AuditLacksCardSaid : Prop := Claim7.holds Tryd.pinned (.plain (OpenSpec.ofChange auditLacksSpec)) auditLacksCard

/-- THE TIED CARD OF 'onceweblaw08.EvalUnasked'. -/
def evalUnaskedCard : Claim7 := { stood := { row := evalUnaskedRow, standIns := [], harness := (true, "7da0572a4c764b5f6eb712a28841cdebc2a8c956c679bc178c2d9670617866a8"), looks := false }, kinds := [], alts := [], laidByText := true, laidKinds := [.widerDeep, .data, .widerDeep], laidTests := true, laidLooks := .later }
def EvalUnaskedCardSaid : Prop := Claim7.holds Tryd.pinned (.plain (OpenSpec.ofChange evalUnaskedSpec)) evalUnaskedCard

/-- THE TIED CARD OF 'onceweblaw08.EvalGates'. -/
def evalGatesCard : Claim7 := { stood := { row := evalGatesRow, standIns := [], harness := (true, "7da0572a4c764b5f6eb712a28841cdebc2a8c956c679bc178c2d9670617866a8"), looks := false }, kinds := [], alts := [], laidByText := true, laidKinds := [.widerDeep, .data, .widerDeep], laidTests := true, laidLooks := .later }
def EvalGatesCardSaid : Prop := Claim7.holds Tryd.pinned (.plain (OpenSpec.ofChange evalGatesSpec)) evalGatesCard

/-- THE TIED CARD OF 'onceweblaw08.EvalLiterals'. -/
def evalLiteralsCard : Claim7 := { stood := { row := evalLiteralsRow, standIns := [], harness := (true, "7da0572a4c764b5f6eb712a28841cdebc2a8c956c679bc178c2d9670617866a8"), looks := false }, kinds := [], alts := [], laidByText := true, laidKinds := [.widerDeep, .data, .widerDeep], laidTests := true, laidLooks := .later }
def EvalLiteralsCardSaid : Prop := Claim7.holds Tryd.pinned (.plain (OpenSpec.ofChange evalLiteralsSpec)) evalLiteralsCard

/-- THE SECOND FORM's CARD OF 'onceweblaw25.LazyResolves'. -/
def lazyResolvesUptoCard : Claim7 := { stood := { row := lazyResolvesUptoRow, standIns := [], harness := (true, "7da0572a4c764b5f6eb712a28841cdebc2a8c956c679bc178c2d9670617866a8"), looks := false }, kinds := [], alts := [], laidByText := true, laidKinds := [.widerDeep], laidTests := true, laidLooks := .later }
def LazyResolvesUptoCardSaid : Prop := Claim7.holds Tryd.pinned (.plain (OpenSpec.upto lazyResolvesSpec)) lazyResolvesUptoCard

/-- THE SECOND FORM's CARD OF 'onceweblaw26.AuditChecks'. -/
def auditChecksUptoCard : Claim7 := { stood := { row := auditChecksUptoRow, standIns := [], harness := (true, "7da0572a4c764b5f6eb712a28841cdebc2a8c956c679bc178c2d9670617866a8"), looks := false }, kinds := [], alts := [], laidByText := true, laidKinds := [.widerDeep, .data, .widerDeep], laidTests := true, laidLooks := .later }
def AuditChecksUptoCardSaid : Prop := Claim7.holds Tryd.pinned (.plain (OpenSpec.upto auditChecksSpec)) auditChecksUptoCard

/-- THE SECOND FORM's CARD OF 'onceweblaw26.AuditFronts'. -/
def auditFrontsUptoCard : Claim7 := { stood := { row := auditFrontsUptoRow, standIns := [], harness := (true, "7da0572a4c764b5f6eb712a28841cdebc2a8c956c679bc178c2d9670617866a8"), looks := false }, kinds := [], alts := [], laidByText := true, laidKinds := [.widerDeep, .data, .widerDeep], laidTests := true, laidLooks := .later }
def AuditFrontsUptoCardSaid : Prop := Claim7.holds Tryd.pinned (.plain (OpenSpec.upto auditFrontsSpec)) auditFrontsUptoCard

/-- THE SECOND FORM's CARD OF 'onceweblaw26.AuditTwice'. -/
def auditTwiceUptoCard : Claim7 := { stood := { row := auditTwiceUptoRow, standIns := [], harness := (true, "7da0572a4c764b5f6eb712a28841cdebc2a8c956c679bc178c2d9670617866a8"), looks := false }, kinds := [], alts := [], laidByText := true, laidKinds := [.widerDeep, .data, .widerDeep], laidTests := true, laidLooks := .later }
def AuditTwiceUptoCardSaid : Prop := Claim7.holds Tryd.pinned (.plain (OpenSpec.upto auditTwiceSpec)) auditTwiceUptoCard

/-- THE SECOND FORM's CARD OF 'onceweblaw26.AuditLacks'. -/
def auditLacksUptoCard : Claim7 := { stood := { row := auditLacksUptoRow, standIns := [], harness := (true, "7da0572a4c764b5f6eb712a28841cdebc2a8c956c679bc178c2d9670617866a8"), looks := false }, kinds := [], alts := [], laidByText := true, laidKinds := [.widerDeep, .data, .widerDeep], laidTests := true, laidLooks := .later }
def AuditLacksUptoCardSaid : Prop := Claim7.holds Tryd.pinned (.plain (OpenSpec.upto auditLacksSpec)) auditLacksUptoCard

/-- THE SECOND FORM's CARD OF 'onceweblaw08.EvalUnasked'. -/
def evalUnaskedUptoCard : Claim7 := { stood := { row := evalUnaskedUptoRow, standIns := [], harness := (true, "7da0572a4c764b5f6eb712a28841cdebc2a8c956c679bc178c2d9670617866a8"), looks := false }, kinds := [], alts := [], laidByText := true, laidKinds := [.widerDeep, .data, .widerDeep], laidTests := true, laidLooks := .later }
def EvalUnaskedUptoCardSaid : Prop := Claim7.holds Tryd.pinned (.plain (OpenSpec.upto evalUnaskedSpec)) evalUnaskedUptoCard

/-- THE SECOND FORM's CARD OF 'onceweblaw08.EvalGates'. -/
def evalGatesUptoCard : Claim7 := { stood := { row := evalGatesUptoRow, standIns := [], harness := (true, "7da0572a4c764b5f6eb712a28841cdebc2a8c956c679bc178c2d9670617866a8"), looks := false }, kinds := [], alts := [], laidByText := true, laidKinds := [.widerDeep, .data, .widerDeep], laidTests := true, laidLooks := .later }
def EvalGatesUptoCardSaid : Prop := Claim7.holds Tryd.pinned (.plain (OpenSpec.upto evalGatesSpec)) evalGatesUptoCard

/-- THE SECOND FORM's CARD OF 'onceweblaw08.EvalLiterals'. -/
def evalLiteralsUptoCard : Claim7 := { stood := { row := evalLiteralsUptoRow, standIns := [], harness := (true, "7da0572a4c764b5f6eb712a28841cdebc2a8c956c679bc178c2d9670617866a8"), looks := false }, kinds := [], alts := [], laidByText := true, laidKinds := [.widerDeep, .data, .widerDeep], laidTests := true, laidLooks := .later }
def EvalLiteralsUptoCardSaid : Prop := Claim7.holds Tryd.pinned (.plain (OpenSpec.upto evalLiteralsSpec)) evalLiteralsUptoCard
end Rows
end Go.Proofs.YtikcopbjconkfaaDoor
