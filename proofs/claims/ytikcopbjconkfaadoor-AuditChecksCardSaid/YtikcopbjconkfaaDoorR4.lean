/- THE CARD: AuditChecks. Conditions: none. -/
import Derived.Test.YtikcopbjconkfaaDoorR3
import Derived.Test.YtikcopbjconkfaaDoorTie
import Derived.Test.YtikcopbjconkfaaDoorCards
import Derived.SevenTiedAt
set_option maxRecDepth 4000
namespace Go.Proofs.YtikcopbjconkfaaDoor
set_option linter.unusedVariables false
set_option linter.unusedSimpArgs false
open Go
theorem auditChecksCard_holds : Rows.AuditChecksCardSaid :=
  Claim7.holds_tied_plain_at .later [] [.widerDeep, .data, .widerDeep] true (true, "7da0572a4c764b5f6eb712a28841cdebc2a8c956c679bc178c2d9670617866a8") false
    auditChecks_holds (fun _ h => by cases h) (by kernel_rfl) (fun _ h => by cases h) auditChecks_row_tie rfl ⟨rfl, rfl⟩ (by kernel_rfl) rfl
    (fun f fn hf hfn => by
      obtain rfl : f = 4 := Option.some.inj ((show Tryd.prog.funcNamed "onceweb/onceweblaw26.AuditChecks" = some 4 by kernel_rfl).symm.trans hf) |>.symm
      obtain rfl : fn = Tryd.f4 := (Option.some.inj (Tryd.func4.symm.trans hfn)).symm
      exact ⟨by kernel_rfl, fun j t ht => by
        rw [Tryd.params4] at ht
        have h3 : t = 40 := by
          rcases j with _ | j
          · simpa using ht.symm
          · simp at ht
        subst h3
        exact (show Tryd.prog.wantsStandIn 40 = false by kernel_rfl)⟩)
    (by kernel_rfl)
#print axioms auditChecksCard_holds
end Go.Proofs.YtikcopbjconkfaaDoor
