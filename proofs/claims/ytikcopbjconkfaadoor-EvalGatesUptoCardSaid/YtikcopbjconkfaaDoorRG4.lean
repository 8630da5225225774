/- THE CARD: EvalGatesUpto. Conditions: none. -/
import Derived.Test.YtikcopbjconkfaaDoorRG3
import Derived.Test.YtikcopbjconkfaaDoorTie
import Derived.Test.YtikcopbjconkfaaDoorCards
import Derived.SevenTiedAt
set_option maxRecDepth 4000
namespace Go.Proofs.YtikcopbjconkfaaDoor
set_option linter.unusedVariables false
set_option linter.unusedSimpArgs false
open Go
theorem evalGatesUptoCard_holds : Rows.EvalGatesUptoCardSaid :=
  Claim7.holds_tied_plain_at .later [] [.widerDeep, .data, .widerDeep] true (true, "7da0572a4c764b5f6eb712a28841cdebc2a8c956c679bc178c2d9670617866a8") false
    evalGatesUpto_holds (fun _ h => by cases h) (by kernel_rfl) (fun _ h => by cases h) evalGatesUpto_row_tie rfl ⟨rfl, rfl⟩ (by kernel_rfl) rfl
    (fun f fn hf hfn => by
      obtain rfl : f = 9 := Option.some.inj ((show Tryd.prog.funcNamed "onceweb/onceweblaw08.EvalGates" = some 9 by kernel_rfl).symm.trans hf) |>.symm
      obtain rfl : fn = Tryd.f9 := (Option.some.inj (Tryd.func9.symm.trans hfn)).symm
      exact ⟨by kernel_rfl, fun j t ht => by
        rw [Tryd.params9] at ht
        rcases j with _ | _ | _ | _ | j
        · obtain rfl : t = 70 := by simpa using ht.symm
          exact (show Tryd.prog.wantsStandIn 70 = false by kernel_rfl)
        · obtain rfl : t = 71 := by simpa using ht.symm
          exact (show Tryd.prog.wantsStandIn 71 = false by kernel_rfl)
        · obtain rfl : t = 24 := by simpa using ht.symm
          exact (show Tryd.prog.wantsStandIn 24 = false by kernel_rfl)
        · obtain rfl : t = 24 := by simpa using ht.symm
          exact (show Tryd.prog.wantsStandIn 24 = false by kernel_rfl)
        · simp at ht⟩)
    (by kernel_rfl)
#print axioms evalGatesUptoCard_holds
end Go.Proofs.YtikcopbjconkfaaDoor
