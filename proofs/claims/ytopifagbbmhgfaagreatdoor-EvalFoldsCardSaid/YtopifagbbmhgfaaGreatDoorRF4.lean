/- THE CARD: EvalFolds. Conditions: none. -/
import Derived.Test.YtopifagbbmhgfaaGreatDoorRF3
import Derived.Test.YtopifagbbmhgfaaGreatDoorTie
import Derived.Test.YtopifagbbmhgfaaGreatDoorCards
import Derived.SevenTiedAt
set_option maxRecDepth 4000
namespace Go.Proofs.YtopifagbbmhgfaaGreatDoor
set_option linter.unusedVariables false
set_option linter.unusedSimpArgs false
open Go
theorem evalFolds_w:Rows.evalFoldsRow.wfByText (OpenSpec.ofChange Rows.evalFoldsSpec)=true:=by kernel_rfl
theorem evalFolds_m : Tryz.pinned.checked.prog.mainIs = some (true, "98b5e1f7ad1976b3269a48f2b26148d262697e824a61c4886faf5bb7193a552a".toList) := by kernel_rfl
theorem evalFolds_k:false=Tryz.pinned.checked.prog.looks []:=by kernel_rfl
theorem evalFolds_g:false=Rows.evalFoldsRow.goesBy Tryz.pinned.checked.prog:=by kernel_rfl
theorem evalFolds_n : Tryz.prog.funcNamed "onceweb/onceweblaw08.EvalFolds" = some 3 := by kernel_rfl
theorem evalFolds_t23:Tryz.prog.wantsStandIn 23=false:=by kernel_rfl
theorem evalFoldsCard_holds:Rows.EvalFoldsCardSaid:=
 Claim7.holds_tied_plain_at .later [] [.widerDeep, .data, .widerDeep] true (true, "98b5e1f7ad1976b3269a48f2b26148d262697e824a61c4886faf5bb7193a552a") false
  evalFolds_holds (fun _ h=>by cases h) evalFolds_w (fun _ h=>by cases h) evalFolds_row_tie rfl ⟨rfl,rfl⟩ evalFolds_m rfl
  (fun f fn hf hfn=>by
   obtain rfl:f=3:=Option.some.inj (evalFolds_n.symm.trans hf) |>.symm
   obtain rfl:fn=Tryz.f3:=(Option.some.inj (Tryz.func3.symm.trans hfn)).symm
   exact ⟨evalFolds_k,fun j t ht=>by
    rw [Tryz.params3] at ht
    rcases j with _|j
    ·obtain rfl:t=23:=by simpa using ht.symm
     exact evalFolds_t23
    ·simp at ht⟩)
  evalFolds_g
#print axioms evalFoldsCard_holds
end Go.Proofs.YtopifagbbmhgfaaGreatDoor
