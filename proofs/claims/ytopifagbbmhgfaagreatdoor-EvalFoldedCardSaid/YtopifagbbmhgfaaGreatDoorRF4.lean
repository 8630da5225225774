/- THE CARD: EvalFolded. Conditions: none. -/
import Derived.Test.YtopifagbbmhgfaaGreatDoorRF3
import Derived.Test.YtopifagbbmhgfaaGreatDoorTie
import Derived.Test.YtopifagbbmhgfaaGreatDoorCards
import Derived.SevenTiedAt
set_option maxRecDepth 4000
namespace Go.Proofs.YtopifagbbmhgfaaGreatDoor
set_option linter.unusedVariables false
set_option linter.unusedSimpArgs false
open Go
theorem evalFolded_w:Rows.evalFoldedRow.wfByText (OpenSpec.ofChange Rows.evalFoldedSpec)=true:=by kernel_rfl
theorem evalFolded_m : Tryz.pinned.checked.prog.mainIs = some (true, "98b5e1f7ad1976b3269a48f2b26148d262697e824a61c4886faf5bb7193a552a".toList) := by kernel_rfl
theorem evalFolded_k:false=Tryz.pinned.checked.prog.looks []:=by kernel_rfl
theorem evalFolded_g:false=Rows.evalFoldedRow.goesBy Tryz.pinned.checked.prog:=by kernel_rfl
theorem evalFolded_n : Tryz.prog.funcNamed "onceweb/onceweblaw08.EvalFolded" = some 4 := by kernel_rfl
theorem evalFolded_t23:Tryz.prog.wantsStandIn 23=false:=by kernel_rfl
theorem evalFolded_t33:Tryz.prog.wantsStandIn 33=false:=by kernel_rfl
theorem evalFolded_t34:Tryz.prog.wantsStandIn 34=false:=by kernel_rfl
theorem evalFoldedCard_holds:Rows.EvalFoldedCardSaid:=
 Claim7.holds_tied_plain_at .later [] [.widerDeep, .data, .widerDeep] true (true, "98b5e1f7ad1976b3269a48f2b26148d262697e824a61c4886faf5bb7193a552a") false
  evalFolded_holds (fun _ h=>by cases h) evalFolded_w (fun _ h=>by cases h) evalFolded_row_tie rfl ⟨rfl,rfl⟩ evalFolded_m rfl
  (fun f fn hf hfn=>by
   obtain rfl:f=4:=Option.some.inj (evalFolded_n.symm.trans hf) |>.symm
   obtain rfl:fn=Tryz.f4:=(Option.some.inj (Tryz.func4.symm.trans hfn)).symm
   exact ⟨evalFolded_k,fun j t ht=>by
    rw [Tryz.params4] at ht
    rcases j with _|_|_|j
    ·obtain rfl:t=23:=by simpa using ht.symm
     exact evalFolded_t23
    ·obtain rfl:t=33:=by simpa using ht.symm
     exact evalFolded_t33
    ·obtain rfl:t=34:=by simpa using ht.symm
     exact evalFolded_t34
    ·simp at ht⟩)
  evalFolded_g
#print axioms evalFoldedCard_holds
end Go.Proofs.YtopifagbbmhgfaaGreatDoor
