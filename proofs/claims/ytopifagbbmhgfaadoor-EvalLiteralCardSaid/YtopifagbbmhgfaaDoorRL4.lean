/- THE CARD: EvalLiteral. Conditions: none. -/
import Derived.Test.YtopifagbbmhgfaaDoorRL3
import Derived.Test.YtopifagbbmhgfaaDoorTie
import Derived.Test.YtopifagbbmhgfaaDoorCards
import Derived.SevenTiedAt
set_option maxRecDepth 4000
namespace Go.Proofs.YtopifagbbmhgfaaDoor
set_option linter.unusedVariables false
set_option linter.unusedSimpArgs false
open Go
theorem evalLiteral_w:Rows.evalLiteralRow.wfByText (OpenSpec.ofChange Rows.evalLiteralSpec)=true:=by kernel_rfl
theorem evalLiteral_m : Tryd.pinned.checked.prog.mainIs = some (true, "6c54c58e5c544c22c46a46ac5ae5d7db36cea48914c546d6f2bd6ed94df9401a".toList) := by kernel_rfl
theorem evalLiteral_k:false=Tryd.pinned.checked.prog.looks []:=by kernel_rfl
theorem evalLiteral_g:false=Rows.evalLiteralRow.goesBy Tryd.pinned.checked.prog:=by kernel_rfl
theorem evalLiteral_n : Tryd.prog.funcNamed "onceweb/onceweblaw08.EvalLiteral" = some 3 := by kernel_rfl
theorem evalLiteral_t23:Tryd.prog.wantsStandIn 23=false:=by kernel_rfl
theorem evalLiteralCard_holds:Rows.EvalLiteralCardSaid:=
 Claim7.holds_tied_plain_at .later [] [.widerDeep, .data, .widerDeep] true (true, "6c54c58e5c544c22c46a46ac5ae5d7db36cea48914c546d6f2bd6ed94df9401a") false
  evalLiteral_holds (fun _ h=>by cases h) evalLiteral_w (fun _ h=>by cases h) evalLiteral_row_tie rfl ⟨rfl,rfl⟩ evalLiteral_m rfl
  (fun f fn hf hfn=>by
   obtain rfl:f=3:=Option.some.inj (evalLiteral_n.symm.trans hf) |>.symm
   obtain rfl:fn=Tryd.f3:=(Option.some.inj (Tryd.func3.symm.trans hfn)).symm
   exact ⟨evalLiteral_k,fun j t ht=>by
    rw [Tryd.params3] at ht
    rcases j with _|j
    ·obtain rfl:t=23:=by simpa using ht.symm
     exact evalLiteral_t23
    ·simp at ht⟩)
  evalLiteral_g
#print axioms evalLiteralCard_holds
end Go.Proofs.YtopifagbbmhgfaaDoor
