/- THE CARD: MachinePieces. Conditions: none. -/
import Derived.Test.YtopifagbbmhgfaaGreatDoorRF3
import Derived.Test.YtopifagbbmhgfaaGreatDoorTie
import Derived.Test.YtopifagbbmhgfaaGreatDoorCards
import Derived.SevenTiedAt
set_option maxRecDepth 4000
namespace Go.Proofs.YtopifagbbmhgfaaGreatDoor
set_option linter.unusedVariables false
set_option linter.unusedSimpArgs false
open Go
theorem machinePieces_w:Rows.machinePiecesRow.wfByText (OpenSpec.ofChange Rows.machinePiecesSpec)=true:=by kernel_rfl
theorem machinePieces_m : Tryz.pinned.checked.prog.mainIs = some (true, "98b5e1f7ad1976b3269a48f2b26148d262697e824a61c4886faf5bb7193a552a".toList) := by kernel_rfl
theorem machinePieces_k:false=Tryz.pinned.checked.prog.looks []:=by kernel_rfl
theorem machinePieces_g:false=Rows.machinePiecesRow.goesBy Tryz.pinned.checked.prog:=by kernel_rfl
theorem machinePieces_n : Tryz.prog.funcNamed "onceweb/onceweblaw10.MachinePieces" = some 6 := by kernel_rfl
theorem machinePieces_t3:Tryz.prog.wantsStandIn 3=false:=by kernel_rfl
theorem machinePieces_t51:Tryz.prog.wantsStandIn 51=false:=by kernel_rfl
theorem machinePieces_t87:Tryz.prog.wantsStandIn 87=false:=by kernel_rfl
theorem machinePiecesCard_holds:Rows.MachinePiecesCardSaid:=
 Claim7.holds_tied_plain_at .later [] [.widerDeep, .data, .widerDeep] true (true, "98b5e1f7ad1976b3269a48f2b26148d262697e824a61c4886faf5bb7193a552a") false
  machinePieces_holds (fun _ h=>by cases h) machinePieces_w (fun _ h=>by cases h) machinePieces_row_tie rfl ⟨rfl,rfl⟩ machinePieces_m rfl
  (fun f fn hf hfn=>by
   obtain rfl:f=6:=Option.some.inj (machinePieces_n.symm.trans hf) |>.symm
   obtain rfl:fn=Tryz.f6:=(Option.some.inj (Tryz.func6.symm.trans hfn)).symm
   exact ⟨machinePieces_k,fun j t ht=>by
    rw [Tryz.params6] at ht
    rcases j with _|_|_|j
    ·obtain rfl:t=51:=by simpa using ht.symm
     exact machinePieces_t51
    ·obtain rfl:t=87:=by simpa using ht.symm
     exact machinePieces_t87
    ·obtain rfl:t=3:=by simpa using ht.symm
     exact machinePieces_t3
    ·simp at ht⟩)
  machinePieces_g
#print axioms machinePiecesCard_holds
end Go.Proofs.YtopifagbbmhgfaaGreatDoor
