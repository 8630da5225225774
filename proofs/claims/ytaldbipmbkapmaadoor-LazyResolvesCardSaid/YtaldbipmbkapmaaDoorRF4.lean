/- THE CARD: LazyResolves. Conditions: none. -/
import Derived.Test.YtaldbipmbkapmaaDoorRF3
import Derived.Test.YtaldbipmbkapmaaDoorTie
import Derived.Test.YtaldbipmbkapmaaDoorCards
import Derived.SevenTiedAt
set_option maxRecDepth 4000
namespace Go.Proofs.YtaldbipmbkapmaaDoor
set_option linter.unusedVariables false
set_option linter.unusedSimpArgs false
open Go
theorem lazyResolves_w:Rows.lazyResolvesRow.wfByText (OpenSpec.ofChange Rows.lazyResolvesSpec)=true:=by kernel_rfl
theorem lazyResolves_m : Tryd.pinned.checked.prog.mainIs = some (true, "170dee1cca7f6dc7192afaff6bf543351c601964964b86290eb7e5e6017d72b4".toList) := by kernel_rfl
theorem lazyResolves_k:false=Tryd.pinned.checked.prog.looks []:=by kernel_rfl
theorem lazyResolves_g:false=Rows.lazyResolvesRow.goesBy Tryd.pinned.checked.prog:=by kernel_rfl
theorem lazyResolves_n : Tryd.prog.funcNamed "onceweb/onceweblaw25.LazyResolves" = some 3 := by kernel_rfl
theorem lazyResolves_t26:Tryd.prog.wantsStandIn 26=false:=by kernel_rfl
theorem lazyResolves_t3:Tryd.prog.wantsStandIn 3=false:=by kernel_rfl
theorem lazyResolves_t9:Tryd.prog.wantsStandIn 9=false:=by kernel_rfl
theorem lazyResolvesCard_holds:Rows.LazyResolvesCardSaid:=
 Claim7.holds_tied_plain_at .later [] [.widerDeep] true (true, "170dee1cca7f6dc7192afaff6bf543351c601964964b86290eb7e5e6017d72b4") false
  lazyResolves_holds (fun _ h=>by cases h) lazyResolves_w (fun _ h=>by cases h) lazyResolves_row_tie rfl ⟨rfl,rfl⟩ lazyResolves_m rfl
  (fun f fn hf hfn=>by
   obtain rfl:f=3:=Option.some.inj (lazyResolves_n.symm.trans hf) |>.symm
   obtain rfl:fn=Tryd.f3:=(Option.some.inj (Tryd.func3.symm.trans hfn)).symm
   exact ⟨lazyResolves_k,fun j t ht=>by
    rw [Tryd.params3] at ht
    rcases j with _|_|_|_|j
    ·obtain rfl:t=26:=by simpa using ht.symm
     exact lazyResolves_t26
    ·obtain rfl:t=3:=by simpa using ht.symm
     exact lazyResolves_t3
    ·obtain rfl:t=9:=by simpa using ht.symm
     exact lazyResolves_t9
    ·obtain rfl:t=3:=by simpa using ht.symm
     exact lazyResolves_t3
    ·simp at ht⟩)
  lazyResolves_g
#print axioms lazyResolvesCard_holds
end Go.Proofs.YtaldbipmbkapmaaDoor
