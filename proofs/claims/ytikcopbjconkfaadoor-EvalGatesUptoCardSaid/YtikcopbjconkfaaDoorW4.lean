/- LEMMAS: eval.Eval, where what is given is refused (the map is nil). Conditions: none. -/
import Derived.Test.YtikcopbjconkfaaDoorW2
namespace Go.Proofs.YtikcopbjconkfaaDoor.V
set_option linter.unusedVariables false
set_option linter.unusedSimpArgs false
open Go Go.Abs
set_option maxRecDepth 100000
def ansN : Nat → Ans := ofList (⟨Unit, fun _ => .tup []⟩ : Ans) ((74, ⟨Int, fun x => .tup [.d .nilm, .d (.int .i64 x)]⟩) :: ansL)
/-- Read so: eval.given answers no map. -/
noncomputable def RsN : Res K := { Rs with R := fun f => (ansN f).R, enc := fun f => (ansN f).enc }
theorem e31n (a0 : (List api_Op)) (a1 : (List api_Known)) (a2 : (List ByteArray)) (H : List (O U)) (post : Post) : (∃ (x : Int),
  (Gives 73 [C.d (D.sl Ty.api_Op a0)] (C.d (D.int IntKind.i64 x))) ∧
    iteP (notB (eqI x 0)) (post (C.tup [C.agg [C.d (D.int IntKind.i64 0), C.d (D.sl Ty.api_Atom (nilL api_Atom)), C.d (D.sl Ty.api_Crack (nilL api_Crack)), C.d (D.str (bs [])), C.d (D.sl Ty.str (nilL ByteArray))], C.d (D.int IntKind.i64 5)]) H)
      (∃ (x : Int),
        ∃ (y :
          List
            (O
              U)),
          (GivesM 74 [C.d (D.sl Ty.api_Known a1), C.d (D.sl Ty.str a2)] H (C.tup [C.d D.nilm, C.d (D.int IntKind.i64 x)]) y) ∧
            iteP (notB (eqI x 0)) (post (C.tup [C.agg [C.d (D.int IntKind.i64 0), C.d (D.sl Ty.api_Atom (nilL api_Atom)), C.d (D.sl Ty.api_Crack (nilL api_Crack)), C.d (D.str (bs [])), C.d (D.sl Ty.str (nilL ByteArray))], C.d (D.int IntKind.i64 x)]) y)
              (∃ (x : List Int),
                (Gives 75 [C.d (D.sl Ty.api_Op a0)] (C.d (D.sl Ty.int x))) ∧
                  ∃ (x_1 : api_Outcome),
                    ∃ (y_1 :
                      List
                        (O
                          U)),
                      (GivesM 76 [C.ptr (Rf.g (lenO (pushO y (O.arr 0 (Vc.pure Ty.str) (nilL ByteArray))))) 0, C.d (D.int IntKind.i64 (subW IntKind.i64 (intN (lenL a0)) 1)), C.d (D.sl Ty.eval_local (nilL eval_local))] (pushO (pushO y (O.arr 0 (Vc.pure Ty.str) (nilL ByteArray))) (O.cells [C.d (D.sl Ty.api_Op a0), C.d (D.sl Ty.int x), C.d D.nilm, C.d (D.sl Ty.str a2), C.asl (Rf.g (lenO y)) 0 none false, C.d (D.str (bs []))])) (C.agg [C.d (D.int IntKind.i64 x_1.1), C.d (D.sl Ty.api_Atom x_1.2), C.d (D.sl Ty.api_Crack x_1.3)]) y_1) ∧ iteP (eqI x_1.1 0) (∃ (x : WayS), obj y_1 (lenO (pushO y (O.arr 0 (Vc.pure Ty.str) (nilL ByteArray)))) = some (O.cells [C.d (D.sl Ty.api_Op x.1), C.d (D.sl Ty.int x.2), C.mp (Rf.g x.3), C.d (D.sl Ty.str x.4), C.asl (Rf.g x.5) x.6 x.7 false, C.d (D.str x.8)]) ∧ ∃ (x_2 : WayS), obj y_1 (lenO (pushO y (O.arr 0 (Vc.pure Ty.str) (nilL ByteArray)))) = some (O.cells [C.d (D.sl Ty.api_Op x_2.1), C.d (D.sl Ty.int x_2.2), C.mp (Rf.g x_2.3), C.d (D.sl Ty.str x_2.4), C.asl (Rf.g x_2.5) x_2.6 x_2.7 false, C.d (D.str x_2.8)]) ∧ post (C.tup [C.agg [C.d (D.int IntKind.i64 0), C.d (D.sl Ty.api_Atom (nilL api_Atom)), C.d (D.sl Ty.api_Crack (nilL api_Crack)), C.d (D.str x.8), C.asl (Rf.g x_2.5) x_2.6 x_2.7 false], C.d (D.int IntKind.i64 0)]) y_1) (∃ (x : List api_Atom), (Gives 77 [C.d (D.sl Ty.api_Atom x_1.2)] (C.d (D.sl Ty.api_Atom x))) ∧ ∃ (x_2 : List api_Crack), (Gives 78 [C.d (D.sl Ty.api_Crack x_1.3)] (C.d (D.sl Ty.api_Crack x_2))) ∧ ∃ (x_3 : WayS), obj y_1 (lenO (pushO y (O.arr 0 (Vc.pure Ty.str) (nilL ByteArray)))) = some (O.cells [C.d (D.sl Ty.api_Op x_3.1), C.d (D.sl Ty.int x_3.2), C.mp (Rf.g x_3.3), C.d (D.sl Ty.str x_3.4), C.asl (Rf.g x_3.5) x_3.6 x_3.7 false, C.d (D.str x_3.8)]) ∧ post (C.tup [C.agg [C.d (D.int IntKind.i64 x_1.1), C.d (D.sl Ty.api_Atom x), C.d (D.sl Ty.api_Crack x_2), C.d (D.str (bs [])), C.asl (Rf.g x_3.5) x_3.6 x_3.7 false], C.d (D.int IntKind.i64 0)]) y_1)))) → Runs K 31 [.d (.sl .api_Op a0), .d (.sl .api_Known a1), .d (.sl .str a2)] H post :=
  fun h => Runs.of_walkS laws Sh RsN (fn := Tryd.f31) (body := Tryd.f31.body.getD .skip) 2000 (by kernel_rfl) (by kernel_rfl) (by kernel_rfl) (fun hh => Bool.noConfusion ((by kernel_rfl : (K.ann 31).pure = false).symm.trans hh)) (Eq.mpr (by kernel_rfl) h)
end Go.Proofs.YtikcopbjconkfaaDoor.V
