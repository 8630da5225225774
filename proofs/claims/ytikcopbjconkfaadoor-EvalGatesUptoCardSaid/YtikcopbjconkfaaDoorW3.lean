/- LEMMAS: what functions come to, place by place (written by a program of mine). Conditions: none. -/
import Derived.Test.YtikcopbjconkfaaDoorC2
namespace Go.Proofs.YtikcopbjconkfaaDoor.V
set_option linter.unusedVariables false
set_option linter.unusedSimpArgs false
open Go Go.Abs
set_option maxRecDepth 100000
/-! ### onceweb/onceweblaw08.works -/
theorem e30  (post : Post) : (∃ (x : api_Meaning × Int),
  ∃ (y :
    List
      (O
        U)),
    (GivesM 31 [C.d (D.sl Ty.api_Op [api_Op.mk 3 0 0 (bs [97]), api_Op.mk 1 0 7 (bs []), api_Op.mk 15 2 0 (bs [])]), C.d (D.sl Ty.api_Known (nilL api_Known)), C.d (D.sl Ty.str (nilL ByteArray))] [] (C.tup [C.agg [C.d (D.int IntKind.i64 x.1.1.1), C.d (D.sl Ty.api_Atom x.1.1.2), C.d (D.sl Ty.api_Crack x.1.1.3), C.d (D.str x.1.2), C.d (D.sl Ty.str x.1.3)], C.d (D.int IntKind.i64 x.2)]) y) ∧
      ∃ (x_1 : api_Meaning × Int),
        ∃ (y_1 :
          List
            (O
              U)),
          (GivesM 31 [C.d (D.sl Ty.api_Op [api_Op.mk 3 0 0 (bs [97]), api_Op.mk 1 0 7 (bs []), api_Op.mk 15 2 0 (bs [])]), C.d (D.sl Ty.api_Known [api_Known.mk (bs [97]) (api_Outcome.mk 1 [api_Atom.mk 2 0 0 (bs [116])] (nilL api_Crack))]), C.d (D.sl Ty.str (nilL ByteArray))] y (C.tup [C.agg [C.d (D.int IntKind.i64 x_1.1.1.1), C.d (D.sl Ty.api_Atom x_1.1.1.2), C.d (D.sl Ty.api_Crack x_1.1.1.3), C.d (D.str x_1.1.2), C.d (D.sl Ty.str x_1.1.3)], C.d (D.int IntKind.i64 x_1.2)]) y_1) ∧ ∃ (v : Bool), iteP (eqI x.2 0) (eqI x_1.2 0 = v) (false = v) ∧ ∃ (v_1 : Bool), iteP v (eqI x.1.1.1 1 = v_1) (false = v_1) ∧ ∃ (v : Bool), iteP v_1 (∃ (x_2 : Bool), (Gives 42 [C.d (D.sl Ty.api_Atom x.1.1.2), C.d (D.sl Ty.api_Atom [api_Atom.mk 1 0 7 (bs [])])] (C.d (D.bool x_2))) ∧ x_2 = v) (false = v) ∧ ∃ (v_2 : Bool), iteP v (∃ (x_2 : Bool), (Gives 37 [C.d (D.sl Ty.str x.1.3), C.d (D.sl Ty.str [bs [97]])] (C.d (D.bool x_2))) ∧ x_2 = v_2) (false = v_2) ∧ ∃ (v : Bool), iteP v_2 (strEq x.1.2 (bs []) = v) (false = v) ∧ ∃ (v_3 : Bool), iteP v (∃ (x : Bool), (Gives 42 [C.d (D.sl Ty.api_Atom x_1.1.1.2), C.d (D.sl Ty.api_Atom [api_Atom.mk 2 0 0 (bs [116])])] (C.d (D.bool x))) ∧ x = v_3) (false = v_3) ∧ post (C.d (D.bool v_3)) []) → Runs K 30 [] [] post :=
  ofW Tryd.f30 (by kernel_rfl) (by kernel_rfl) (by kernel_rfl) (by kernel_rfl)

/-! ### onceweb/onceweblaw08.EvalUnasked -/
noncomputable def t8_8 : List Item := (todoAt 8 (Tryd.f8.body.getD .skip) []).getD []
noncomputable def s8_8 (v0 : (List api_Op)) (v2 : (List ByteArray)) (v47 : (List api_Known)) (v48 : Int) (v49 : Int) (x7_gKind : Int) (x7_gValue : (List api_Atom)) (x7_gFail : (List api_Crack)) (x9_gOutcome_gKind : Int) (x9_gOutcome_gValue : (List api_Atom)) (x9_gOutcome_gFail : (List api_Crack)) (x9_gGate : ByteArray) (x9_gAsked : (List ByteArray)) (y11 : List (api_Known)) (H : List (O U)) : St U := ⟨ofList .dead [(0, .d (.sl .api_Op v0)), (2, .d (.sl .str v2)), (7, .ptr (.l 7) 0), (9, .ptr (.l 9) 0), (11, .asl (.l 11) 0 none false), (47, .d (.sl .api_Known v47)), (48, .d (.int .i64 v48)), (49, .d (.int .i64 v49))], ofList none [(7, some (.cells [.d (.int .i64 x7_gKind), .d (.sl .api_Atom x7_gValue), .d (.sl .api_Crack x7_gFail)])), (9, some (.cells [.d (.int .i64 x9_gOutcome_gKind), .d (.sl .api_Atom x9_gOutcome_gValue), .d (.sl .api_Crack x9_gOutcome_gFail), .d (.str x9_gGate), .d (.sl .str x9_gAsked)])), (11, some (.arr 0 (.pure .api_Known) y11))], H⟩
theorem e8 (a0 : (List api_Op)) (a1 : (List api_Known)) (a2 : (List ByteArray)) (a3 : api_Outcome) (post : Post) : (∃ (x : Bool),
  (Gives 30 [] (C.d (D.bool x))) ∧
    iteP (notB x) (post (C.d (D.bool false)) [])
      (∃ (x : List api_Op),
        (Gives 32 [C.d (D.sl Ty.api_Op a0)] (C.d (D.sl Ty.api_Op x))) ∧
          ∃ (x_1 : List api_Known),
            (Gives 33 [C.d (D.sl Ty.api_Known a1)] (C.d (D.sl Ty.api_Known x_1))) ∧
              ∃ (x_2 : List ByteArray),
                (Gives 34 [C.d (D.sl Ty.str a2)] (C.osl Ty.str x_2)) ∧
                  ∃ (x_3 : api_Meaning × Int),
                    ∃ (y :
                      List
                        (O
                          U)),
                      (GivesM 31 [C.d (D.sl Ty.api_Op x), C.d (D.sl Ty.api_Known x_1), C.d (D.sl Ty.str x_2)] [] (C.tup [C.agg [C.d (D.int IntKind.i64 x_3.1.1.1), C.d (D.sl Ty.api_Atom x_3.1.1.2), C.d (D.sl Ty.api_Crack x_3.1.1.3), C.d (D.str x_3.1.2), C.d (D.sl Ty.str x_3.1.3)], C.d (D.int IntKind.i64 x_3.2)]) y) ∧ iteP (notB (eqI x_3.2 0)) (∃ (v : Bool), iteP (eqI x_3.1.1.1 0) (strEq x_3.1.2 (bs []) = v) (false = v) ∧ ∃ (v_1 : Bool), iteP v (eqI (intN (lenL x_3.1.3)) 0 = v_1) (false = v_1) ∧ post (C.d (D.bool v_1)) []) (∃ (x : List api_Known), (Gives 33 [C.d (D.sl Ty.api_Known a1)] (C.d (D.sl Ty.api_Known x))) ∧ At K 8 post t8_8 (s8_8 a0 a2 x (intN (lenL x)) 0 a3.1 a3.2 a3.3 x_3.1.1.1 x_3.1.1.2 x_3.1.1.3 x_3.1.2 x_3.1.3 [] y)))) → Runs K 8 [.d (.sl .api_Op a0), .d (.sl .api_Known a1), .d (.sl .str a2), .agg [.d (.int .i64 a3.gKind), .d (.sl .api_Atom a3.gValue), .d (.sl .api_Crack a3.gFail)]] [] post :=
  ofW Tryd.f8 (by kernel_rfl) (by kernel_rfl) (by kernel_rfl) (by kernel_rfl)
theorem l8_8 (v0 : (List api_Op)) (v2 : (List ByteArray)) (v47 : (List api_Known)) (v48 : Int) (v49 : Int) (x7_gKind : Int) (x7_gValue : (List api_Atom)) (x7_gFail : (List api_Crack)) (x9_gOutcome_gKind : Int) (x9_gOutcome_gValue : (List api_Atom)) (x9_gOutcome_gFail : (List api_Crack)) (x9_gGate : ByteArray) (x9_gAsked : (List ByteArray)) (y11 : List (api_Known)) (H : List (O U)) (post : Post) : (iteP (ltI v49 v48) (andP (inB v49 (lenL v47)) (∃ (x : Bool), (Gives 35 [C.d (D.sl Ty.str x9_gAsked), C.d (D.str (rd (api_Known.mk (bs []) (api_Outcome.mk 0 [] [])) v47 v49).1)] (C.d (D.bool x))) ∧ iteP x (andP (roomB (addN (lenL y11) (lenL [api_Known.mk (rd (api_Known.mk (bs []) (api_Outcome.mk 0 [] [])) v47 v49).1 (api_Outcome.mk (rd (api_Known.mk (bs []) (api_Outcome.mk 0 [] [])) v47 v49).2.1 (rd (api_Known.mk (bs []) (api_Outcome.mk 0 [] [])) v47 v49).2.2 (rd (api_Known.mk (bs []) (api_Outcome.mk 0 [] [])) v47 v49).2.3)])) 72) (At K 8 post t8_8 (s8_8 v0 v2 v47 v48 (addW IntKind.i64 v49 1) x7_gKind x7_gValue x7_gFail x9_gOutcome_gKind x9_gOutcome_gValue x9_gOutcome_gFail x9_gGate x9_gAsked (appL y11 [api_Known.mk (rd (api_Known.mk (bs []) (api_Outcome.mk 0 [] [])) v47 v49).1 (api_Outcome.mk (rd (api_Known.mk (bs []) (api_Outcome.mk 0 [] [])) v47 v49).2.1 (rd (api_Known.mk (bs []) (api_Outcome.mk 0 [] [])) v47 v49).2.2 (rd (api_Known.mk (bs []) (api_Outcome.mk 0 [] [])) v47 v49).2.3)]) H))) (∃ (x : api_Outcome), (Gives 29 [C.agg [C.d (D.int IntKind.i64 x7_gKind), C.d (D.sl Ty.api_Atom x7_gValue), C.d (D.sl Ty.api_Crack x7_gFail)]] (C.agg [C.d (D.int IntKind.i64 x.1), C.d (D.sl Ty.api_Atom x.2), C.d (D.sl Ty.api_Crack x.3)])) ∧ andP (roomB (addN (lenL y11) (lenL [api_Known.mk (rd (api_Known.mk (bs []) (api_Outcome.mk 0 [] [])) v47 v49).1 (api_Outcome.mk x.1 x.2 x.3)])) 72) (At K 8 post t8_8 (s8_8 v0 v2 v47 v48 (addW IntKind.i64 v49 1) x7_gKind x7_gValue x7_gFail x9_gOutcome_gKind x9_gOutcome_gValue x9_gOutcome_gFail x9_gGate x9_gAsked (appL y11 [api_Known.mk (rd (api_Known.mk (bs []) (api_Outcome.mk 0 [] [])) v47 v49).1 (api_Outcome.mk x.1 x.2 x.3)]) H)))))
  (∃ (x : List api_Op),
    (Gives 32 [C.d (D.sl Ty.api_Op v0)] (C.d (D.sl Ty.api_Op x))) ∧
      ∃ (x_1 : List ByteArray),
        (Gives 34 [C.d (D.sl Ty.str v2)] (C.osl Ty.str x_1)) ∧
          ∃ (x_2 : api_Meaning × Int),
            ∃ (y :
              List
                (O
                  U)),
              (GivesM 31 [C.d (D.sl Ty.api_Op x), C.d (D.sl Ty.api_Known y11), C.d (D.sl Ty.str x_1)] H (C.tup [C.agg [C.d (D.int IntKind.i64 x_2.1.1.1), C.d (D.sl Ty.api_Atom x_2.1.1.2), C.d (D.sl Ty.api_Crack x_2.1.1.3), C.d (D.str x_2.1.2), C.d (D.sl Ty.str x_2.1.3)], C.d (D.int IntKind.i64 x_2.2)]) y) ∧ ∃ (v : Bool), iteP (eqI x_2.2 5) (true = v) (∃ (v_1 : Bool), iteP (eqI x_2.2 0) (∃ (x : Bool), (Gives 36 [C.agg [C.d (D.int IntKind.i64 x9_gOutcome_gKind), C.d (D.sl Ty.api_Atom x9_gOutcome_gValue), C.d (D.sl Ty.api_Crack x9_gOutcome_gFail), C.d (D.str x9_gGate), C.d (D.sl Ty.str x9_gAsked)], C.agg [C.d (D.int IntKind.i64 x_2.1.1.1), C.d (D.sl Ty.api_Atom x_2.1.1.2), C.d (D.sl Ty.api_Crack x_2.1.1.3), C.d (D.str x_2.1.2), C.d (D.sl Ty.str x_2.1.3)]] (C.d (D.bool x))) ∧ x = v_1) (false = v_1) ∧ v_1 = v) ∧ post (C.d (D.bool v)) [])) → At K 8 post t8_8 (s8_8 v0 v2 v47 v48 v49 x7_gKind x7_gValue x7_gFail x9_gOutcome_gKind x9_gOutcome_gValue x9_gOutcome_gFail x9_gGate x9_gAsked y11 H) :=
  atW Tryd.f8 (by kernel_rfl) (by kernel_rfl)

/-! ### onceweb/onceweblaw08.EvalGates -/
theorem e9 (a0 : (List api_Op)) (a1 : (List api_Known)) (a2 : (List ByteArray)) (a3 : (List ByteArray)) (post : Post) : (∃ (x : Bool),
  (Gives 30 [] (C.d (D.bool x))) ∧
    iteP (notB x) (post (C.d (D.bool false)) [])
      (∃ (x : List api_Op),
        (Gives 32 [C.d (D.sl Ty.api_Op a0)] (C.d (D.sl Ty.api_Op x))) ∧
          ∃ (x_1 : List api_Known),
            (Gives 33 [C.d (D.sl Ty.api_Known a1)] (C.d (D.sl Ty.api_Known x_1))) ∧
              ∃ (x_2 : List ByteArray),
                (Gives 34 [C.d (D.sl Ty.str a2)] (C.osl Ty.str x_2)) ∧
                  ∃ (x_3 : api_Meaning × Int),
                    ∃ (y :
                      List
                        (O
                          U)),
                      (GivesM 31 [C.d (D.sl Ty.api_Op x), C.d (D.sl Ty.api_Known x_1), C.d (D.sl Ty.str x_2)] [] (C.tup [C.agg [C.d (D.int IntKind.i64 x_3.1.1.1), C.d (D.sl Ty.api_Atom x_3.1.1.2), C.d (D.sl Ty.api_Crack x_3.1.1.3), C.d (D.str x_3.1.2), C.d (D.sl Ty.str x_3.1.3)], C.d (D.int IntKind.i64 x_3.2)]) y) ∧
                        ∃ (x : List api_Op),
                          (Gives 32 [C.d (D.sl Ty.api_Op a0)] (C.d (D.sl Ty.api_Op x))) ∧
                            ∃ (x_4 : List api_Known),
                              (Gives 33 [C.d (D.sl Ty.api_Known a1)] (C.d (D.sl Ty.api_Known x_4))) ∧
                                ∃ (x_5 : List ByteArray),
                                  (Gives 34 [C.d (D.sl Ty.str a2)] (C.osl Ty.str x_5)) ∧
                                    andP (roomB (addN (lenL x_5) (lenL a3)) 16)
                                      (∃ (x_6 : api_Meaning × Int),
                                        ∃ (y_1 :
                                          List
                                            (O
                                              U)),
                                          (GivesM 31 [C.d (D.sl Ty.api_Op x), C.d (D.sl Ty.api_Known x_4), C.d (D.sl Ty.str (appL x_5 a3))] y (C.tup [C.agg [C.d (D.int IntKind.i64 x_6.1.1.1), C.d (D.sl Ty.api_Atom x_6.1.1.2), C.d (D.sl Ty.api_Crack x_6.1.1.3), C.d (D.str x_6.1.2), C.d (D.sl Ty.str x_6.1.3)], C.d (D.int IntKind.i64 x_6.2)]) y_1) ∧ ∃ (v : Bool), iteP (notB (eqI x_3.2 0)) (true = v) (notB (eqI x_6.2 0) = v) ∧ iteP v (∃ (v : Bool), iteP (notB (eqI x_3.2 0)) (notB (eqI x_6.2 0) = v) (false = v) ∧ ∃ (v_1 : Bool), iteP v (true = v_1) (eqI x_6.2 2 = v_1) ∧ ∃ (v : Bool), iteP v_1 (true = v) (eqI x_6.2 3 = v) ∧ post (C.d (D.bool v)) []) (iteP (strEq x_3.1.2 (bs [])) (∃ (x : Bool), (Gives 36 [C.agg [C.d (D.int IntKind.i64 x_3.1.1.1), C.d (D.sl Ty.api_Atom x_3.1.1.2), C.d (D.sl Ty.api_Crack x_3.1.1.3), C.d (D.str x_3.1.2), C.d (D.sl Ty.str x_3.1.3)], C.agg [C.d (D.int IntKind.i64 x_6.1.1.1), C.d (D.sl Ty.api_Atom x_6.1.1.2), C.d (D.sl Ty.api_Crack x_6.1.1.3), C.d (D.str x_6.1.2), C.d (D.sl Ty.str x_6.1.3)]] (C.d (D.bool x))) ∧ ∃ (v : Bool), iteP x (notB (eqI x_3.1.1.1 0) = v) (false = v) ∧ post (C.d (D.bool v)) []) (∃ (x : Bool), (Gives 35 [C.d (D.sl Ty.str a2), C.d (D.str x_3.1.2)] (C.d (D.bool x))) ∧ ∃ (v : Bool), iteP x (true = v) (notB (eqI x_3.1.1.1 0) = v) ∧ ∃ (v_1 : Bool), iteP v (true = v_1) (ltI (intN (lenL x_6.1.3)) (intN (lenL x_3.1.3)) = v_1) ∧ iteP v_1 (post (C.d (D.bool false)) []) (∃ (x : Bool), (Gives 35 [C.d (D.sl Ty.str a3), C.d (D.str x_3.1.2)] (C.d (D.bool x))) ∧ iteP (notB x) (∃ (x : Bool), (Gives 36 [C.agg [C.d (D.int IntKind.i64 x_3.1.1.1), C.d (D.sl Ty.api_Atom x_3.1.1.2), C.d (D.sl Ty.api_Crack x_3.1.1.3), C.d (D.str x_3.1.2), C.d (D.sl Ty.str x_3.1.3)], C.agg [C.d (D.int IntKind.i64 x_6.1.1.1), C.d (D.sl Ty.api_Atom x_6.1.1.2), C.d (D.sl Ty.api_Crack x_6.1.1.3), C.d (D.str x_6.1.2), C.d (D.sl Ty.str x_6.1.3)]] (C.d (D.bool x))) ∧ post (C.d (D.bool x)) []) (andP (andB (leI 0 0) (andB (leI 0 (intN (lenL x_3.1.3))) (leI (intN (lenL x_3.1.3)) (intN (lenL x_6.1.3))))) (∃ (x : Bool), (Gives 37 [C.d (D.sl Ty.str (dropL (natI 0) (takeL (natI (intN (lenL x_3.1.3))) x_6.1.3))), C.d (D.sl Ty.str x_3.1.3)] (C.d (D.bool x))) ∧ post (C.d (D.bool x)) [])))))))) → Runs K 9 [.d (.sl .api_Op a0), .d (.sl .api_Known a1), .d (.sl .str a2), .d (.sl .str a3)] [] post :=
  ofW Tryd.f9 (by kernel_rfl) (by kernel_rfl) (by kernel_rfl) (by kernel_rfl)

/-! ### onceweb/onceweblaw08.EvalLiterals -/
theorem e10 (a0 : (List api_Atom)) (post : Post) : (∃ (x : List api_Atom), (Gives 38 [C.d (D.sl Ty.api_Atom a0)] (C.d (D.sl Ty.api_Atom x))) ∧ ∃ (x_1 : List api_Op × Int), (Gives 39 [C.d (D.sl Ty.api_Atom x)] (C.tup [C.d (D.sl Ty.api_Op x_1.1), C.d (D.int IntKind.i64 x_1.2)])) ∧ ∃ (x_2 : List api_Op × Int), (Gives 40 [C.d (D.sl Ty.api_Atom a0)] (C.tup [C.d (D.sl Ty.api_Op x_2.1), C.d (D.int IntKind.i64 x_2.2)])) ∧ ∃ (x_3 : Bool), (Gives 41 [C.d (D.sl Ty.api_Op x_1.1), C.d (D.sl Ty.api_Op x_2.1)] (C.d (D.bool x_3))) ∧ ∃ (v : Bool), iteP x_3 (eqI x_1.2 x_2.2 = v) (false = v) ∧ ∃ (v_1 : Bool), iteP v (∃ (x_4 : Bool), (Gives 42 [C.d (D.sl Ty.api_Atom x), C.d (D.sl Ty.api_Atom a0)] (C.d (D.bool x_4))) ∧ x_4 = v_1) (false = v_1) ∧ ∃ (v : Bool), iteP v_1 (∃ (x : Bool), (Gives 30 [] (C.d (D.bool x))) ∧ x = v) (false = v) ∧ post (C.d (D.bool v)) []) → Runs K 10 [.d (.sl .api_Atom a0)] [] post :=
  ofW Tryd.f10 (by kernel_rfl) (by kernel_rfl) (by kernel_rfl) (by kernel_rfl)

end Go.Proofs.YtikcopbjconkfaaDoor.V
