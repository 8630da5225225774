/- LEMMAS: what functions come to, place by place (written by a program of mine). Conditions: none. -/
import Derived.Test.YtikcopbjconkfaaDoorC2
namespace Go.Proofs.YtikcopbjconkfaaDoor.V
set_option linter.unusedVariables false
set_option linter.unusedSimpArgs false
open Go Go.Abs
set_option maxRecDepth 100000
/-! ### onceweb/names.walk -/
noncomputable def t116_4 : List Item := (todoAt 4 (Tryd.f116.body.getD .skip) []).getD []
noncomputable def s116_4 (v0 : (List api_Op)) (v1 : (List Int)) (v2 : Int) (v3 : (List ByteArray)) (p : Nat) (v22 : (List Int)) (v23 : Int) (v24 : Int) (H : List (O U)) : St U := ⟨ofList .dead [(0, .d (.sl .api_Op v0)), (1, .d (.sl .int v1)), (2, .d (.int .i64 v2)), (3, .d (.sl .str v3)), (4, .fp 117 [] [.ptr (.g p) 0]), (22, .d (.sl .int v22)), (23, .d (.int .i64 v23)), (24, .d (.int .i64 v24))], ofList none [], H⟩
theorem e116 (a0 : (List api_Op)) (a1 : (List Int)) (a2 : Int) (a3 : (List ByteArray)) (p : Nat) (H : List (O U)) (post : Post) : (∃ (x : Bool), ∃ (y : Unit), (GivesM 117 [C.d (D.int IntKind.i64 a2), C.d (D.sl Ty.str a3), C.ptr (Rf.g p) 0] H (C.d (D.bool x)) H) ∧ iteP (notB x) (post (C.d (D.bool false)) H) (∃ (x : List Int), (Gives 154 [C.d (D.sl Ty.api_Op a0), C.d (D.sl Ty.int a1), C.d (D.int IntKind.i64 a2)] (C.d (D.sl Ty.int x))) ∧ At K 116 post t116_4 (s116_4 a0 a1 a2 a3 p x (intN (lenL x)) 0 H))) → Runs K 116 [.d (.sl .api_Op a0), .d (.sl .int a1), .d (.int .i64 a2), .d (.sl .str a3), .fp 117 [] [.ptr (.g p) 0]] H post :=
  ofHS Tryd.f116 (by kernel_rfl) (by kernel_rfl) (by kernel_rfl) (by kernel_rfl) (by kernel_rfl)
theorem l116_4 (v0 : (List api_Op)) (v1 : (List Int)) (v2 : Int) (v3 : (List ByteArray)) (p : Nat) (v22 : (List Int)) (v23 : Int) (v24 : Int) (H : List (O U)) (post : Post) : (iteP (ltI v24 v23) (andP (inB v24 (lenL v22)) (andP (inB v2 (lenL v0)) (∃ (v : Bool), iteP (eqI (rd (api_Op.mk 0 0 0 (bs [])) v0 v2).1 19) (eqI v24 1 = v) (false = v) ∧ iteP v (∃ (x : List ByteArray), (Gives 155 [C.d (D.sl Ty.str v3)] (C.osl Ty.str x)) ∧ andP (inB v2 (lenL v0)) (andP (roomB (addN (lenL x) (lenL [(rd (api_Op.mk 0 0 0 (bs [])) v0 v2).4])) 16) (∃ (x_1 : Bool), ∃ (y : Unit), (GivesM 116 [C.d (D.sl Ty.api_Op v0), C.d (D.sl Ty.int v1), C.d (D.int IntKind.i64 (rd (Int.ofNat 0) v22 v24)), C.d (D.sl Ty.str (appL x [(rd (api_Op.mk 0 0 0 (bs [])) v0 v2).4])), C.fp 117 [] [C.ptr (Rf.g p) 0]] H (C.d (D.bool x_1)) H) ∧ iteP (notB x_1) (post (C.d (D.bool false)) H) (At K 116 post t116_4 (s116_4 v0 v1 v2 v3 p v22 v23 (addW IntKind.i64 v24 1) H))))) (∃ (x : Bool), ∃ (y : Unit), (GivesM 116 [C.d (D.sl Ty.api_Op v0), C.d (D.sl Ty.int v1), C.d (D.int IntKind.i64 (rd (Int.ofNat 0) v22 v24)), C.d (D.sl Ty.str v3), C.fp 117 [] [C.ptr (Rf.g p) 0]] H (C.d (D.bool x)) H) ∧ iteP (notB x) (post (C.d (D.bool false)) H) (At K 116 post t116_4 (s116_4 v0 v1 v2 v3 p v22 v23 (addW IntKind.i64 v24 1) H)))))) (post (C.d (D.bool true)) H)) → At K 116 post t116_4 (s116_4 v0 v1 v2 v3 p v22 v23 v24 H) :=
  atWS Tryd.f116 (by kernel_rfl) (by kernel_rfl)

/-! ### onceweb/names.Check$1 -/
theorem e117 (a0 : Int) (a1 : List ByteArray) (p : Nat) (H : List (O U)) (post : Post) : (∃ (x : List api_Op), obj H p = some (O.cells [C.d (D.sl Ty.api_Op x)]) ∧ andP (inB a0 (lenL x)) (∃ (v : Bool), iteP (notB (eqI (rd (api_Op.mk 0 0 0 (bs [])) x a0).1 4)) (true = v) (∃ (x : List api_Op), obj H p = some (O.cells [C.d (D.sl Ty.api_Op x)]) ∧ andP (inB a0 (lenL x)) (∃ (x_1 : Bool), (Gives 98 [C.d (D.sl Ty.str a1), C.d (D.str (rd (api_Op.mk 0 0 0 (bs [])) x a0).4)] (C.d (D.bool x_1))) ∧ x_1 = v)) ∧ post (C.d (D.bool v)) H)) → Runs K 117 [.d (.int .i64 a0), .d (.sl .str a1), .ptr (.g p) 0] H post :=
  ofHS Tryd.f117 (by kernel_rfl) (by kernel_rfl) (by kernel_rfl) (by kernel_rfl) (by kernel_rfl)

/-! ### onceweb/names.Check -/
noncomputable def t73_10 : List Item := (todoAt 10 (Tryd.f73.body.getD .skip) []).getD []
noncomputable def s73_10 (v27 : (List api_Op)) (v28 : Int) (v29 : Int) (h0 : List api_Op) : St U := ⟨ofList .dead [(1, .ptr (.g 0) 0), (27, .d (.sl .api_Op v27)), (28, .d (.int .i64 v28)), (29, .d (.int .i64 v29))], ofList none [], [.cells [.d (.sl .api_Op h0)]]⟩
theorem e73 (a0 : (List api_Op)) (post : Post) : (iteP (ltI 256 (intN (lenL a0))) (post (C.d (D.int IntKind.i64 3)) []) (∃ (x : List Int × Bool), (Gives 115 [C.d (D.sl Ty.api_Op a0)] (C.tup [C.d (D.sl Ty.int x.1), C.d (D.bool x.2)])) ∧ iteP (notB x.2) (post (C.d (D.int IntKind.i64 5)) []) (∃ (x_1 : Bool), ∃ (y : Unit), (GivesM 116 [C.d (D.sl Ty.api_Op a0), C.d (D.sl Ty.int x.1), C.d (D.int IntKind.i64 (subW IntKind.i64 (intN (lenL a0)) 1)), C.d (D.sl Ty.str (nilL ByteArray)), C.fp 117 [] [C.ptr (Rf.g 0) 0]] [O.cells [C.d (D.sl Ty.api_Op a0)]] (C.d (D.bool x_1)) [O.cells [C.d (D.sl Ty.api_Op a0)]]) ∧ iteP (notB x_1) (post (C.d (D.int IntKind.i64 5)) []) (At K 73 post t73_10 (s73_10 a0 (intN (lenL a0)) 0 a0))))) → Runs K 73 [.d (.sl .api_Op a0)] [] post :=
  ofW Tryd.f73 (by kernel_rfl) (by kernel_rfl) (by kernel_rfl) (by kernel_rfl)
theorem l73_10 (v27 : (List api_Op)) (v28 : Int) (v29 : Int) (h0 : List api_Op) (post : Post) : (iteP (ltI v29 v28) (andP (inB v29 (lenL v27)) (iteP (ltI 4096 (intN (strLen (rd (api_Op.mk 0 0 0 (bs [])) v27 v29).4))) (post (C.d (D.int IntKind.i64 3)) []) (At K 73 post t73_10 (s73_10 v27 v28 (addW IntKind.i64 v29 1) h0)))) (∃ (x : Int), (Gives 118 [C.d (D.sl Ty.api_Op h0)] (C.d (D.int IntKind.i64 x))) ∧ iteP (ltI 32 x) (post (C.d (D.int IntKind.i64 3)) []) (post (C.d (D.int IntKind.i64 0)) []))) → At K 73 post t73_10 (s73_10 v27 v28 v29 h0) :=
  atW Tryd.f73 (by kernel_rfl) (by kernel_rfl)

/-! ### onceweb/eval.given -/
noncomputable def t74_5 : List Item := (todoAt 5 (Tryd.f74.body.getD .skip) []).getD []
noncomputable def s74_5 (v1 : (List ByteArray)) (v6 : Nat) (v15 : (List api_Known)) (v16 : Int) (v17 : Int) (H : List (O U)) : St U := ⟨ofList .dead [(1, .d (.sl .str v1)), (6, .mp (.g v6)), (15, .d (.sl .api_Known v15)), (16, .d (.int .i64 v16)), (17, .d (.int .i64 v17))], ofList none [], H⟩
theorem e74 (a0 : (List api_Known)) (a1 : (List ByteArray)) (H : List (O U)) (post : Post) : (iteP (ltI 4096 (intN (lenL a0))) (post (C.tup [C.d D.nilm, C.d (D.int IntKind.i64 3)]) H) (At K 74 post t74_5 (s74_5 a1 (lenO H) a0 (intN (lenL a0)) 0 (pushO H (O.map (false, true) Ty.str (Vc.pure Ty.api_Outcome) []))))) → Runs K 74 [.d (.sl .api_Known a0), .d (.sl .str a1)] H post :=
  ofHS Tryd.f74 (by kernel_rfl) (by kernel_rfl) (by kernel_rfl) (by kernel_rfl) (by kernel_rfl)
theorem l74_5 (v1 : (List ByteArray)) (v6 : Nat) (v15 : (List api_Known)) (v16 : Int) (v17 : Int) (H : List (O U)) (post : Post) : (iteP (ltI v17 v16) (andP (inB v17 (lenL v15)) (∃ (es : List (ByteArray × api_Outcome)), obj H v6 = some (O.map (false, true) Ty.str (Vc.pure Ty.api_Outcome) es) ∧ ∃ (x : Bool), (Gives 49 [C.d (D.str (rd (api_Known.mk (bs []) (api_Outcome.mk 0 [] [])) v15 v17).1)] (C.d (D.bool x))) ∧ iteP (notB x) (post (C.tup [C.d D.nilm, C.d (D.int IntKind.i64 2)]) H) (iteP (someO (findK (fun (x y : ByteArray) => andB (strEq x y) true) (rd (api_Known.mk (bs []) (api_Outcome.mk 0 [] [])) v15 v17).1 es)) (post (C.tup [C.d D.nilm, C.d (D.int IntKind.i64 6)]) H) (∃ (x : Bool), (Gives 119 [C.agg [C.d (D.int IntKind.i64 (rd (api_Known.mk (bs []) (api_Outcome.mk 0 [] [])) v15 v17).2.1), C.d (D.sl Ty.api_Atom (rd (api_Known.mk (bs []) (api_Outcome.mk 0 [] [])) v15 v17).2.2), C.d (D.sl Ty.api_Crack (rd (api_Known.mk (bs []) (api_Outcome.mk 0 [] [])) v15 v17).2.3)]] (C.d (D.bool x))) ∧ iteP (notB x) (post (C.tup [C.d D.nilm, C.d (D.int IntKind.i64 5)]) H) (∃ (es : List (ByteArray × api_Outcome)), obj H v6 = some (O.map (false, true) Ty.str (Vc.pure Ty.api_Outcome) es) ∧ At K 74 post t74_5 (s74_5 v1 v6 v15 v16 (addW IntKind.i64 v17 1) (updO H v6 (O.map (false, true) Ty.str (Vc.pure Ty.api_Outcome) (updK (fun (x y : ByteArray) => andB (strEq x y) true) (rd (api_Known.mk (bs []) (api_Outcome.mk 0 [] [])) v15 v17).1 (api_Outcome.mk (rd (api_Known.mk (bs []) (api_Outcome.mk 0 [] [])) v15 v17).2.1 (rd (api_Known.mk (bs []) (api_Outcome.mk 0 [] [])) v15 v17).2.2 (rd (api_Known.mk (bs []) (api_Outcome.mk 0 [] [])) v15 v17).2.3) es))))))))) (iteP (ltI 4096 (intN (lenL v1))) (post (C.tup [C.d D.nilm, C.d (D.int IntKind.i64 3)]) H) (∃ (x : Bool), ∃ (y : Unit), (GivesM 96 [C.d (D.sl Ty.str v1), C.fp 120 [] []] H (C.d (D.bool x)) H) ∧ iteP x (post (C.tup [C.d D.nilm, C.d (D.int IntKind.i64 2)]) H) (post (C.tup [C.mp (Rf.g v6), C.d (D.int IntKind.i64 0)]) H)))) → At K 74 post t74_5 (s74_5 v1 v6 v15 v16 v17 H) :=
  atWS Tryd.f74 (by kernel_rfl) (by kernel_rfl)

/-! ### (*onceweb/eval.way).ask -/
theorem e123 (a0 : Nat) (a1 : ByteArray) (H : List (O U)) (post : Post) : (∃ (x : WayS), obj H a0 = some (O.cells [C.d (D.sl Ty.api_Op x.1), C.d (D.sl Ty.int x.2), C.mp (Rf.g x.3), C.d (D.sl Ty.str x.4), C.asl (Rf.g x.5) x.6 x.7 false, C.d (D.str x.8)]) ∧ ∃ (xs : List ByteArray), obj H x.5 = some (O.arr x.6 (Vc.pure Ty.str) xs) ∧ andP (eqN (subOff x.7) 0) (andP (subFit x.7 (lenL xs)) (andP (roomB (addN (subLen x.7 (lenL xs)) (lenL [a1])) 16) (∃ (y : WayS), obj (updO H x.5 (O.arr (Nat.succ x.6) (Vc.pure Ty.str) (appL (subRows x.7 xs) [a1]))) a0 = some (O.cells [C.d (D.sl Ty.api_Op y.1), C.d (D.sl Ty.int y.2), C.mp (Rf.g y.3), C.d (D.sl Ty.str y.4), C.asl (Rf.g y.5) y.6 y.7 false, C.d (D.str y.8)]) ∧ ∃ (x_1 : WayS), obj (updO (updO H x.5 (O.arr (Nat.succ x.6) (Vc.pure Ty.str) (appL (subRows x.7 xs) [a1]))) a0 (O.cells [C.d (D.sl Ty.api_Op y.1), C.d (D.sl Ty.int y.2), C.mp (Rf.g y.3), C.d (D.sl Ty.str y.4), C.asl (Rf.g x.5) (Nat.succ x.6) none false, C.d (D.str y.8)])) a0 = some (O.cells [C.d (D.sl Ty.api_Op x_1.1), C.d (D.sl Ty.int x_1.2), C.mp (Rf.g x_1.3), C.d (D.sl Ty.str x_1.4), C.asl (Rf.g x_1.5) x_1.6 x_1.7 false, C.d (D.str x_1.8)]) ∧ ∃ (es : List (ByteArray × api_Outcome)), obj (updO (updO H x.5 (O.arr (Nat.succ x.6) (Vc.pure Ty.str) (appL (subRows x.7 xs) [a1]))) a0 (O.cells [C.d (D.sl Ty.api_Op y.1), C.d (D.sl Ty.int y.2), C.mp (Rf.g y.3), C.d (D.sl Ty.str y.4), C.asl (Rf.g x.5) (Nat.succ x.6) none false, C.d (D.str y.8)])) x_1.3 = some (O.map (false, true) Ty.str (Vc.pure Ty.api_Outcome) es) ∧ iteP (notB (someO (findK (fun (x y : ByteArray) => andB (strEq x y) true) a1 es))) (∃ (x_2 : api_Outcome), (Gives 157 [C.d (D.int IntKind.i64 4), C.d (D.str a1)] (C.agg [C.d (D.int IntKind.i64 x_2.1), C.d (D.sl Ty.api_Atom x_2.2), C.d (D.sl Ty.api_Crack x_2.3)])) ∧ post (C.agg [C.d (D.int IntKind.i64 x_2.1), C.d (D.sl Ty.api_Atom x_2.2), C.d (D.sl Ty.api_Crack x_2.3)]) (updO (updO H x.5 (O.arr (Nat.succ x.6) (Vc.pure Ty.str) (appL (subRows x.7 xs) [a1]))) a0 (O.cells [C.d (D.sl Ty.api_Op y.1), C.d (D.sl Ty.int y.2), C.mp (Rf.g y.3), C.d (D.sl Ty.str y.4), C.asl (Rf.g x.5) (Nat.succ x.6) none false, C.d (D.str y.8)]))) (post (C.agg [C.d (D.int IntKind.i64 (getO' (api_Outcome.mk 0 (nilL api_Atom) (nilL api_Crack)) (findK (fun (x y : ByteArray) => andB (strEq x y) true) a1 es)).1), C.d (D.sl Ty.api_Atom (getO' (api_Outcome.mk 0 (nilL api_Atom) (nilL api_Crack)) (findK (fun (x y : ByteArray) => andB (strEq x y) true) a1 es)).2), C.d (D.sl Ty.api_Crack (getO' (api_Outcome.mk 0 (nilL api_Atom) (nilL api_Crack)) (findK (fun (x y : ByteArray) => andB (strEq x y) true) a1 es)).3)]) (updO (updO H x.5 (O.arr (Nat.succ x.6) (Vc.pure Ty.str) (appL (subRows x.7 xs) [a1]))) a0 (O.cells [C.d (D.sl Ty.api_Op y.1), C.d (D.sl Ty.int y.2), C.mp (Rf.g y.3), C.d (D.sl Ty.str y.4), C.asl (Rf.g x.5) (Nat.succ x.6) none false, C.d (D.str y.8)]))))))) → Runs K 123 [.ptr (.g a0) 0, .d (.str a1)] H post :=
  ofHS Tryd.f123 (by kernel_rfl) (by kernel_rfl) (by kernel_rfl) (by kernel_rfl) (by kernel_rfl)

/-! ### slices.Backward[[]onceweb/eval.local,onceweb/eval.local] -/
theorem e124 (a0 : (List eval_local)) (H : List (O U)) (post : Post) : (post (C.fp 158 [] [C.ptr (Rf.g (lenO H)) 0]) (pushO H (O.cells [C.d (D.sl Ty.eval_local a0)]))) → Runs K 124 [.d (.sl .eval_local a0)] H post :=
  ofHS Tryd.f124 (by kernel_rfl) (by kernel_rfl) (by kernel_rfl) (by kernel_rfl) (by kernel_rfl)

/-! ### (*onceweb/eval.way).first -/
theorem e125 (a0 : Nat) (a1 : api_Op) (a2 : (List Int)) (a3 : (List eval_local)) (H : List (O U)) (post : Post) : (andP (inB 0 (lenL a2))
  (∃ (x : api_Outcome),
    ∃ (y :
      List
        (O
          U)),
      (GivesM 76 [C.ptr (Rf.g a0) 0, C.d (D.int IntKind.i64 (rd (Int.ofNat 0) a2 0)), C.d (D.sl Ty.eval_local a3)] H (C.agg [C.d (D.int IntKind.i64 x.1), C.d (D.sl Ty.api_Atom x.2), C.d (D.sl Ty.api_Crack x.3)]) y) ∧
        iteP (notB (eqI x.1 1)) (post (C.agg [C.d (D.int IntKind.i64 x.1), C.d (D.sl Ty.api_Atom x.2), C.d (D.sl Ty.api_Crack x.3)]) y)
          (∃ (x_1 : api_Atom),
            (Gives 159 [C.d (D.sl Ty.api_Atom x.2)] (C.agg [C.d (D.int IntKind.i64 x_1.1), C.d (D.int IntKind.i64 x_1.2), C.d (D.int IntKind.i64 x_1.3), C.d (D.str x_1.4)])) ∧
              iteP (eqI a1.1 19)
                (andP (inB 1 (lenL a2))
                  (∃ (x_2 : List eval_local),
                    (Gives 160 [C.d (D.sl Ty.eval_local a3)] (C.osl Ty.eval_local x_2)) ∧
                      andP (roomB (addN (lenL x_2) (lenL [eval_local.mk a1.4 x.2])) 40)
                        (∃ (x_3 : api_Outcome),
                          ∃ (y_1 :
                            List
                              (O
                                U)),
                            (GivesM 76 [C.ptr (Rf.g a0) 0, C.d (D.int IntKind.i64 (rd (Int.ofNat 0) a2 1)), C.d (D.sl Ty.eval_local (appL x_2 [eval_local.mk a1.4 x.2]))] y (C.agg [C.d (D.int IntKind.i64 x_3.1), C.d (D.sl Ty.api_Atom x_3.2), C.d (D.sl Ty.api_Crack x_3.3)]) y_1) ∧ post (C.agg [C.d (D.int IntKind.i64 x_3.1), C.d (D.sl Ty.api_Atom x_3.2), C.d (D.sl Ty.api_Crack x_3.3)]) y_1)))
                (∃ (v : Bool),
                  iteP (eqI a1.1 14) (eqI x_1.1 1 = v) (false = v) ∧
                    ∃ (v_1 : Bool),
                      iteP v (notB (eqI x_1.3 0) = v_1) (false = v_1) ∧
                        iteP v_1
                          (andP (inB 1 (lenL a2))
                            (∃ (x : api_Outcome),
                              ∃ (y_1 :
                                List
                                  (O
                                    U)),
                                (GivesM 76 [C.ptr (Rf.g a0) 0, C.d (D.int IntKind.i64 (rd (Int.ofNat 0) a2 1)), C.d (D.sl Ty.eval_local a3)] y (C.agg [C.d (D.int IntKind.i64 x.1), C.d (D.sl Ty.api_Atom x.2), C.d (D.sl Ty.api_Crack x.3)]) y_1) ∧ post (C.agg [C.d (D.int IntKind.i64 x.1), C.d (D.sl Ty.api_Atom x.2), C.d (D.sl Ty.api_Crack x.3)]) y_1))
                          (∃ (v : Bool),
                            iteP (eqI a1.1 14) (eqI x_1.1 1 = v) (false = v) ∧
                              iteP v
                                (andP (inB 2 (lenL a2))
                                  (∃ (x : api_Outcome),
                                    ∃ (y_1 :
                                      List
                                        (O
                                          U)),
                                      (GivesM 76 [C.ptr (Rf.g a0) 0, C.d (D.int IntKind.i64 (rd (Int.ofNat 0) a2 2)), C.d (D.sl Ty.eval_local a3)] y (C.agg [C.d (D.int IntKind.i64 x.1), C.d (D.sl Ty.api_Atom x.2), C.d (D.sl Ty.api_Crack x.3)]) y_1) ∧ post (C.agg [C.d (D.int IntKind.i64 x.1), C.d (D.sl Ty.api_Atom x.2), C.d (D.sl Ty.api_Crack x.3)]) y_1))
                                (∃ (v : Bool), iteP (eqI a1.1 16) (eqI x_1.1 2 = v) (false = v) ∧ iteP v (∃ (x : api_Outcome), (Gives 157 [C.d (D.int IntKind.i64 1), C.d (D.str x_1.4)] (C.agg [C.d (D.int IntKind.i64 x.1), C.d (D.sl Ty.api_Atom x.2), C.d (D.sl Ty.api_Crack x.3)])) ∧ post (C.agg [C.d (D.int IntKind.i64 x.1), C.d (D.sl Ty.api_Atom x.2), C.d (D.sl Ty.api_Crack x.3)]) y) (∃ (v : Bool), iteP (eqI a1.1 17) (eqI x_1.1 2 = v) (false = v) ∧ iteP v (post (C.agg [C.d (D.int IntKind.i64 3), C.d (D.sl Ty.api_Atom (nilL api_Atom)), C.d (D.sl Ty.api_Crack [api_Crack.mk 2 0 x_1.4])]) y) (∃ (x : ByteArray), (Gives 161 [C.d (D.int IntKind.i64 a1.1)] (C.d (D.str x))) ∧ ∃ (x_2 : api_Outcome), (Gives 157 [C.d (D.int IntKind.i64 3), C.d (D.str x)] (C.agg [C.d (D.int IntKind.i64 x_2.1), C.d (D.sl Ty.api_Atom x_2.2), C.d (D.sl Ty.api_Crack x_2.3)])) ∧ post (C.agg [C.d (D.int IntKind.i64 x_2.1), C.d (D.sl Ty.api_Atom x_2.2), C.d (D.sl Ty.api_Crack x_2.3)]) y)))))))) → Runs K 125 [.ptr (.g a0) 0, .agg [.d (.int .i64 a1.gKind), .d (.int .i64 a1.gN), .d (.int .i64 a1.gInt), .d (.str a1.gText)], .d (.sl .int a2), .d (.sl .eval_local a3)] H post :=
  ofHS Tryd.f125 (by kernel_rfl) (by kernel_rfl) (by kernel_rfl) (by kernel_rfl) (by kernel_rfl)

/-! ### (*onceweb/eval.way).at -/
noncomputable def t76_31 : List Item := (todoAt 31 (Tryd.f76.body.getD .skip) []).getD []
noncomputable def s76_31 (v0 : Nat) (v2 : (List eval_local)) (v119 : (List Int)) (v120 : Int) (v121 : Int) (x6_gKind : Int) (x6_gValue : (List api_Atom)) (x6_gFail : (List api_Crack)) (x7_gKind : Int) (x7_gN : Int) (x7_gInt : Int) (x7_gText : ByteArray) (y12 : List ((List api_Atom))) (H : List (O U)) : St U := ⟨ofList .dead [(0, .ptr (.g v0) 0), (2, .d (.sl .eval_local v2)), (6, .ptr (.l 6) 0), (7, .ptr (.l 7) 0), (12, .asl (.l 12) 0 none false), (119, .d (.sl .int v119)), (120, .d (.int .i64 v120)), (121, .d (.int .i64 v121))], ofList none [(6, some (.cells [.d (.int .i64 x6_gKind), .d (.sl .api_Atom x6_gValue), .d (.sl .api_Crack x6_gFail)])), (7, some (.cells [.d (.int .i64 x7_gKind), .d (.int .i64 x7_gN), .d (.int .i64 x7_gInt), .d (.str x7_gText)])), (12, some (.arr 0 (.pure .sl_api_Atom) y12))], H⟩
theorem e76 (a0 : Nat) (a1 : Int) (a2 : (List eval_local)) (H : List (O U)) (post : Post) : (∃ (x : WayS),
  obj H a0 = some (O.cells [C.d (D.sl Ty.api_Op x.1), C.d (D.sl Ty.int x.2), C.mp (Rf.g x.3), C.d (D.sl Ty.str x.4), C.asl (Rf.g x.5) x.6 x.7 false, C.d (D.str x.8)]) ∧
    andP (inB a1 (lenL x.1))
      (∃ (x_1 : WayS),
        obj H a0 = some (O.cells [C.d (D.sl Ty.api_Op x_1.1), C.d (D.sl Ty.int x_1.2), C.mp (Rf.g x_1.3), C.d (D.sl Ty.str x_1.4), C.asl (Rf.g x_1.5) x_1.6 x_1.7 false, C.d (D.str x_1.8)]) ∧
          ∃ (x_2 : WayS),
            obj H a0 = some (O.cells [C.d (D.sl Ty.api_Op x_2.1), C.d (D.sl Ty.int x_2.2), C.mp (Rf.g x_2.3), C.d (D.sl Ty.str x_2.4), C.asl (Rf.g x_2.5) x_2.6 x_2.7 false, C.d (D.str x_2.8)]) ∧
              ∃ (x_3 : List Int),
                (Gives 121 [C.d (D.sl Ty.api_Op x_1.1), C.d (D.sl Ty.int x_2.2), C.d (D.int IntKind.i64 a1)] (C.d (D.sl Ty.int x_3))) ∧
                  iteP (eqI (rd (api_Op.mk 0 0 0 (bs [])) x.1 a1).1 1) (∃ (x_4 : api_Outcome), (Gives 122 [C.d (D.sl Ty.api_Atom [api_Atom.mk 1 0 (rd (api_Op.mk 0 0 0 (bs [])) x.1 a1).3 (bs [])])] (C.agg [C.d (D.int IntKind.i64 x_4.1), C.d (D.sl Ty.api_Atom x_4.2), C.d (D.sl Ty.api_Crack x_4.3)])) ∧ post (C.agg [C.d (D.int IntKind.i64 x_4.1), C.d (D.sl Ty.api_Atom x_4.2), C.d (D.sl Ty.api_Crack x_4.3)]) H)
                    (iteP (eqI (rd (api_Op.mk 0 0 0 (bs [])) x.1 a1).1 2) (∃ (x_4 : api_Outcome), (Gives 122 [C.d (D.sl Ty.api_Atom [api_Atom.mk 2 0 0 (rd (api_Op.mk 0 0 0 (bs [])) x.1 a1).4])] (C.agg [C.d (D.int IntKind.i64 x_4.1), C.d (D.sl Ty.api_Atom x_4.2), C.d (D.sl Ty.api_Crack x_4.3)])) ∧ post (C.agg [C.d (D.int IntKind.i64 x_4.1), C.d (D.sl Ty.api_Atom x_4.2), C.d (D.sl Ty.api_Crack x_4.3)]) H)
                      (iteP (eqI (rd (api_Op.mk 0 0 0 (bs [])) x.1 a1).1 3)
                        (∃ (x_4 : api_Outcome),
                          ∃ (y :
                            List
                              (O
                                U)),
                            (GivesM 123 [C.ptr (Rf.g a0) 0, C.d (D.str (rd (api_Op.mk 0 0 0 (bs [])) x.1 a1).4)] H (C.agg [C.d (D.int IntKind.i64 x_4.1), C.d (D.sl Ty.api_Atom x_4.2), C.d (D.sl Ty.api_Crack x_4.3)]) y) ∧ post (C.agg [C.d (D.int IntKind.i64 x_4.1), C.d (D.sl Ty.api_Atom x_4.2), C.d (D.sl Ty.api_Crack x_4.3)]) y)
                        (iteP (eqI (rd (api_Op.mk 0 0 0 (bs [])) x.1 a1).1 4)
                          (∃ (x_4 : Nat),
                            ∃ (y :
                              List
                                (O
                                  U)),
                              (GivesM 124 [C.d (D.sl Ty.eval_local a2)] H (C.fp 158 [] [C.ptr (Rf.g x_4) 0]) y) ∧ ∃ (xs : List eval_local), obj y x_4 = some (O.cells [C.d (D.sl Ty.eval_local xs)]) ∧ ∃ (b : Nat → Bool), (allN (lenL xs) fun (i : Nat) => impP (noneB b i (lenL xs)) (iteP (strEq (rd (eval_local.mk (bs []) []) xs (intN i)).1 (rd (api_Op.mk 0 0 0 (bs [])) x.1 a1).4) (∃ (x : api_Outcome), (Gives 122 [C.d (D.sl Ty.api_Atom (rd (eval_local.mk (bs []) []) xs (intN i)).2)] (C.agg [C.d (D.int IntKind.i64 x.1), C.d (D.sl Ty.api_Atom x.2), C.d (D.sl Ty.api_Crack x.3)])) ∧ b i = true ∧ post (C.agg [C.d (D.int IntKind.i64 x.1), C.d (D.sl Ty.api_Atom x.2), C.d (D.sl Ty.api_Crack x.3)]) y) (b i = false ∧ y = y ∧ (some (O.cells [C.d (D.int IntKind.i64 0), C.d (D.sl Ty.api_Atom (nilL api_Atom)), C.d (D.sl Ty.api_Crack (nilL api_Crack))]) : Option (O U)) = some (O.cells [C.d (D.int IntKind.i64 0), C.d (D.sl Ty.api_Atom (nilL api_Atom)), C.d (D.sl Ty.api_Crack (nilL api_Crack))]) ∧ (some (O.cells [C.d (D.int IntKind.i64 (rd (api_Op.mk 0 0 0 (bs [])) x.1 a1).1), C.d (D.int IntKind.i64 (rd (api_Op.mk 0 0 0 (bs [])) x.1 a1).2), C.d (D.int IntKind.i64 (rd (api_Op.mk 0 0 0 (bs [])) x.1 a1).3), C.d (D.str (rd (api_Op.mk 0 0 0 (bs [])) x.1 a1).4)]) : Option (O U)) = some (O.cells [C.d (D.int IntKind.i64 (rd (api_Op.mk 0 0 0 (bs [])) x.1 a1).1), C.d (D.int IntKind.i64 (rd (api_Op.mk 0 0 0 (bs [])) x.1 a1).2), C.d (D.int IntKind.i64 (rd (api_Op.mk 0 0 0 (bs [])) x.1 a1).3), C.d (D.str (rd (api_Op.mk 0 0 0 (bs [])) x.1 a1).4)]) ∧ True))) ∧ impP (nowB b (lenL xs)) (At K 76 post t76_31 (s76_31 a0 a2 x_3 (intN (lenL x_3)) 0 0 (nilL api_Atom) (nilL api_Crack) (rd (api_Op.mk 0 0 0 (bs [])) x.1 a1).1 (rd (api_Op.mk 0 0 0 (bs [])) x.1 a1).2 (rd (api_Op.mk 0 0 0 (bs [])) x.1 a1).3 (rd (api_Op.mk 0 0 0 (bs [])) x.1 a1).4 (nilL (List api_Atom)) y)))
                          (iteP (eqI (rd (api_Op.mk 0 0 0 (bs [])) x.1 a1).1 18)
                            (∃ (x_4 : WayS),
                              obj H a0 = some (O.cells [C.d (D.sl Ty.api_Op x_4.1), C.d (D.sl Ty.int x_4.2), C.mp (Rf.g x_4.3), C.d (D.sl Ty.str x_4.4), C.asl (Rf.g x_4.5) x_4.6 x_4.7 false, C.d (D.str x_4.8)]) ∧
                                ∃ (x_5 : Bool),
                                  (Gives 98 [C.d (D.sl Ty.str x_4.4), C.d (D.str (rd (api_Op.mk 0 0 0 (bs [])) x.1 a1).4)] (C.d (D.bool x_5))) ∧
                                    iteP (notB x_5) (∃ (y : WayS), obj H a0 = some (O.cells [C.d (D.sl Ty.api_Op y.1), C.d (D.sl Ty.int y.2), C.mp (Rf.g y.3), C.d (D.sl Ty.str y.4), C.asl (Rf.g y.5) y.6 y.7 false, C.d (D.str y.8)]) ∧ post (C.agg [C.d (D.int IntKind.i64 0), C.d (D.sl Ty.api_Atom (nilL api_Atom)), C.d (D.sl Ty.api_Crack (nilL api_Crack))]) (updO H a0 (O.cells [C.d (D.sl Ty.api_Op y.1), C.d (D.sl Ty.int y.2), C.mp (Rf.g y.3), C.d (D.sl Ty.str y.4), C.asl (Rf.g y.5) y.6 y.7 false, C.d (D.str (rd (api_Op.mk 0 0 0 (bs [])) x.1 a1).4)])))
                                      (andP (inB 0 (lenL x_3))
                                        (∃ (x : api_Outcome),
                                          ∃ (y :
                                            List
                                              (O
                                                U)),
                                            (GivesM 76 [C.ptr (Rf.g a0) 0, C.d (D.int IntKind.i64 (rd (Int.ofNat 0) x_3 0)), C.d (D.sl Ty.eval_local a2)] H (C.agg [C.d (D.int IntKind.i64 x.1), C.d (D.sl Ty.api_Atom x.2), C.d (D.sl Ty.api_Crack x.3)]) y) ∧ post (C.agg [C.d (D.int IntKind.i64 x.1), C.d (D.sl Ty.api_Atom x.2), C.d (D.sl Ty.api_Crack x.3)]) y)))
                            (iteP (eqI (rd (api_Op.mk 0 0 0 (bs [])) x.1 a1).1 15)
                              (andP (inB 0 (lenL x_3))
                                (∃ (x : api_Outcome),
                                  ∃ (y :
                                    List
                                      (O
                                        U)),
                                    (GivesM 76 [C.ptr (Rf.g a0) 0, C.d (D.int IntKind.i64 (rd (Int.ofNat 0) x_3 0)), C.d (D.sl Ty.eval_local a2)] H (C.agg [C.d (D.int IntKind.i64 x.1), C.d (D.sl Ty.api_Atom x.2), C.d (D.sl Ty.api_Crack x.3)]) y) ∧
                                      iteP (notB (eqI x.1 2)) (post (C.agg [C.d (D.int IntKind.i64 x.1), C.d (D.sl Ty.api_Atom x.2), C.d (D.sl Ty.api_Crack x.3)]) y)
                                        (andP (inB 1 (lenL x_3))
                                          (∃ (x : api_Outcome),
                                            ∃ (y_1 :
                                              List
                                                (O
                                                  U)),
                                              (GivesM 76 [C.ptr (Rf.g a0) 0, C.d (D.int IntKind.i64 (rd (Int.ofNat 0) x_3 1)), C.d (D.sl Ty.eval_local a2)] y (C.agg [C.d (D.int IntKind.i64 x.1), C.d (D.sl Ty.api_Atom x.2), C.d (D.sl Ty.api_Crack x.3)]) y_1) ∧ post (C.agg [C.d (D.int IntKind.i64 x.1), C.d (D.sl Ty.api_Atom x.2), C.d (D.sl Ty.api_Crack x.3)]) y_1))))
                              (iteP (eqI (rd (api_Op.mk 0 0 0 (bs [])) x.1 a1).1 14)
                                (iteP (eqI (rd (api_Op.mk 0 0 0 (bs [])) x.1 a1).1 14)
                                  (∃ (x_4 : api_Outcome),
                                    ∃ (y :
                                      List
                                        (O
                                          U)),
                                      (GivesM 125 [C.ptr (Rf.g a0) 0, C.agg [C.d (D.int IntKind.i64 (rd (api_Op.mk 0 0 0 (bs [])) x.1 a1).1), C.d (D.int IntKind.i64 (rd (api_Op.mk 0 0 0 (bs [])) x.1 a1).2), C.d (D.int IntKind.i64 (rd (api_Op.mk 0 0 0 (bs [])) x.1 a1).3), C.d (D.str (rd (api_Op.mk 0 0 0 (bs [])) x.1 a1).4)], C.d (D.sl Ty.int x_3), C.d (D.sl Ty.eval_local a2)] H (C.agg [C.d (D.int IntKind.i64 x_4.1), C.d (D.sl Ty.api_Atom x_4.2), C.d (D.sl Ty.api_Crack x_4.3)]) y) ∧ post (C.agg [C.d (D.int IntKind.i64 x_4.1), C.d (D.sl Ty.api_Atom x_4.2), C.d (D.sl Ty.api_Crack x_4.3)]) y)
                                  (At K 76 post t76_31 (s76_31 a0 a2 x_3 (intN (lenL x_3)) 0 0 (nilL api_Atom) (nilL api_Crack) (rd (api_Op.mk 0 0 0 (bs [])) x.1 a1).1 (rd (api_Op.mk 0 0 0 (bs [])) x.1 a1).2 (rd (api_Op.mk 0 0 0 (bs [])) x.1 a1).3 (rd (api_Op.mk 0 0 0 (bs [])) x.1 a1).4 (nilL (List api_Atom)) H)))
                                (iteP (eqI (rd (api_Op.mk 0 0 0 (bs [])) x.1 a1).1 19)
                                  (iteP (eqI (rd (api_Op.mk 0 0 0 (bs [])) x.1 a1).1 19)
                                    (∃ (x_4 : api_Outcome),
                                      ∃ (y :
                                        List
                                          (O
                                            U)),
                                        (GivesM 125 [C.ptr (Rf.g a0) 0, C.agg [C.d (D.int IntKind.i64 (rd (api_Op.mk 0 0 0 (bs [])) x.1 a1).1), C.d (D.int IntKind.i64 (rd (api_Op.mk 0 0 0 (bs [])) x.1 a1).2), C.d (D.int IntKind.i64 (rd (api_Op.mk 0 0 0 (bs [])) x.1 a1).3), C.d (D.str (rd (api_Op.mk 0 0 0 (bs [])) x.1 a1).4)], C.d (D.sl Ty.int x_3), C.d (D.sl Ty.eval_local a2)] H (C.agg [C.d (D.int IntKind.i64 x_4.1), C.d (D.sl Ty.api_Atom x_4.2), C.d (D.sl Ty.api_Crack x_4.3)]) y) ∧ post (C.agg [C.d (D.int IntKind.i64 x_4.1), C.d (D.sl Ty.api_Atom x_4.2), C.d (D.sl Ty.api_Crack x_4.3)]) y)
                                    (At K 76 post t76_31 (s76_31 a0 a2 x_3 (intN (lenL x_3)) 0 0 (nilL api_Atom) (nilL api_Crack) (rd (api_Op.mk 0 0 0 (bs [])) x.1 a1).1 (rd (api_Op.mk 0 0 0 (bs [])) x.1 a1).2 (rd (api_Op.mk 0 0 0 (bs [])) x.1 a1).3 (rd (api_Op.mk 0 0 0 (bs [])) x.1 a1).4 (nilL (List api_Atom)) H)))
                                  (iteP (eqI (rd (api_Op.mk 0 0 0 (bs [])) x.1 a1).1 16)
                                    (iteP (eqI (rd (api_Op.mk 0 0 0 (bs [])) x.1 a1).1 16)
                                      (∃ (x_4 : api_Outcome),
                                        ∃ (y :
                                          List
                                            (O
                                              U)),
                                          (GivesM 125 [C.ptr (Rf.g a0) 0, C.agg [C.d (D.int IntKind.i64 (rd (api_Op.mk 0 0 0 (bs [])) x.1 a1).1), C.d (D.int IntKind.i64 (rd (api_Op.mk 0 0 0 (bs [])) x.1 a1).2), C.d (D.int IntKind.i64 (rd (api_Op.mk 0 0 0 (bs [])) x.1 a1).3), C.d (D.str (rd (api_Op.mk 0 0 0 (bs [])) x.1 a1).4)], C.d (D.sl Ty.int x_3), C.d (D.sl Ty.eval_local a2)] H (C.agg [C.d (D.int IntKind.i64 x_4.1), C.d (D.sl Ty.api_Atom x_4.2), C.d (D.sl Ty.api_Crack x_4.3)]) y) ∧ post (C.agg [C.d (D.int IntKind.i64 x_4.1), C.d (D.sl Ty.api_Atom x_4.2), C.d (D.sl Ty.api_Crack x_4.3)]) y)
                                      (At K 76 post t76_31 (s76_31 a0 a2 x_3 (intN (lenL x_3)) 0 0 (nilL api_Atom) (nilL api_Crack) (rd (api_Op.mk 0 0 0 (bs [])) x.1 a1).1 (rd (api_Op.mk 0 0 0 (bs [])) x.1 a1).2 (rd (api_Op.mk 0 0 0 (bs [])) x.1 a1).3 (rd (api_Op.mk 0 0 0 (bs [])) x.1 a1).4 (nilL (List api_Atom)) H)))
                                    (iteP (eqI (rd (api_Op.mk 0 0 0 (bs [])) x.1 a1).1 17)
                                      (∃ (x_4 : api_Outcome),
                                        ∃ (y :
                                          List
                                            (O
                                              U)),
                                          (GivesM 125 [C.ptr (Rf.g a0) 0, C.agg [C.d (D.int IntKind.i64 (rd (api_Op.mk 0 0 0 (bs [])) x.1 a1).1), C.d (D.int IntKind.i64 (rd (api_Op.mk 0 0 0 (bs [])) x.1 a1).2), C.d (D.int IntKind.i64 (rd (api_Op.mk 0 0 0 (bs [])) x.1 a1).3), C.d (D.str (rd (api_Op.mk 0 0 0 (bs [])) x.1 a1).4)], C.d (D.sl Ty.int x_3), C.d (D.sl Ty.eval_local a2)] H (C.agg [C.d (D.int IntKind.i64 x_4.1), C.d (D.sl Ty.api_Atom x_4.2), C.d (D.sl Ty.api_Crack x_4.3)]) y) ∧ post (C.agg [C.d (D.int IntKind.i64 x_4.1), C.d (D.sl Ty.api_Atom x_4.2), C.d (D.sl Ty.api_Crack x_4.3)]) y)
                                      (At K 76 post t76_31 (s76_31 a0 a2 x_3 (intN (lenL x_3)) 0 0 (nilL api_Atom) (nilL api_Crack) (rd (api_Op.mk 0 0 0 (bs [])) x.1 a1).1 (rd (api_Op.mk 0 0 0 (bs [])) x.1 a1).2 (rd (api_Op.mk 0 0 0 (bs [])) x.1 a1).3 (rd (api_Op.mk 0 0 0 (bs [])) x.1 a1).4 (nilL (List api_Atom)) H))))))))))))) → Runs K 76 [.ptr (.g a0) 0, .d (.int .i64 a1), .d (.sl .eval_local a2)] H post :=
  ofHS Tryd.f76 (by kernel_rfl) (by kernel_rfl) (by kernel_rfl) (by kernel_rfl) (by kernel_rfl)
theorem l76_31 (v0 : Nat) (v2 : (List eval_local)) (v119 : (List Int)) (v120 : Int) (v121 : Int) (x6_gKind : Int) (x6_gValue : (List api_Atom)) (x6_gFail : (List api_Crack)) (x7_gKind : Int) (x7_gN : Int) (x7_gInt : Int) (x7_gText : ByteArray) (y12 : List ((List api_Atom))) (H : List (O U)) (post : Post) : (iteP (ltI v121 v120)
  (andP (inB v121 (lenL v119))
    (∃ (x : api_Outcome),
      ∃ (y :
        List
          (O
            U)),
        (GivesM 76 [C.ptr (Rf.g v0) 0, C.d (D.int IntKind.i64 (rd (Int.ofNat 0) v119 v121)), C.d (D.sl Ty.eval_local v2)] H (C.agg [C.d (D.int IntKind.i64 x.1), C.d (D.sl Ty.api_Atom x.2), C.d (D.sl Ty.api_Crack x.3)]) y) ∧ iteP (notB (eqI x.1 1)) (post (C.agg [C.d (D.int IntKind.i64 x.1), C.d (D.sl Ty.api_Atom x.2), C.d (D.sl Ty.api_Crack x.3)]) y) (andP (roomB (addN (lenL y12) (lenL [x.2])) 24) (At K 76 post t76_31 (s76_31 v0 v2 v119 v120 (addW IntKind.i64 v121 1) x6_gKind x6_gValue x6_gFail x7_gKind x7_gN x7_gInt x7_gText (appL y12 [x.2]) y)))))
  (∃ (x : api_Outcome), (Gives 126 [C.d (D.int IntKind.i64 x7_gKind), C.d (D.sl Ty.sl_api_Atom y12)] (C.agg [C.d (D.int IntKind.i64 x.1), C.d (D.sl Ty.api_Atom x.2), C.d (D.sl Ty.api_Crack x.3)])) ∧ post (C.agg [C.d (D.int IntKind.i64 x.1), C.d (D.sl Ty.api_Atom x.2), C.d (D.sl Ty.api_Crack x.3)]) H)) → At K 76 post t76_31 (s76_31 v0 v2 v119 v120 v121 x6_gKind x6_gValue x6_gFail x7_gKind x7_gN x7_gInt x7_gText y12 H) :=
  atWS Tryd.f76 (by kernel_rfl) (by kernel_rfl)

/-! ### onceweb/eval.Eval -/
theorem e31 (a0 : (List api_Op)) (a1 : (List api_Known)) (a2 : (List ByteArray)) (H : List (O U)) (post : Post) : (∃ (x : Int),
  (Gives 73 [C.d (D.sl Ty.api_Op a0)] (C.d (D.int IntKind.i64 x))) ∧
    iteP (notB (eqI x 0)) (post (C.tup [C.agg [C.d (D.int IntKind.i64 0), C.d (D.sl Ty.api_Atom (nilL api_Atom)), C.d (D.sl Ty.api_Crack (nilL api_Crack)), C.d (D.str (bs [])), C.d (D.sl Ty.str (nilL ByteArray))], C.d (D.int IntKind.i64 5)]) H)
      (∃ (x : Nat × Int),
        ∃ (y :
          List
            (O
              U)),
          (GivesM 74 [C.d (D.sl Ty.api_Known a1), C.d (D.sl Ty.str a2)] H (C.tup [C.mp (Rf.g x.1), C.d (D.int IntKind.i64 x.2)]) y) ∧
            iteP (notB (eqI x.2 0)) (post (C.tup [C.agg [C.d (D.int IntKind.i64 0), C.d (D.sl Ty.api_Atom (nilL api_Atom)), C.d (D.sl Ty.api_Crack (nilL api_Crack)), C.d (D.str (bs [])), C.d (D.sl Ty.str (nilL ByteArray))], C.d (D.int IntKind.i64 x.2)]) y)
              (∃ (x_1 : List Int),
                (Gives 75 [C.d (D.sl Ty.api_Op a0)] (C.d (D.sl Ty.int x_1))) ∧
                  ∃ (x_2 : api_Outcome),
                    ∃ (y_1 :
                      List
                        (O
                          U)),
                      (GivesM 76 [C.ptr (Rf.g (lenO (pushO y (O.arr 0 (Vc.pure Ty.str) (nilL ByteArray))))) 0, C.d (D.int IntKind.i64 (subW IntKind.i64 (intN (lenL a0)) 1)), C.d (D.sl Ty.eval_local (nilL eval_local))] (pushO (pushO y (O.arr 0 (Vc.pure Ty.str) (nilL ByteArray))) (O.cells [C.d (D.sl Ty.api_Op a0), C.d (D.sl Ty.int x_1), C.mp (Rf.g x.1), C.d (D.sl Ty.str a2), C.asl (Rf.g (lenO y)) 0 none false, C.d (D.str (bs []))])) (C.agg [C.d (D.int IntKind.i64 x_2.1), C.d (D.sl Ty.api_Atom x_2.2), C.d (D.sl Ty.api_Crack x_2.3)]) y_1) ∧ iteP (eqI x_2.1 0) (∃ (x : WayS), obj y_1 (lenO (pushO y (O.arr 0 (Vc.pure Ty.str) (nilL ByteArray)))) = some (O.cells [C.d (D.sl Ty.api_Op x.1), C.d (D.sl Ty.int x.2), C.mp (Rf.g x.3), C.d (D.sl Ty.str x.4), C.asl (Rf.g x.5) x.6 x.7 false, C.d (D.str x.8)]) ∧ ∃ (x_3 : WayS), obj y_1 (lenO (pushO y (O.arr 0 (Vc.pure Ty.str) (nilL ByteArray)))) = some (O.cells [C.d (D.sl Ty.api_Op x_3.1), C.d (D.sl Ty.int x_3.2), C.mp (Rf.g x_3.3), C.d (D.sl Ty.str x_3.4), C.asl (Rf.g x_3.5) x_3.6 x_3.7 false, C.d (D.str x_3.8)]) ∧ post (C.tup [C.agg [C.d (D.int IntKind.i64 0), C.d (D.sl Ty.api_Atom (nilL api_Atom)), C.d (D.sl Ty.api_Crack (nilL api_Crack)), C.d (D.str x.8), C.asl (Rf.g x_3.5) x_3.6 x_3.7 false], C.d (D.int IntKind.i64 0)]) y_1) (∃ (x : List api_Atom), (Gives 77 [C.d (D.sl Ty.api_Atom x_2.2)] (C.d (D.sl Ty.api_Atom x))) ∧ ∃ (x_3 : List api_Crack), (Gives 78 [C.d (D.sl Ty.api_Crack x_2.3)] (C.d (D.sl Ty.api_Crack x_3))) ∧ ∃ (x_4 : WayS), obj y_1 (lenO (pushO y (O.arr 0 (Vc.pure Ty.str) (nilL ByteArray)))) = some (O.cells [C.d (D.sl Ty.api_Op x_4.1), C.d (D.sl Ty.int x_4.2), C.mp (Rf.g x_4.3), C.d (D.sl Ty.str x_4.4), C.asl (Rf.g x_4.5) x_4.6 x_4.7 false, C.d (D.str x_4.8)]) ∧ post (C.tup [C.agg [C.d (D.int IntKind.i64 x_2.1), C.d (D.sl Ty.api_Atom x), C.d (D.sl Ty.api_Crack x_3), C.d (D.str (bs [])), C.asl (Rf.g x_4.5) x_4.6 x_4.7 false], C.d (D.int IntKind.i64 0)]) y_1)))) → Runs K 31 [.d (.sl .api_Op a0), .d (.sl .api_Known a1), .d (.sl .str a2)] H post :=
  ofHS Tryd.f31 (by kernel_rfl) (by kernel_rfl) (by kernel_rfl) (by kernel_rfl) (by kernel_rfl)

end Go.Proofs.YtikcopbjconkfaaDoor.V
