/- DEFINITIONS ALONE: the types and functions of this program, and remarks on how to walk them. Conditions: none. (Written by a program of mine, mkcfg.py.) -/
import Derived.Test.YtikcopbjconkfaaC0
import Derived.Test.YtikcopbjconkfaaProg
namespace Go.Proofs.Ytikcopbjconkfaa.V
set_option linter.unusedVariables false
set_option linter.unusedSimpArgs false
open Go Go.Abs

def tiL : List (Nat × TI) := [
  (3, ⟨.int .i64, 1, 8, [.int .i64]⟩),
  (4, ⟨.bool, 1, 1, [.bool]⟩),
  (5, ⟨.int .u8, 1, 1, [.int .u8]⟩),
  (9, ⟨.str, 1, 16, [.str]⟩),
  (12, ⟨.int .u64, 1, 8, [.int .u64]⟩),
  (16, ⟨.ptr 108, 1, 8, [.nilp]⟩),
  (17, ⟨.ptr 118, 1, 8, [.nilp]⟩),
  (20, ⟨.iface, 1, 16, [.nili]⟩),
  (23, ⟨.slice 99, 1, 24, [.nils]⟩),
  (25, ⟨.strct [(3, 0), (3, 1), (3, 2), (3, 3)], 4, 32, [.int .i64, .int .i64, .int .i64, .int .i64]⟩),
  (27, ⟨.strct [(3, 0), (9, 1)], 2, 24, [.int .i64, .str]⟩),
  (29, ⟨.strct [(9, 0), (23, 1), (4, 2), (25, 3), (27, 7)], 9, 104, [.str, .nils, .bool, .int .i64, .int .i64, .int .i64, .int .i64, .int .i64, .str]⟩),
  (31, ⟨.strct [(3, 0), (3, 1), (3, 2), (9, 3), (9, 4), (29, 5)], 14, 160, [.int .i64, .int .i64, .int .i64, .str, .str, .str, .nils, .bool, .int .i64, .int .i64, .int .i64, .int .i64, .int .i64, .str]⟩),
  (32, ⟨.int .u64, 1, 8, [.int .u64]⟩),
  (33, ⟨.slice 3, 1, 24, [.nils]⟩),
  (35, ⟨.strct [(3, 0), (32, 1), (33, 2)], 3, 40, [.int .i64, .int .u64, .nils]⟩),
  (36, ⟨.slice 31, 1, 24, [.nils]⟩),
  (39, ⟨.int .i64, 1, 8, [.int .i64]⟩),
  (46, ⟨.func, 1, 8, [.nilf]⟩),
  (49, ⟨.map 5 3, 1, 8, [.nilm]⟩),
  (50, ⟨.func, 1, 8, [.nilf]⟩),
  (53, ⟨.ptr 78, 1, 8, [.nilp]⟩),
  (56, ⟨.slice 120, 1, 24, [.nils]⟩),
  (58, ⟨.strct [(3, 0), (33, 1), (32, 2), (33, 3), (56, 4)], 5, 88, [.int .i64, .nils, .int .u64, .nils, .nils]⟩),
  (75, ⟨.iface, 1, 16, [.nili]⟩),
  (76, ⟨.arr 128 3, 128, 1024, List.replicate 128 (.int .i64)⟩),
  (77, ⟨.strct [(75, 0), (3, 1), (3, 2), (76, 3)], 131, 1056, [.nili] ++ List.replicate 130 (.int .i64)⟩),
  (78, ⟨.strct [(75, 0), (3, 1), (3, 2), (76, 3)], 131, 1056, [.nili] ++ List.replicate 130 (.int .i64)⟩),
  (79, ⟨.func, 1, 8, [.nilf]⟩),
  (80, ⟨.func, 1, 8, [.nilf]⟩),
  (81, ⟨.ptr 85, 1, 8, [.nilp]⟩),
  (82, ⟨.int .u64, 1, 8, [.int .u64]⟩),
  (83, ⟨.func, 1, 8, [.nilf]⟩),
  (85, ⟨.strct [(82, 0)], 1, 8, [.int .u64]⟩),
  (89, ⟨.ptr 92, 1, 8, [.nilp]⟩),
  (90, ⟨.arr 128 4, 128, 128, List.replicate 128 (.bool)⟩),
  (92, ⟨.strct [(82, 0), (33, 1), (90, 2), (76, 130)], 258, 1184, [.int .u64, .nils] ++ List.replicate 128 (.bool) ++ List.replicate 128 (.int .i64)⟩),
  (97, ⟨.int .u64, 1, 8, [.int .u64]⟩),
  (99, ⟨.strct [(3, 0), (3, 1), (3, 2), (9, 3)], 4, 40, [.int .i64, .int .i64, .int .i64, .str]⟩),
  (101, ⟨.ptr 82, 1, 8, [.nilp]⟩),
  (105, ⟨.strct [(17, 0), (17, 1), (17, 2), (9, 3)], 4, 40, [.nilp, .nilp, .nilp, .str]⟩),
  (106, ⟨.arr 0 16, 0, 0, []⟩),
  (109, ⟨.func, 1, 8, [.nilf]⟩),
  (110, ⟨.int .u32, 1, 4, [.int .u32]⟩),
  (111, ⟨.int .u8, 1, 1, [.int .u8]⟩),
  (112, ⟨.int .u8, 1, 1, [.int .u8]⟩),
  (113, ⟨.func, 1, 8, [.nilf]⟩),
  (114, ⟨.ptr 5, 1, 8, [.nilp]⟩),
  (115, ⟨.int .i32, 1, 4, [.int .i32]⟩),
  (116, ⟨.int .i32, 1, 4, [.int .i32]⟩),
  (118, ⟨.strct [(12, 0), (12, 1), (110, 2), (111, 3), (5, 4), (5, 5), (112, 6), (113, 7), (114, 8), (115, 9), (116, 10)], 11, 48, [.int .u64, .int .u64, .int .u32, .int .u8, .int .u8, .int .u8, .int .u8, .nilf, .nilp, .int .i32, .int .i32]⟩),
  (120, ⟨.strct [(3, 0), (3, 1)], 2, 16, [.int .i64, .int .i64]⟩),
  (121, ⟨.func, 1, 8, [.nilf]⟩)]

def vcL : List (Nat × Vc U) := [
  (3, (.pure .int)), (31, (.pure .api_Act)), (99, (.pure .api_Op)), (120, (.pure .oncewebref20_Weight))]

def kcL : List (Nat × Ty) := [(49, .int_u8)]

def methods : Nat → String → Option Nat
  | _, _ => none

def globL : List (Nat × List (D U)) := []

abbrev n_onceweblaw23_PlayChecks : Nat := 3
abbrev n_onceweblaw23_copied : Nat := 4
abbrev n_onceweblaw23_ruled : Nat := 5
abbrev n_play_Check : Nat := 6
abbrev n_oncewebref23_Check : Nat := 7
abbrev n_play_CheckRule : Nat := 8
abbrev n_oncewebref23_CheckRule : Nat := 9
abbrev n_onceweblaw23_acts : Nat := 10
abbrev n_oncewebbase_SameInts : Nat := 11
abbrev n_oncewebbase_CopyProvider : Nat := 12
abbrev n_oncewebbase_CopyInts : Nat := 13
abbrev n_play_uses : Nat := 14
abbrev n_play_Check_1 : Nat := 15
abbrev n_play_plain : Nat := 16
abbrev n_oncewebref23_has : Nat := 17
abbrev n_oncewebref23_none : Nat := 18
abbrev n_play_ruled : Nat := 19
abbrev n_oncewebref23_made : Nat := 20
abbrev n_oncewebbase_SameProvider : Nat := 21
abbrev n_oncewebbase_CopyExpr : Nat := 22
abbrev n_sched_First : Nat := 23
abbrev n_sched_Last : Nat := 24
abbrev n_sched_Round : Nat := 25
abbrev n_sched_Fair : Nat := 26
abbrev n_sched_Seeded : Nat := 27
abbrev n_sched_Scripted : Nat := 28
abbrev n_sched_Priority : Nat := 29
abbrev n_sched_Pct : Nat := 30
abbrev n_oncewebref20_New : Nat := 31
abbrev n_oncewebbase_SameExpr : Nat := 32
abbrev n_sched_made : Nat := 33
abbrev n_sched_First_1 : Nat := 34
abbrev n_sched_Last_1 : Nat := 35
abbrev n_sched_Round_1 : Nat := 36
abbrev n_sched_Fair_1 : Nat := 39
abbrev n_sched_seeded : Nat := 41
abbrev n_slices_ContainsFunc_int_int : Nat := 42
abbrev n_sched_Scripted_1 : Nat := 43
abbrev n_slices_Clone_int_int : Nat := 44
abbrev n_sched_Priority_1 : Nat := 45
abbrev n_sched_chance_below : Nat := 46
abbrev n_oncewebref20_begun : Nat := 47
abbrev n_oncewebref20_thrown : Nat := 48
abbrev n_slices_IndexFunc_int_int : Nat := 37
abbrev n_sched_Round_1_1 : Nat := 38
abbrev n_sched_least : Nat := 40
abbrev n_sched_chance_throw : Nat := 51
abbrev n_slices_Index_int_int : Nat := 49
abbrev n_slices_Min_int_int : Nat := 50

def a3 : FAnn U := { pure := true, scalar := true, pco := [[none, none, none, none, none, none, some .api_Op], [none, none, some .int]] }
def a4 : FAnn U := { live := ofList none [(3, some ([(0, [some .api_Act]), (3, [some .api_Act]), (4, [])], [(3, [])]))], op := ofList (fun _ => {}) [(1, ofList {} [(0, { slot := some 3 })]), (7, ofList {} [(3, { slot := some 3 })])], pure := true, pco := [[some .api_Act]], rco := [[some .api_Act]] }
def a5 : FAnn U := { pure := true, pco := [[none, none, some .int]], rco := [[none, none, some .int]] }
def a6 : FAnn U := { live := ofList none [(4, some ([(1, []), (3, []), (4, []), (5, []), (16, []), (17, [])], [(1, [none, none, none, none, none, none, some .api_Op])]))], op := ofList (fun _ => {}) [(2, ofList {} [(0, { glob := true }), (1, { glob := true })])], split := ofList false [(9, true)], pure := true, scalar := true, pco := [[none, none, none, none, none, none, some .api_Op]] }
def a7 : FAnn U := { live := ofList none [(27, some ([(1, []), (3, [])], [(1, [none, none, none, none, none, none, some .api_Op])]))], pure := true, scalar := true, pco := [[none, none, none, none, none, none, some .api_Op]] }
def a8 : FAnn U := { pure := true, scalar := true, pco := [[none, none, some .int]] }
def a9 : FAnn U := { pure := true, scalar := true, pco := [[none, none, some .int]] }
def a10 : FAnn U := { live := ofList none [(4, some ([(0, [some .api_Act]), (1, [some .api_Act]), (5, [])], []))], pure := true, scalar := true, pco := [[some .api_Act], [some .api_Act]] }
def a11 : FAnn U := { live := ofList none [(4, some ([(0, [some .int]), (1, [some .int]), (5, [])], []))], pure := true, scalar := true, pco := [[some .int], [some .int]] }
def a12 : FAnn U := { pure := true, pco := [[none, some .api_Op]], rco := [[none, some .api_Op]] }
def a13 : FAnn U := { pure := true, pco := [[some .int]], rco := [[some .int]] }
def a14 : FAnn U := { pure := true, scalar := true }
def a15 : FAnn U := {  }
def a16 : FAnn U := { pure := true, scalar := true, pco := [[none, some .api_Op]] }
def a17 : FAnn U := { live := ofList none [(2, some ([(0, []), (1, []), (5, [])], []))], pure := true, scalar := true }
def a18 : FAnn U := { pure := true, scalar := true, pco := [[none, some .api_Op]] }
def a19 : FAnn U := { pco := [[none, none, some .int]] }
def a20 : FAnn U := { pure := true, pco := [[none, none, some .int]], rco := [[none, some .int, none, some .int, some .oncewebref20_Weight], []] }
def a21 : FAnn U := { pure := true, scalar := true, pco := [[none, some .api_Op], [none, some .api_Op]] }
def a22 : FAnn U := { pure := true, pco := [[some .api_Op]], rco := [[some .api_Op]] }
def a23 : FAnn U := {  }
def a24 : FAnn U := {  }
def a25 : FAnn U := {  }
def a26 : FAnn U := {  }
def a27 : FAnn U := { op := ofList (fun _ => {}) [(1, ofList {} [(3, { glob := true })])] }
def a28 : FAnn U := { pco := [[some .int]] }
def a29 : FAnn U := { pco := [[some .int]] }
def a30 : FAnn U := { live := ofList none [(5, some ([(1, []), (8, []), (27, []), (28, [])], []))], op := ofList (fun _ => {}) [(3, ofList {} [(2, { own := [(1, none, .pure .int)] }), (3, { glob := true })]), (6, ofList {} [(11, { glob := true })])] }
def a31 : FAnn U := { live := ofList none [(7, some ([(1, [some .int]), (10, []), (12, []), (13, [])], [(10, [none, some .int, none, some .int, some .oncewebref20_Weight]), (12, [none, some .int, none, some .int, some .oncewebref20_Weight]), (117, [])])), (16, some ([(1, [some .int]), (10, []), (12, []), (14, [])], [(10, [none, some .int, none, some .int, some .oncewebref20_Weight]), (12, [none, some .int, none, some .int, some .oncewebref20_Weight]), (117, [])])), (28, some ([(3, []), (4, []), (10, []), (12, []), (15, [])], [(10, [none, some .int, none, some .int, some .oncewebref20_Weight]), (12, [none, some .int, none, some .int, some .oncewebref20_Weight]), (117, [])]))], op := ofList (fun _ => {}) [(1, ofList {} [(1, { own := [(1, some 117, .pure .int)] })]), (11, ofList {} [(2, { slot := some 38 })]), (20, ofList {} [(2, { slot := some 67 })])], pure := true, pco := [[], [some .int], [], [], []], rco := [[none, some .int, none, some .int, some .oncewebref20_Weight], []] }
def a32 : FAnn U := { live := ofList none [(4, some ([(0, [some .api_Op]), (1, [some .api_Op]), (5, [])], []))], pure := true, scalar := true, pco := [[some .api_Op], [some .api_Op]] }
def a33 : FAnn U := { op := ofList (fun _ => {}) [(1, ofList {} [(2, { glob := true })])] }
def a34 : FAnn U := { pco := [[], [some .int]] }
def a35 : FAnn U := { pco := [[], [some .int]] }
def a36 : FAnn U := { pco := [[], [some .int]] }
def a39 : FAnn U := { live := ofList none [(3, some ([(0, []), (5, [some .int]), (8, [some .int]), (9, []), (10, [])], [(5, [])]))], op := ofList (fun _ => {}) [(1, ofList {} [(0, { own := [(0, some 5, (.pure .int))] })]), (5, ofList {} [(8, { slot := some 5 })])], pco := [[], [some .int]] }
def a41 : FAnn U := { pure := true, scalar := true }
def a42 : FAnn U := { pco := [[some .int], []] }
def a43 : FAnn U := { pure := true, scalar := true }
def a44 : FAnn U := { pure := true, pco := [[some .int]], rco := [[some .int]] }
def a45 : FAnn U := { pure := true, scalar := true }
def a46 : FAnn U := {  }
def a47 : FAnn U := { pure := true, scalar := true }
def a48 : FAnn U := { pure := true, scalar := true }
def a37 : FAnn U := { live := ofList none [(2, some ([(0, [some .int]), (1, []), (7, []), (8, [])], []))], pco := [[some .int], []] }
def a38 : FAnn U := { pure := true, scalar := true }
def a40 : FAnn U := { pure := true, scalar := true, pco := [[some .int]] }
def a51 : FAnn U := {  }
def a49 : FAnn U := { live := ofList none [(2, some ([(0, [some .int]), (1, []), (7, []), (8, [])], []))], pure := true, scalar := true, pco := [[some .int], []] }
def a50 : FAnn U := { live := ofList none [(5, some ([(0, [some .int]), (3, []), (4, [])], []))], pure := true, scalar := true, pco := [[some .int]] }

def annL : List (Nat × FAnn U) := [(3, a3), (4, a4), (5, a5), (6, a6), (7, a7), (8, a8), (9, a9), (10, a10), (11, a11), (12, a12), (13, a13), (14, a14), (15, a15), (16, a16), (17, a17), (18, a18), (19, a19), (20, a20), (21, a21), (22, a22), (23, a23), (24, a24), (25, a25), (26, a26), (27, a27), (28, a28), (29, a29), (30, a30), (31, a31), (32, a32), (33, a33), (34, a34), (35, a35), (36, a36), (39, a39), (41, a41), (42, a42), (43, a43), (44, a44), (45, a45), (46, a46), (47, a47), (48, a48), (37, a37), (38, a38), (40, a40), (51, a51), (49, a49), (50, a50)]

noncomputable def K : Cfg where
  U := U
  width := width
  enc := enc
  dec := dec
  dflt := dflt
  flat := flat
  bytesC := bytesC
  keyEq := keyEq
  P := Try.prog
  ti := ofList none (tiL.map fun x => (x.1, some x.2))
  vc := ofList .ptr vcL
  kc := ofList .int kcL
  meth := methods
  glob := ofList none (globL.map fun x => (x.1, some x.2))
  ann := ofList {} annL

structure Ans where
  R : Type
  enc : R → C U

def ansL : List (Nat × Ans) := [
  (3, ⟨Bool, fun x => .d (.bool x)⟩),
  (4, ⟨(List api_Act), fun x => .d (.sl .api_Act x)⟩),
  (5, ⟨api_Rule, fun x => .agg [.d (.int .i64 x.gKind), .d (.int .u64 x.gSeed), .d (.sl .int x.gList)]⟩),
  (6, ⟨Int, fun x => .d (.int .i64 x)⟩),
  (7, ⟨Int, fun x => .d (.int .i64 x)⟩),
  (8, ⟨Int, fun x => .d (.int .i64 x)⟩),
  (9, ⟨Int, fun x => .d (.int .i64 x)⟩),
  (10, ⟨Bool, fun x => .d (.bool x)⟩),
  (11, ⟨Bool, fun x => .d (.bool x)⟩),
  (12, ⟨api_Provider, fun x => .agg [.d (.str x.gName), .d (.sl .api_Op x.gExpr), .d (.bool x.gAgain), .d (.int .i64 x.gPolicy.gTries), .d (.int .i64 x.gPolicy.gBase), .d (.int .i64 x.gPolicy.gFactor), .d (.int .i64 x.gPolicy.gCap), .d (.int .i64 x.gCloser.gKind), .d (.str x.gCloser.gText)]⟩),
  (13, ⟨(List Int), fun x => .d (.sl .int x)⟩),
  (14, ⟨ByteArray × Bool, fun x => .tup [.d (.str x.1), .d (.bool x.2)]⟩),
  (15, ⟨Bool, fun x => .d (.bool x)⟩),
  (16, ⟨Bool, fun x => .d (.bool x)⟩),
  (17, ⟨Bool, fun x => .d (.bool x)⟩),
  (18, ⟨Bool, fun x => .d (.bool x)⟩),
  (19, ⟨Option Nat × Int, fun x => .tup [.optr x.1, .d (.int .i64 x.2)]⟩),
  (20, ⟨oncewebref20_Sched × Int, fun x => .tup [.agg [.d (.int .i64 x.1.gPolicy), .d (.sl .int x.1.gList), .d (.int .u64 x.1.gState), .d (.sl .int x.1.gPicks), .d (.sl .oncewebref20_Weight x.1.gWeights)], .d (.int .i64 x.2)]⟩),
  (21, ⟨Bool, fun x => .d (.bool x)⟩),
  (22, ⟨(List api_Op), fun x => .d (.sl .api_Op x)⟩),
  (23, ⟨Nat, fun x => .ptr (.g x) 0⟩),
  (24, ⟨Nat, fun x => .ptr (.g x) 0⟩),
  (25, ⟨Nat, fun x => .ptr (.g x) 0⟩),
  (26, ⟨Nat, fun x => .ptr (.g x) 0⟩),
  (27, ⟨Nat, fun x => .ptr (.g x) 0⟩),
  (28, ⟨Option Nat × Int, fun x => .tup [.optr x.1, .d (.int .i64 x.2)]⟩),
  (29, ⟨Option Nat × Int, fun x => .tup [.optr x.1, .d (.int .i64 x.2)]⟩),
  (30, ⟨Option Nat × Int, fun x => .tup [.optr x.1, .d (.int .i64 x.2)]⟩),
  (31, ⟨oncewebref20_Sched × Int, fun x => .tup [.agg [.d (.int .i64 x.1.gPolicy), .d (.sl .int x.1.gList), .d (.int .u64 x.1.gState), .d (.sl .int x.1.gPicks), .d (.sl .oncewebref20_Weight x.1.gWeights)], .d (.int .i64 x.2)]⟩),
  (32, ⟨Bool, fun x => .d (.bool x)⟩),
  (33, ⟨Nat, fun x => .ptr (.g x) 0⟩),
  (34, ⟨Int, fun x => .d (.int .i64 x)⟩),
  (35, ⟨Int, fun x => .d (.int .i64 x)⟩),
  (36, ⟨Int, fun x => .d (.int .i64 x)⟩),
  (39, ⟨Int, fun x => .d (.int .i64 x)⟩),
  (41, ⟨Int, fun x => .d (.int .u64 x)⟩),
  (42, ⟨Bool, fun x => .d (.bool x)⟩),
  (43, ⟨Bool, fun x => .d (.bool x)⟩),
  (44, ⟨(List Int), fun x => .d (.sl .int x)⟩),
  (45, ⟨Bool, fun x => .d (.bool x)⟩),
  (46, ⟨Int, fun x => .d (.int .i64 x)⟩),
  (47, ⟨Int, fun x => .d (.int .u64 x)⟩),
  (48, ⟨Int × Int, fun x => .tup [.d (.int .u64 x.1), .d (.int .u64 x.2)]⟩),
  (37, ⟨Int, fun x => .d (.int .i64 x)⟩),
  (38, ⟨Bool, fun x => .d (.bool x)⟩),
  (40, ⟨Int, fun x => .d (.int .i64 x)⟩),
  (51, ⟨Int, fun x => .d (.int .u64 x)⟩),
  (49, ⟨Int, fun x => .d (.int .i64 x)⟩),
  (50, ⟨Int, fun x => .d (.int .i64 x)⟩)]

def ans : Nat → Ans := ofList (⟨Unit, fun _ => .tup []⟩ : Ans) ansL

def ansT : List (Nat × Ans) := [
  (3, ⟨Int, fun x => .d (.int .i64 x)⟩),
  (4, ⟨Bool, fun x => .d (.bool x)⟩),
  (5, ⟨Int, fun x => .d (.int .u8 x)⟩),
  (9, ⟨ByteArray, fun x => .d (.str x)⟩),
  (12, ⟨Int, fun x => .d (.int .u64 x)⟩),
  (23, ⟨(List api_Op), fun x => .d (.sl .api_Op x)⟩),
  (25, ⟨api_Policy, fun x => .agg [.d (.int .i64 x.gTries), .d (.int .i64 x.gBase), .d (.int .i64 x.gFactor), .d (.int .i64 x.gCap)]⟩),
  (27, ⟨api_Closer, fun x => .agg [.d (.int .i64 x.gKind), .d (.str x.gText)]⟩),
  (29, ⟨api_Provider, fun x => .agg [.d (.str x.gName), .d (.sl .api_Op x.gExpr), .d (.bool x.gAgain), .d (.int .i64 x.gPolicy.gTries), .d (.int .i64 x.gPolicy.gBase), .d (.int .i64 x.gPolicy.gFactor), .d (.int .i64 x.gPolicy.gCap), .d (.int .i64 x.gCloser.gKind), .d (.str x.gCloser.gText)]⟩),
  (31, ⟨api_Act, fun x => .agg [.d (.int .i64 x.gKind), .d (.int .i64 x.gScope), .d (.int .i64 x.gNumber), .d (.str x.gName), .d (.str x.gText), .d (.str x.gProvider.gName), .d (.sl .api_Op x.gProvider.gExpr), .d (.bool x.gProvider.gAgain), .d (.int .i64 x.gProvider.gPolicy.gTries), .d (.int .i64 x.gProvider.gPolicy.gBase), .d (.int .i64 x.gProvider.gPolicy.gFactor), .d (.int .i64 x.gProvider.gPolicy.gCap), .d (.int .i64 x.gProvider.gCloser.gKind), .d (.str x.gProvider.gCloser.gText)]⟩),
  (32, ⟨Int, fun x => .d (.int .u64 x)⟩),
  (33, ⟨(List Int), fun x => .d (.sl .int x)⟩),
  (35, ⟨api_Rule, fun x => .agg [.d (.int .i64 x.gKind), .d (.int .u64 x.gSeed), .d (.sl .int x.gList)]⟩),
  (36, ⟨(List api_Act), fun x => .d (.sl .api_Act x)⟩),
  (39, ⟨Int, fun x => .d (.int .i64 x)⟩),
  (56, ⟨(List oncewebref20_Weight), fun x => .d (.sl .oncewebref20_Weight x)⟩),
  (58, ⟨oncewebref20_Sched, fun x => .agg [.d (.int .i64 x.gPolicy), .d (.sl .int x.gList), .d (.int .u64 x.gState), .d (.sl .int x.gPicks), .d (.sl .oncewebref20_Weight x.gWeights)]⟩),
  (82, ⟨Int, fun x => .d (.int .u64 x)⟩),
  (85, ⟨sched_lot, fun x => .agg [.d (.int .u64 x.gC)]⟩),
  (97, ⟨Int, fun x => .d (.int .u64 x)⟩),
  (99, ⟨api_Op, fun x => .agg [.d (.int .i64 x.gKind), .d (.int .i64 x.gN), .d (.int .i64 x.gInt), .d (.str x.gText)]⟩),
  (110, ⟨Int, fun x => .d (.int .u32 x)⟩),
  (111, ⟨Int, fun x => .d (.int .u8 x)⟩),
  (112, ⟨Int, fun x => .d (.int .u8 x)⟩),
  (115, ⟨Int, fun x => .d (.int .i32 x)⟩),
  (116, ⟨Int, fun x => .d (.int .i32 x)⟩),
  (120, ⟨oncewebref20_Weight, fun x => .agg [.d (.int .i64 x.gNumber), .d (.int .i64 x.gWeight)]⟩)]

def ant : Nat → Ans := ofList (⟨Unit, fun _ => .tup []⟩ : Ans) ansT

structure AnsH where
  R : Type
  enc : List (O U) → R → List (O U)

def ansHL : List (Nat × AnsH) := [(19, ⟨List (O U), fun _ y => y⟩),
  (23, ⟨List (O U), fun _ y => y⟩),
  (24, ⟨List (O U), fun _ y => y⟩),
  (25, ⟨List (O U), fun _ y => y⟩),
  (26, ⟨List (O U), fun _ y => y⟩),
  (27, ⟨List (O U), fun _ y => y⟩),
  (28, ⟨List (O U), fun _ y => y⟩),
  (29, ⟨List (O U), fun _ y => y⟩),
  (30, ⟨List (O U), fun _ y => y⟩),
  (33, ⟨List (O U), fun _ y => y⟩),
  (46, ⟨Int, fun H y => match H with | [o, .cells (_ :: cs)] => [o, .cells (.d (.int .u64 y) :: cs)] | H => H⟩),
  (51, ⟨Int, fun H y => match H with | [o, .cells (_ :: cs)] => [o, .cells (.d (.int .u64 y) :: cs)] | H => H⟩)]

def ansH : Nat → AnsH := ofList (⟨Unit, fun H _ => H⟩ : AnsH) ansHL

noncomputable def Rs : Res K where
  R := fun f => (ans f).R
  enc := fun f => (ans f).enc
  RH := fun f => (ansH f).R
  encH := fun f => (ansH f).enc
  RT := fun t => (ant t).R
  encT := fun t => (ant t).enc

/-- Nobody was picked yet. -/
def oo : List (C U) := List.replicate 129 (.d (.int .i64 0))
/-- What nobody has written yet. -/
def kk : List (C U) := List.replicate 128 (.d (.bool false)) ++ List.replicate 128 (.d (.int .i64 0))

end Go.Proofs.Ytikcopbjconkfaa.V
