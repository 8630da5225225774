/- DEFINITIONS ALONE: the types and functions of this program, and remarks on how to walk them. Conditions: none. (Written by a program of mine, mkcfg.py.) -/
import Derived.Test.YtikcopbjconkfaaDoorC0
import Derived.Test.YtikcopbjconkfaaDoorProg
namespace Go.Proofs.YtikcopbjconkfaaDoor.V
set_option linter.unusedVariables false
set_option linter.unusedSimpArgs false
open Go Go.Abs

def tiL : List (Nat × TI) := [
  (3, ⟨.int .i64, 1, 8, [.int .i64]⟩),
  (4, ⟨.bool, 1, 1, [.bool]⟩),
  (5, ⟨.int .u8, 1, 1, [.int .u8]⟩),
  (9, ⟨.str, 1, 16, [.str]⟩),
  (22, ⟨.slice 3, 1, 24, [.nils]⟩),
  (24, ⟨.slice 9, 1, 24, [.nils]⟩),
  (28, ⟨.int .i64, 1, 8, [.int .i64]⟩),
  (59, ⟨.slice 129, 1, 24, [.nils]⟩),
  (61, ⟨.slice 143, 1, 24, [.nils]⟩),
  (63, ⟨.strct [(3, 0), (59, 1), (61, 2)], 3, 56, [.int .i64, .nils, .nils]⟩),
  (70, ⟨.slice 132, 1, 24, [.nils]⟩),
  (71, ⟨.slice 80, 1, 24, [.nils]⟩),
  (73, ⟨.strct [(63, 0), (9, 3), (24, 4)], 5, 96, [.int .i64, .nils, .nils, .str, .nils]⟩),
  (80, ⟨.strct [(9, 0), (63, 1)], 4, 72, [.str, .int .i64, .nils, .nils]⟩),
  (91, ⟨.func, 1, 8, [.nilf]⟩),
  (94, ⟨.strct [(3, 0), (3, 1), (3, 2), (3, 3)], 4, 32, [.int .i64, .int .i64, .int .i64, .int .i64]⟩),
  (96, ⟨.strct [(3, 0), (9, 1)], 2, 24, [.int .i64, .str]⟩),
  (97, ⟨.strct [(9, 0), (70, 1), (4, 2), (94, 3), (96, 7)], 9, 104, [.str, .nils, .bool, .int .i64, .int .i64, .int .i64, .int .i64, .int .i64, .str]⟩),
  (98, ⟨.strct [(9, 0), (70, 1), (4, 2), (94, 3), (96, 7)], 9, 104, [.str, .nils, .bool, .int .i64, .int .i64, .int .i64, .int .i64, .int .i64, .str]⟩),
  (99, ⟨.strct [(3, 0), (98, 1)], 10, 112, [.int .i64, .str, .nils, .bool, .int .i64, .int .i64, .int .i64, .int .i64, .int .i64, .str]⟩),
  (100, ⟨.strct [(3, 0), (98, 1)], 10, 112, [.int .i64, .str, .nils, .bool, .int .i64, .int .i64, .int .i64, .int .i64, .int .i64, .str]⟩),
  (101, ⟨.func, 1, 8, [.nilf]⟩),
  (102, ⟨.func, 1, 8, [.nilf]⟩),
  (105, ⟨.strct [(3, 0), (9, 1)], 2, 24, [.int .i64, .str]⟩),
  (106, ⟨.func, 1, 8, [.nilf]⟩),
  (108, ⟨.func, 1, 8, [.nilf]⟩),
  (109, ⟨.func, 1, 8, [.nilf]⟩),
  (110, ⟨.func, 1, 8, [.nilf]⟩),
  (111, ⟨.func, 1, 8, [.nilf]⟩),
  (112, ⟨.slice 22, 1, 24, [.nils]⟩),
  (115, ⟨.func, 1, 8, [.nilf]⟩),
  (116, ⟨.func, 1, 8, [.nilf]⟩),
  (117, ⟨.func, 1, 8, [.nilf]⟩),
  (122, ⟨.ptr 208, 1, 8, [.nilp]⟩),
  (129, ⟨.strct [(3, 0), (3, 1), (3, 2), (9, 3)], 4, 40, [.int .i64, .int .i64, .int .i64, .str]⟩),
  (132, ⟨.strct [(3, 0), (3, 1), (3, 2), (9, 3)], 4, 40, [.int .i64, .int .i64, .int .i64, .str]⟩),
  (134, ⟨.map 9 63, 1, 8, [.nilm]⟩),
  (137, ⟨.ptr 140, 1, 8, [.nilp]⟩),
  (140, ⟨.strct [(70, 0), (22, 1), (134, 2), (24, 3), (24, 4), (9, 5)], 6, 120, [.nils, .nils, .nilm, .nils, .nils, .str]⟩),
  (143, ⟨.strct [(3, 0), (3, 1), (9, 2)], 3, 32, [.int .i64, .int .i64, .str]⟩),
  (177, ⟨.func, 1, 8, [.nilf]⟩),
  (181, ⟨.slice 189, 1, 24, [.nils]⟩),
  (185, ⟨.func, 1, 8, [.nilf]⟩),
  (186, ⟨.func, 1, 8, [.nilf]⟩),
  (189, ⟨.strct [(9, 0), (59, 1)], 2, 40, [.str, .nils]⟩),
  (191, ⟨.slice 59, 1, 24, [.nils]⟩),
  (193, ⟨.slice 243, 1, 24, [.nils]⟩),
  (199, ⟨.arr 19 9, 19, 304, List.replicate 19 (.str)⟩),
  (204, ⟨.map 213 224, 1, 8, [.nilm]⟩),
  (205, ⟨.map 215 63, 1, 8, [.nilm]⟩),
  (206, ⟨.map 3 209, 1, 8, [.nilm]⟩),
  (208, ⟨.strct [(3, 0), (3, 1), (204, 2), (205, 3), (206, 4)], 5, 40, [.int .i64, .int .i64, .nilm, .nilm, .nilm]⟩),
  (209, ⟨.ptr 218, 1, 8, [.nilp]⟩),
  (211, ⟨.slice 215, 1, 24, [.nils]⟩),
  (213, ⟨.strct [(3, 0), (9, 1)], 2, 24, [.int .i64, .str]⟩),
  (215, ⟨.strct [(213, 0), (3, 2)], 3, 32, [.int .i64, .str, .int .i64]⟩),
  (216, ⟨.map 215 3, 1, 8, [.nilm]⟩),
  (218, ⟨.strct [(211, 0), (4, 1), (4, 2), (215, 3), (4, 6), (4, 7), (216, 8)], 9, 80, [.nils, .bool, .bool, .int .i64, .str, .int .i64, .bool, .bool, .nilm]⟩),
  (224, ⟨.ptr 226, 1, 8, [.nilp]⟩),
  (226, ⟨.strct [(3, 0), (4, 1), (3, 2), (63, 3), (4, 6), (211, 7), (3, 8)], 9, 120, [.int .i64, .bool, .int .i64, .int .i64, .nils, .nils, .bool, .nils, .int .i64]⟩),
  (236, ⟨.func, 1, 8, [.nilf]⟩),
  (243, ⟨.strct [(3, 0), (3, 1)], 2, 16, [.int .i64, .int .i64]⟩),
  (247, ⟨.func, 1, 8, [.nilf]⟩),
  (258, ⟨.slice 59, 1, 24, [.nils]⟩),
  (264, ⟨.func, 1, 8, [.nilf]⟩),
  (265, ⟨.arr 12 3, 12, 96, List.replicate 12 (.int .i64)⟩),
  (266, ⟨.arr 10 9, 10, 160, List.replicate 10 (.str)⟩)]

def vcL : List (Nat × Vc U) := [
  (3, (.pure .int)), (9, (.pure .str)), (22, (.pure .sl_int)), (59, (.pure .sl_api_Atom)), (63, (.pure .api_Outcome)), (80, (.pure .api_Known)), (129, (.pure .api_Atom)), (132, (.pure .api_Op)), (143, (.pure .api_Crack)), (189, (.pure .eval_local)), (209, .ptr), (215, (.pure .audit_generation)), (224, .ptr), (243, (.pure .value_whole))]

def kcL : List (Nat × Ty) := [(134, .str), (204, .audit_cell), (205, .audit_generation), (206, .int), (216, .audit_generation)]

def methods : Nat → String → Option Nat
  | _, _ => none

def globL : List (Nat × List (D U)) := [(0, [.str (bs [99, 101, 108, 108]), .str (bs [97, 103, 97, 105, 110]), .str (bs [116, 114, 105, 101, 115]), .str (bs [98, 97, 115, 101]), .str (bs [102, 97, 99, 116, 111, 114]), .str (bs [99, 97, 112]), .str (bs [99, 108, 111, 115, 101]), .str (bs [102, 105, 110, 101]), .str (bs [102, 97, 105, 108]), .str (bs [112, 97, 110, 105, 99]), .str (bs [105, 102]), .str (bs [116, 104, 101, 110]), .str (bs [101, 108, 115, 101]), .str (bs [116, 114, 121]), .str (bs [119, 97, 105, 116]), .str (bs [108, 101, 116]), .str (bs [105, 110]), .str (bs [105, 116, 101, 109]), .str (bs [115, 105, 122, 101])]), (1, [.int .i64 0, .int .i64 1, .int .i64 1, .int .i64 1, .int .i64 1, .int .i64 1, .int .i64 1, .int .i64 1, .int .i64 2, .int .i64 3, .int .i64 4, .int .i64 1]), (2, [.str (bs [108, 105, 115, 116]), .str (bs [97, 100, 100]), .str (bs [115, 117, 98]), .str (bs [109, 117, 108]), .str (bs [106, 111, 105, 110]), .str (bs [105, 116, 101, 109]), .str (bs [115, 105, 122, 101]), .str (bs [105, 102]), .str (bs [102, 97, 105, 108]), .str (bs [112, 97, 110, 105, 99])])]

def a8 : FAnn U := { live := ofList none [(8, some ([(0, [some .api_Op]), (2, [some .str]), (7, []), (9, []), (11, [some .api_Known]), (47, [some .api_Known]), (48, []), (49, [])], [(7, [none, some .api_Atom, some .api_Crack]), (9, [none, some .api_Atom, some .api_Crack, none, some .str]), (11, [])]))], op := ofList (fun _ => {}) [(6, ofList {} [(0, { slot := some 11 })]), (11, ofList {} [(3, { slot := some 11 })]), (12, ofList {} [(7, { slot := some 11 })])], pure := true, scalar := true, pco := [[some .api_Op], [some .api_Known], [some .str], [none, some .api_Atom, some .api_Crack]] }
def a9 : FAnn U := { pure := true, scalar := true, pco := [[some .api_Op], [some .api_Known], [some .str], [some .str]] }
def a10 : FAnn U := { pure := true, scalar := true, pco := [[some .api_Atom]] }
def a29 : FAnn U := { pure := true, pco := [[none, some .api_Atom, some .api_Crack]], rco := [[none, some .api_Atom, some .api_Crack]] }
def a30 : FAnn U := { op := ofList (fun _ => {}) [(3, ofList {} [(2, { frz := true })])], pure := true, scalar := true }
def a31 : FAnn U := { op := ofList (fun _ => {}) [(2, ofList {} [(0, { co := [none, some .api_Atom, some .api_Crack, none, some .str] })]), (5, ofList {} [(0, { co := [none, some .api_Atom, some .api_Crack, none, some .str] })]), (6, ofList {} [(5, { own := [(4, none, (.pure .str))], co := [some .api_Op, some .int, none, some .str], sym := some 140 }), (6, { glob := true, sym := some 140 })]), (9, ofList {} [(3, { sym := some 140 }), (7, { sym := some 140 }), (8, { co := [none, some .api_Atom, some .api_Crack, none, some .str] })]), (10, ofList {} [(8, { co := [none, some .api_Atom, some .api_Crack] }), (12, { sym := some 140 }), (13, { co := [none, some .api_Atom, some .api_Crack, none, some .str] })])], pco := [[some .api_Op], [some .api_Known], [some .str]], rco := [[none, some .api_Atom, some .api_Crack, none, some .str], []] }
def a32 : FAnn U := { pure := true, pco := [[some .api_Op]], rco := [[some .api_Op]] }
def a33 : FAnn U := { live := ofList none [(3, some ([(3, [some .api_Known]), (7, [some .api_Known]), (8, []), (9, [])], [(3, [])]))], op := ofList (fun _ => {}) [(1, ofList {} [(0, { slot := some 3 })]), (5, ofList {} [(8, { slot := some 3 })])], pure := true, pco := [[some .api_Known]], rco := [[some .api_Known]] }
def a34 : FAnn U := { pure := true, scalar := true, own := true, pco := [[some .str]], rco := [[some .str]] }
def a35 : FAnn U := { live := ofList none [(2, some ([(0, [some .str]), (1, []), (5, [])], []))], pure := true, scalar := true, pco := [[some .str], []] }
def a36 : FAnn U := { pure := true, scalar := true, pco := [[none, some .api_Atom, some .api_Crack, none, some .str], [none, some .api_Atom, some .api_Crack, none, some .str]] }
def a37 : FAnn U := { live := ofList none [(4, some ([(0, [some .str]), (1, [some .str]), (5, [])], []))], pure := true, scalar := true, pco := [[some .str], [some .str]] }
def a38 : FAnn U := { pure := true, pco := [[some .api_Atom]], rco := [[some .api_Atom]] }
def a39 : FAnn U := { pure := true, pco := [[some .api_Atom]], rco := [[some .api_Op], []] }
def a40 : FAnn U := { pure := true, pco := [[some .api_Atom]], rco := [[some .api_Op], []] }
def a41 : FAnn U := { live := ofList none [(4, some ([(0, [some .api_Op]), (1, [some .api_Op]), (5, [])], []))], pure := true, scalar := true, pco := [[some .api_Op], [some .api_Op]] }
def a42 : FAnn U := { live := ofList none [(4, some ([(0, [some .api_Atom]), (1, [some .api_Atom]), (5, [])], []))], pure := true, scalar := true, pco := [[some .api_Atom], [some .api_Atom]] }
def a72 : FAnn U := { pure := true, pco := [[some .api_Crack]], rco := [[some .api_Crack]] }
def a73 : FAnn U := { live := ofList none [(10, some ([(1, []), (27, [some .api_Op]), (28, []), (29, [])], []))], op := ofList (fun _ => {}) [(0, ofList {} [(0, { glob := true })])], pure := true, scalar := true, pco := [[some .api_Op]] }
def a74 : FAnn U := { live := ofList none [(5, some ([(1, [some .str]), (6, []), (15, [some .api_Known]), (16, []), (17, [])], []))], op := ofList (fun _ => {}) [(3, ofList {} [(0, { glob := true, sym := some 134 })]), (7, ofList {} [(3, { sym := some 0 })]), (14, ofList {} [(5, { sym := some 0 })])], pco := [[some .api_Known], [some .str]] }
def a75 : FAnn U := { live := ofList none [(3, some ([(3, [some .int]), (4, [some .int]), (8, [some .api_Op]), (9, []), (10, [])], [(3, []), (4, [])]))], op := ofList (fun _ => {}) [(1, ofList {} [(0, { own := [(0, some 3, (.pure .int))] }), (1, { own := [(0, some 4, (.pure .int))] })]), (8, ofList {} [(9, { slot := some 4 })]), (9, ofList {} [(3, { slot := some 3 })])], pure := true, pco := [[some .api_Op]], rco := [[some .int]] }
def a76 : FAnn U := { live := ofList none [(31, some ([(0, []), (2, [some .eval_local]), (6, []), (7, []), (12, [some .sl_api_Atom]), (119, [some .int]), (120, []), (121, [])], [(6, [none, some .api_Atom, some .api_Crack]), (7, []), (12, [])])), (11, some ([(0, []), (2, [some .eval_local]), (6, []), (7, []), (8, [some .int])], [(6, [none, some .api_Atom, some .api_Crack]), (7, [])]))], op := ofList (fun _ => {}) [(1, ofList {} [(3, { sym := some 140 }), (10, { sym := some 140 }), (14, { sym := some 140 })]), (15, ofList {} [(3, { sym := some 140 })]), (16, ofList {} [(5, { sym := some 140 })]), (17, ofList {} [(0, { co := [none, some .api_Atom, some .api_Crack] })]), (29, ofList {} [(0, { own := [(0, some 12, (.pure .sl_api_Atom))] })]), (36, ofList {} [(4, { slot := some 12 })])], pco := [[], [], [some .eval_local]], rco := [[none, some .api_Atom, some .api_Crack]] }
def a77 : FAnn U := { pure := true, pco := [[some .api_Atom]], rco := [[some .api_Atom]] }
def a78 : FAnn U := { pure := true, pco := [[some .api_Crack]], rco := [[some .api_Crack]] }
def a28 : FAnn U := { pure := true, scalar := true, pco := [[none, some .api_Atom, some .api_Crack], [none, some .api_Atom, some .api_Crack]] }
def a79 : FAnn U := { pure := true, scalar := true, pco := [[some .api_Atom]] }
def a80 : FAnn U := { live := ofList none [(3, some ([(3, [some .api_Op]), (7, [some .api_Atom]), (8, []), (9, [])], [(3, [])]))], op := ofList (fun _ => {}) [(1, ofList {} [(0, { own := [(0, some 3, (.pure .api_Op))] })]), (11, ofList {} [(10, { slot := some 3 })])], pure := true, pco := [[some .api_Atom]], rco := [[some .api_Op]] }
def a81 : FAnn U := { pure := true, scalar := true, pco := [[some .api_Atom]] }
def a82 : FAnn U := { live := ofList none [(3, some ([(0, [some .api_Atom]), (3, [some .api_Op]), (4, [])], [(3, [])]))], op := ofList (fun _ => {}) [(1, ofList {} [(0, { own := [(0, some 3, (.pure .api_Op))] })]), (6, ofList {} [(8, { slot := some 3 })]), (8, ofList {} [(8, { slot := some 3 })]), (10, ofList {} [(8, { slot := some 3 })])], pure := true, pco := [[some .api_Atom]], rco := [[some .api_Op]] }
def a115 : FAnn U := { live := ofList none [(3, some ([(4, [some .int]), (5, [some .int]), (13, [some .api_Op]), (14, []), (15, [])], [(5, []), (11, [])]))], op := ofList (fun _ => {}) [(1, ofList {} [(3, { slot := some 5 })]), (11, ofList {} [(8, { slot := some 5 })])], pure := true, pco := [[some .api_Op]], rco := [[some .int], []] }
def a116 : FAnn U := { live := ofList none [(4, some ([(0, [some .api_Op]), (1, [some .int]), (2, []), (3, [some .str]), (4, []), (22, [some .int]), (23, []), (24, [])], []))], pco := [[some .api_Op], [some .int], [], [some .str], []] }
def a117 : FAnn U := { op := ofList (fun _ => {}) [(1, ofList {} [(0, { sym := some 70 }), (8, { sym := some 70 })])], pco := [[], [some .str]] }
def a118 : FAnn U := { live := ofList none [(3, some ([(3, [some .int]), (11, [some .api_Op]), (12, []), (13, [])], [(3, [])])), (7, some ([(3, [some .int]), (6, []), (7, []), (11, [some .api_Op]), (12, []), (13, []), (24, [some .int]), (25, []), (26, [])], [(3, [])]))], op := ofList (fun _ => {}) [(1, ofList {} [(0, { slot := some 3 })]), (11, ofList {} [(6, { slot := some 3 })])], pure := true, scalar := true, pco := [[some .api_Op]] }
def a49 : FAnn U := { pure := true, scalar := true }
def a96 : FAnn U := { pco := [[some .str], []] }
def a119 : FAnn U := { pure := true, scalar := true, pco := [[none, some .api_Atom, some .api_Crack]] }
def a120 : FAnn U := {  }
def a98 : FAnn U := { pure := true, scalar := true, pco := [[some .str], []] }
def a121 : FAnn U := { live := ofList none [(4, some ([(1, [some .int]), (7, [some .int]), (8, []), (9, [])], [(15, [])]))], pure := true, pco := [[some .api_Op], [some .int], []], rco := [[some .int]] }
def a122 : FAnn U := { pure := true, pco := [[some .api_Atom]], rco := [[none, some .api_Atom, some .api_Crack]] }
def a123 : FAnn U := { op := ofList (fun _ => {}) [(1, ofList {} [(4, { sym := some 140 }), (7, { sym := some 0 }), (10, { sym := some 140 })]), (2, ofList {} [(3, { sym := some 140 }), (5, { sym := some 0 })])], rco := [[none, some .api_Atom, some .api_Crack]] }
def a124 : FAnn U := { op := ofList (fun _ => {}) [(0, ofList {} [(0, { glob := true, sym := some 181 })])], pco := [[some .eval_local]] }
def a125 : FAnn U := { op := ofList (fun _ => {}) [(6, ofList {} [(10, { co := [none, some .api_Atom] })]), (14, ofList {} [(4, { co := [none, some .api_Atom, some .api_Crack] })])], pco := [[], [], [some .int], [some .eval_local]], rco := [[none, some .api_Atom, some .api_Crack]] }
def a126 : FAnn U := { pure := true, pco := [[], [some .sl_api_Atom]], rco := [[none, some .api_Atom, some .api_Crack]] }
def a71 : FAnn U := { live := ofList none [(4, some ([(0, [some .api_Crack]), (1, [some .api_Crack]), (5, [])], []))], pure := true, scalar := true, pco := [[some .api_Crack], [some .api_Crack]] }
def a127 : FAnn U := { live := ofList none [(3, some ([(4, [some .value_whole]), (5, [some .value_whole]), (16, [some .api_Atom]), (17, []), (18, [])], [(5, []), (14, [])])), (10, some ([(4, [some .value_whole]), (5, [some .value_whole]), (6, []), (8, []), (9, []), (16, [some .api_Atom]), (17, []), (18, []), (42, [some .value_whole]), (43, []), (44, [])], [(5, []), (9, []), (14, [])]))], op := ofList (fun _ => {}) [(1, ofList {} [(3, { slot := some 5 })]), (19, ofList {} [(5, { slot := some 5 })])], pure := true, pco := [[some .api_Atom]], rco := [[some .value_whole], []] }
def a128 : FAnn U := { live := ofList none [(5, some ([(0, [some .api_Atom]), (5, [some .int]), (6, [some .int]), (7, [some .int]), (8, [])], [(5, []), (6, []), (7, [])])), (15, some ([(0, [some .api_Atom]), (5, [some .int]), (6, [some .int]), (7, [some .int]), (8, []), (9, []), (10, []), (11, []), (12, [])], [(5, []), (6, []), (7, [])]))], op := ofList (fun _ => {}) [(1, ofList {} [(0, { slot := some 5 })]), (2, ofList {} [(0, { slot := some 6 })]), (3, ofList {} [(0, { slot := some 7 })]), (20, ofList {} [(3, { slot := some 6 })]), (21, ofList {} [(4, { slot := some 7 })]), (22, ofList {} [(3, { slot := some 5 })])], pure := true, pco := [[some .api_Atom]], rco := [[some .int], [], []] }
def a153 : FAnn U := { pure := true, scalar := true }
def a154 : FAnn U := { live := ofList none [(4, some ([(1, [some .int]), (7, [some .int]), (8, []), (9, [])], [(15, [])]))], pure := true, pco := [[some .api_Op], [some .int], []], rco := [[some .int]] }
def a155 : FAnn U := { op := ofList (fun _ => {}) [(2, ofList {} [(0, { own := [(0, some 2, (.pure .str))] })])], pure := true, scalar := true, own := true, pco := [[some .str]], rco := [[some .str]] }
def a85 : FAnn U := { live := ofList none [(3, some ([(0, []), (1, [])], []))], pure := true, scalar := true }
def a86 : FAnn U := { pure := true, scalar := true }
def a135 : FAnn U := { live := ofList none [(2, some ([(0, [some .str]), (1, []), (7, []), (8, [])], []))], pco := [[some .str], []] }
def a156 : FAnn U := { pure := true, scalar := true, pco := [[some .api_Crack]] }
def a136 : FAnn U := { live := ofList none [(2, some ([(0, [some .str]), (1, []), (7, []), (8, [])], []))], pure := true, scalar := true, pco := [[some .str], []] }
def a157 : FAnn U := { pure := true, rco := [[none, some .api_Atom, some .api_Crack]] }
def a158 : FAnn U := { live := ofList none [(1, some ([(0, []), (1, []), (3, [])], []))] }
def a159 : FAnn U := { pure := true, scalar := true, pco := [[some .api_Atom]] }
def a160 : FAnn U := { op := ofList (fun _ => {}) [(2, ofList {} [(0, { own := [(0, some 2, (.pure .eval_local))] })])], pure := true, scalar := true, own := true, pco := [[some .eval_local]], rco := [[some .eval_local]] }
def a161 : FAnn U := { pure := true, scalar := true }
def a162 : FAnn U := { pure := true, pco := [[], [some .sl_api_Atom]], rco := [[some .api_Atom], [], []] }
def a163 : FAnn U := { pure := true, scalar := true }
def a164 : FAnn U := { pure := true, scalar := true }
def a180 : FAnn U := { pure := true, scalar := true }
def a129 : FAnn U := { pure := true, scalar := true }
def a130 : FAnn U := { pure := true, scalar := true }
def a181 : FAnn U := { live := ofList none [(3, some ([(4, [some .int]), (5, [some .int]), (12, [some .api_Crack]), (13, []), (14, [])], [(5, []), (10, [])]))], op := ofList (fun _ => {}) [(1, ofList {} [(3, { slot := some 5 })]), (10, ofList {} [(12, { slot := some 5 })])], pure := true, pco := [[some .api_Crack]], rco := [[some .int], []] }
def a182 : FAnn U := {  }
def a183 : FAnn U := { live := ofList none [(2, some ([(6, [some .sl_api_Atom]), (7, []), (8, [])], []))], pure := true, scalar := true, pco := [[some .sl_api_Atom]] }
def a192 : FAnn U := { pure := true, scalar := true }
def a193 : FAnn U := { pure := true, pco := [[some .sl_api_Atom]], rco := [[some .api_Atom], []] }
def a194 : FAnn U := { pure := true, pco := [[some .sl_api_Atom]], rco := [[some .api_Atom], []] }
def a195 : FAnn U := { pure := true, pco := [[some .sl_api_Atom]], rco := [[some .api_Atom], []] }
def a196 : FAnn U := { pure := true, pco := [[some .sl_api_Atom]], rco := [[some .api_Atom], []] }
def a197 : FAnn U := { pure := true, pco := [[some .sl_api_Atom]], rco := [[some .api_Atom], []] }
def a198 : FAnn U := { pure := true, pco := [[some .sl_api_Atom]], rco := [[some .api_Atom], []] }
def a199 : FAnn U := { pure := true, pco := [[some .sl_api_Atom]], rco := [[some .api_Atom], []] }
def a200 : FAnn U := { pure := true, pco := [[some .sl_api_Atom]], rco := [[some .api_Atom], []] }
def a201 : FAnn U := { pure := true, pco := [[some .sl_api_Atom]], rco := [[some .api_Atom], []] }
def a205 : FAnn U := { pure := true, scalar := true }
def a206 : FAnn U := { pure := true, scalar := true }
def a207 : FAnn U := { live := ofList none [(3, some ([(0, [some .sl_api_Atom]), (4, [some .api_Atom]), (7, [some .sl_api_Atom]), (8, []), (9, [])], [(4, [])]))], op := ofList (fun _ => {}) [(1, ofList {} [(0, { own := [(0, some 4, (.pure .api_Atom))] })]), (7, ofList {} [(2, { slot := some 4 })]), (9, ofList {} [(5, { slot := some 4 })])], pure := true, pco := [[some .sl_api_Atom]], rco := [[some .api_Atom], []] }
def a208 : FAnn U := { pure := true, scalar := true, pco := [[some .sl_api_Atom]] }
def a209 : FAnn U := { pure := true, rco := [[some .api_Atom], []] }
def a210 : FAnn U := { pure := true, scalar := true }
def a211 : FAnn U := { pure := true, scalar := true, pco := [[some .api_Atom]] }
def a212 : FAnn U := { live := ofList none [(5, some ([(0, [some .api_Atom]), (3, [some .value_whole]), (5, [some .sl_api_Atom]), (6, []), (7, [])], [(17, [])]))], pure := true, scalar := true, own := true, pco := [[some .api_Atom]], rco := [[some .sl_api_Atom]] }
def a213 : FAnn U := { pure := true, rco := [[some .api_Atom], []] }
def a214 : FAnn U := { pure := true, scalar := true, pco := [[some .api_Atom], [some .api_Atom]] }
def a216 : FAnn U := { pco := [[some .sl_api_Atom], []] }
def a217 : FAnn U := { pure := true, scalar := true, pco := [[some .api_Atom]] }
def a218 : FAnn U := { pure := true, rco := [[some .api_Atom], []] }
def a219 : FAnn U := { pure := true, scalar := true }
def a220 : FAnn U := { pure := true, scalar := true }
def a221 : FAnn U := { live := ofList none [(2, some ([(0, [some .sl_api_Atom]), (1, [some .sl_api_Atom]), (2, []), (11, [some .sl_api_Atom]), (12, []), (13, [])], []))], pco := [[some .sl_api_Atom], [some .sl_api_Atom], []] }
def a222 : FAnn U := { live := ofList none [(2, some ([(0, [some .sl_api_Atom]), (1, []), (7, []), (8, [])], []))], pco := [[some .sl_api_Atom], []] }
def a223 : FAnn U := { pure := true, scalar := true }
def a224 : FAnn U := { pure := true, scalar := true }

def annL : List (Nat × FAnn U) := [(8, a8), (9, a9), (10, a10), (29, a29), (30, a30), (31, a31), (32, a32), (33, a33), (34, a34), (35, a35), (36, a36), (37, a37), (38, a38), (39, a39), (40, a40), (41, a41), (42, a42), (72, a72), (73, a73), (74, a74), (75, a75), (76, a76), (77, a77), (78, a78), (28, a28), (79, a79), (80, a80), (81, a81), (82, a82), (115, a115), (116, a116), (117, a117), (118, a118), (49, a49), (96, a96), (119, a119), (120, a120), (98, a98), (121, a121), (122, a122), (123, a123), (124, a124), (125, a125), (126, a126), (71, a71), (127, a127), (128, a128), (153, a153), (154, a154), (155, a155), (85, a85), (86, a86), (135, a135), (156, a156), (136, a136), (157, a157), (158, a158), (159, a159), (160, a160), (161, a161), (162, a162), (163, a163), (164, a164), (180, a180), (129, a129), (130, a130), (181, a181), (182, a182), (183, a183), (192, a192), (193, a193), (194, a194), (195, a195), (196, a196), (197, a197), (198, a198), (199, a199), (200, a200), (201, a201), (205, a205), (206, a206), (207, a207), (208, a208), (209, a209), (210, a210), (211, a211), (212, a212), (213, a213), (214, a214), (216, a216), (217, a217), (218, a218), (219, a219), (220, a220), (221, a221), (222, a222), (223, a223), (224, a224)]

noncomputable def K : Cfg where
  U := U
  width := width
  enc := enc
  dec := dec
  dflt := dflt
  flat := flat
  bytesC := bytesC
  keyEq := keyEq
  P := Tryd.prog
  ti := ofList none (tiL.map fun x => (x.1, some x.2))
  vc := ofList .ptr vcL
  kc := ofList .int kcL
  meth := methods
  glob := ofList none (globL.map fun x => (x.1, some x.2))
  ann := ofList {} annL
  back := ofList none [(158, some ⟨181, 189, 3, 4, 236⟩)]

structure WayS where
  x : List api_Op
  front : List Int
  known : Nat
  open' : List ByteArray
  asked : Nat
  askedG : Nat
  askedS : Option (Nat × Nat)
  gate : ByteArray

structure Ans where
  R : Type
  enc : R → C U

def ansL : List (Nat × Ans) := [
  (8, ⟨Bool, fun x => .d (.bool x)⟩),
  (9, ⟨Bool, fun x => .d (.bool x)⟩),
  (10, ⟨Bool, fun x => .d (.bool x)⟩),
  (29, ⟨api_Outcome, fun x => .agg [.d (.int .i64 x.gKind), .d (.sl .api_Atom x.gValue), .d (.sl .api_Crack x.gFail)]⟩),
  (30, ⟨Bool, fun x => .d (.bool x)⟩),
  (31, ⟨api_Meaning × Int, fun x => .tup [.agg [.d (.int .i64 x.1.gOutcome.gKind), .d (.sl .api_Atom x.1.gOutcome.gValue), .d (.sl .api_Crack x.1.gOutcome.gFail), .d (.str x.1.gGate), .d (.sl .str x.1.gAsked)], .d (.int .i64 x.2)]⟩),
  (32, ⟨(List api_Op), fun x => .d (.sl .api_Op x)⟩),
  (33, ⟨(List api_Known), fun x => .d (.sl .api_Known x)⟩),
  (34, ⟨(List ByteArray), fun x => .osl .str x⟩),
  (35, ⟨Bool, fun x => .d (.bool x)⟩),
  (36, ⟨Bool, fun x => .d (.bool x)⟩),
  (37, ⟨Bool, fun x => .d (.bool x)⟩),
  (38, ⟨(List api_Atom), fun x => .d (.sl .api_Atom x)⟩),
  (39, ⟨(List api_Op) × Int, fun x => .tup [.d (.sl .api_Op x.1), .d (.int .i64 x.2)]⟩),
  (40, ⟨(List api_Op) × Int, fun x => .tup [.d (.sl .api_Op x.1), .d (.int .i64 x.2)]⟩),
  (41, ⟨Bool, fun x => .d (.bool x)⟩),
  (42, ⟨Bool, fun x => .d (.bool x)⟩),
  (72, ⟨(List api_Crack), fun x => .d (.sl .api_Crack x)⟩),
  (73, ⟨Int, fun x => .d (.int .i64 x)⟩),
  (74, ⟨Nat × Int, fun x => .tup [.mp (.g x.1), .d (.int .i64 x.2)]⟩),
  (75, ⟨(List Int), fun x => .d (.sl .int x)⟩),
  (76, ⟨api_Outcome, fun x => .agg [.d (.int .i64 x.gKind), .d (.sl .api_Atom x.gValue), .d (.sl .api_Crack x.gFail)]⟩),
  (77, ⟨(List api_Atom), fun x => .d (.sl .api_Atom x)⟩),
  (78, ⟨(List api_Crack), fun x => .d (.sl .api_Crack x)⟩),
  (28, ⟨Bool, fun x => .d (.bool x)⟩),
  (79, ⟨Int, fun x => .d (.int .i64 x)⟩),
  (80, ⟨(List api_Op), fun x => .d (.sl .api_Op x)⟩),
  (81, ⟨Int, fun x => .d (.int .i64 x)⟩),
  (82, ⟨(List api_Op), fun x => .d (.sl .api_Op x)⟩),
  (115, ⟨(List Int) × Bool, fun x => .tup [.d (.sl .int x.1), .d (.bool x.2)]⟩),
  (116, ⟨Bool, fun x => .d (.bool x)⟩),
  (117, ⟨Bool, fun x => .d (.bool x)⟩),
  (118, ⟨Int, fun x => .d (.int .i64 x)⟩),
  (49, ⟨Bool, fun x => .d (.bool x)⟩),
  (96, ⟨Bool, fun x => .d (.bool x)⟩),
  (119, ⟨Bool, fun x => .d (.bool x)⟩),
  (120, ⟨Bool, fun x => .d (.bool x)⟩),
  (98, ⟨Bool, fun x => .d (.bool x)⟩),
  (121, ⟨(List Int), fun x => .d (.sl .int x)⟩),
  (122, ⟨api_Outcome, fun x => .agg [.d (.int .i64 x.gKind), .d (.sl .api_Atom x.gValue), .d (.sl .api_Crack x.gFail)]⟩),
  (123, ⟨api_Outcome, fun x => .agg [.d (.int .i64 x.gKind), .d (.sl .api_Atom x.gValue), .d (.sl .api_Crack x.gFail)]⟩),
  (124, ⟨Nat, fun x => .fp 158 [] [.ptr (.g x) 0]⟩),
  (125, ⟨api_Outcome, fun x => .agg [.d (.int .i64 x.gKind), .d (.sl .api_Atom x.gValue), .d (.sl .api_Crack x.gFail)]⟩),
  (126, ⟨api_Outcome, fun x => .agg [.d (.int .i64 x.gKind), .d (.sl .api_Atom x.gValue), .d (.sl .api_Crack x.gFail)]⟩),
  (71, ⟨Bool, fun x => .d (.bool x)⟩),
  (127, ⟨(List value_whole) × Bool, fun x => .tup [.d (.sl .value_whole x.1), .d (.bool x.2)]⟩),
  (128, ⟨(List Int) × Int × Bool, fun x => .tup [.d (.sl .int x.1), .d (.int .i64 x.2.1), .d (.bool x.2.2)]⟩),
  (153, ⟨Bool, fun x => .d (.bool x)⟩),
  (154, ⟨(List Int), fun x => .d (.sl .int x)⟩),
  (155, ⟨(List ByteArray), fun x => .osl .str x⟩),
  (85, ⟨Int, fun x => .d (.int .i64 x)⟩),
  (86, ⟨Bool, fun x => .d (.bool x)⟩),
  (135, ⟨Int, fun x => .d (.int .i64 x)⟩),
  (156, ⟨Int, fun x => .d (.int .i64 x)⟩),
  (136, ⟨Int, fun x => .d (.int .i64 x)⟩),
  (157, ⟨api_Outcome, fun x => .agg [.d (.int .i64 x.gKind), .d (.sl .api_Atom x.gValue), .d (.sl .api_Crack x.gFail)]⟩),
  (158, ⟨Unit, fun _ => .tup []⟩),
  (159, ⟨api_Atom, fun x => .agg [.d (.int .i64 x.gKind), .d (.int .i64 x.gN), .d (.int .i64 x.gInt), .d (.str x.gText)]⟩),
  (160, ⟨(List eval_local), fun x => .osl .eval_local x⟩),
  (161, ⟨ByteArray, fun x => .d (.str x)⟩),
  (162, ⟨(List api_Atom) × Bool × Int, fun x => .tup [.d (.sl .api_Atom x.1), .d (.bool x.2.1), .d (.int .i64 x.2.2)]⟩),
  (163, ⟨Bool, fun x => .d (.bool x)⟩),
  (164, ⟨Bool, fun x => .d (.bool x)⟩),
  (180, ⟨Int, fun x => .d (.int .i64 x)⟩),
  (129, ⟨Bool, fun x => .d (.bool x)⟩),
  (130, ⟨Bool, fun x => .d (.bool x)⟩),
  (181, ⟨(List Int) × Bool, fun x => .tup [.d (.sl .int x.1), .d (.bool x.2)]⟩),
  (182, ⟨Int × Nat, fun x => .tup [.d (.int .i64 x.1), .fp x.2 [] []]⟩),
  (183, ⟨Int, fun x => .d (.int .i64 x)⟩),
  (192, ⟨Bool, fun x => .d (.bool x)⟩),
  (193, ⟨(List api_Atom) × Bool, fun x => .tup [.d (.sl .api_Atom x.1), .d (.bool x.2)]⟩),
  (194, ⟨(List api_Atom) × Bool, fun x => .tup [.d (.sl .api_Atom x.1), .d (.bool x.2)]⟩),
  (195, ⟨(List api_Atom) × Bool, fun x => .tup [.d (.sl .api_Atom x.1), .d (.bool x.2)]⟩),
  (196, ⟨(List api_Atom) × Bool, fun x => .tup [.d (.sl .api_Atom x.1), .d (.bool x.2)]⟩),
  (197, ⟨(List api_Atom) × Bool, fun x => .tup [.d (.sl .api_Atom x.1), .d (.bool x.2)]⟩),
  (198, ⟨(List api_Atom) × Bool, fun x => .tup [.d (.sl .api_Atom x.1), .d (.bool x.2)]⟩),
  (199, ⟨(List api_Atom) × Bool, fun x => .tup [.d (.sl .api_Atom x.1), .d (.bool x.2)]⟩),
  (200, ⟨(List api_Atom) × Bool, fun x => .tup [.d (.sl .api_Atom x.1), .d (.bool x.2)]⟩),
  (201, ⟨(List api_Atom) × Bool, fun x => .tup [.d (.sl .api_Atom x.1), .d (.bool x.2)]⟩),
  (205, ⟨Int, fun x => .d (.int .i64 x)⟩),
  (206, ⟨Bool, fun x => .d (.bool x)⟩),
  (207, ⟨(List api_Atom) × Bool, fun x => .tup [.d (.sl .api_Atom x.1), .d (.bool x.2)]⟩),
  (208, ⟨Bool, fun x => .d (.bool x)⟩),
  (209, ⟨(List api_Atom) × Bool, fun x => .tup [.d (.sl .api_Atom x.1), .d (.bool x.2)]⟩),
  (210, ⟨Int, fun x => .d (.int .i64 x)⟩),
  (211, ⟨api_Atom, fun x => .agg [.d (.int .i64 x.gKind), .d (.int .i64 x.gN), .d (.int .i64 x.gInt), .d (.str x.gText)]⟩),
  (212, ⟨(List (List api_Atom)), fun x => .osl .sl_api_Atom x⟩),
  (213, ⟨(List api_Atom) × Bool, fun x => .tup [.d (.sl .api_Atom x.1), .d (.bool x.2)]⟩),
  (214, ⟨Int, fun x => .d (.int .i64 x)⟩),
  (216, ⟨Bool, fun x => .d (.bool x)⟩),
  (217, ⟨Bool, fun x => .d (.bool x)⟩),
  (218, ⟨(List api_Atom) × Int, fun x => .tup [.d (.sl .api_Atom x.1), .d (.int .i64 x.2)]⟩),
  (219, ⟨Int, fun x => .d (.int .i64 x)⟩),
  (220, ⟨Int, fun x => .d (.int .i64 x)⟩),
  (221, ⟨Int, fun x => .d (.int .i64 x)⟩),
  (222, ⟨Int, fun x => .d (.int .i64 x)⟩),
  (223, ⟨Bool, fun x => .d (.bool x)⟩),
  (224, ⟨Int, fun x => .d (.int .i64 x)⟩)]

def ans : Nat → Ans := ofList (⟨Unit, fun _ => .tup []⟩ : Ans) ansL

def ansT : List (Nat × Ans) := [
  (3, ⟨Int, fun x => .d (.int .i64 x)⟩),
  (4, ⟨Bool, fun x => .d (.bool x)⟩),
  (5, ⟨Int, fun x => .d (.int .u8 x)⟩),
  (9, ⟨ByteArray, fun x => .d (.str x)⟩),
  (22, ⟨(List Int), fun x => .d (.sl .int x)⟩),
  (24, ⟨(List ByteArray), fun x => .d (.sl .str x)⟩),
  (28, ⟨Int, fun x => .d (.int .i64 x)⟩),
  (59, ⟨(List api_Atom), fun x => .d (.sl .api_Atom x)⟩),
  (61, ⟨(List api_Crack), fun x => .d (.sl .api_Crack x)⟩),
  (63, ⟨api_Outcome, fun x => .agg [.d (.int .i64 x.gKind), .d (.sl .api_Atom x.gValue), .d (.sl .api_Crack x.gFail)]⟩),
  (70, ⟨(List api_Op), fun x => .d (.sl .api_Op x)⟩),
  (71, ⟨(List api_Known), fun x => .d (.sl .api_Known x)⟩),
  (73, ⟨api_Meaning, fun x => .agg [.d (.int .i64 x.gOutcome.gKind), .d (.sl .api_Atom x.gOutcome.gValue), .d (.sl .api_Crack x.gOutcome.gFail), .d (.str x.gGate), .d (.sl .str x.gAsked)]⟩),
  (74, ⟨api_Meaning × Int, fun x => .tup [.agg [.d (.int .i64 x.1.gOutcome.gKind), .d (.sl .api_Atom x.1.gOutcome.gValue), .d (.sl .api_Crack x.1.gOutcome.gFail), .d (.str x.1.gGate), .d (.sl .str x.1.gAsked)], .d (.int .i64 x.2)]⟩),
  (80, ⟨api_Known, fun x => .agg [.d (.str x.gName), .d (.int .i64 x.gOutcome.gKind), .d (.sl .api_Atom x.gOutcome.gValue), .d (.sl .api_Crack x.gOutcome.gFail)]⟩),
  (87, ⟨(List api_Op) × Int, fun x => .tup [.d (.sl .api_Op x.1), .d (.int .i64 x.2)]⟩),
  (94, ⟨api_Policy, fun x => .agg [.d (.int .i64 x.gTries), .d (.int .i64 x.gBase), .d (.int .i64 x.gFactor), .d (.int .i64 x.gCap)]⟩),
  (96, ⟨api_Closer, fun x => .agg [.d (.int .i64 x.gKind), .d (.str x.gText)]⟩),
  (97, ⟨anon_97, fun x => .agg [.d (.str x.gName), .d (.sl .api_Op x.gExpr), .d (.bool x.gAgain), .d (.int .i64 x.gPolicy.gTries), .d (.int .i64 x.gPolicy.gBase), .d (.int .i64 x.gPolicy.gFactor), .d (.int .i64 x.gPolicy.gCap), .d (.int .i64 x.gCloser.gKind), .d (.str x.gCloser.gText)]⟩),
  (98, ⟨api_Provider, fun x => .agg [.d (.str x.gName), .d (.sl .api_Op x.gExpr), .d (.bool x.gAgain), .d (.int .i64 x.gPolicy.gTries), .d (.int .i64 x.gPolicy.gBase), .d (.int .i64 x.gPolicy.gFactor), .d (.int .i64 x.gPolicy.gCap), .d (.int .i64 x.gCloser.gKind), .d (.str x.gCloser.gText)]⟩),
  (99, ⟨anon_99, fun x => .agg [.d (.int .i64 x.gScope), .d (.str x.gProvider.gName), .d (.sl .api_Op x.gProvider.gExpr), .d (.bool x.gProvider.gAgain), .d (.int .i64 x.gProvider.gPolicy.gTries), .d (.int .i64 x.gProvider.gPolicy.gBase), .d (.int .i64 x.gProvider.gPolicy.gFactor), .d (.int .i64 x.gProvider.gPolicy.gCap), .d (.int .i64 x.gProvider.gCloser.gKind), .d (.str x.gProvider.gCloser.gText)]⟩),
  (100, ⟨api_Own, fun x => .agg [.d (.int .i64 x.gScope), .d (.str x.gProvider.gName), .d (.sl .api_Op x.gProvider.gExpr), .d (.bool x.gProvider.gAgain), .d (.int .i64 x.gProvider.gPolicy.gTries), .d (.int .i64 x.gProvider.gPolicy.gBase), .d (.int .i64 x.gProvider.gPolicy.gFactor), .d (.int .i64 x.gProvider.gPolicy.gCap), .d (.int .i64 x.gProvider.gCloser.gKind), .d (.str x.gProvider.gCloser.gText)]⟩),
  (105, ⟨lazy_key, fun x => .agg [.d (.int .i64 x.gScope), .d (.str x.gName)]⟩),
  (112, ⟨(List (List Int)), fun x => .d (.sl .sl_int x)⟩),
  (129, ⟨api_Atom, fun x => .agg [.d (.int .i64 x.gKind), .d (.int .i64 x.gN), .d (.int .i64 x.gInt), .d (.str x.gText)]⟩),
  (132, ⟨api_Op, fun x => .agg [.d (.int .i64 x.gKind), .d (.int .i64 x.gN), .d (.int .i64 x.gInt), .d (.str x.gText)]⟩),
  (143, ⟨api_Crack, fun x => .agg [.d (.int .i64 x.gKind), .d (.int .i64 x.gN), .d (.str x.gText)]⟩),
  (174, ⟨(List Int) × Bool, fun x => .tup [.d (.sl .int x.1), .d (.bool x.2)]⟩),
  (179, ⟨api_Outcome × Bool, fun x => .tup [.agg [.d (.int .i64 x.1.gKind), .d (.sl .api_Atom x.1.gValue), .d (.sl .api_Crack x.1.gFail)], .d (.bool x.2)]⟩),
  (181, ⟨(List eval_local), fun x => .d (.sl .eval_local x)⟩),
  (189, ⟨eval_local, fun x => .agg [.d (.str x.gName), .d (.sl .api_Atom x.gV)]⟩),
  (191, ⟨(List (List api_Atom)), fun x => .d (.sl .sl_api_Atom x)⟩),
  (193, ⟨(List value_whole), fun x => .d (.sl .value_whole x)⟩),
  (194, ⟨(List value_whole) × Bool, fun x => .tup [.d (.sl .value_whole x.1), .d (.bool x.2)]⟩),
  (196, ⟨(List Int) × Int × Bool, fun x => .tup [.d (.sl .int x.1), .d (.int .i64 x.2.1), .d (.bool x.2.2)]⟩),
  (211, ⟨(List audit_generation), fun x => .d (.sl .audit_generation x)⟩),
  (213, ⟨audit_cell, fun x => .agg [.d (.int .i64 x.gScope), .d (.str x.gName)]⟩),
  (215, ⟨audit_generation, fun x => .agg [.d (.int .i64 x.gCell.gScope), .d (.str x.gCell.gName), .d (.int .i64 x.gGen)]⟩),
  (226, ⟨audit_state, fun x => .agg [.d (.int .i64 x.gGen), .d (.bool x.gRuns), .d (.int .i64 x.gTask), .d (.int .i64 x.gOut.gKind), .d (.sl .api_Atom x.gOut.gValue), .d (.sl .api_Crack x.gOut.gFail), .d (.bool x.gShut), .d (.sl .audit_generation x.gUsed), .d (.int .i64 x.gPut)]⟩),
  (239, ⟨(List api_Atom) × Bool × Int, fun x => .tup [.d (.sl .api_Atom x.1), .d (.bool x.2.1), .d (.int .i64 x.2.2)]⟩),
  (243, ⟨value_whole, fun x => .agg [.d (.int .i64 x.gFrom), .d (.int .i64 x.gDeep)]⟩),
  (251, ⟨(List api_Atom) × Bool, fun x => .tup [.d (.sl .api_Atom x.1), .d (.bool x.2)]⟩),
  (258, ⟨(List (List api_Atom)), fun x => .d (.sl .sl_api_Atom x)⟩),
  (268, ⟨(List api_Atom) × Int, fun x => .tup [.d (.sl .api_Atom x.1), .d (.int .i64 x.2)]⟩)]

def ant : Nat → Ans := ofList (⟨Unit, fun _ => .tup []⟩ : Ans) ansT

structure ShpA where
  T : Type
  enc : T → List (C U)

def shpL : List (Nat × ShpA) := [(140, ⟨WayS, fun x => [.d (.sl .api_Op x.x), .d (.sl .int x.front), .mp (.g x.known), .d (.sl .str x.open'), .asl (.g x.asked) x.askedG x.askedS false, .d (.str x.gate)]⟩),
  (70, ⟨List api_Op, fun x => [.d (.sl .api_Op x)]⟩)]

def shp : Nat → ShpA := ofList (⟨Unit, fun _ => []⟩ : ShpA) shpL
noncomputable def Sh : Shp K where
  T := fun t => (shp t).T
  enc := fun t => (shp t).enc

structure AnsH where
  R : Type
  enc : List (O U) → R → List (O U)

def ansHL : List (Nat × AnsH) := [(31, ⟨List (O U), fun _ y => y⟩),
  (74, ⟨List (O U), fun _ y => y⟩),
  (76, ⟨List (O U), fun _ y => y⟩),
  (123, ⟨List (O U), fun _ y => y⟩),
  (124, ⟨List (O U), fun _ y => y⟩),
  (125, ⟨List (O U), fun _ y => y⟩)]

def ansH : Nat → AnsH := ofList (⟨Unit, fun H _ => H⟩ : AnsH) ansHL

noncomputable def Rs : Res K where
  R := fun f => (ans f).R
  enc := fun f => (ans f).enc
  RH := fun f => (ansH f).R
  encH := fun f => (ansH f).enc
  RT := fun t => (ant t).R
  encT := fun t => (ant t).enc

end Go.Proofs.YtikcopbjconkfaaDoor.V
