/- DEFINITIONS ALONE: the types and functions of this program, and remarks on how to walk them. Conditions: none. (Written by a program of mine, mkcfg.py.) -/
import Derived.Test.YtikcopbjconkfaaDoorC0
import Derived.Test.YtikcopbjconkfaaDoorProg
namespace Go.Proofs.YtikcopbjconkfaaDoor.V
set_option linter.unusedVariables false
set_option linter.unusedSimpArgs false
open Go Go.Abs

def tiL : List (Nat × TI) := [
  (3, ⟨.int .i64, 1, 8, [.int .i64]⟩),
  (4, ⟨.bool, 1, 1, [.bool]⟩),
  (5, ⟨.int .u8, 1, 1, [.int .u8]⟩),
  (9, ⟨.str, 1, 16, [.str]⟩),
  (22, ⟨.slice 3, 1, 24, [.nils]⟩),
  (24, ⟨.slice 9, 1, 24, [.nils]⟩),
  (28, ⟨.int .i64, 1, 8, [.int .i64]⟩),
  (40, ⟨.slice 65, 1, 24, [.nils]⟩),
  (43, ⟨.strct [(3, 0), (3, 1)], 2, 16, [.int .i64, .int .i64]⟩),
  (46, ⟨.slice 168, 1, 24, [.nils]⟩),
  (47, ⟨.slice 171, 1, 24, [.nils]⟩),
  (48, ⟨.slice 163, 1, 24, [.nils]⟩),
  (50, ⟨.strct [(3, 0), (3, 1), (46, 2), (47, 3), (48, 4)], 5, 88, [.int .i64, .int .i64, .nils, .nils, .nils]⟩),
  (59, ⟨.slice 129, 1, 24, [.nils]⟩),
  (61, ⟨.slice 143, 1, 24, [.nils]⟩),
  (63, ⟨.strct [(3, 0), (59, 1), (61, 2)], 3, 56, [.int .i64, .nils, .nils]⟩),
  (65, ⟨.strct [(3, 0), (3, 1), (3, 2), (3, 3), (3, 4), (9, 5), (63, 6)], 9, 112, [.int .i64, .int .i64, .int .i64, .int .i64, .int .i64, .str, .int .i64, .nils, .nils]⟩),
  (70, ⟨.slice 132, 1, 24, [.nils]⟩),
  (94, ⟨.strct [(3, 0), (3, 1), (3, 2), (3, 3)], 4, 32, [.int .i64, .int .i64, .int .i64, .int .i64]⟩),
  (96, ⟨.strct [(3, 0), (9, 1)], 2, 24, [.int .i64, .str]⟩),
  (97, ⟨.strct [(9, 0), (70, 1), (4, 2), (94, 3), (96, 7)], 9, 104, [.str, .nils, .bool, .int .i64, .int .i64, .int .i64, .int .i64, .int .i64, .str]⟩),
  (98, ⟨.strct [(9, 0), (70, 1), (4, 2), (94, 3), (96, 7)], 9, 104, [.str, .nils, .bool, .int .i64, .int .i64, .int .i64, .int .i64, .int .i64, .str]⟩),
  (99, ⟨.strct [(3, 0), (98, 1)], 10, 112, [.int .i64, .str, .nils, .bool, .int .i64, .int .i64, .int .i64, .int .i64, .int .i64, .str]⟩),
  (100, ⟨.strct [(3, 0), (98, 1)], 10, 112, [.int .i64, .str, .nils, .bool, .int .i64, .int .i64, .int .i64, .int .i64, .int .i64, .str]⟩),
  (101, ⟨.func, 1, 8, [.nilf]⟩),
  (102, ⟨.func, 1, 8, [.nilf]⟩),
  (103, ⟨.func, 1, 8, [.nilf]⟩),
  (104, ⟨.strct [(3, 0), (9, 1)], 2, 24, [.int .i64, .str]⟩),
  (105, ⟨.strct [(3, 0), (9, 1)], 2, 24, [.int .i64, .str]⟩),
  (106, ⟨.func, 1, 8, [.nilf]⟩),
  (108, ⟨.func, 1, 8, [.nilf]⟩),
  (109, ⟨.func, 1, 8, [.nilf]⟩),
  (110, ⟨.func, 1, 8, [.nilf]⟩),
  (111, ⟨.func, 1, 8, [.nilf]⟩),
  (112, ⟨.slice 22, 1, 24, [.nils]⟩),
  (114, ⟨.slice 4, 1, 24, [.nils]⟩),
  (115, ⟨.func, 1, 8, [.nilf]⟩),
  (116, ⟨.func, 1, 8, [.nilf]⟩),
  (117, ⟨.func, 1, 8, [.nilf]⟩),
  (119, ⟨.func, 1, 8, [.nilf]⟩),
  (121, ⟨.func, 1, 8, [.nilf]⟩),
  (122, ⟨.ptr 208, 1, 8, [.nilp]⟩),
  (129, ⟨.strct [(3, 0), (3, 1), (3, 2), (9, 3)], 4, 40, [.int .i64, .int .i64, .int .i64, .str]⟩),
  (132, ⟨.strct [(3, 0), (3, 1), (3, 2), (9, 3)], 4, 40, [.int .i64, .int .i64, .int .i64, .str]⟩),
  (143, ⟨.strct [(3, 0), (3, 1), (9, 2)], 3, 32, [.int .i64, .int .i64, .str]⟩),
  (159, ⟨.slice 161, 1, 24, [.nils]⟩),
  (161, ⟨.strct [(3, 0), (9, 1), (3, 2)], 3, 32, [.int .i64, .str, .int .i64]⟩),
  (163, ⟨.strct [(3, 0), (159, 1), (4, 2), (4, 3), (161, 4), (4, 7), (4, 8), (159, 9)], 10, 104, [.int .i64, .nils, .bool, .bool, .int .i64, .str, .int .i64, .bool, .bool, .nils]⟩),
  (168, ⟨.strct [(3, 0), (9, 1), (3, 2), (4, 3), (3, 4), (63, 5), (4, 8), (159, 9)], 10, 136, [.int .i64, .str, .int .i64, .bool, .int .i64, .int .i64, .nils, .nils, .bool, .nils]⟩),
  (171, ⟨.strct [(161, 0), (63, 3)], 6, 88, [.int .i64, .str, .int .i64, .int .i64, .nils, .nils]⟩),
  (193, ⟨.slice 243, 1, 24, [.nils]⟩),
  (199, ⟨.arr 19 9, 19, 304, List.replicate 19 (.str)⟩),
  (204, ⟨.map 213 224, 1, 8, [.nilm]⟩),
  (205, ⟨.map 215 63, 1, 8, [.nilm]⟩),
  (206, ⟨.map 3 209, 1, 8, [.nilm]⟩),
  (208, ⟨.strct [(3, 0), (3, 1), (204, 2), (205, 3), (206, 4)], 5, 40, [.int .i64, .int .i64, .nilm, .nilm, .nilm]⟩),
  (209, ⟨.ptr 218, 1, 8, [.nilp]⟩),
  (211, ⟨.slice 215, 1, 24, [.nils]⟩),
  (213, ⟨.strct [(3, 0), (9, 1)], 2, 24, [.int .i64, .str]⟩),
  (215, ⟨.strct [(213, 0), (3, 2)], 3, 32, [.int .i64, .str, .int .i64]⟩),
  (216, ⟨.map 215 3, 1, 8, [.nilm]⟩),
  (218, ⟨.strct [(211, 0), (4, 1), (4, 2), (215, 3), (4, 6), (4, 7), (216, 8)], 9, 80, [.nils, .bool, .bool, .int .i64, .str, .int .i64, .bool, .bool, .nilm]⟩),
  (219, ⟨.func, 1, 8, [.nilf]⟩),
  (221, ⟨.strct [(3, 0), (219, 1)], 2, 16, [.int .i64, .nilf]⟩),
  (224, ⟨.ptr 226, 1, 8, [.nilp]⟩),
  (226, ⟨.strct [(3, 0), (4, 1), (3, 2), (63, 3), (4, 6), (211, 7), (3, 8)], 9, 120, [.int .i64, .bool, .int .i64, .int .i64, .nils, .nils, .bool, .nils, .int .i64]⟩),
  (243, ⟨.strct [(3, 0), (3, 1)], 2, 16, [.int .i64, .int .i64]⟩),
  (254, ⟨.func, 1, 8, [.nilf]⟩),
  (265, ⟨.arr 12 3, 12, 96, List.replicate 12 (.int .i64)⟩),
  (266, ⟨.arr 10 9, 10, 160, List.replicate 10 (.str)⟩)]

def vcL : List (Nat × Vc U) := [
  (3, (.pure .int)), (4, (.pure .bool)), (9, (.pure .str)), (22, (.pure .sl_int)), (63, (.pure .api_Outcome)), (65, (.pure .api_Mark)), (129, (.pure .api_Atom)), (132, (.pure .api_Op)), (143, (.pure .api_Crack)), (161, (.pure .oncewebref26_Gen)), (163, (.pure .oncewebref26_Task)), (168, (.pure .oncewebref26_Cell)), (171, (.pure .oncewebref26_Ended)), (209, .ptr), (215, (.pure .audit_generation)), (224, .ptr), (243, (.pure .value_whole))]

def kcL : List (Nat × Ty) := [(204, .audit_cell), (205, .audit_generation), (206, .int), (216, .audit_generation)]

def methods : Nat → String → Option Nat
  | _, _ => none

def globL : List (Nat × List (D U)) := [(0, [.str (bs [99, 101, 108, 108]), .str (bs [97, 103, 97, 105, 110]), .str (bs [116, 114, 105, 101, 115]), .str (bs [98, 97, 115, 101]), .str (bs [102, 97, 99, 116, 111, 114]), .str (bs [99, 97, 112]), .str (bs [99, 108, 111, 115, 101]), .str (bs [102, 105, 110, 101]), .str (bs [102, 97, 105, 108]), .str (bs [112, 97, 110, 105, 99]), .str (bs [105, 102]), .str (bs [116, 104, 101, 110]), .str (bs [101, 108, 115, 101]), .str (bs [116, 114, 121]), .str (bs [119, 97, 105, 116]), .str (bs [108, 101, 116]), .str (bs [105, 110]), .str (bs [105, 116, 101, 109]), .str (bs [115, 105, 122, 101])]), (1, [.int .i64 0, .int .i64 1, .int .i64 1, .int .i64 1, .int .i64 1, .int .i64 1, .int .i64 1, .int .i64 1, .int .i64 2, .int .i64 3, .int .i64 4, .int .i64 1]), (2, [.str (bs [108, 105, 115, 116]), .str (bs [97, 100, 100]), .str (bs [115, 117, 98]), .str (bs [109, 117, 108]), .str (bs [106, 111, 105, 110]), .str (bs [105, 116, 101, 109]), .str (bs [115, 105, 122, 101]), .str (bs [105, 102]), .str (bs [102, 97, 105, 108]), .str (bs [112, 97, 110, 105, 99])])]

abbrev n_onceweblaw26_AuditChecks : Nat := 4
abbrev n_onceweblaw26_AuditFronts : Nat := 5
abbrev n_onceweblaw26_AuditTwice : Nat := 6
abbrev n_onceweblaw26_AuditLacks : Nat := 7
abbrev n_oncewebbase_CopyMarks : Nat := 22
abbrev n_audit_Check : Nat := 23
abbrev n_oncewebref26_Check : Nat := 24
abbrev n_oncewebbase_SameMarks : Nat := 25
abbrev n_onceweblaw26_works : Nat := 26
abbrev n_onceweblaw26_among : Nat := 27
abbrev n_oncewebbase_SameOut : Nat := 28
abbrev n_oncewebbase_CopyOut : Nat := 29
abbrev n_audit_read : Nat := 67
abbrev n_oncewebref26_Book_breaks : Nat := 68
abbrev n_oncewebref26_Book_behind : Nat := 69
abbrev n_oncewebbase_SameMark : Nat := 70
abbrev n_oncewebbase_SameValue : Nat := 42
abbrev n_oncewebbase_SameFail : Nat := 71
abbrev n_oncewebbase_CopyValue : Nat := 38
abbrev n_oncewebbase_CopyFail : Nat := 72
abbrev n_audit_newBook : Nat := 104
abbrev n_audit_book_breaks : Nat := 105
abbrev n_audit_book_keep : Nat := 106
abbrev n_oncewebref24_Good : Nat := 107
abbrev n_oncewebref24_Step : Nat := 108
abbrev n_oncewebref26_Book_of : Nat := 109
abbrev n_oncewebref26_Book_rule : Nat := 110
abbrev n_oncewebref26_Book_put : Nat := 111
abbrev n_oncewebref26_Book_cell : Nat := 112
abbrev n_oncewebref26_Book_told : Nat := 113
abbrev n_oncewebref26_Book_with : Nat := 114
abbrev n_audit_well : Nat := 138
abbrev n_audit_step : Nat := 139
abbrev n_audit_book_task : Nat := 140
abbrev n_audit_task_may : Nat := 141
abbrev n_audit_ruleOf : Nat := 142
abbrev n_audit_of : Nat := 143
abbrev n_audit_book_used : Nat := 144
abbrev n_oncewebbase_Name : Nat := 51
abbrev n_oncewebref24_word : Nat := 145
abbrev n_oncewebref24_number : Nat := 146
abbrev n_oncewebref08_Right : Nat := 147
abbrev n_oncewebref26_Book_task : Nat := 148
abbrev n_oncewebref26_Book_runs : Nat := 149
abbrev n_oncewebref26_Book_leads : Nat := 150
abbrev n_oncewebref26_Book_end : Nat := 151
abbrev n_oncewebref26_Book_shuts : Nat := 152
abbrev n_lex_IsName : Nat := 49
abbrev n_audit_whole : Nat := 166
abbrev n_audit_rightOutcome : Nat := 167
abbrev n_audit_book_begins : Nat := 168
abbrev n_audit_book_endsTop : Nat := 169
abbrev n_audit_book_waits : Nat := 170
abbrev n_audit_book_circles : Nat := 171
abbrev n_audit_book_tells : Nat := 172
abbrev n_audit_ruleOf_1 : Nat := 173
abbrev n_audit_ruleOf_2 : Nat := 174
abbrev n_audit_ruleOf_3 : Nat := 175
abbrev n_audit_ruleOf_4 : Nat := 176
abbrev n_audit_book_shuts : Nat := 177
abbrev n_audit_ruleOf_5 : Nat := 178
abbrev n_oncewebbase_In : Nat := 35
abbrev n_oncewebbase_Word : Nat := 90
abbrev n_oncewebbase_Keys : Nat := 91
abbrev n_oncewebref07_Check : Nat := 81
abbrev n_oncewebref03_Check : Nat := 179
abbrev n_lex_word : Nat := 85
abbrev n_lex_IsKey : Nat := 86
abbrev n_value_Check : Nat := 79
abbrev n_fail_Check : Nat := 156
abbrev n_audit_book_cell : Nat := 185
abbrev n_slices_IndexFunc_audit_generation_audit_generation : Nat := 186
abbrev n_audit_book_circles_1 : Nat := 187
abbrev n_audit_same : Nat := 188
abbrev n_slices_ContainsFunc_audit_generation_audit_generation : Nat := 189
abbrev n_audit_book_shuts_1 : Nat := 190
abbrev n_oncewebref07_begins : Nat := 128
abbrev n_oncewebref03_begins : Nat := 191
abbrev n_lex_letter : Nat := 129
abbrev n_lex_digit : Nat := 130
abbrev n_slices_Contains_string_string : Nat := 98
abbrev n_value_wholes : Nat := 127
abbrev n_fail_begins : Nat := 181
abbrev n_slices_Equal_api_Value_api_Atom : Nat := 202
abbrev n_slices_Equal_api_Fail_api_Crack : Nat := 203
abbrev n_oncewebref07_atom : Nat := 164
abbrev n_oncewebref03_crack : Nat := 204
abbrev n_slices_Index_string_string : Nat := 136
abbrev n_value_well : Nat := 163
abbrev n_fail_well : Nat := 192
abbrev n_oncewebref03_words : Nat := 215
abbrev n_fail_sort : Nat := 205
abbrev n_fail_fits : Nat := 206

def a4 : FAnn U := { pure := true, scalar := true, pco := [[some .api_Mark]] }
def a5 : FAnn U := { pure := true, scalar := true, pco := [[some .api_Mark], []] }
def a6 : FAnn U := { live := ofList none [(8, some ([(0, [some .api_Mark]), (1, []), (5, []), (9, [])], [(5, [none, some .api_Atom, some .api_Crack])]))], pure := true, scalar := true, pco := [[some .api_Mark], [], [none, some .api_Atom, some .api_Crack]] }
def a7 : FAnn U := { live := ofList none [(8, some ([(0, [some .api_Mark]), (1, []), (7, [])], [])), (15, some ([(0, [some .api_Mark]), (1, []), (8, []), (62, []), (63, [])], []))], pure := true, scalar := true, pco := [[some .api_Mark], []] }
def a22 : FAnn U := { live := ofList none [(3, some ([(0, [some .api_Mark]), (3, [some .api_Mark]), (4, [])], [(3, [])]))], op := ofList (fun _ => {}) [(1, ofList {} [(0, { slot := some 3 })]), (7, ofList {} [(3, { slot := some 3 })])], pure := true, scalar := true, own := true, pco := [[some .api_Mark]], rco := [[some .api_Mark]] }
def a23 : FAnn U := { pure := true, scalar := true, pco := [[some .api_Mark]] }
def a24 : FAnn U := { live := ofList none [(5, some ([(0, [some .api_Mark]), (2, []), (3, []), (5, []), (6, [])], [(2, []), (3, [none, none, some .oncewebref26_Cell, some .oncewebref26_Ended, some .oncewebref26_Task]), (5, [none, none, some .oncewebref26_Cell, some .oncewebref26_Ended, some .oncewebref26_Task])]))], pure := true, pco := [[some .api_Mark]], rco := [[], [none, none, some .oncewebref26_Cell, some .oncewebref26_Ended, some .oncewebref26_Task], []] }
def a25 : FAnn U := { live := ofList none [(4, some ([(0, [some .api_Mark]), (1, [some .api_Mark]), (5, [])], []))], pure := true, scalar := true, pco := [[some .api_Mark], [some .api_Mark]] }
def a26 : FAnn U := { op := ofList (fun _ => {}) [(1, ofList {} [(2, { frz := true })]), (2, ofList {} [(1, { frz := true }), (4, { frz := true })])], pure := true, scalar := true }
def a27 : FAnn U := { pure := true, scalar := true }
def a28 : FAnn U := { pure := true, scalar := true, pco := [[none, some .api_Atom, some .api_Crack], [none, some .api_Atom, some .api_Crack]] }
def a29 : FAnn U := { pure := true, pco := [[none, some .api_Atom, some .api_Crack]], rco := [[none, some .api_Atom, some .api_Crack]] }
def a67 : FAnn U := { live := ofList none [(3, some ([(3, []), (4, []), (9, [some .api_Mark]), (10, []), (11, [])], [(3, [])]))], pco := [[some .api_Mark]] }
def a68 : FAnn U := { pure := true, scalar := true, pco := [[none, none, some .oncewebref26_Cell, some .oncewebref26_Ended, some .oncewebref26_Task], [none, none, none, none, none, none, none, some .api_Atom, some .api_Crack]] }
def a69 : FAnn U := { pure := true, pco := [[none, none, some .oncewebref26_Cell, some .oncewebref26_Ended, some .oncewebref26_Task], [none, none, none, none, none, none, none, some .api_Atom, some .api_Crack]], rco := [[none, none, some .oncewebref26_Cell, some .oncewebref26_Ended, some .oncewebref26_Task]] }
def a70 : FAnn U := { pure := true, scalar := true, pco := [[none, none, none, none, none, none, none, some .api_Atom, some .api_Crack], [none, none, none, none, none, none, none, some .api_Atom, some .api_Crack]] }
def a42 : FAnn U := { live := ofList none [(4, some ([(0, [some .api_Atom]), (1, [some .api_Atom]), (5, [])], []))], pure := true, scalar := true, pco := [[some .api_Atom], [some .api_Atom]] }
def a71 : FAnn U := { live := ofList none [(4, some ([(0, [some .api_Crack]), (1, [some .api_Crack]), (5, [])], []))], pure := true, scalar := true, pco := [[some .api_Crack], [some .api_Crack]] }
def a38 : FAnn U := { pure := true, pco := [[some .api_Atom]], rco := [[some .api_Atom]] }
def a72 : FAnn U := { pure := true, pco := [[some .api_Crack]], rco := [[some .api_Crack]] }
def a104 : FAnn U := { op := ofList (fun _ => {}) [(1, ofList {} [(0, { glob := true, sym := some 204 }), (1, { glob := true, sym := some 205 }), (2, { glob := true, sym := some 206 }), (3, { sym := some 208 }), (4, { glob := true, sym := some 208 })])] }
def a105 : FAnn U := { op := ofList (fun _ => {}) [(1, ofList {} [(9, { sym := some 208 })]), (4, ofList {} [(5, { sym := some 208 })]), (8, ofList {} [(3, { sym := some 218 })])], split := ofList false [(8, true)], pco := [[], [none, none, none, none, none, none, none, some .api_Atom, some .api_Crack]] }
def a106 : FAnn U := { op := ofList (fun _ => {}) [(1, ofList {} [(5, { sym := some 208 })]), (3, ofList {} [(3, { sym := some 208 }), (7, { sym := some 208 })]), (5, ofList {} [(3, { sym := some 208 }), (7, { sym := some 0 })]), (8, ofList {} [(3, { sym := some 208 }), (4, { sym := some 0 })]), (9, ofList {} [(3, { sym := some 208 }), (6, { sym := some 0 })]), (11, ofList {} [(3, { sym := some 226 })]), (12, ofList {} [(3, { sym := some 208 }), (11, { own := [(7, none, (.pure .audit_generation))], co := [none, none, none, none, some .api_Atom, some .api_Crack], sym := some 226 }), (12, { glob := true, sym := some 226 }), (13, { sym := some 0 })]), (13, ofList {} [(4, { sym := some 218 }), (7, { sym := some 0 }), (10, { sym := some 218 })]), (15, ofList {} [(3, { sym := some 208 }), (6, { sym := some 0 })]), (16, ofList {} [(6, { sym := some 226 }), (9, { sym := some 226 })]), (17, ofList {} [(3, { sym := some 208 }), (7, { sym := some 0 })]), (18, ofList {} [(4, { sym := some 218 }), (8, { sym := some 218 }), (9, { sym := some 0 }), (11, { sym := some 0 }), (14, { sym := some 218 })]), (21, ofList {} [(5, { sym := some 218 }), (8, { sym := some 218 })]), (23, ofList {} [(5, { sym := some 218 }), (8, { sym := some 218 })]), (26, ofList {} [(8, { sym := some 218 }), (11, { sym := some 218 })]), (28, ofList {} [(5, { sym := some 218 }), (8, { sym := some 218 })]), (30, ofList {} [(3, { sym := some 218 })]), (32, ofList {} [(5, { sym := some 218 }), (6, { sym := some 0 }), (10, { sym := some 218 }), (13, { sym := some 218 })]), (34, ofList {} [(3, { sym := some 208 }), (6, { sym := some 0 }), (9, { sym := some 226 })]), (35, ofList {} [(3, { sym := some 218 }), (5, { sym := some 0 }), (7, { sym := some 0 }), (9, { sym := some 0 })])], pco := [[], [none, none, none, none, none, none, none, some .api_Atom, some .api_Crack]] }
def a107 : FAnn U := { pure := true, scalar := true, pco := [[none, none, none, none, none, none, none, some .api_Atom, some .api_Crack]] }
def a108 : FAnn U := { pure := true, scalar := true, pco := [[none, none, none, none, none, none, none, some .api_Atom, some .api_Crack]] }
def a109 : FAnn U := { pure := true, pco := [[none, none, some .oncewebref26_Cell, some .oncewebref26_Ended, some .oncewebref26_Task], []], rco := [[none, some .oncewebref26_Gen, none, none, none, none, none, none, none, some .oncewebref26_Gen]] }
def a110 : FAnn U := { pure := true, scalar := true, pco := [[none, none, some .oncewebref26_Cell, some .oncewebref26_Ended, some .oncewebref26_Task], [none, none, none, none, none, none, none, some .api_Atom, some .api_Crack], [none, some .oncewebref26_Gen, none, none, none, none, none, none, none, some .oncewebref26_Gen], []] }
def a111 : FAnn U := { op := ofList (fun _ => {}) [(1, ofList {} [(3, { slot := some 5 })]), (4, ofList {} [(3, { slot := some 5 })])], pure := true, pco := [[none, none, some .oncewebref26_Cell, some .oncewebref26_Ended, some .oncewebref26_Task], [none, none, none, none, none, none, some .api_Atom, some .api_Crack, none, some .oncewebref26_Gen]], rco := [[none, none, some .oncewebref26_Cell, some .oncewebref26_Ended, some .oncewebref26_Task]] }
def a112 : FAnn U := { live := ofList none [(2, some ([(1, []), (2, []), (3, []), (7, [])], [(3, [none, none, some .oncewebref26_Cell, some .oncewebref26_Ended, some .oncewebref26_Task])]))], pure := true, scalar := true, pco := [[none, none, some .oncewebref26_Cell, some .oncewebref26_Ended, some .oncewebref26_Task], [], []] }
def a113 : FAnn U := { op := ofList (fun _ => {}) [(6, ofList {} [(14, { frz := true })])], pure := true, pco := [[none, none, some .oncewebref26_Cell, some .oncewebref26_Ended, some .oncewebref26_Task], [none, some .oncewebref26_Gen, none, none, none, none, none, none, none, some .oncewebref26_Gen], []], rco := [[none, none, some .oncewebref26_Cell, some .oncewebref26_Ended, some .oncewebref26_Task]] }
def a114 : FAnn U := { op := ofList (fun _ => {}) [(1, ofList {} [(3, { slot := some 5 })]), (4, ofList {} [(3, { slot := some 5 })])], pure := true, pco := [[none, none, some .oncewebref26_Cell, some .oncewebref26_Ended, some .oncewebref26_Task], [none, some .oncewebref26_Gen, none, none, none, none, none, none, none, some .oncewebref26_Gen]], rco := [[none, none, some .oncewebref26_Cell, some .oncewebref26_Ended, some .oncewebref26_Task]] }
def a138 : FAnn U := { pure := true, scalar := true, pco := [[none, none, none, none, none, none, none, some .api_Atom, some .api_Crack]] }
def a139 : FAnn U := { pure := true, scalar := true, pco := [[none, none, none, none, none, none, none, some .api_Atom, some .api_Crack]] }
def a140 : FAnn U := { op := ofList (fun _ => {}) [(1, ofList {} [(3, { sym := some 208 }), (5, { sym := some 0 })]), (4, ofList {} [(0, { glob := true, sym := some 216 }), (1, { own := [(0, none, (.pure .audit_generation))], sym := some 218 }), (2, { glob := true, sym := some 218 })])] }
def a141 : FAnn U := { op := ofList (fun _ => {}) [(1, ofList {} [(3, { sym := some 218 })]), (2, ofList {} [(9, { sym := some 218 })]), (3, ofList {} [(3, { sym := some 218 })]), (4, ofList {} [(16, { sym := some 218 })])], pco := [[], [none, none, none, none, none, none, none, some .api_Atom, some .api_Crack]] }
def a142 : FAnn U := {  }
def a143 : FAnn U := { pure := true, scalar := true, pco := [[none, none, none, none, none, none, none, some .api_Atom, some .api_Crack]] }
def a144 : FAnn U := { op := ofList (fun _ => {}) [(1, ofList {} [(3, { sym := some 218 }), (4, { sym := some 0 })]), (3, ofList {} [(3, { sym := some 208 }), (7, { sym := some 218 }), (10, { sym := some 0 }), (12, { sym := some 215 }), (13, { sym := some 0 })]), (4, ofList {} [(4, { sym := some 226 }), (7, { sym := some 0 }), (10, { sym := some 226 })])] }
def a51 : FAnn U := { pure := true, scalar := true }
def a145 : FAnn U := { pure := true, scalar := true }
def a146 : FAnn U := { pure := true, scalar := true }
def a147 : FAnn U := { pure := true, scalar := true, pco := [[none, some .api_Atom, some .api_Crack]] }
def a148 : FAnn U := { live := ofList none [(2, some ([(1, []), (2, []), (5, [])], [(2, [none, none, some .oncewebref26_Cell, some .oncewebref26_Ended, some .oncewebref26_Task])]))], pure := true, scalar := true, pco := [[none, none, some .oncewebref26_Cell, some .oncewebref26_Ended, some .oncewebref26_Task], []] }
def a149 : FAnn U := { pure := true, scalar := true, pco := [[none, none, some .oncewebref26_Cell, some .oncewebref26_Ended, some .oncewebref26_Task], []] }
def a150 : FAnn U := { live := ofList none [(3, some ([(1, []), (3, []), (7, []), (8, [])], [(3, [none, none, some .oncewebref26_Cell, some .oncewebref26_Ended, some .oncewebref26_Task]), (7, [])])), (14, some ([(3, []), (7, []), (8, []), (9, []), (10, []), (11, []), (12, []), (13, [])], [(3, [none, none, some .oncewebref26_Cell, some .oncewebref26_Ended, some .oncewebref26_Task]), (7, []), (9, [none, none, none, none, none, none, some .api_Atom, some .api_Crack, none, some .oncewebref26_Gen]), (10, [none, some .oncewebref26_Gen, none, none, none, none, none, none, none, some .oncewebref26_Gen]), (11, [])]))], pure := true, scalar := true, pco := [[none, none, some .oncewebref26_Cell, some .oncewebref26_Ended, some .oncewebref26_Task], [], [none, some .oncewebref26_Gen, none, none, none, none, none, none, none, some .oncewebref26_Gen]] }
def a151 : FAnn U := { live := ofList none [(2, some ([(2, []), (3, []), (4, []), (6, [])], [(2, [none, none, some .oncewebref26_Cell, some .oncewebref26_Ended, some .oncewebref26_Task]), (3, []), (4, [none, some .api_Atom, some .api_Crack])]))], pure := true, pco := [[none, none, some .oncewebref26_Cell, some .oncewebref26_Ended, some .oncewebref26_Task], []], rco := [[none, some .api_Atom, some .api_Crack], []] }
def a152 : FAnn U := { live := ofList none [(4, some ([(5, []), (6, []), (9, [])], [(5, [none, none, none, none, none, none, some .api_Atom, some .api_Crack, none, some .oncewebref26_Gen]), (6, [none, some .oncewebref26_Gen, none, none, none, none, none, none, none, some .oncewebref26_Gen])])), (7, some ([(5, []), (6, []), (9, []), (10, [])], [(5, [none, none, none, none, none, none, some .api_Atom, some .api_Crack, none, some .oncewebref26_Gen]), (6, [none, some .oncewebref26_Gen, none, none, none, none, none, none, none, some .oncewebref26_Gen])]))], pure := true, scalar := true, pco := [[none, none, some .oncewebref26_Cell, some .oncewebref26_Ended, some .oncewebref26_Task], [none, none, none, none, none, none, some .api_Atom, some .api_Crack, none, some .oncewebref26_Gen], [none, some .oncewebref26_Gen, none, none, none, none, none, none, none, some .oncewebref26_Gen], []] }
def a49 : FAnn U := { pure := true, scalar := true }
def a166 : FAnn U := { pure := true, scalar := true }
def a167 : FAnn U := { pure := true, scalar := true, pco := [[none, some .api_Atom, some .api_Crack]] }
def a168 : FAnn U := { op := ofList (fun _ => {}) [(2, ofList {} [(20, { sym := some 218 }), (21, { sym := some 0 })])], pco := [[], [none, none, none, none, none, none, none, some .api_Atom, some .api_Crack], []] }
def a169 : FAnn U := { op := ofList (fun _ => {}) [(1, ofList {} [(3, { sym := some 218 }), (4, { sym := some 0 })]), (2, ofList {} [(6, { sym := some 218 }), (9, { sym := some 0 }), (10, { sym := some 215 })])], pco := [[], [none, none, none, none, none, none, none, some .api_Atom, some .api_Crack], []] }
def a170 : FAnn U := { pco := [[], [none, none, none, none, none, none, none, some .api_Atom, some .api_Crack], []] }
def a171 : FAnn U := { live := ofList none [(6, some ([(0, []), (7, []), (8, []), (39, []), (40, [])], [(7, [])]))], op := ofList (fun _ => {}) [(1, ofList {} [(3, { sym := some 218 }), (4, { sym := some 0 })]), (3, ofList {} [(3, { sym := some 218 }), (7, { sym := some 218 }), (8, { sym := some 0 }), (10, { sym := some 0 }), (12, { sym := some 215 })]), (4, ofList {} [(3, { glob := true, sym := some 213 }), (4, { sym := some 213 })]), (5, ofList {} [(3, { sym := some 208 }), (4, { sym := some 0 })]), (7, ofList {} [(1, { sym := some 213 })]), (10, ofList {} [(0, { sym := some 213 })]), (13, ofList {} [(3, { sym := some 218 })]), (15, ofList {} [(8, { sym := some 218 }), (9, { sym := some 0 })]), (16, ofList {} [(3, { sym := some 218 }), (6, { sym := some 0 }), (8, { sym := some 215 }), (9, { sym := some 213 })]), (17, ofList {} [(6, { sym := some 218 })]), (18, ofList {} [(4, { sym := some 218 }), (5, { sym := some 213 })])], pco := [[], [none, none, none, none, none, none, none, some .api_Atom, some .api_Crack], []] }
def a172 : FAnn U := { op := ofList (fun _ => {}) [(1, ofList {} [(3, { sym := some 208 }), (6, { sym := some 0 })]), (3, ofList {} [(11, { sym := some 218 })])], pco := [[], [none, none, none, none, none, none, none, some .api_Atom, some .api_Crack], []] }
def a173 : FAnn U := { op := ofList (fun _ => {}) [(1, ofList {} [(3, { sym := some 218 }), (4, { sym := some 0 })])], pco := [[], [none, none, none, none, none, none, none, some .api_Atom, some .api_Crack], []] }
def a174 : FAnn U := { op := ofList (fun _ => {}) [(1, ofList {} [(3, { sym := some 218 }), (4, { sym := some 0 })])], pco := [[], [none, none, none, none, none, none, none, some .api_Atom, some .api_Crack], []] }
def a175 : FAnn U := { op := ofList (fun _ => {}) [(1, ofList {} [(3, { sym := some 218 }), (4, { sym := some 0 })])], pco := [[], [none, none, none, none, none, none, none, some .api_Atom, some .api_Crack], []] }
def a176 : FAnn U := { op := ofList (fun _ => {}) [(1, ofList {} [(3, { sym := some 218 })])], pco := [[], [none, none, none, none, none, none, none, some .api_Atom, some .api_Crack], []] }
def a177 : FAnn U := { op := ofList (fun _ => {}) [(0, ofList {} [(1, { glob := true, sym := some 209 })]), (2, ofList {} [(25, { sym := some 209 }), (28, { sym := some 218 }), (29, { sym := some 0 })])], pco := [[], [none, none, none, none, none, none, none, some .api_Atom, some .api_Crack], []] }
def a178 : FAnn U := { pco := [[], [none, none, none, none, none, none, none, some .api_Atom, some .api_Crack], []] }
def a35 : FAnn U := { live := ofList none [(2, some ([(0, [some .str]), (1, []), (5, [])], []))], pure := true, scalar := true, pco := [[some .str], []] }
def a90 : FAnn U := { live := ofList none [(4, some ([(0, []), (3, [])], []))], pure := true, scalar := true }
def a91 : FAnn U := { pure := true, rco := [[some .str]] }
def a81 : FAnn U := { pure := true, scalar := true, pco := [[some .api_Atom]] }
def a179 : FAnn U := { pure := true, scalar := true, pco := [[some .api_Crack]] }
def a85 : FAnn U := { live := ofList none [(3, some ([(0, []), (1, [])], []))], pure := true, scalar := true }
def a86 : FAnn U := { pure := true, scalar := true }
def a79 : FAnn U := { pure := true, scalar := true, pco := [[some .api_Atom]] }
def a156 : FAnn U := { pure := true, scalar := true, pco := [[some .api_Crack]] }
def a185 : FAnn U := { op := ofList (fun _ => {}) [(1, ofList {} [(3, { sym := some 208 }), (5, { sym := some 0 })]), (3, ofList {} [(2, { sym := some 226 })]), (4, ofList {} [(0, { own := [(7, none, (.pure .audit_generation))], co := [none, none, none, none, some .api_Atom, some .api_Crack], sym := some 226 })])], rco := [[none, none, none, none, some .api_Atom, some .api_Crack]] }
def a186 : FAnn U := { live := ofList none [(2, some ([(0, [some .audit_generation]), (1, []), (7, []), (8, [])], []))], op := ofList (fun _ => {}) [(1, ofList {} [(1, { sym := some 0 })]), (4, ofList {} [(3, { sym := some 0 }), (4, { sym := some 215 })])], pco := [[some .audit_generation], []] }
def a187 : FAnn U := { op := ofList (fun _ => {}) [(1, ofList {} [(2, { sym := some 213 })])] }
def a188 : FAnn U := { pure := true, scalar := true, pco := [[none, some .api_Atom, some .api_Crack], [none, some .api_Atom, some .api_Crack]] }
def a189 : FAnn U := { pco := [[some .audit_generation], []] }
def a190 : FAnn U := { op := ofList (fun _ => {}) [(1, ofList {} [(0, { sym := some 209 }), (3, { sym := some 218 }), (5, { sym := some 0 })])] }
def a128 : FAnn U := { live := ofList none [(5, some ([(0, [some .api_Atom]), (5, [some .int]), (6, [some .int]), (7, [some .int]), (8, [])], [(5, []), (6, []), (7, [])])), (15, some ([(0, [some .api_Atom]), (5, [some .int]), (6, [some .int]), (7, [some .int]), (8, []), (9, []), (10, []), (11, []), (12, [])], [(5, []), (6, []), (7, [])]))], op := ofList (fun _ => {}) [(1, ofList {} [(0, { slot := some 5 })]), (2, ofList {} [(0, { slot := some 6 })]), (3, ofList {} [(0, { slot := some 7 })]), (20, ofList {} [(3, { slot := some 6 })]), (21, ofList {} [(4, { slot := some 7 })]), (22, ofList {} [(3, { slot := some 5 })])], pure := true, pco := [[some .api_Atom]], rco := [[some .int], [], []] }
def a191 : FAnn U := { live := ofList none [(4, some ([(0, [some .api_Crack]), (4, [some .int]), (5, [some .int]), (6, [])], [(4, []), (5, [])]))], op := ofList (fun _ => {}) [(1, ofList {} [(0, { slot := some 4 })]), (2, ofList {} [(0, { slot := some 5 })]), (13, ofList {} [(3, { slot := some 5 })]), (14, ofList {} [(3, { slot := some 4 })])], pure := true, pco := [[some .api_Crack]], rco := [[some .int], []] }
def a129 : FAnn U := { pure := true, scalar := true }
def a130 : FAnn U := { pure := true, scalar := true }
def a98 : FAnn U := { pure := true, scalar := true, pco := [[some .str], []] }
def a127 : FAnn U := { live := ofList none [(3, some ([(4, [some .value_whole]), (5, [some .value_whole]), (16, [some .api_Atom]), (17, []), (18, [])], [(5, []), (14, [])])), (10, some ([(4, [some .value_whole]), (5, [some .value_whole]), (6, []), (8, []), (9, []), (16, [some .api_Atom]), (17, []), (18, []), (42, [some .value_whole]), (43, []), (44, [])], [(5, []), (9, []), (14, [])]))], op := ofList (fun _ => {}) [(1, ofList {} [(3, { slot := some 5 })]), (19, ofList {} [(5, { slot := some 5 })])], pure := true, pco := [[some .api_Atom]], rco := [[some .value_whole], []] }
def a181 : FAnn U := { live := ofList none [(3, some ([(4, [some .int]), (5, [some .int]), (12, [some .api_Crack]), (13, []), (14, [])], [(5, []), (10, [])]))], op := ofList (fun _ => {}) [(1, ofList {} [(3, { slot := some 5 })]), (10, ofList {} [(12, { slot := some 5 })])], pure := true, pco := [[some .api_Crack]], rco := [[some .int], []] }
def a202 : FAnn U := { live := ofList none [(4, some ([(0, [some .api_Atom]), (1, [some .api_Atom]), (12, []), (13, [])], []))], pure := true, scalar := true, pco := [[some .api_Atom], [some .api_Atom]] }
def a203 : FAnn U := { live := ofList none [(4, some ([(0, [some .api_Crack]), (1, [some .api_Crack]), (12, []), (13, [])], []))], pure := true, scalar := true, pco := [[some .api_Crack], [some .api_Crack]] }
def a164 : FAnn U := { pure := true, scalar := true }
def a204 : FAnn U := { pure := true, scalar := true }
def a136 : FAnn U := { live := ofList none [(2, some ([(0, [some .str]), (1, []), (7, []), (8, [])], []))], pure := true, scalar := true, pco := [[some .str], []] }
def a163 : FAnn U := { pure := true, scalar := true }
def a192 : FAnn U := { pure := true, scalar := true }
def a215 : FAnn U := { pure := true, rco := [[some .str]] }
def a205 : FAnn U := { pure := true, scalar := true }
def a206 : FAnn U := { pure := true, scalar := true }

def annL : List (Nat × FAnn U) := [(4, a4), (5, a5), (6, a6), (7, a7), (22, a22), (23, a23), (24, a24), (25, a25), (26, a26), (27, a27), (28, a28), (29, a29), (67, a67), (68, a68), (69, a69), (70, a70), (42, a42), (71, a71), (38, a38), (72, a72), (104, a104), (105, a105), (106, a106), (107, a107), (108, a108), (109, a109), (110, a110), (111, a111), (112, a112), (113, a113), (114, a114), (138, a138), (139, a139), (140, a140), (141, a141), (142, a142), (143, a143), (144, a144), (51, a51), (145, a145), (146, a146), (147, a147), (148, a148), (149, a149), (150, a150), (151, a151), (152, a152), (49, a49), (166, a166), (167, a167), (168, a168), (169, a169), (170, a170), (171, a171), (172, a172), (173, a173), (174, a174), (175, a175), (176, a176), (177, a177), (178, a178), (35, a35), (90, a90), (91, a91), (81, a81), (179, a179), (85, a85), (86, a86), (79, a79), (156, a156), (185, a185), (186, a186), (187, a187), (188, a188), (189, a189), (190, a190), (128, a128), (191, a191), (129, a129), (130, a130), (98, a98), (127, a127), (181, a181), (202, a202), (203, a203), (164, a164), (204, a204), (136, a136), (163, a163), (192, a192), (215, a215), (205, a205), (206, a206)]

noncomputable def K : Cfg where
  U := U
  width := width
  enc := enc
  dec := dec
  dflt := dflt
  flat := flat
  bytesC := bytesC
  keyEq := keyEq
  P := Tryd.prog
  ti := ofList none (tiL.map fun x => (x.1, some x.2))
  vc := ofList .ptr vcL
  kc := ofList .int kcL
  meth := methods
  glob := ofList none (globL.map fun x => (x.1, some x.2))
  ann := ofList {} annL

structure BookS where
  at' : Int
  acts : Int
  cells : Nat
  ends : Nat
  tasks : Nat
structure StateS where
  gen : Int
  runs : Bool
  task : Int
  out : api_Outcome
  shut : Bool
  used : Nat
  usedG : Nat
  usedS : Option (Nat × Nat)
  put : Int
structure TaskS where
  stack : Nat
  stackG : Nat
  stackS : Option (Nat × Nat)
  waits : Bool
  stops : Bool
  on : audit_generation
  left : Bool
  done : Bool
  shut : Nat

structure Ans where
  R : Type
  enc : R → C U

def ansL : List (Nat × Ans) := [
  (4, ⟨Bool, fun x => .d (.bool x)⟩),
  (5, ⟨Bool, fun x => .d (.bool x)⟩),
  (6, ⟨Bool, fun x => .d (.bool x)⟩),
  (7, ⟨Bool, fun x => .d (.bool x)⟩),
  (22, ⟨(List api_Mark), fun x => .osl .api_Mark x⟩),
  (23, ⟨api_Verdict × Int, fun x => .tup [.agg [.d (.int .i64 x.1.gRule), .d (.int .i64 x.1.gAt)], .d (.int .i64 x.2)]⟩),
  (24, ⟨api_Verdict × oncewebref26_Book × Int, fun x => .tup [.agg [.d (.int .i64 x.1.gRule), .d (.int .i64 x.1.gAt)], .agg [.d (.int .i64 x.2.1.gAt), .d (.int .i64 x.2.1.gActs), .d (.sl .oncewebref26_Cell x.2.1.gCells), .d (.sl .oncewebref26_Ended x.2.1.gEnds), .d (.sl .oncewebref26_Task x.2.1.gTasks)], .d (.int .i64 x.2.2)]⟩),
  (25, ⟨Bool, fun x => .d (.bool x)⟩),
  (26, ⟨Bool, fun x => .d (.bool x)⟩),
  (27, ⟨Int, fun x => .d (.int .i64 x)⟩),
  (28, ⟨Bool, fun x => .d (.bool x)⟩),
  (29, ⟨api_Outcome, fun x => .agg [.d (.int .i64 x.gKind), .d (.sl .api_Atom x.gValue), .d (.sl .api_Crack x.gFail)]⟩),
  (67, ⟨Nat × api_Verdict, fun x => .tup [.ptr (.g x.1) 0, .agg [.d (.int .i64 x.2.gRule), .d (.int .i64 x.2.gAt)]]⟩),
  (68, ⟨Int, fun x => .d (.int .i64 x)⟩),
  (69, ⟨oncewebref26_Book, fun x => .agg [.d (.int .i64 x.gAt), .d (.int .i64 x.gActs), .d (.sl .oncewebref26_Cell x.gCells), .d (.sl .oncewebref26_Ended x.gEnds), .d (.sl .oncewebref26_Task x.gTasks)]⟩),
  (70, ⟨Bool, fun x => .d (.bool x)⟩),
  (42, ⟨Bool, fun x => .d (.bool x)⟩),
  (71, ⟨Bool, fun x => .d (.bool x)⟩),
  (38, ⟨(List api_Atom), fun x => .d (.sl .api_Atom x)⟩),
  (72, ⟨(List api_Crack), fun x => .d (.sl .api_Crack x)⟩),
  (104, ⟨Nat, fun x => .ptr (.g x) 0⟩),
  (105, ⟨Int, fun x => .d (.int .i64 x)⟩),
  (106, ⟨Unit, fun _ => .tup []⟩),
  (107, ⟨Bool, fun x => .d (.bool x)⟩),
  (108, ⟨Bool, fun x => .d (.bool x)⟩),
  (109, ⟨oncewebref26_Task, fun x => .agg [.d (.int .i64 x.gNumber), .d (.sl .oncewebref26_Gen x.gStack), .d (.bool x.gWaits), .d (.bool x.gStops), .d (.int .i64 x.gFor.gScope), .d (.str x.gFor.gName), .d (.int .i64 x.gFor.gGen), .d (.bool x.gLeft), .d (.bool x.gDone), .d (.sl .oncewebref26_Gen x.gShut)]⟩),
  (110, ⟨Int, fun x => .d (.int .i64 x)⟩),
  (111, ⟨oncewebref26_Book, fun x => .agg [.d (.int .i64 x.gAt), .d (.int .i64 x.gActs), .d (.sl .oncewebref26_Cell x.gCells), .d (.sl .oncewebref26_Ended x.gEnds), .d (.sl .oncewebref26_Task x.gTasks)]⟩),
  (112, ⟨Int, fun x => .d (.int .i64 x)⟩),
  (113, ⟨oncewebref26_Book, fun x => .agg [.d (.int .i64 x.gAt), .d (.int .i64 x.gActs), .d (.sl .oncewebref26_Cell x.gCells), .d (.sl .oncewebref26_Ended x.gEnds), .d (.sl .oncewebref26_Task x.gTasks)]⟩),
  (114, ⟨oncewebref26_Book, fun x => .agg [.d (.int .i64 x.gAt), .d (.int .i64 x.gActs), .d (.sl .oncewebref26_Cell x.gCells), .d (.sl .oncewebref26_Ended x.gEnds), .d (.sl .oncewebref26_Task x.gTasks)]⟩),
  (138, ⟨Bool, fun x => .d (.bool x)⟩),
  (139, ⟨Bool, fun x => .d (.bool x)⟩),
  (140, ⟨Nat, fun x => .ptr (.g x) 0⟩),
  (141, ⟨Bool, fun x => .d (.bool x)⟩),
  (142, ⟨Int × Nat, fun x => .agg [.d (.int .i64 x.1), .fp x.2 [] []]⟩),
  (143, ⟨audit_generation, fun x => .agg [.d (.int .i64 x.gCell.gScope), .d (.str x.gCell.gName), .d (.int .i64 x.gGen)]⟩),
  (144, ⟨Unit, fun _ => .tup []⟩),
  (51, ⟨Bool, fun x => .d (.bool x)⟩),
  (145, ⟨ByteArray, fun x => .d (.str x)⟩),
  (146, ⟨Bool, fun x => .d (.bool x)⟩),
  (147, ⟨Bool, fun x => .d (.bool x)⟩),
  (148, ⟨Int, fun x => .d (.int .i64 x)⟩),
  (149, ⟨Bool, fun x => .d (.bool x)⟩),
  (150, ⟨Bool, fun x => .d (.bool x)⟩),
  (151, ⟨api_Outcome × Bool, fun x => .tup [.agg [.d (.int .i64 x.1.gKind), .d (.sl .api_Atom x.1.gValue), .d (.sl .api_Crack x.1.gFail)], .d (.bool x.2)]⟩),
  (152, ⟨Bool, fun x => .d (.bool x)⟩),
  (49, ⟨Bool, fun x => .d (.bool x)⟩),
  (166, ⟨Bool, fun x => .d (.bool x)⟩),
  (167, ⟨Bool, fun x => .d (.bool x)⟩),
  (168, ⟨Bool, fun x => .d (.bool x)⟩),
  (169, ⟨Bool, fun x => .d (.bool x)⟩),
  (170, ⟨Bool, fun x => .d (.bool x)⟩),
  (171, ⟨Bool, fun x => .d (.bool x)⟩),
  (172, ⟨Bool, fun x => .d (.bool x)⟩),
  (173, ⟨Bool, fun x => .d (.bool x)⟩),
  (174, ⟨Bool, fun x => .d (.bool x)⟩),
  (175, ⟨Bool, fun x => .d (.bool x)⟩),
  (176, ⟨Bool, fun x => .d (.bool x)⟩),
  (177, ⟨Bool, fun x => .d (.bool x)⟩),
  (178, ⟨Bool, fun x => .d (.bool x)⟩),
  (35, ⟨Bool, fun x => .d (.bool x)⟩),
  (90, ⟨Bool, fun x => .d (.bool x)⟩),
  (91, ⟨(List ByteArray), fun x => .d (.sl .str x)⟩),
  (81, ⟨Int, fun x => .d (.int .i64 x)⟩),
  (179, ⟨Int, fun x => .d (.int .i64 x)⟩),
  (85, ⟨Int, fun x => .d (.int .i64 x)⟩),
  (86, ⟨Bool, fun x => .d (.bool x)⟩),
  (79, ⟨Int, fun x => .d (.int .i64 x)⟩),
  (156, ⟨Int, fun x => .d (.int .i64 x)⟩),
  (185, ⟨StateS, fun x => .agg [.d (.int .i64 x.gen), .d (.bool x.runs), .d (.int .i64 x.task), .d (.int .i64 x.out.gKind), .d (.sl .api_Atom x.out.gValue), .d (.sl .api_Crack x.out.gFail), .d (.bool x.shut), .asl (.g x.used) x.usedG x.usedS false, .d (.int .i64 x.put)]⟩),
  (186, ⟨Int, fun x => .d (.int .i64 x)⟩),
  (187, ⟨Bool, fun x => .d (.bool x)⟩),
  (188, ⟨Bool, fun x => .d (.bool x)⟩),
  (189, ⟨Bool, fun x => .d (.bool x)⟩),
  (190, ⟨Bool, fun x => .d (.bool x)⟩),
  (128, ⟨(List Int) × Int × Bool, fun x => .tup [.d (.sl .int x.1), .d (.int .i64 x.2.1), .d (.bool x.2.2)]⟩),
  (191, ⟨(List Int) × Bool, fun x => .tup [.d (.sl .int x.1), .d (.bool x.2)]⟩),
  (129, ⟨Bool, fun x => .d (.bool x)⟩),
  (130, ⟨Bool, fun x => .d (.bool x)⟩),
  (98, ⟨Bool, fun x => .d (.bool x)⟩),
  (127, ⟨(List value_whole) × Bool, fun x => .tup [.d (.sl .value_whole x.1), .d (.bool x.2)]⟩),
  (181, ⟨(List Int) × Bool, fun x => .tup [.d (.sl .int x.1), .d (.bool x.2)]⟩),
  (202, ⟨Bool, fun x => .d (.bool x)⟩),
  (203, ⟨Bool, fun x => .d (.bool x)⟩),
  (164, ⟨Bool, fun x => .d (.bool x)⟩),
  (204, ⟨Bool, fun x => .d (.bool x)⟩),
  (136, ⟨Int, fun x => .d (.int .i64 x)⟩),
  (163, ⟨Bool, fun x => .d (.bool x)⟩),
  (192, ⟨Bool, fun x => .d (.bool x)⟩),
  (215, ⟨(List ByteArray), fun x => .d (.sl .str x)⟩),
  (205, ⟨Int, fun x => .d (.int .i64 x)⟩),
  (206, ⟨Bool, fun x => .d (.bool x)⟩)]

def ans : Nat → Ans := ofList (⟨Unit, fun _ => .tup []⟩ : Ans) ansL

def ansT : List (Nat × Ans) := [
  (3, ⟨Int, fun x => .d (.int .i64 x)⟩),
  (4, ⟨Bool, fun x => .d (.bool x)⟩),
  (5, ⟨Int, fun x => .d (.int .u8 x)⟩),
  (9, ⟨ByteArray, fun x => .d (.str x)⟩),
  (22, ⟨(List Int), fun x => .d (.sl .int x)⟩),
  (24, ⟨(List ByteArray), fun x => .d (.sl .str x)⟩),
  (28, ⟨Int, fun x => .d (.int .i64 x)⟩),
  (40, ⟨(List api_Mark), fun x => .d (.sl .api_Mark x)⟩),
  (43, ⟨api_Verdict, fun x => .agg [.d (.int .i64 x.gRule), .d (.int .i64 x.gAt)]⟩),
  (46, ⟨(List oncewebref26_Cell), fun x => .d (.sl .oncewebref26_Cell x)⟩),
  (47, ⟨(List oncewebref26_Ended), fun x => .d (.sl .oncewebref26_Ended x)⟩),
  (48, ⟨(List oncewebref26_Task), fun x => .d (.sl .oncewebref26_Task x)⟩),
  (50, ⟨oncewebref26_Book, fun x => .agg [.d (.int .i64 x.gAt), .d (.int .i64 x.gActs), .d (.sl .oncewebref26_Cell x.gCells), .d (.sl .oncewebref26_Ended x.gEnds), .d (.sl .oncewebref26_Task x.gTasks)]⟩),
  (59, ⟨(List api_Atom), fun x => .d (.sl .api_Atom x)⟩),
  (61, ⟨(List api_Crack), fun x => .d (.sl .api_Crack x)⟩),
  (63, ⟨api_Outcome, fun x => .agg [.d (.int .i64 x.gKind), .d (.sl .api_Atom x.gValue), .d (.sl .api_Crack x.gFail)]⟩),
  (65, ⟨api_Mark, fun x => .agg [.d (.int .i64 x.gAt), .d (.int .i64 x.gKind), .d (.int .i64 x.gTask), .d (.int .i64 x.gScope), .d (.int .i64 x.gGen), .d (.str x.gName), .d (.int .i64 x.gOutcome.gKind), .d (.sl .api_Atom x.gOutcome.gValue), .d (.sl .api_Crack x.gOutcome.gFail)]⟩),
  (70, ⟨(List api_Op), fun x => .d (.sl .api_Op x)⟩),
  (94, ⟨api_Policy, fun x => .agg [.d (.int .i64 x.gTries), .d (.int .i64 x.gBase), .d (.int .i64 x.gFactor), .d (.int .i64 x.gCap)]⟩),
  (96, ⟨api_Closer, fun x => .agg [.d (.int .i64 x.gKind), .d (.str x.gText)]⟩),
  (97, ⟨anon_97, fun x => .agg [.d (.str x.gName), .d (.sl .api_Op x.gExpr), .d (.bool x.gAgain), .d (.int .i64 x.gPolicy.gTries), .d (.int .i64 x.gPolicy.gBase), .d (.int .i64 x.gPolicy.gFactor), .d (.int .i64 x.gPolicy.gCap), .d (.int .i64 x.gCloser.gKind), .d (.str x.gCloser.gText)]⟩),
  (98, ⟨api_Provider, fun x => .agg [.d (.str x.gName), .d (.sl .api_Op x.gExpr), .d (.bool x.gAgain), .d (.int .i64 x.gPolicy.gTries), .d (.int .i64 x.gPolicy.gBase), .d (.int .i64 x.gPolicy.gFactor), .d (.int .i64 x.gPolicy.gCap), .d (.int .i64 x.gCloser.gKind), .d (.str x.gCloser.gText)]⟩),
  (99, ⟨anon_99, fun x => .agg [.d (.int .i64 x.gScope), .d (.str x.gProvider.gName), .d (.sl .api_Op x.gProvider.gExpr), .d (.bool x.gProvider.gAgain), .d (.int .i64 x.gProvider.gPolicy.gTries), .d (.int .i64 x.gProvider.gPolicy.gBase), .d (.int .i64 x.gProvider.gPolicy.gFactor), .d (.int .i64 x.gProvider.gPolicy.gCap), .d (.int .i64 x.gProvider.gCloser.gKind), .d (.str x.gProvider.gCloser.gText)]⟩),
  (100, ⟨api_Own, fun x => .agg [.d (.int .i64 x.gScope), .d (.str x.gProvider.gName), .d (.sl .api_Op x.gProvider.gExpr), .d (.bool x.gProvider.gAgain), .d (.int .i64 x.gProvider.gPolicy.gTries), .d (.int .i64 x.gProvider.gPolicy.gBase), .d (.int .i64 x.gProvider.gPolicy.gFactor), .d (.int .i64 x.gProvider.gPolicy.gCap), .d (.int .i64 x.gProvider.gCloser.gKind), .d (.str x.gProvider.gCloser.gText)]⟩),
  (104, ⟨anon_104, fun x => .agg [.d (.int .i64 x.gScope), .d (.str x.gName)]⟩),
  (105, ⟨lazy_key, fun x => .agg [.d (.int .i64 x.gScope), .d (.str x.gName)]⟩),
  (112, ⟨(List (List Int)), fun x => .d (.sl .sl_int x)⟩),
  (114, ⟨(List Bool), fun x => .d (.sl .bool x)⟩),
  (129, ⟨api_Atom, fun x => .agg [.d (.int .i64 x.gKind), .d (.int .i64 x.gN), .d (.int .i64 x.gInt), .d (.str x.gText)]⟩),
  (132, ⟨api_Op, fun x => .agg [.d (.int .i64 x.gKind), .d (.int .i64 x.gN), .d (.int .i64 x.gInt), .d (.str x.gText)]⟩),
  (143, ⟨api_Crack, fun x => .agg [.d (.int .i64 x.gKind), .d (.int .i64 x.gN), .d (.str x.gText)]⟩),
  (159, ⟨(List oncewebref26_Gen), fun x => .d (.sl .oncewebref26_Gen x)⟩),
  (161, ⟨oncewebref26_Gen, fun x => .agg [.d (.int .i64 x.gScope), .d (.str x.gName), .d (.int .i64 x.gGen)]⟩),
  (163, ⟨oncewebref26_Task, fun x => .agg [.d (.int .i64 x.gNumber), .d (.sl .oncewebref26_Gen x.gStack), .d (.bool x.gWaits), .d (.bool x.gStops), .d (.int .i64 x.gFor.gScope), .d (.str x.gFor.gName), .d (.int .i64 x.gFor.gGen), .d (.bool x.gLeft), .d (.bool x.gDone), .d (.sl .oncewebref26_Gen x.gShut)]⟩),
  (168, ⟨oncewebref26_Cell, fun x => .agg [.d (.int .i64 x.gScope), .d (.str x.gName), .d (.int .i64 x.gGen), .d (.bool x.gRuns), .d (.int .i64 x.gTask), .d (.int .i64 x.gOut.gKind), .d (.sl .api_Atom x.gOut.gValue), .d (.sl .api_Crack x.gOut.gFail), .d (.bool x.gShut), .d (.sl .oncewebref26_Gen x.gUsed)]⟩),
  (171, ⟨oncewebref26_Ended, fun x => .agg [.d (.int .i64 x.gG.gScope), .d (.str x.gG.gName), .d (.int .i64 x.gG.gGen), .d (.int .i64 x.gOut.gKind), .d (.sl .api_Atom x.gOut.gValue), .d (.sl .api_Crack x.gOut.gFail)]⟩),
  (193, ⟨(List value_whole), fun x => .d (.sl .value_whole x)⟩),
  (211, ⟨(List audit_generation), fun x => .d (.sl .audit_generation x)⟩),
  (213, ⟨audit_cell, fun x => .agg [.d (.int .i64 x.gScope), .d (.str x.gName)]⟩),
  (215, ⟨audit_generation, fun x => .agg [.d (.int .i64 x.gCell.gScope), .d (.str x.gCell.gName), .d (.int .i64 x.gGen)]⟩),
  (243, ⟨value_whole, fun x => .agg [.d (.int .i64 x.gFrom), .d (.int .i64 x.gDeep)]⟩)]

def ant : Nat → Ans := ofList (⟨Unit, fun _ => .tup []⟩ : Ans) ansT

structure ShpA where
  T : Type
  enc : T → List (C U)

def shpL : List (Nat × ShpA) := [(208, ⟨BookS, fun x => [.d (.int .i64 x.at'), .d (.int .i64 x.acts), .mp (.g x.cells), .mp (.g x.ends), .mp (.g x.tasks)]⟩),
  (226, ⟨StateS, fun x => [.d (.int .i64 x.gen), .d (.bool x.runs), .d (.int .i64 x.task), .d (.int .i64 x.out.gKind), .d (.sl .api_Atom x.out.gValue), .d (.sl .api_Crack x.out.gFail), .d (.bool x.shut), .asl (.g x.used) x.usedG x.usedS false, .d (.int .i64 x.put)]⟩),
  (218, ⟨TaskS, fun x => [.asl (.g x.stack) x.stackG x.stackS false, .d (.bool x.waits), .d (.bool x.stops), .d (.int .i64 x.on.gCell.gScope), .d (.str x.on.gCell.gName), .d (.int .i64 x.on.gGen), .d (.bool x.left), .d (.bool x.done), .mp (.g x.shut)]⟩),
  (213, ⟨audit_cell, fun x => [.d (.int .i64 x.gScope), .d (.str x.gName)]⟩),
  (209, ⟨Nat, fun x => [.ptr (.g x) 0]⟩)]

def shp : Nat → ShpA := ofList (⟨Unit, fun _ => []⟩ : ShpA) shpL
noncomputable def Sh : Shp K where
  T := fun t => (shp t).T
  enc := fun t => (shp t).enc

def rthL : List Nat := [4]

structure AnsH where
  R : Type
  enc : List (O U) → R → List (O U)

def ansHL : List (Nat × AnsH) := [(67, ⟨List (O U), fun _ y => y⟩),
  (104, ⟨List (O U), fun _ y => y⟩),
  (105, ⟨List (O U), fun _ y => y⟩),
  (106, ⟨List (O U), fun _ y => y⟩),
  (140, ⟨List (O U), fun _ y => y⟩),
  (141, ⟨List (O U), fun _ y => y⟩),
  (142, ⟨List (O U), fun _ y => y⟩),
  (144, ⟨List (O U), fun _ y => y⟩),
  (168, ⟨List (O U), fun _ y => y⟩),
  (169, ⟨List (O U), fun _ y => y⟩),
  (170, ⟨List (O U), fun _ y => y⟩),
  (171, ⟨List (O U), fun _ y => y⟩),
  (172, ⟨List (O U), fun _ y => y⟩),
  (173, ⟨List (O U), fun _ y => y⟩),
  (174, ⟨List (O U), fun _ y => y⟩),
  (175, ⟨List (O U), fun _ y => y⟩),
  (176, ⟨List (O U), fun _ y => y⟩),
  (177, ⟨List (O U), fun _ y => y⟩),
  (178, ⟨List (O U), fun _ y => y⟩),
  (185, ⟨List (O U), fun _ y => y⟩),
  (186, ⟨List (O U), fun _ y => y⟩),
  (187, ⟨List (O U), fun _ y => y⟩),
  (189, ⟨List (O U), fun _ y => y⟩),
  (190, ⟨List (O U), fun _ y => y⟩)]

def ansH : Nat → AnsH := ofList (⟨Unit, fun H _ => H⟩ : AnsH) ansHL

noncomputable def Rs : Res K where
  R := fun f => (ans f).R
  enc := fun f => (ans f).enc
  RH := fun f => (ansH f).R
  encH := fun f => (ansH f).enc
  RT := fun t => (ant t).R
  encT := fun t => (ant t).enc
  RTH := fun _ => List (O U)
  encTH := fun _ _ y => y


end Go.Proofs.YtikcopbjconkfaaDoor.V
