/- DEFINITIONS ALONE: the types and functions of this program, and remarks on how to walk them. Conditions: none. (Written by a program of mine, mkcfg.py.) -/
import Derived.Test.YtopifagbbmhgfaaDoorC0
import Derived.Test.YtopifagbbmhgfaaDoorProg
namespace Go.Proofs.YtopifagbbmhgfaaDoor.V
set_option linter.unusedVariables false
set_option linter.unusedSimpArgs false
open Go Go.Abs
def tiL:List (Nat×TI):=[
 (3,⟨.int .i64,1,8,[.int .i64]⟩),
 (4,⟨.bool,1,1,[.bool]⟩),
 (5,⟨.int .u8,1,1,[.int .u8]⟩),
 (9,⟨.str,1,16,[.str]⟩),
 (20,⟨.iface,1,16,[.nili]⟩),
 (23,⟨.slice 47,1,24,[.nils]⟩),
 (26,⟨.slice 46,1,24,[.nils]⟩),
 (27,⟨.int .i64,1,8,[.int .i64]⟩),
 (32,⟨.slice 66,1,24,[.nils]⟩),
 (34,⟨.strct [(3,0),(23,1),(32,2)],3,56,[.int .i64,.nils,.nils]⟩),
 (35,⟨.slice 9,1,24,[.nils]⟩),
 (37,⟨.strct [(34,0),(9,3),(35,4)],5,96,[.int .i64,.nils,.nils,.str,.nils]⟩),
 (44,⟨.func,1,8,[.nilf]⟩),
 (46,⟨.strct [(3,0),(3,1),(3,2),(9,3)],4,40,[.int .i64,.int .i64,.int .i64,.str]⟩),
 (47,⟨.strct [(3,0),(3,1),(3,2),(9,3)],4,40,[.int .i64,.int .i64,.int .i64,.str]⟩),
 (49,⟨.strct [(9,0),(34,1)],4,72,[.str,.int .i64,.nils,.nils]⟩),
 (50,⟨.slice 49,1,24,[.nils]⟩),
 (55,⟨.map 9 34,1,8,[.nilm]⟩),
 (58,⟨.ptr 62,1,8,[.nilp]⟩),
 (59,⟨.slice 3,1,24,[.nils]⟩),
 (62,⟨.strct [(26,0),(59,1),(55,2),(35,3),(35,4),(9,5)],6,120,[.nils,.nils,.nilm,.nils,.nils,.str]⟩),
 (66,⟨.strct [(3,0),(3,1),(9,2)],3,32,[.int .i64,.int .i64,.str]⟩),
 (67,⟨.slice 26,1,24,[.nils]⟩),
 (69,⟨.slice 104,1,24,[.nils]⟩),
 (76,⟨.func,1,8,[.nilf]⟩),
 (79,⟨.func,1,8,[.nilf]⟩),
 (82,⟨.slice 90,1,24,[.nils]⟩),
 (86,⟨.func,1,8,[.nilf]⟩),
 (87,⟨.func,1,8,[.nilf]⟩),
 (90,⟨.strct [(9,0),(23,1)],2,40,[.str,.nils]⟩),
 (92,⟨.slice 23,1,24,[.nils]⟩),
 (98,⟨.func,1,8,[.nilf]⟩),
 (99,⟨.func,1,8,[.nilf]⟩),
 (100,⟨.func,1,8,[.nilf]⟩),
 (101,⟨.func,1,8,[.nilf]⟩),
 (102,⟨.func,1,8,[.nilf]⟩),
 (103,⟨.strct [(3,0),(3,1)],2,16,[.int .i64,.int .i64]⟩),
 (104,⟨.strct [(3,0),(3,1)],2,16,[.int .i64,.int .i64]⟩),
 (105,⟨.func,1,8,[.nilf]⟩),
 (106,⟨.func,1,8,[.nilf]⟩),
 (108,⟨.func,1,8,[.nilf]⟩),
 (109,⟨.func,1,8,[.nilf]⟩),
 (110,⟨.func,1,8,[.nilf]⟩),
 (111,⟨.func,1,8,[.nilf]⟩),
 (112,⟨.func,1,8,[.nilf]⟩),
 (114,⟨.func,1,8,[.nilf]⟩),
 (116,⟨.func,1,8,[.nilf]⟩),
 (117,⟨.func,1,8,[.nilf]⟩),
 (118,⟨.func,1,8,[.nilf]⟩),
 (121,⟨.arr 19 9,19,304,List.replicate 19 (.str)⟩),
 (122,⟨.func,1,8,[.nilf]⟩),
 (123,⟨.func,1,8,[.nilf]⟩),
 (130,⟨.slice 23,1,24,[.nils]⟩),
 (137,⟨.func,1,8,[.nilf]⟩),
 (138,⟨.arr 12 3,12,96,List.replicate 12 (.int .i64)⟩),
 (139,⟨.arr 10 9,10,160,List.replicate 10 (.str)⟩)]
def vcL:List (Nat×Vc U):=[
 (3,(.pure .int)),(9,(.pure .str)),(23,(.pure .sl_api_Atom)),(26,(.pure .sl_api_Op)),(34,(.pure .api_Outcome)),(46,(.pure .api_Op)),(47,(.pure .api_Atom)),(49,(.pure .api_Known)),(66,(.pure .api_Crack)),(90,(.pure .eval_local)),(104,(.pure .value_whole))]
def kcL:List (Nat×Ty):=[(55,.str)]
def methods:Nat→String→Option Nat
 | _,_=>none
def globL:List (Nat×List (D U)):=[(0,[.str (bs [99,101,108,108]),.str (bs [97,103,97,105,110]),.str (bs [116,114,105,101,115]),.str (bs [98,97,115,101]),.str (bs [102,97,99,116,111,114]),.str (bs [99,97,112]),.str (bs [99,108,111,115,101]),.str (bs [102,105,110,101]),.str (bs [102,97,105,108]),.str (bs [112,97,110,105,99]),.str (bs [105,102]),.str (bs [116,104,101,110]),.str (bs [101,108,115,101]),.str (bs [116,114,121]),.str (bs [119,97,105,116]),.str (bs [108,101,116]),.str (bs [105,110]),.str (bs [105,116,101,109]),.str (bs [115,105,122,101])]),(1,[.int .i64 0,.int .i64 1,.int .i64 1,.int .i64 1,.int .i64 1,.int .i64 1,.int .i64 1,.int .i64 1,.int .i64 2,.int .i64 3,.int .i64 4,.int .i64 1]),(2,[.str (bs [108,105,115,116]),.str (bs [97,100,100]),.str (bs [115,117,98]),.str (bs [109,117,108]),.str (bs [106,111,105,110]),.str (bs [105,116,101,109]),.str (bs [115,105,122,101]),.str (bs [105,102]),.str (bs [102,97,105,108]),.str (bs [112,97,110,105,99])])]
def a3:FAnn U:={ pure:=true,scalar:=true,pco:=[[some .api_Atom]] }
def a4:FAnn U:={ op:=ofList (fun _=>{}) [(3,ofList {} [(2,{ frz:=true })])],pure:=true,scalar:=true }
def a5:FAnn U:={ pure:=true,pco:=[[some .api_Atom]],rco:=[[some .api_Op],[]] }
def a6:FAnn U:={ pure:=true,pco:=[[some .api_Atom]],rco:=[[some .api_Atom]] }
def a7:FAnn U:={ op:=ofList (fun _=>{}) [(2,ofList {} [(0,{ co:=[none,some .api_Atom,some .api_Crack,none,some .str] })]),(5,ofList {} [(0,{ co:=[none,some .api_Atom,some .api_Crack,none,some .str] })]),(6,ofList {} [(5,{ own:=[(4,none,(.pure .str))],co:=[some .api_Op,some .int,none,some .str],sym:=some 62 }),(6,{ glob:=true,sym:=some 62 })]),(9,ofList {} [(3,{ sym:=some 62 }),(7,{ sym:=some 62 }),(8,{ co:=[none,some .api_Atom,some .api_Crack,none,some .str] })]),(10,ofList {} [(8,{ co:=[none,some .api_Atom,some .api_Crack] }),(12,{ sym:=some 62 }),(13,{ co:=[none,some .api_Atom,some .api_Crack,none,some .str] })])],pco:=[[some .api_Op],[some .api_Known],[some .str]],rco:=[[none,some .api_Atom,some .api_Crack,none,some .str],[]] }
def a8:FAnn U:={ pure:=true,pco:=[[some .api_Op]],rco:=[[some .api_Op]] }
def a9:FAnn U:={ live:=ofList none [(5,some ([(4,[some .sl_api_Op]),(12,[some .api_Op]),(13,[]),(14,[])],[(4,[])]))],op:=ofList (fun _=>{}) [(3,ofList {} [(0,{ own:=[(0,some 4,(.pure .sl_api_Op))] })]),(9,ofList {} [(6,{ slot:=some 4 })])],pure:=true,pco:=[[some .api_Op]],rco:=[[some .api_Op],[]] }
def a10:FAnn U:={ live:=ofList none [(4,some ([(0,[some .api_Op]),(1,[some .api_Op]),(5,[])],[]))],pure:=true,scalar:=true,pco:=[[some .api_Op],[some .api_Op]] }
def a11:FAnn U:={ live:=ofList none [(4,some ([(0,[some .api_Atom]),(1,[some .api_Atom]),(5,[])],[]))],pure:=true,scalar:=true,pco:=[[some .api_Atom],[some .api_Atom]] }
def a12:FAnn U:={ live:=ofList none [(4,some ([(0,[some .str]),(1,[some .str]),(5,[])],[]))],pure:=true,scalar:=true,pco:=[[some .str],[some .str]] }
def a13:FAnn U:={ pure:=true,scalar:=true,pco:=[[some .api_Atom]] }
def a14:FAnn U:={ live:=ofList none [(3,some ([(3,[some .api_Op]),(7,[some .api_Atom]),(8,[]),(9,[])],[(3,[])]))],op:=ofList (fun _=>{}) [(1,ofList {} [(0,{ own:=[(0,some 3,(.pure .api_Op))] })]),(11,ofList {} [(10,{ slot:=some 3 })])],pure:=true,pco:=[[some .api_Atom]],rco:=[[some .api_Op]] }
def a15:FAnn U:={ live:=ofList none [(10,some ([(1,[]),(27,[some .api_Op]),(28,[]),(29,[])],[]))],op:=ofList (fun _=>{}) [(0,ofList {} [(0,{ glob:=true })])],pure:=true,scalar:=true,pco:=[[some .api_Op]] }
def a16:FAnn U:={ live:=ofList none [(5,some ([(1,[some .str]),(6,[]),(15,[some .api_Known]),(16,[]),(17,[])],[]))],op:=ofList (fun _=>{}) [(3,ofList {} [(0,{ glob:=true,sym:=some 55 })]),(7,ofList {} [(3,{ sym:=some 0 })]),(14,ofList {} [(5,{ sym:=some 0 })])],pco:=[[some .api_Known],[some .str]] }
def a17:FAnn U:={ live:=ofList none [(3,some ([(3,[some .int]),(4,[some .int]),(8,[some .api_Op]),(9,[]),(10,[])],[(3,[]),(4,[])]))],op:=ofList (fun _=>{}) [(1,ofList {} [(0,{ own:=[(0,some 3,(.pure .int))] }),(1,{ own:=[(0,some 4,(.pure .int))] })]),(8,ofList {} [(9,{ slot:=some 4 })]),(9,ofList {} [(3,{ slot:=some 3 })])],pure:=true,pco:=[[some .api_Op]],rco:=[[some .int]] }
def a18:FAnn U:={ live:=ofList none [(31,some ([(0,[]),(2,[some .eval_local]),(6,[]),(7,[]),(12,[some .sl_api_Atom]),(119,[some .int]),(120,[]),(121,[])],[(6,[none,some .api_Atom,some .api_Crack]),(7,[]),(12,[])])),(11,some ([(0,[]),(2,[some .eval_local]),(6,[]),(7,[]),(8,[some .int])],[(6,[none,some .api_Atom,some .api_Crack]),(7,[])]))],op:=ofList (fun _=>{}) [(1,ofList {} [(3,{ sym:=some 62 }),(10,{ sym:=some 62 }),(14,{ sym:=some 62 })]),(15,ofList {} [(3,{ sym:=some 62 })]),(16,ofList {} [(5,{ sym:=some 62 })]),(17,ofList {} [(0,{ co:=[none,some .api_Atom,some .api_Crack] })]),(29,ofList {} [(0,{ own:=[(0,some 12,(.pure .sl_api_Atom))] })]),(36,ofList {} [(4,{ slot:=some 12 })])],pco:=[[],[],[some .eval_local]],rco:=[[none,some .api_Atom,some .api_Crack]] }
def a19:FAnn U:={ pure:=true,pco:=[[some .api_Atom]],rco:=[[some .api_Atom]] }
def a20:FAnn U:={ pure:=true,pco:=[[some .api_Crack]],rco:=[[some .api_Crack]] }
def a21:FAnn U:={ pure:=true,pco:=[[some .api_Op]],rco:=[[some .api_Op]] }
def a22:FAnn U:={ op:=ofList (fun _=>{}) [(1,ofList {} [(3,{ frz:=true })])],pure:=true,pco:=[[],[some .sl_api_Op]],rco:=[[some .api_Op]] }
def a23:FAnn U:={ live:=ofList none [(3,some ([(4,[some .value_whole]),(5,[some .value_whole]),(16,[some .api_Atom]),(17,[]),(18,[])],[(5,[]),(14,[])])),(10,some ([(4,[some .value_whole]),(5,[some .value_whole]),(6,[]),(8,[]),(9,[]),(16,[some .api_Atom]),(17,[]),(18,[]),(42,[some .value_whole]),(43,[]),(44,[])],[(5,[]),(9,[]),(14,[])]))],op:=ofList (fun _=>{}) [(1,ofList {} [(3,{ slot:=some 5 })]),(19,ofList {} [(5,{ slot:=some 5 })])],pure:=true,pco:=[[some .api_Atom]],rco:=[[some .value_whole],[]] }
def a24:FAnn U:={ live:=ofList none [(3,some ([(4,[some .int]),(5,[some .int]),(13,[some .api_Op]),(14,[]),(15,[])],[(5,[]),(11,[])]))],op:=ofList (fun _=>{}) [(1,ofList {} [(3,{ slot:=some 5 })]),(11,ofList {} [(8,{ slot:=some 5 })])],pure:=true,pco:=[[some .api_Op]],rco:=[[some .int],[]] }
def a25:FAnn U:={ live:=ofList none [(4,some ([(0,[some .api_Op]),(1,[some .int]),(2,[]),(3,[some .str]),(4,[]),(22,[some .int]),(23,[]),(24,[])],[]))],pco:=[[some .api_Op],[some .int],[],[some .str],[]] }
def a26:FAnn U:={ op:=ofList (fun _=>{}) [(1,ofList {} [(0,{ sym:=some 26 }),(8,{ sym:=some 26 })])],pco:=[[],[some .str]] }
def a28:FAnn U:={ live:=ofList none [(3,some ([(3,[some .int]),(11,[some .api_Op]),(12,[]),(13,[])],[(3,[])])),(7,some ([(3,[some .int]),(6,[]),(7,[]),(11,[some .api_Op]),(12,[]),(13,[]),(24,[some .int]),(25,[]),(26,[])],[(3,[])]))],op:=ofList (fun _=>{}) [(1,ofList {} [(0,{ slot:=some 3 })]),(11,ofList {} [(6,{ slot:=some 3 })])],pure:=true,scalar:=true,pco:=[[some .api_Op]] }
def a29:FAnn U:={ pure:=true,scalar:=true }
def a30:FAnn U:={ pure:=true,scalar:=true,pco:=[[none,some .api_Atom,some .api_Crack]] }
def a31:FAnn U:={ pco:=[[some .str],[]] }
def a32:FAnn U:={  }
def a27:FAnn U:={ pure:=true,scalar:=true,pco:=[[some .str],[]] }
def a33:FAnn U:={ live:=ofList none [(4,some ([(1,[some .int]),(7,[some .int]),(8,[]),(9,[])],[(15,[])]))],pure:=true,pco:=[[some .api_Op],[some .int],[]],rco:=[[some .int]] }
def a34:FAnn U:={ pure:=true,pco:=[[some .api_Atom]],rco:=[[none,some .api_Atom,some .api_Crack]] }
def a35:FAnn U:={ op:=ofList (fun _=>{}) [(1,ofList {} [(4,{ sym:=some 62 }),(7,{ sym:=some 0 }),(10,{ sym:=some 62 })]),(2,ofList {} [(3,{ sym:=some 62 }),(5,{ sym:=some 0 })])],rco:=[[none,some .api_Atom,some .api_Crack]] }
def a36:FAnn U:={ op:=ofList (fun _=>{}) [(0,ofList {} [(0,{ glob:=true,sym:=some 82 })])],pco:=[[some .eval_local]] }
def a37:FAnn U:={ op:=ofList (fun _=>{}) [(6,ofList {} [(10,{ co:=[none,some .api_Atom] })]),(14,ofList {} [(4,{ co:=[none,some .api_Atom,some .api_Crack] })])],pco:=[[],[],[some .int],[some .eval_local]],rco:=[[none,some .api_Atom,some .api_Crack]] }
def a38:FAnn U:={ pure:=true,pco:=[[],[some .sl_api_Atom]],rco:=[[none,some .api_Atom,some .api_Crack]] }
def a39:FAnn U:={ live:=ofList none [(3,some ([(0,[some .sl_api_Op]),(3,[]),(9,[some .sl_api_Op]),(10,[]),(11,[])],[])),(11,some ([(6,[some .api_Op]),(25,[some .sl_api_Op]),(26,[]),(27,[])],[(6,[])]))],op:=ofList (fun _=>{}) [(9,ofList {} [(1,{ slot:=some 6 })]),(13,ofList {} [(2,{ slot:=some 6 })])],pure:=true,pco:=[[some .sl_api_Op]],rco:=[[some .api_Op]] }
def a40:FAnn U:={ op:=ofList (fun _=>{}) [(2,ofList {} [(0,{ own:=[(0,some 2,(.pure .sl_api_Op))] })])],pure:=true,scalar:=true,own:=true,pco:=[[some .sl_api_Op]],rco:=[[some .sl_api_Op]] }
def a41:FAnn U:={ pure:=true,scalar:=true,pco:=[[some .api_Op]] }
def a42:FAnn U:={ op:=ofList (fun _=>{}) [(1,ofList {} [(3,{ own:=[(4,none,(.pure .str))],co:=[some .api_Op,some .int,none,some .str,none,none] }),(4,{ glob:=true })])],pure:=true,pco:=[[some .api_Op]],rco:=[[some .api_Atom],[]] }
def a43:FAnn U:={ pure:=true,scalar:=true,pco:=[[some .api_Atom]] }
def a44:FAnn U:={ live:=ofList none [(5,some ([(0,[some .api_Op]),(1,[some .int]),(3,[]),(9,[]),(26,[some .int]),(27,[]),(28,[])],[(9,[])]))],pure:=true,scalar:=true,pco:=[[some .api_Op],[some .int],[],[]] }
def a45:FAnn U:={ live:=ofList none [(3,some ([(2,[some .api_Op]),(3,[]),(7,[some .sl_api_Atom]),(15,[some .sl_api_Op]),(16,[]),(17,[])],[(3,[]),(7,[])]))],op:=ofList (fun _=>{}) [(1,ofList {} [(0,{ own:=[(0,some 7,(.pure .sl_api_Atom))] })]),(10,ofList {} [(3,{ slot:=some 7 })])],pure:=true,pco:=[[],[some .sl_api_Op],[some .api_Op]],rco:=[[some .api_Op]] }
def a46:FAnn U:={ pure:=true,scalar:=true }
def a47:FAnn U:={ pure:=true,scalar:=true }
def a48:FAnn U:={ live:=ofList none [(4,some ([(1,[some .int]),(7,[some .int]),(8,[]),(9,[])],[(15,[])]))],pure:=true,pco:=[[some .api_Op],[some .int],[]],rco:=[[some .int]] }
def a49:FAnn U:={ op:=ofList (fun _=>{}) [(2,ofList {} [(0,{ own:=[(0,some 2,(.pure .str))] })])],pure:=true,scalar:=true,own:=true,pco:=[[some .str]],rco:=[[some .str]] }
def a51:FAnn U:={ live:=ofList none [(3,some ([(0,[]),(1,[])],[]))],pure:=true,scalar:=true }
def a52:FAnn U:={ pure:=true,scalar:=true }
def a53:FAnn U:={ pure:=true,scalar:=true,pco:=[[some .api_Crack]] }
def a54:FAnn U:={ live:=ofList none [(2,some ([(0,[some .str]),(1,[]),(7,[]),(8,[])],[]))],pco:=[[some .str],[]] }
def a50:FAnn U:={ live:=ofList none [(2,some ([(0,[some .str]),(1,[]),(7,[]),(8,[])],[]))],pure:=true,scalar:=true,pco:=[[some .str],[]] }
def a55:FAnn U:={ pure:=true,rco:=[[none,some .api_Atom,some .api_Crack]] }
def a56:FAnn U:={ live:=ofList none [(1,some ([(0,[]),(1,[]),(3,[])],[]))] }
def a57:FAnn U:={ op:=ofList (fun _=>{}) [(2,ofList {} [(0,{ own:=[(0,some 2,(.pure .eval_local))] })])],pure:=true,scalar:=true,own:=true,pco:=[[some .eval_local]],rco:=[[some .eval_local]] }
def a58:FAnn U:={ pure:=true,scalar:=true }
def a59:FAnn U:={ pure:=true,pco:=[[],[some .sl_api_Atom]],rco:=[[some .api_Atom],[],[]] }
def a60:FAnn U:={ pure:=true,scalar:=true,own:=true,rco:=[[some .api_Op]] }
def a61:FAnn U:={ pco:=[[some .api_Op],[]] }
def a62:FAnn U:={ pure:=true,scalar:=true }
def a63:FAnn U:={ pure:=true,scalar:=true }
def a64:FAnn U:={ pure:=true,scalar:=true }
def a65:FAnn U:={ pure:=true,scalar:=true }
def a66:FAnn U:={ live:=ofList none [(3,some ([(4,[some .int]),(5,[some .int]),(12,[some .api_Crack]),(13,[]),(14,[])],[(5,[]),(10,[])]))],op:=ofList (fun _=>{}) [(1,ofList {} [(3,{ slot:=some 5 })]),(10,ofList {} [(12,{ slot:=some 5 })])],pure:=true,pco:=[[some .api_Crack]],rco:=[[some .int],[]] }
def a67:FAnn U:={  }
def a68:FAnn U:={ live:=ofList none [(2,some ([(6,[some .sl_api_Atom]),(7,[]),(8,[])],[]))],pure:=true,scalar:=true,pco:=[[some .sl_api_Atom]] }
def a69:FAnn U:={ live:=ofList none [(2,some ([(0,[some .api_Op]),(1,[]),(7,[]),(8,[])],[]))],pco:=[[some .api_Op],[]] }
def a70:FAnn U:={ pure:=true,scalar:=true }
def a71:FAnn U:={ pure:=true,pco:=[[some .sl_api_Atom]],rco:=[[some .api_Atom],[]] }
def a72:FAnn U:={ pure:=true,pco:=[[some .sl_api_Atom]],rco:=[[some .api_Atom],[]] }
def a73:FAnn U:={ pure:=true,pco:=[[some .sl_api_Atom]],rco:=[[some .api_Atom],[]] }
def a74:FAnn U:={ pure:=true,pco:=[[some .sl_api_Atom]],rco:=[[some .api_Atom],[]] }
def a75:FAnn U:={ pure:=true,pco:=[[some .sl_api_Atom]],rco:=[[some .api_Atom],[]] }
def a76:FAnn U:={ pure:=true,pco:=[[some .sl_api_Atom]],rco:=[[some .api_Atom],[]] }
def a77:FAnn U:={ pure:=true,pco:=[[some .sl_api_Atom]],rco:=[[some .api_Atom],[]] }
def a78:FAnn U:={ pure:=true,pco:=[[some .sl_api_Atom]],rco:=[[some .api_Atom],[]] }
def a79:FAnn U:={ pure:=true,pco:=[[some .sl_api_Atom]],rco:=[[some .api_Atom],[]] }
def a80:FAnn U:={ pure:=true,scalar:=true }
def a81:FAnn U:={ pure:=true,scalar:=true }
def a82:FAnn U:={ live:=ofList none [(3,some ([(0,[some .sl_api_Atom]),(4,[some .api_Atom]),(7,[some .sl_api_Atom]),(8,[]),(9,[])],[(4,[])]))],op:=ofList (fun _=>{}) [(1,ofList {} [(0,{ own:=[(0,some 4,(.pure .api_Atom))] })]),(7,ofList {} [(2,{ slot:=some 4 })]),(9,ofList {} [(5,{ slot:=some 4 })])],pure:=true,pco:=[[some .sl_api_Atom]],rco:=[[some .api_Atom],[]] }
def a83:FAnn U:={ pure:=true,scalar:=true,pco:=[[some .sl_api_Atom]] }
def a84:FAnn U:={ pure:=true,rco:=[[some .api_Atom],[]] }
def a85:FAnn U:={ pure:=true,scalar:=true }
def a86:FAnn U:={ pure:=true,scalar:=true,pco:=[[some .api_Atom]] }
def a87:FAnn U:={ live:=ofList none [(5,some ([(0,[some .api_Atom]),(3,[some .value_whole]),(5,[some .sl_api_Atom]),(6,[]),(7,[])],[(17,[])]))],pure:=true,scalar:=true,own:=true,pco:=[[some .api_Atom]],rco:=[[some .sl_api_Atom]] }
def a88:FAnn U:={ pure:=true,rco:=[[some .api_Atom],[]] }
def a89:FAnn U:={ pure:=true,scalar:=true,pco:=[[some .api_Atom],[some .api_Atom]] }
def a90:FAnn U:={ pco:=[[some .sl_api_Atom],[]] }
def a91:FAnn U:={ pure:=true,scalar:=true,pco:=[[some .api_Atom]] }
def a92:FAnn U:={ pure:=true,rco:=[[some .api_Atom],[]] }
def a93:FAnn U:={ pure:=true,scalar:=true }
def a94:FAnn U:={ pure:=true,scalar:=true }
def a95:FAnn U:={ live:=ofList none [(2,some ([(0,[some .sl_api_Atom]),(1,[some .sl_api_Atom]),(2,[]),(11,[some .sl_api_Atom]),(12,[]),(13,[])],[]))],pco:=[[some .sl_api_Atom],[some .sl_api_Atom],[]] }
def a96:FAnn U:={ live:=ofList none [(2,some ([(0,[some .sl_api_Atom]),(1,[]),(7,[]),(8,[])],[]))],pco:=[[some .sl_api_Atom],[]] }
def a97:FAnn U:={ pure:=true,scalar:=true }
def a98:FAnn U:={ pure:=true,scalar:=true }
def annL:List (Nat×FAnn U):=[(3,a3),(4,a4),(5,a5),(6,a6),(7,a7),(8,a8),(9,a9),(10,a10),(11,a11),(12,a12),(13,a13),(14,a14),(15,a15),(16,a16),(17,a17),(18,a18),(19,a19),(20,a20),(21,a21),(22,a22),(23,a23),(24,a24),(25,a25),(26,a26),(28,a28),(29,a29),(30,a30),(31,a31),(32,a32),(27,a27),(33,a33),(34,a34),(35,a35),(36,a36),(37,a37),(38,a38),(39,a39),(40,a40),(41,a41),(42,a42),(43,a43),(44,a44),(45,a45),(46,a46),(47,a47),(48,a48),(49,a49),(51,a51),(52,a52),(53,a53),(54,a54),(50,a50),(55,a55),(56,a56),(57,a57),(58,a58),(59,a59),(60,a60),(61,a61),(62,a62),(63,a63),(64,a64),(65,a65),(66,a66),(67,a67),(68,a68),(69,a69),(70,a70),(71,a71),(72,a72),(73,a73),(74,a74),(75,a75),(76,a76),(77,a77),(78,a78),(79,a79),(80,a80),(81,a81),(82,a82),(83,a83),(84,a84),(85,a85),(86,a86),(87,a87),(88,a88),(89,a89),(90,a90),(91,a91),(92,a92),(93,a93),(94,a94),(95,a95),(96,a96),(97,a97),(98,a98)]
noncomputable def K:Cfg where
 U:=U
 width:=width
 enc:=enc
 dec:=dec
 dflt:=dflt
 flat:=flat
 bytesC:=bytesC
 keyEq:=keyEq
 P:=Tryd.prog
 ti:=ofList none (tiL.map fun x=>(x.1,some x.2))
 vc:=ofList .ptr vcL
 kc:=ofList .int kcL
 meth:=methods
 glob:=ofList none (globL.map fun x=>(x.1,some x.2))
 ann:=ofList {} annL
 back:=ofList none [(56,some ⟨82,90,3,4,112⟩)]
structure WayS where
 x:List api_Op
 front:List Int
 known:Nat
 open':List ByteArray
 asked:Nat
 askedG:Nat
 askedS:Option (Nat×Nat)
 gate:ByteArray
structure Ans where
 R:Type
 enc:R→C U
def ansL:List (Nat×Ans):=[
 (3,⟨Bool,fun x=>.d (.bool x)⟩),
 (4,⟨Bool,fun x=>.d (.bool x)⟩),
 (5,⟨(List api_Op)×Int,fun x=>.tup [.d (.sl .api_Op x.1),.d (.int .i64 x.2)]⟩),
 (6,⟨(List api_Atom),fun x=>.d (.sl .api_Atom x)⟩),
 (7,⟨api_Meaning×Int,fun x=>.tup [.agg [.d (.int .i64 x.1.gOutcome.gKind),.d (.sl .api_Atom x.1.gOutcome.gValue),.d (.sl .api_Crack x.1.gOutcome.gFail),.d (.str x.1.gGate),.d (.sl .str x.1.gAsked)],.d (.int .i64 x.2)]⟩),
 (8,⟨(List api_Op),fun x=>.d (.sl .api_Op x)⟩),
 (9,⟨(List api_Op)×Int,fun x=>.tup [.d (.sl .api_Op x.1),.d (.int .i64 x.2)]⟩),
 (10,⟨Bool,fun x=>.d (.bool x)⟩),
 (11,⟨Bool,fun x=>.d (.bool x)⟩),
 (12,⟨Bool,fun x=>.d (.bool x)⟩),
 (13,⟨Int,fun x=>.d (.int .i64 x)⟩),
 (14,⟨(List api_Op),fun x=>.d (.sl .api_Op x)⟩),
 (15,⟨Int,fun x=>.d (.int .i64 x)⟩),
 (16,⟨Nat×Int,fun x=>.tup [.mp (.g x.1),.d (.int .i64 x.2)]⟩),
 (17,⟨(List Int),fun x=>.d (.sl .int x)⟩),
 (18,⟨api_Outcome,fun x=>.agg [.d (.int .i64 x.gKind),.d (.sl .api_Atom x.gValue),.d (.sl .api_Crack x.gFail)]⟩),
 (19,⟨(List api_Atom),fun x=>.d (.sl .api_Atom x)⟩),
 (20,⟨(List api_Crack),fun x=>.d (.sl .api_Crack x)⟩),
 (21,⟨(List api_Op),fun x=>.d (.sl .api_Op x)⟩),
 (22,⟨(List api_Op),fun x=>.d (.sl .api_Op x)⟩),
 (23,⟨(List value_whole)×Bool,fun x=>.tup [.d (.sl .value_whole x.1),.d (.bool x.2)]⟩),
 (24,⟨(List Int)×Bool,fun x=>.tup [.d (.sl .int x.1),.d (.bool x.2)]⟩),
 (25,⟨Bool,fun x=>.d (.bool x)⟩),
 (26,⟨Bool,fun x=>.d (.bool x)⟩),
 (28,⟨Int,fun x=>.d (.int .i64 x)⟩),
 (29,⟨Bool,fun x=>.d (.bool x)⟩),
 (30,⟨Bool,fun x=>.d (.bool x)⟩),
 (31,⟨Bool,fun x=>.d (.bool x)⟩),
 (32,⟨Bool,fun x=>.d (.bool x)⟩),
 (27,⟨Bool,fun x=>.d (.bool x)⟩),
 (33,⟨(List Int),fun x=>.d (.sl .int x)⟩),
 (34,⟨api_Outcome,fun x=>.agg [.d (.int .i64 x.gKind),.d (.sl .api_Atom x.gValue),.d (.sl .api_Crack x.gFail)]⟩),
 (35,⟨api_Outcome,fun x=>.agg [.d (.int .i64 x.gKind),.d (.sl .api_Atom x.gValue),.d (.sl .api_Crack x.gFail)]⟩),
 (36,⟨Nat,fun x=>.fp 56 [] [.ptr (.g x) 0]⟩),
 (37,⟨api_Outcome,fun x=>.agg [.d (.int .i64 x.gKind),.d (.sl .api_Atom x.gValue),.d (.sl .api_Crack x.gFail)]⟩),
 (38,⟨api_Outcome,fun x=>.agg [.d (.int .i64 x.gKind),.d (.sl .api_Atom x.gValue),.d (.sl .api_Crack x.gFail)]⟩),
 (39,⟨(List api_Op),fun x=>.d (.sl .api_Op x)⟩),
 (40,⟨(List (List api_Op)),fun x=>.osl .sl_api_Op x⟩),
 (41,⟨Bool,fun x=>.d (.bool x)⟩),
 (42,⟨(List api_Atom)×Bool,fun x=>.tup [.d (.sl .api_Atom x.1),.d (.bool x.2)]⟩),
 (43,⟨api_Atom,fun x=>.agg [.d (.int .i64 x.gKind),.d (.int .i64 x.gN),.d (.int .i64 x.gInt),.d (.str x.gText)]⟩),
 (44,⟨Bool,fun x=>.d (.bool x)⟩),
 (45,⟨(List api_Op),fun x=>.d (.sl .api_Op x)⟩),
 (46,⟨Bool,fun x=>.d (.bool x)⟩),
 (47,⟨Bool,fun x=>.d (.bool x)⟩),
 (48,⟨(List Int),fun x=>.d (.sl .int x)⟩),
 (49,⟨(List ByteArray),fun x=>.osl .str x⟩),
 (51,⟨Int,fun x=>.d (.int .i64 x)⟩),
 (52,⟨Bool,fun x=>.d (.bool x)⟩),
 (53,⟨Int,fun x=>.d (.int .i64 x)⟩),
 (54,⟨Int,fun x=>.d (.int .i64 x)⟩),
 (50,⟨Int,fun x=>.d (.int .i64 x)⟩),
 (55,⟨api_Outcome,fun x=>.agg [.d (.int .i64 x.gKind),.d (.sl .api_Atom x.gValue),.d (.sl .api_Crack x.gFail)]⟩),
 (56,⟨Unit,fun _=>.tup []⟩),
 (57,⟨(List eval_local),fun x=>.osl .eval_local x⟩),
 (58,⟨ByteArray,fun x=>.d (.str x)⟩),
 (59,⟨(List api_Atom)×Bool×Int,fun x=>.tup [.d (.sl .api_Atom x.1),.d (.bool x.2.1),.d (.int .i64 x.2.2)]⟩),
 (60,⟨(List api_Op),fun x=>.osl .api_Op x⟩),
 (61,⟨Bool,fun x=>.d (.bool x)⟩),
 (62,⟨Bool,fun x=>.d (.bool x)⟩),
 (63,⟨Int,fun x=>.d (.int .i64 x)⟩),
 (64,⟨Bool,fun x=>.d (.bool x)⟩),
 (65,⟨Bool,fun x=>.d (.bool x)⟩),
 (66,⟨(List Int)×Bool,fun x=>.tup [.d (.sl .int x.1),.d (.bool x.2)]⟩),
 (67,⟨Int×Nat,fun x=>.tup [.d (.int .i64 x.1),.fp x.2 [] []]⟩),
 (68,⟨Int,fun x=>.d (.int .i64 x)⟩),
 (69,⟨Int,fun x=>.d (.int .i64 x)⟩),
 (70,⟨Bool,fun x=>.d (.bool x)⟩),
 (71,⟨(List api_Atom)×Bool,fun x=>.tup [.d (.sl .api_Atom x.1),.d (.bool x.2)]⟩),
 (72,⟨(List api_Atom)×Bool,fun x=>.tup [.d (.sl .api_Atom x.1),.d (.bool x.2)]⟩),
 (73,⟨(List api_Atom)×Bool,fun x=>.tup [.d (.sl .api_Atom x.1),.d (.bool x.2)]⟩),
 (74,⟨(List api_Atom)×Bool,fun x=>.tup [.d (.sl .api_Atom x.1),.d (.bool x.2)]⟩),
 (75,⟨(List api_Atom)×Bool,fun x=>.tup [.d (.sl .api_Atom x.1),.d (.bool x.2)]⟩),
 (76,⟨(List api_Atom)×Bool,fun x=>.tup [.d (.sl .api_Atom x.1),.d (.bool x.2)]⟩),
 (77,⟨(List api_Atom)×Bool,fun x=>.tup [.d (.sl .api_Atom x.1),.d (.bool x.2)]⟩),
 (78,⟨(List api_Atom)×Bool,fun x=>.tup [.d (.sl .api_Atom x.1),.d (.bool x.2)]⟩),
 (79,⟨(List api_Atom)×Bool,fun x=>.tup [.d (.sl .api_Atom x.1),.d (.bool x.2)]⟩),
 (80,⟨Int,fun x=>.d (.int .i64 x)⟩),
 (81,⟨Bool,fun x=>.d (.bool x)⟩),
 (82,⟨(List api_Atom)×Bool,fun x=>.tup [.d (.sl .api_Atom x.1),.d (.bool x.2)]⟩),
 (83,⟨Bool,fun x=>.d (.bool x)⟩),
 (84,⟨(List api_Atom)×Bool,fun x=>.tup [.d (.sl .api_Atom x.1),.d (.bool x.2)]⟩),
 (85,⟨Int,fun x=>.d (.int .i64 x)⟩),
 (86,⟨api_Atom,fun x=>.agg [.d (.int .i64 x.gKind),.d (.int .i64 x.gN),.d (.int .i64 x.gInt),.d (.str x.gText)]⟩),
 (87,⟨(List (List api_Atom)),fun x=>.osl .sl_api_Atom x⟩),
 (88,⟨(List api_Atom)×Bool,fun x=>.tup [.d (.sl .api_Atom x.1),.d (.bool x.2)]⟩),
 (89,⟨Int,fun x=>.d (.int .i64 x)⟩),
 (90,⟨Bool,fun x=>.d (.bool x)⟩),
 (91,⟨Bool,fun x=>.d (.bool x)⟩),
 (92,⟨(List api_Atom)×Int,fun x=>.tup [.d (.sl .api_Atom x.1),.d (.int .i64 x.2)]⟩),
 (93,⟨Int,fun x=>.d (.int .i64 x)⟩),
 (94,⟨Int,fun x=>.d (.int .i64 x)⟩),
 (95,⟨Int,fun x=>.d (.int .i64 x)⟩),
 (96,⟨Int,fun x=>.d (.int .i64 x)⟩),
 (97,⟨Bool,fun x=>.d (.bool x)⟩),
 (98,⟨Int,fun x=>.d (.int .i64 x)⟩)]
def ans:Nat→Ans:=ofList (⟨Unit,fun _=>.tup []⟩:Ans) ansL
def ansT:List (Nat×Ans):=[
 (3,⟨Int,fun x=>.d (.int .i64 x)⟩),
 (4,⟨Bool,fun x=>.d (.bool x)⟩),
 (5,⟨Int,fun x=>.d (.int .u8 x)⟩),
 (9,⟨ByteArray,fun x=>.d (.str x)⟩),
 (23,⟨(List api_Atom),fun x=>.d (.sl .api_Atom x)⟩),
 (26,⟨(List api_Op),fun x=>.d (.sl .api_Op x)⟩),
 (27,⟨Int,fun x=>.d (.int .i64 x)⟩),
 (28,⟨(List api_Op)×Int,fun x=>.tup [.d (.sl .api_Op x.1),.d (.int .i64 x.2)]⟩),
 (32,⟨(List api_Crack),fun x=>.d (.sl .api_Crack x)⟩),
 (34,⟨api_Outcome,fun x=>.agg [.d (.int .i64 x.gKind),.d (.sl .api_Atom x.gValue),.d (.sl .api_Crack x.gFail)]⟩),
 (35,⟨(List ByteArray),fun x=>.d (.sl .str x)⟩),
 (37,⟨api_Meaning,fun x=>.agg [.d (.int .i64 x.gOutcome.gKind),.d (.sl .api_Atom x.gOutcome.gValue),.d (.sl .api_Crack x.gOutcome.gFail),.d (.str x.gGate),.d (.sl .str x.gAsked)]⟩),
 (38,⟨api_Meaning×Int,fun x=>.tup [.agg [.d (.int .i64 x.1.gOutcome.gKind),.d (.sl .api_Atom x.1.gOutcome.gValue),.d (.sl .api_Crack x.1.gOutcome.gFail),.d (.str x.1.gGate),.d (.sl .str x.1.gAsked)],.d (.int .i64 x.2)]⟩),
 (46,⟨api_Op,fun x=>.agg [.d (.int .i64 x.gKind),.d (.int .i64 x.gN),.d (.int .i64 x.gInt),.d (.str x.gText)]⟩),
 (47,⟨api_Atom,fun x=>.agg [.d (.int .i64 x.gKind),.d (.int .i64 x.gN),.d (.int .i64 x.gInt),.d (.str x.gText)]⟩),
 (49,⟨api_Known,fun x=>.agg [.d (.str x.gName),.d (.int .i64 x.gOutcome.gKind),.d (.sl .api_Atom x.gOutcome.gValue),.d (.sl .api_Crack x.gOutcome.gFail)]⟩),
 (50,⟨(List api_Known),fun x=>.d (.sl .api_Known x)⟩),
 (59,⟨(List Int),fun x=>.d (.sl .int x)⟩),
 (66,⟨api_Crack,fun x=>.agg [.d (.int .i64 x.gKind),.d (.int .i64 x.gN),.d (.str x.gText)]⟩),
 (67,⟨(List (List api_Op)),fun x=>.d (.sl .sl_api_Op x)⟩),
 (69,⟨(List value_whole),fun x=>.d (.sl .value_whole x)⟩),
 (70,⟨(List value_whole)×Bool,fun x=>.tup [.d (.sl .value_whole x.1),.d (.bool x.2)]⟩),
 (72,⟨(List Int)×Bool,fun x=>.tup [.d (.sl .int x.1),.d (.bool x.2)]⟩),
 (78,⟨api_Outcome×Bool,fun x=>.tup [.agg [.d (.int .i64 x.1.gKind),.d (.sl .api_Atom x.1.gValue),.d (.sl .api_Crack x.1.gFail)],.d (.bool x.2)]⟩),
 (82,⟨(List eval_local),fun x=>.d (.sl .eval_local x)⟩),
 (90,⟨eval_local,fun x=>.agg [.d (.str x.gName),.d (.sl .api_Atom x.gV)]⟩),
 (92,⟨(List (List api_Atom)),fun x=>.d (.sl .sl_api_Atom x)⟩),
 (97,⟨(List api_Atom)×Bool,fun x=>.tup [.d (.sl .api_Atom x.1),.d (.bool x.2)]⟩),
 (103,⟨anon_103,fun x=>.agg [.d (.int .i64 x.gFrom),.d (.int .i64 x.gDeep)]⟩),
 (104,⟨value_whole,fun x=>.agg [.d (.int .i64 x.gFrom),.d (.int .i64 x.gDeep)]⟩),
 (115,⟨(List api_Atom)×Bool×Int,fun x=>.tup [.d (.sl .api_Atom x.1),.d (.bool x.2.1),.d (.int .i64 x.2.2)]⟩),
 (130,⟨(List (List api_Atom)),fun x=>.d (.sl .sl_api_Atom x)⟩),
 (141,⟨(List api_Atom)×Int,fun x=>.tup [.d (.sl .api_Atom x.1),.d (.int .i64 x.2)]⟩)]
def ant:Nat→Ans:=ofList (⟨Unit,fun _=>.tup []⟩:Ans) ansT
structure ShpA where
 T:Type
 enc:T→List (C U)
def shpL:List (Nat×ShpA):=[(62,⟨WayS,fun x=>[.d (.sl .api_Op x.x),.d (.sl .int x.front),.mp (.g x.known),.d (.sl .str x.open'),.asl (.g x.asked) x.askedG x.askedS false,.d (.str x.gate)]⟩),
 (26,⟨List api_Op,fun x=>[.d (.sl .api_Op x)]⟩)]
def shp:Nat→ShpA:=ofList (⟨Unit,fun _=>[]⟩:ShpA) shpL
noncomputable def Sh:Shp K where
 T:=fun t=>(shp t).T
 enc:=fun t=>(shp t).enc
structure AnsH where
 R:Type
 enc:List (O U)→R→List (O U)
def ansHL:List (Nat×AnsH):=[(7,⟨List (O U),fun _ y=>y⟩),
 (16,⟨List (O U),fun _ y=>y⟩),
 (18,⟨List (O U),fun _ y=>y⟩),
 (35,⟨List (O U),fun _ y=>y⟩),
 (36,⟨List (O U),fun _ y=>y⟩),
 (37,⟨List (O U),fun _ y=>y⟩)]
def ansH:Nat→AnsH:=ofList (⟨Unit,fun H _=>H⟩:AnsH) ansHL
noncomputable def Rs:Res K where
 R:=fun f=>(ans f).R
 enc:=fun f=>(ans f).enc
 RH:=fun f=>(ansH f).R
 encH:=fun f=>(ansH f).enc
 RT:=fun t=>(ant t).R
 encT:=fun t=>(ant t).enc
end Go.Proofs.YtopifagbbmhgfaaDoor.V
