/- DEFINITIONS ALONE: the types and functions of this program, and remarks on how to walk them. Conditions: none. (Written by a program of mine, mkcfg.py.) -/
import Derived.Test.YtopifagbbmhgfaaGreatDoorC0
import Derived.Test.YtopifagbbmhgfaaGreatDoorProg
namespace Go.Proofs.YtopifagbbmhgfaaGreatDoor.V
set_option linter.unusedVariables false
set_option linter.unusedSimpArgs false
open Go Go.Abs
def tiL:List (Nat×TI):=[
 (3,⟨.int .i64,1,8,[.int .i64]⟩),
 (4,⟨.bool,1,1,[.bool]⟩),
 (5,⟨.int .u8,1,1,[.int .u8]⟩),
 (9,⟨.str,1,16,[.str]⟩),
 (20,⟨.iface,1,16,[.nili]⟩),
 (23,⟨.slice 30,1,24,[.nils]⟩),
 (25,⟨.int .i64,1,8,[.int .i64]⟩),
 (30,⟨.strct [(3,0),(3,1),(3,2),(9,3)],4,40,[.int .i64,.int .i64,.int .i64,.str]⟩),
 (32,⟨.func,1,8,[.nilf]⟩),
 (33,⟨.slice 144,1,24,[.nils]⟩),
 (34,⟨.slice 9,1,24,[.nils]⟩),
 (37,⟨.slice 84,1,24,[.nils]⟩),
 (39,⟨.slice 163,1,24,[.nils]⟩),
 (41,⟨.strct [(3,0),(37,1),(39,2)],3,56,[.int .i64,.nils,.nils]⟩),
 (43,⟨.strct [(41,0),(9,3),(34,4)],5,96,[.int .i64,.nils,.nils,.str,.nils]⟩),
 (51,⟨.slice 66,1,24,[.nils]⟩),
 (57,⟨.slice 37,1,24,[.nils]⟩),
 (66,⟨.strct [(3,0),(3,1),(9,2)],3,32,[.int .i64,.int .i64,.str]⟩),
 (84,⟨.strct [(3,0),(3,1),(3,2),(9,3)],4,40,[.int .i64,.int .i64,.int .i64,.str]⟩),
 (97,⟨.func,1,8,[.nilf]⟩),
 (99,⟨.func,1,8,[.nilf]⟩),
 (100,⟨.slice 3,1,24,[.nils]⟩),
 (101,⟨.slice 133,1,24,[.nils]⟩),
 (102,⟨.strct [(100,0),(101,1),(34,2)],3,72,[.nils,.nils,.nils]⟩),
 (103,⟨.strct [(100,0),(101,1),(34,2)],3,72,[.nils,.nils,.nils]⟩),
 (104,⟨.func,1,8,[.nilf]⟩),
 (105,⟨.strct [(3,0),(25,1)],2,16,[.int .i64,.int .i64]⟩),
 (106,⟨.strct [(3,0),(25,1)],2,16,[.int .i64,.int .i64]⟩),
 (108,⟨.func,1,8,[.nilf]⟩),
 (109,⟨.func,1,8,[.nilf]⟩),
 (110,⟨.func,1,8,[.nilf]⟩),
 (111,⟨.func,1,8,[.nilf]⟩),
 (112,⟨.func,1,8,[.nilf]⟩),
 (113,⟨.slice 118,1,24,[.nils]⟩),
 (115,⟨.func,1,8,[.nilf]⟩),
 (116,⟨.func,1,8,[.nilf]⟩),
 (117,⟨.strct [(41,0),(9,3),(100,4)],5,96,[.int .i64,.nils,.nils,.str,.nils]⟩),
 (118,⟨.strct [(41,0),(9,3),(100,4)],5,96,[.int .i64,.nils,.nils,.str,.nils]⟩),
 (119,⟨.func,1,8,[.nilf]⟩),
 (122,⟨.func,1,8,[.nilf]⟩),
 (127,⟨.strct [(3,0),(3,1),(3,2),(3,3)],4,32,[.int .i64,.int .i64,.int .i64,.int .i64]⟩),
 (129,⟨.strct [(3,0),(9,1)],2,24,[.int .i64,.str]⟩),
 (131,⟨.strct [(9,0),(23,1),(4,2),(127,3),(129,7)],9,104,[.str,.nils,.bool,.int .i64,.int .i64,.int .i64,.int .i64,.int .i64,.str]⟩),
 (133,⟨.strct [(3,0),(131,1)],10,112,[.int .i64,.str,.nils,.bool,.int .i64,.int .i64,.int .i64,.int .i64,.int .i64,.str]⟩),
 (140,⟨.slice 23,1,24,[.nils]⟩),
 (144,⟨.strct [(9,0),(41,1)],4,72,[.str,.int .i64,.nils,.nils]⟩),
 (150,⟨.func,1,8,[.nilf]⟩),
 (152,⟨.map 9 41,1,8,[.nilm]⟩),
 (155,⟨.ptr 158,1,8,[.nilp]⟩),
 (158,⟨.strct [(23,0),(100,1),(152,2),(34,3),(34,4),(9,5)],6,120,[.nils,.nils,.nilm,.nils,.nils,.str]⟩),
 (163,⟨.strct [(3,0),(3,1),(9,2)],3,32,[.int .i64,.int .i64,.str]⟩),
 (227,⟨.strct [(23,0),(33,1),(34,2),(34,3),(9,4)],5,112,[.nils,.nils,.nils,.nils,.str]⟩),
 (231,⟨.func,1,8,[.nilf]⟩),
 (234,⟨.func,1,8,[.nilf]⟩),
 (236,⟨.slice 243,1,24,[.nils]⟩),
 (239,⟨.func,1,8,[.nilf]⟩),
 (240,⟨.func,1,8,[.nilf]⟩),
 (243,⟨.strct [(9,0),(37,1)],2,40,[.str,.nils]⟩),
 (302,⟨.ptr 227,1,8,[.nilp]⟩),
 (303,⟨.slice 305,1,24,[.nils]⟩),
 (305,⟨.strct [(9,0),(37,1)],2,40,[.str,.nils]⟩),
 (311,⟨.func,1,8,[.nilf]⟩),
 (333,⟨.slice 365,1,24,[.nils]⟩),
 (345,⟨.func,1,8,[.nilf]⟩),
 (349,⟨.arr 19 9,19,304,List.replicate 19 (.str)⟩),
 (359,⟨.func,1,8,[.nilf]⟩),
 (365,⟨.strct [(3,0),(3,1)],2,16,[.int .i64,.int .i64]⟩),
 (372,⟨.slice 37,1,24,[.nils]⟩),
 (380,⟨.arr 12 3,12,96,List.replicate 12 (.int .i64)⟩),
 (381,⟨.arr 10 9,10,160,List.replicate 10 (.str)⟩),
 (383,⟨.func,1,8,[.nilf]⟩)]
def vcL:List (Nat×Vc U):=[
 (3,(.pure .int)),(9,(.pure .str)),(23,(.pure .sl_api_Op)),(30,(.pure .api_Op)),(37,(.pure .sl_api_Atom)),(41,(.pure .api_Outcome)),(66,(.pure .api_Instr)),(84,(.pure .api_Atom)),(118,(.pure .api_Lone)),(133,(.pure .api_Own)),(144,(.pure .api_Known)),(163,(.pure .api_Crack)),(243,(.pure .eval_local)),(305,(.pure .oncewebref08_local)),(365,(.pure .value_whole))]
def kcL:List (Nat×Ty):=[(152,.str)]
def methods:Nat→String→Option Nat
 | _,_=>none
def globL:List (Nat×List (D U)):=[(0,[.str (bs [99,101,108,108]),.str (bs [97,103,97,105,110]),.str (bs [116,114,105,101,115]),.str (bs [98,97,115,101]),.str (bs [102,97,99,116,111,114]),.str (bs [99,97,112]),.str (bs [99,108,111,115,101]),.str (bs [102,105,110,101]),.str (bs [102,97,105,108]),.str (bs [112,97,110,105,99]),.str (bs [105,102]),.str (bs [116,104,101,110]),.str (bs [101,108,115,101]),.str (bs [116,114,121]),.str (bs [119,97,105,116]),.str (bs [108,101,116]),.str (bs [105,110]),.str (bs [105,116,101,109]),.str (bs [115,105,122,101])]),(1,[.int .i64 0,.int .i64 1,.int .i64 1,.int .i64 1,.int .i64 1,.int .i64 1,.int .i64 1,.int .i64 1,.int .i64 2,.int .i64 3,.int .i64 4,.int .i64 1]),(2,[.str (bs [108,105,115,116]),.str (bs [97,100,100]),.str (bs [115,117,98]),.str (bs [109,117,108]),.str (bs [106,111,105,110]),.str (bs [105,116,101,109]),.str (bs [115,105,122,101]),.str (bs [105,102]),.str (bs [102,97,105,108]),.str (bs [112,97,110,105,99])])]
def a4:FAnn U:={ pure:=true,scalar:=true,pco:=[[some .api_Op],[some .api_Known],[some .str]] }
def a3:FAnn U:={ live:=ofList none [(7,some ([(0,[some .api_Op]),(3,[some .api_Op]),(4,[some .api_Op]),(31,[]),(32,[])],[(13,[])]))],pure:=true,scalar:=true,pco:=[[some .api_Op]] }
def a108:FAnn U:={ live:=ofList none [(2,some ([(0,[some .str]),(1,[]),(5,[])],[]))],pure:=true,scalar:=true,pco:=[[some .str],[]] }
def a14:FAnn U:={ pure:=true,pco:=[[some .api_Op]],rco:=[[some .api_Op]] }
def a15:FAnn U:={ live:=ofList none [(5,some ([(4,[some .sl_api_Op]),(12,[some .api_Op]),(13,[]),(14,[])],[(4,[])])),(9,some ([(4,[some .sl_api_Op]),(7,[]),(8,[some .api_Op]),(12,[some .api_Op]),(13,[]),(14,[])],[(4,[])]))],op:=ofList (fun _=>{}) [(2,ofList {} [(0,{ own:=[(0,some 2,(.pure .api_Op))] })]),(3,ofList {} [(0,{ own:=[(0,some 4,(.pure .sl_api_Op))] })]),(9,ofList {} [(6,{ slot:=some 4 })])],trim:=ofList [] [(9,[(8,2)])],pure:=true,scalar:=true,own:=true,pco:=[[some .api_Op]],rco:=[[some .api_Op],[]] }
def a17:FAnn U:={ live:=ofList none [(4,some ([(0,[some .api_Op]),(1,[some .api_Op]),(5,[])],[]))],pure:=true,scalar:=true,pco:=[[some .api_Op],[some .api_Op]] }
def a18:FAnn U:={ op:=ofList (fun _=>{}) [(3,ofList {} [(2,{ frz:=true })])],pure:=true,scalar:=true }
def a19:FAnn U:={ live:=ofList none [(10,some ([(1,[]),(27,[some .api_Op]),(28,[]),(29,[])],[]))],op:=ofList (fun _=>{}) [(0,ofList {} [(0,{ glob:=true })])],pure:=true,scalar:=true,pco:=[[some .api_Op]] }
def a20:FAnn U:={ op:=ofList (fun _=>{}) [(2,ofList {} [(0,{ co:=[none,some .api_Atom,some .api_Crack,none,some .str] })]),(5,ofList {} [(0,{ co:=[none,some .api_Atom,some .api_Crack,none,some .str] })]),(6,ofList {} [(5,{ own:=[(4,none,(.pure .str))],co:=[some .api_Op,some .int,none,some .str],sym:=some 158 }),(6,{ glob:=true,sym:=some 158 })]),(9,ofList {} [(3,{ sym:=some 158 }),(7,{ sym:=some 158 }),(8,{ co:=[none,some .api_Atom,some .api_Crack,none,some .str] })]),(10,ofList {} [(8,{ co:=[none,some .api_Atom,some .api_Crack] }),(12,{ sym:=some 158 }),(13,{ co:=[none,some .api_Atom,some .api_Crack,none,some .str] })])],pco:=[[some .api_Op],[some .api_Known],[some .str]],rco:=[[none,some .api_Atom,some .api_Crack,none,some .str],[]] }
def a21:FAnn U:={ live:=ofList none [(3,some ([(3,[some .api_Known]),(7,[some .api_Known]),(8,[]),(9,[])],[(3,[])]))],op:=ofList (fun _=>{}) [(1,ofList {} [(0,{ slot:=some 3 })]),(5,ofList {} [(8,{ slot:=some 3 })])],pure:=true,pco:=[[some .api_Known]],rco:=[[some .api_Known]] }
def a22:FAnn U:={ pure:=true,scalar:=true,own:=true,pco:=[[some .str]],rco:=[[some .str]] }
def a23:FAnn U:={ pure:=true,scalar:=true,pco:=[[none,some .api_Atom,some .api_Crack,none,some .str],[none,some .api_Atom,some .api_Crack,none,some .str]] }
def a16:FAnn U:={ pure:=true,pco:=[[some .api_Op]],rco:=[[some .api_Op],[]] }
def a72:FAnn U:={ op:=ofList (fun _=>{}) [(2,ofList {} [(0,{ own:=[(0,some 2,(.pure .api_Op))] })])],pure:=true,scalar:=true,own:=true,pco:=[[some .api_Op]],rco:=[[some .api_Op]] }
def a73:FAnn U:={ op:=ofList (fun _=>{}) [(1,ofList {} [(3,{ frz:=true })])],pure:=true,pco:=[[],[some .sl_api_Op]],rco:=[[some .api_Op]] }
def a49:FAnn U:={ live:=ofList none [(4,some ([(0,[some .str]),(1,[some .str]),(5,[])],[]))],pure:=true,scalar:=true,pco:=[[some .str],[some .str]] }
def a76:FAnn U:={ live:=ofList none [(4,some ([(0,[some .api_Atom]),(1,[some .api_Atom]),(5,[])],[]))],pure:=true,scalar:=true,pco:=[[some .api_Atom],[some .api_Atom]] }
def a77:FAnn U:={ live:=ofList none [(3,some ([(4,[some .int]),(5,[some .int]),(13,[some .api_Op]),(14,[]),(15,[])],[(5,[]),(11,[])]))],op:=ofList (fun _=>{}) [(1,ofList {} [(3,{ slot:=some 5 })]),(11,ofList {} [(8,{ slot:=some 5 })])],pure:=true,pco:=[[some .api_Op]],rco:=[[some .int],[]] }
def a78:FAnn U:={ live:=ofList none [(4,some ([(0,[some .api_Op]),(1,[some .int]),(2,[]),(3,[some .str]),(4,[]),(22,[some .int]),(23,[]),(24,[])],[]))],pco:=[[some .api_Op],[some .int],[],[some .str],[]] }
def a79:FAnn U:={ op:=ofList (fun _=>{}) [(1,ofList {} [(0,{ sym:=some 23 }),(8,{ sym:=some 23 })])],pco:=[[],[some .str]] }
def a81:FAnn U:={ live:=ofList none [(3,some ([(3,[some .int]),(11,[some .api_Op]),(12,[]),(13,[])],[(3,[])])),(7,some ([(3,[some .int]),(6,[]),(7,[]),(11,[some .api_Op]),(12,[]),(13,[]),(24,[some .int]),(25,[]),(26,[])],[(3,[])]))],op:=ofList (fun _=>{}) [(1,ofList {} [(0,{ slot:=some 3 })]),(11,ofList {} [(6,{ slot:=some 3 })])],pure:=true,scalar:=true,pco:=[[some .api_Op]] }
def a82:FAnn U:={ live:=ofList none [(5,some ([(1,[some .str]),(6,[]),(15,[some .api_Known]),(16,[]),(17,[])],[]))],op:=ofList (fun _=>{}) [(3,ofList {} [(0,{ glob:=true,sym:=some 152 })]),(7,ofList {} [(3,{ sym:=some 0 })]),(14,ofList {} [(5,{ sym:=some 0 })])],pco:=[[some .api_Known],[some .str]] }
def a83:FAnn U:={ live:=ofList none [(3,some ([(3,[some .int]),(4,[some .int]),(8,[some .api_Op]),(9,[]),(10,[])],[(3,[]),(4,[])]))],op:=ofList (fun _=>{}) [(1,ofList {} [(0,{ own:=[(0,some 3,(.pure .int))] }),(1,{ own:=[(0,some 4,(.pure .int))] })]),(8,ofList {} [(9,{ slot:=some 4 })]),(9,ofList {} [(3,{ slot:=some 3 })])],pure:=true,pco:=[[some .api_Op]],rco:=[[some .int]] }
def a84:FAnn U:={ live:=ofList none [(31,some ([(0,[]),(2,[some .eval_local]),(6,[]),(7,[]),(12,[some .sl_api_Atom]),(119,[some .int]),(120,[]),(121,[])],[(6,[none,some .api_Atom,some .api_Crack]),(7,[]),(12,[])])),(11,some ([(0,[]),(2,[some .eval_local]),(6,[]),(7,[]),(8,[some .int])],[(6,[none,some .api_Atom,some .api_Crack]),(7,[])]))],op:=ofList (fun _=>{}) [(1,ofList {} [(3,{ sym:=some 158 }),(10,{ sym:=some 158 }),(14,{ sym:=some 158 })]),(15,ofList {} [(3,{ sym:=some 158 })]),(16,ofList {} [(5,{ sym:=some 158 })]),(17,ofList {} [(0,{ co:=[none,some .api_Atom,some .api_Crack] })]),(29,ofList {} [(0,{ own:=[(0,some 12,(.pure .sl_api_Atom))] })]),(36,ofList {} [(4,{ slot:=some 12 })])],pco:=[[],[],[some .eval_local]],rco:=[[none,some .api_Atom,some .api_Crack]] }
def a85:FAnn U:={ pure:=true,pco:=[[some .api_Atom]],rco:=[[some .api_Atom]] }
def a86:FAnn U:={ pure:=true,pco:=[[some .api_Crack]],rco:=[[some .api_Crack]] }
def a34:FAnn U:={ pure:=true,pco:=[[none,some .api_Atom,some .api_Crack]],rco:=[[none,some .api_Atom,some .api_Crack]] }
def a37:FAnn U:={ pure:=true,scalar:=true,pco:=[[none,some .api_Atom,some .api_Crack],[none,some .api_Atom,some .api_Crack]] }
def a74:FAnn U:={ live:=ofList none [(7,some ([(0,[some .api_Op]),(5,[])],[]))],pure:=true,scalar:=true,pco:=[[some .api_Op]] }
def a75:FAnn U:={ live:=ofList none [(6,some ([(0,[some .api_Op]),(1,[]),(5,[some .int]),(6,[some .sl_api_Op]),(7,[some .api_Op]),(8,[]),(9,[])],[(6,[]),(7,[])])),(14,some ([(0,[some .api_Op]),(1,[]),(6,[some .sl_api_Op]),(7,[some .api_Op]),(8,[]),(11,[])],[]))],op:=ofList (fun _=>{}) [(2,ofList {} [(0,{ own:=[(0,some 6,(.pure .sl_api_Op))] })]),(3,ofList {} [(0,{ own:=[(0,some 7,(.pure .api_Op))] })]),(9,ofList {} [(3,{ slot:=some 6 })]),(10,ofList {} [(2,{ slot:=some 7 })]),(12,ofList {} [(6,{ slot:=some 7 })]),(17,ofList {} [(1,{ co:=[some .api_Op,some .api_Known,some .str,some .str,none] }),(2,{ glob:=true })])],trim:=ofList [] [(14,[(6,2),(7,2)])],pure:=true,pco:=[[some .api_Op],[]],rco:=[[some .api_Op]] }
def a134:FAnn U:={ live:=ofList none [(3,some ([(0,[some .sl_api_Op]),(3,[]),(9,[some .sl_api_Op]),(10,[]),(11,[])],[])),(11,some ([(6,[some .api_Op]),(25,[some .sl_api_Op]),(26,[]),(27,[])],[(6,[])]))],op:=ofList (fun _=>{}) [(9,ofList {} [(1,{ slot:=some 6 })]),(13,ofList {} [(2,{ slot:=some 6 })])],pure:=true,pco:=[[some .sl_api_Op]],rco:=[[some .api_Op]] }
def a135:FAnn U:={ op:=ofList (fun _=>{}) [(2,ofList {} [(0,{ own:=[(0,some 2,(.pure .sl_api_Op))] })])],pure:=true,scalar:=true,own:=true,pco:=[[some .sl_api_Op]],rco:=[[some .sl_api_Op]] }
def a136:FAnn U:={ pure:=true,scalar:=true,pco:=[[some .api_Op]] }
def a137:FAnn U:={ op:=ofList (fun _=>{}) [(1,ofList {} [(3,{ own:=[(4,none,(.pure .str))],co:=[some .api_Op,some .int,none,some .str,none,none] }),(4,{ glob:=true })])],pure:=true,pco:=[[some .api_Op]],rco:=[[some .api_Atom],[]] }
def a138:FAnn U:={ pure:=true,scalar:=true,pco:=[[some .api_Atom]] }
def a139:FAnn U:={ live:=ofList none [(5,some ([(0,[some .api_Op]),(1,[some .int]),(3,[]),(9,[]),(26,[some .int]),(27,[]),(28,[])],[(9,[])]))],pure:=true,scalar:=true,pco:=[[some .api_Op],[some .int],[],[]] }
def a140:FAnn U:={ live:=ofList none [(3,some ([(2,[some .api_Op]),(3,[]),(7,[some .sl_api_Atom]),(15,[some .sl_api_Op]),(16,[]),(17,[])],[(3,[]),(7,[])]))],op:=ofList (fun _=>{}) [(1,ofList {} [(0,{ own:=[(0,some 7,(.pure .sl_api_Atom))] })]),(10,ofList {} [(3,{ slot:=some 7 })])],pure:=true,pco:=[[],[some .sl_api_Op],[some .api_Op]],rco:=[[some .api_Op]] }
def a149:FAnn U:={ pure:=true,scalar:=true }
def a150:FAnn U:={ live:=ofList none [(4,some ([(1,[some .int]),(7,[some .int]),(8,[]),(9,[])],[(15,[])]))],pure:=true,pco:=[[some .api_Op],[some .int],[]],rco:=[[some .int]] }
def a151:FAnn U:={ op:=ofList (fun _=>{}) [(2,ofList {} [(0,{ own:=[(0,some 2,(.pure .str))] })])],pure:=true,scalar:=true,own:=true,pco:=[[some .str]],rco:=[[some .str]] }
def a80:FAnn U:={ pure:=true,scalar:=true,pco:=[[some .str],[]] }
def a153:FAnn U:={ pure:=true,scalar:=true }
def a154:FAnn U:={ pure:=true,scalar:=true,pco:=[[none,some .api_Atom,some .api_Crack]] }
def a155:FAnn U:={ pco:=[[some .str],[]] }
def a156:FAnn U:={  }
def a157:FAnn U:={ live:=ofList none [(4,some ([(1,[some .int]),(7,[some .int]),(8,[]),(9,[])],[(15,[])]))],pure:=true,pco:=[[some .api_Op],[some .int],[]],rco:=[[some .int]] }
def a158:FAnn U:={ pure:=true,pco:=[[some .api_Atom]],rco:=[[none,some .api_Atom,some .api_Crack]] }
def a159:FAnn U:={ op:=ofList (fun _=>{}) [(1,ofList {} [(4,{ sym:=some 158 }),(7,{ sym:=some 0 }),(10,{ sym:=some 158 })]),(2,ofList {} [(3,{ sym:=some 158 }),(5,{ sym:=some 0 })])],rco:=[[none,some .api_Atom,some .api_Crack]] }
def a160:FAnn U:={ op:=ofList (fun _=>{}) [(0,ofList {} [(0,{ glob:=true,sym:=some 236 })])],pco:=[[some .eval_local]] }
def a161:FAnn U:={ op:=ofList (fun _=>{}) [(6,ofList {} [(10,{ co:=[none,some .api_Atom] })]),(14,ofList {} [(4,{ co:=[none,some .api_Atom,some .api_Crack] })])],pco:=[[],[],[some .int],[some .eval_local]],rco:=[[none,some .api_Atom,some .api_Crack]] }
def a162:FAnn U:={ pure:=true,pco:=[[],[some .sl_api_Atom]],rco:=[[none,some .api_Atom,some .api_Crack]] }
def a98:FAnn U:={ pure:=true,pco:=[[some .api_Atom]],rco:=[[some .api_Atom]] }
def a99:FAnn U:={ pure:=true,pco:=[[some .api_Crack]],rco:=[[some .api_Crack]] }
def a103:FAnn U:={ live:=ofList none [(4,some ([(0,[some .api_Crack]),(1,[some .api_Crack]),(5,[])],[]))],pure:=true,scalar:=true,pco:=[[some .api_Crack],[some .api_Crack]] }
def a141:FAnn U:={ live:=ofList none [(4,some ([(0,[some .api_Op]),(4,[some .int]),(5,[some .int]),(6,[])],[(4,[]),(5,[])]))],op:=ofList (fun _=>{}) [(1,ofList {} [(0,{ slot:=some 4 })]),(2,ofList {} [(0,{ slot:=some 5 })]),(12,ofList {} [(3,{ slot:=some 5 })]),(13,ofList {} [(3,{ slot:=some 4 })])],pure:=true,pco:=[[some .api_Op]],rco:=[[some .int],[]] }
def a142:FAnn U:={ live:=ofList none [(3,some ([(0,[some .api_Op]),(3,[some .int]),(5,[])],[])),(8,some ([(0,[some .api_Op]),(3,[some .int]),(5,[]),(6,[]),(7,[])],[]))],pure:=true,scalar:=true,pco:=[[some .api_Op]] }
def a143:FAnn U:={ live:=ofList none [(3,some ([(0,[some .api_Op]),(3,[some .int]),(4,[])],[(3,[])])),(7,some ([(0,[some .api_Op]),(3,[some .int]),(4,[]),(5,[]),(6,[])],[(3,[])]))],op:=ofList (fun _=>{}) [(1,ofList {} [(0,{ slot:=some 3 })]),(11,ofList {} [(4,{ slot:=some 3 })])],trim:=ofList [] [(3,[(3,0)]),(7,[(3,0)])],pure:=true,scalar:=true,pco:=[[some .api_Op]] }
def a144:FAnn U:={ live:=ofList none [(5,some ([(5,[some .int]),(7,[some .int]),(8,[]),(9,[])],[(20,[])]))],pure:=true,pco:=[[some .api_Op],[]],rco:=[[some .int]] }
def a145:FAnn U:={ live:=ofList none [(2,some ([(0,[some .api_Op]),(3,[])],[]))],pure:=true,scalar:=true,pco:=[[some .api_Op]] }
def a146:FAnn U:={ live:=ofList none [(10,some ([(2,[some .oncewebref08_local]),(6,[]),(7,[]),(9,[])],[(6,[none,some .api_Atom,some .api_Crack]),(7,[]),(244,[])]))],op:=ofList (fun _=>{}) [(1,ofList {} [(3,{ sym:=some 227 })]),(2,ofList {} [(3,{ sym:=some 227 })]),(14,ofList {} [(0,{ co:=[none,some .api_Atom,some .api_Crack] })]),(16,ofList {} [(4,{ sym:=some 227 }),(11,{ sym:=some 227 })]),(17,ofList {} [(3,{ sym:=some 227 })]),(19,ofList {} [(3,{ sym:=some 227 })]),(20,ofList {} [(5,{ sym:=some 227 })]),(21,ofList {} [(0,{ co:=[none,some .api_Atom,some .api_Crack] })]),(32,ofList {} [(11,{ co:=[none,some .api_Atom] })]),(46,ofList {} [(1,{ sym:=some 0 }),(2,{ sym:=some 37 }),(4,{ sym:=some 0 }),(5,{ sym:=some 37 })]),(51,ofList {} [(4,{ co:=[none,some .api_Atom,some .api_Crack] })])],pco:=[[],[],[some .oncewebref08_local]],rco:=[[none,some .api_Atom,some .api_Crack]] }
def a147:FAnn U:={ live:=ofList none [(3,some ([(0,[some .api_Atom]),(3,[some .api_Op]),(4,[])],[(3,[])]))],op:=ofList (fun _=>{}) [(1,ofList {} [(0,{ own:=[(0,some 3,(.pure .api_Op))] })]),(6,ofList {} [(8,{ slot:=some 3 })]),(8,ofList {} [(8,{ slot:=some 3 })]),(10,ofList {} [(8,{ slot:=some 3 })])],pure:=true,pco:=[[some .api_Atom]],rco:=[[some .api_Op]] }
def a148:FAnn U:={ live:=ofList none [(5,some ([(0,[some .api_Op]),(1,[]),(2,[]),(7,[some .int]),(8,[])],[]))],pure:=true,scalar:=true,pco:=[[some .api_Op],[],[]] }
def a209:FAnn U:={ pure:=true,scalar:=true,own:=true,rco:=[[some .api_Op]] }
def a210:FAnn U:={ pco:=[[some .api_Op],[]] }
def a211:FAnn U:={ pure:=true,scalar:=true }
def a212:FAnn U:={ pure:=true,pco:=[[],[some .sl_api_Atom]],rco:=[[some .api_Atom],[],[]] }
def a213:FAnn U:={ live:=ofList none [(3,some ([(3,[some .api_Op]),(7,[some .api_Atom]),(8,[]),(9,[])],[(3,[])]))],op:=ofList (fun _=>{}) [(1,ofList {} [(0,{ own:=[(0,some 3,(.pure .api_Op))] })]),(11,ofList {} [(10,{ slot:=some 3 })])],pure:=true,pco:=[[some .api_Atom]],rco:=[[some .api_Op]] }
def a218:FAnn U:={ pure:=true,scalar:=true }
def a152:FAnn U:={ live:=ofList none [(2,some ([(0,[some .str]),(1,[]),(7,[]),(8,[])],[]))],pure:=true,scalar:=true,pco:=[[some .str],[]] }
def a219:FAnn U:={ live:=ofList none [(3,some ([(0,[]),(1,[])],[]))],pure:=true,scalar:=true }
def a220:FAnn U:={ pure:=true,scalar:=true }
def a177:FAnn U:={ pure:=true,scalar:=true,pco:=[[some .api_Atom]] }
def a178:FAnn U:={ pure:=true,scalar:=true,pco:=[[some .api_Crack]] }
def a189:FAnn U:={ live:=ofList none [(2,some ([(0,[some .str]),(1,[]),(7,[]),(8,[])],[]))],pco:=[[some .str],[]] }
def a221:FAnn U:={ pure:=true,rco:=[[none,some .api_Atom,some .api_Crack]] }
def a222:FAnn U:={ live:=ofList none [(1,some ([(0,[]),(1,[]),(3,[])],[]))] }
def a223:FAnn U:={ op:=ofList (fun _=>{}) [(2,ofList {} [(0,{ own:=[(0,some 2,(.pure .eval_local))] })])],pure:=true,scalar:=true,own:=true,pco:=[[some .eval_local]],rco:=[[some .eval_local]] }
def a224:FAnn U:={ pure:=true,scalar:=true }
def a214:FAnn U:={ pure:=true,scalar:=true }
def a107:FAnn U:={ live:=ofList none [(2,some ([(0,[some .api_Known]),(1,[]),(4,[]),(5,[])],[(4,[none,some .api_Atom,some .api_Crack])]))],pure:=true,pco:=[[some .api_Known],[]],rco:=[[none,some .api_Atom,some .api_Crack]] }
def a175:FAnn U:={ pure:=true,pco:=[[],[some .sl_api_Atom]],rco:=[[some .api_Atom],[],[]] }
def a182:FAnn U:={ pure:=true,rco:=[[none,some .api_Atom,some .api_Crack]] }
def a215:FAnn U:={ pure:=true,pco:=[[some .api_Atom]],rco:=[[none,some .api_Atom,some .api_Crack]] }
def a216:FAnn U:={ pure:=true,rco:=[[none,some .api_Atom,some .api_Crack]] }
def a217:FAnn U:={ live:=ofList none [(3,some ([(0,[]),(1,[some .int]),(2,[some .oncewebref08_local]),(7,[]),(9,[some .sl_api_Atom]),(10,[])],[(7,[none,some .api_Atom,some .api_Crack]),(9,[])]))],op:=ofList (fun _=>{}) [(1,ofList {} [(0,{ own:=[(0,some 9,(.pure .sl_api_Atom))] })]),(8,ofList {} [(4,{ slot:=some 9 })]),(9,ofList {} [(1,{ co:=[none,some .api_Atom,some .api_Crack] })])],pco:=[[],[some .int],[some .oncewebref08_local]],rco:=[[some .sl_api_Atom],[none,some .api_Atom,some .api_Crack],[]] }
def a261:FAnn U:={ live:=ofList none [(2,some ([(0,[some .api_Op]),(1,[]),(7,[]),(8,[])],[]))],pco:=[[some .api_Op],[]] }
def a262:FAnn U:={  }
def a263:FAnn U:={ live:=ofList none [(2,some ([(6,[some .sl_api_Atom]),(7,[]),(8,[])],[]))],pure:=true,scalar:=true,pco:=[[some .sl_api_Atom]] }
def a265:FAnn U:={ pure:=true,scalar:=true }
def a266:FAnn U:={ pure:=true,scalar:=true }
def a240:FAnn U:={ live:=ofList none [(3,some ([(4,[some .value_whole]),(5,[some .value_whole]),(16,[some .api_Atom]),(17,[]),(18,[])],[(5,[]),(14,[])])),(10,some ([(4,[some .value_whole]),(5,[some .value_whole]),(6,[]),(8,[]),(9,[]),(16,[some .api_Atom]),(17,[]),(18,[]),(42,[some .value_whole]),(43,[]),(44,[])],[(5,[]),(9,[]),(14,[])]))],op:=ofList (fun _=>{}) [(1,ofList {} [(3,{ slot:=some 5 })]),(19,ofList {} [(5,{ slot:=some 5 })])],pure:=true,pco:=[[some .api_Atom]],rco:=[[some .value_whole],[]] }
def a241:FAnn U:={ live:=ofList none [(3,some ([(4,[some .int]),(5,[some .int]),(12,[some .api_Crack]),(13,[]),(14,[])],[(5,[]),(10,[])]))],op:=ofList (fun _=>{}) [(1,ofList {} [(3,{ slot:=some 5 })]),(10,ofList {} [(12,{ slot:=some 5 })])],pure:=true,pco:=[[some .api_Crack]],rco:=[[some .int],[]] }
def a181:FAnn U:={ pure:=true,scalar:=true }
def a264:FAnn U:={ pure:=true,scalar:=true }
def a238:FAnn U:={ live:=ofList none [(2,some ([(0,[some .sl_api_Atom]),(3,[])],[]))],pure:=true,scalar:=true,pco:=[[some .sl_api_Atom]] }
def a239:FAnn U:={ pure:=true,pco:=[[],[some .sl_api_Atom]],rco:=[[some .api_Atom],[]] }
def a199:FAnn U:={ pure:=true,scalar:=true }
def a288:FAnn U:={ pure:=true,pco:=[[some .sl_api_Atom]],rco:=[[some .api_Atom],[]] }
def a289:FAnn U:={ pure:=true,pco:=[[some .sl_api_Atom]],rco:=[[some .api_Atom],[]] }
def a290:FAnn U:={ pure:=true,pco:=[[some .sl_api_Atom]],rco:=[[some .api_Atom],[]] }
def a291:FAnn U:={ pure:=true,pco:=[[some .sl_api_Atom]],rco:=[[some .api_Atom],[]] }
def a292:FAnn U:={ pure:=true,pco:=[[some .sl_api_Atom]],rco:=[[some .api_Atom],[]] }
def a293:FAnn U:={ pure:=true,pco:=[[some .sl_api_Atom]],rco:=[[some .api_Atom],[]] }
def a294:FAnn U:={ pure:=true,pco:=[[some .sl_api_Atom]],rco:=[[some .api_Atom],[]] }
def a295:FAnn U:={ pure:=true,pco:=[[some .sl_api_Atom]],rco:=[[some .api_Atom],[]] }
def a296:FAnn U:={ pure:=true,pco:=[[some .sl_api_Atom]],rco:=[[some .api_Atom],[]] }
def a280:FAnn U:={ pure:=true,scalar:=true }
def a281:FAnn U:={ pure:=true,scalar:=true }
def a244:FAnn U:={ live:=ofList none [(4,some ([(0,[]),(3,[])],[]))],pure:=true,scalar:=true }
def a245:FAnn U:={ pure:=true,rco:=[[some .str]] }
def a179:FAnn U:={ pure:=true,scalar:=true,pco:=[[some .api_Atom]] }
def a273:FAnn U:={ live:=ofList none [(3,some ([(0,[some .sl_api_Atom]),(4,[some .api_Atom]),(5,[])],[(4,[])]))],op:=ofList (fun _=>{}) [(1,ofList {} [(0,{ slot:=some 4 })]),(7,ofList {} [(5,{ slot:=some 4 })]),(8,ofList {} [(5,{ slot:=some 4 })])],pure:=true,pco:=[[some .sl_api_Atom]],rco:=[[some .api_Atom],[]] }
def a274:FAnn U:={ pure:=true,scalar:=true,pco:=[[some .api_Atom]] }
def a275:FAnn U:={ pure:=true,rco:=[[some .api_Atom],[]] }
def a276:FAnn U:={ live:=ofList none [(15,some ([(7,[some .sl_api_Atom]),(8,[some .sl_api_Atom]),(9,[])],[(49,[]),(51,[])]))],pure:=true,scalar:=true,pco:=[[some .api_Atom],[some .api_Atom]] }
def a277:FAnn U:={ live:=ofList none [(6,some ([(0,[some .api_Atom]),(3,[some .int]),(7,[some .sl_api_Atom]),(8,[]),(9,[])],[(20,[])]))],pure:=true,scalar:=true,own:=true,pco:=[[some .api_Atom]],rco:=[[some .sl_api_Atom]] }
def a278:FAnn U:={ pure:=true,rco:=[[some .api_Atom],[]] }
def a279:FAnn U:={ pure:=true,scalar:=true }
def a305:FAnn U:={ live:=ofList none [(3,some ([(0,[some .sl_api_Atom]),(4,[some .api_Atom]),(7,[some .sl_api_Atom]),(8,[]),(9,[])],[(4,[])]))],op:=ofList (fun _=>{}) [(1,ofList {} [(0,{ own:=[(0,some 4,(.pure .api_Atom))] })]),(7,ofList {} [(2,{ slot:=some 4 })]),(9,ofList {} [(5,{ slot:=some 4 })])],pure:=true,pco:=[[some .sl_api_Atom]],rco:=[[some .api_Atom],[]] }
def a306:FAnn U:={ pure:=true,scalar:=true,pco:=[[some .sl_api_Atom]] }
def a307:FAnn U:={ pure:=true,rco:=[[some .api_Atom],[]] }
def a308:FAnn U:={ pure:=true,scalar:=true }
def a309:FAnn U:={ pure:=true,scalar:=true,pco:=[[some .api_Atom]] }
def a310:FAnn U:={ live:=ofList none [(5,some ([(0,[some .api_Atom]),(3,[some .value_whole]),(5,[some .sl_api_Atom]),(6,[]),(7,[])],[(17,[])]))],pure:=true,scalar:=true,own:=true,pco:=[[some .api_Atom]],rco:=[[some .sl_api_Atom]] }
def a311:FAnn U:={ pure:=true,rco:=[[some .api_Atom],[]] }
def a312:FAnn U:={ pure:=true,scalar:=true,pco:=[[some .api_Atom],[some .api_Atom]] }
def a301:FAnn U:={ pure:=true,scalar:=true }
def a302:FAnn U:={ pure:=true,scalar:=true }
def a242:FAnn U:={ live:=ofList none [(5,some ([(0,[some .api_Atom]),(5,[some .int]),(6,[some .int]),(7,[some .int]),(8,[])],[(5,[]),(6,[]),(7,[])])),(15,some ([(0,[some .api_Atom]),(5,[some .int]),(6,[some .int]),(7,[some .int]),(8,[]),(9,[]),(10,[]),(11,[]),(12,[])],[(5,[]),(6,[]),(7,[])]))],op:=ofList (fun _=>{}) [(1,ofList {} [(0,{ slot:=some 5 })]),(2,ofList {} [(0,{ slot:=some 6 })]),(3,ofList {} [(0,{ slot:=some 7 })]),(20,ofList {} [(3,{ slot:=some 6 })]),(21,ofList {} [(4,{ slot:=some 7 })]),(22,ofList {} [(3,{ slot:=some 5 })])],pure:=true,pco:=[[some .api_Atom]],rco:=[[some .int],[],[]] }
def a299:FAnn U:={ pure:=true,rco:=[[some .api_Atom],[]] }
def a300:FAnn U:={ pure:=true,scalar:=true }
def a314:FAnn U:={ pco:=[[some .sl_api_Atom],[]] }
def a315:FAnn U:={ pure:=true,scalar:=true,pco:=[[some .api_Atom]] }
def a316:FAnn U:={ pure:=true,rco:=[[some .api_Atom],[]] }
def a317:FAnn U:={ pure:=true,scalar:=true }
def a318:FAnn U:={ pure:=true,scalar:=true }
def a319:FAnn U:={ live:=ofList none [(2,some ([(0,[some .sl_api_Atom]),(1,[some .sl_api_Atom]),(2,[]),(11,[some .sl_api_Atom]),(12,[]),(13,[])],[]))],pco:=[[some .sl_api_Atom],[some .sl_api_Atom],[]] }
def a282:FAnn U:={ pure:=true,scalar:=true }
def a321:FAnn U:={ live:=ofList none [(2,some ([(0,[some .sl_api_Atom]),(1,[]),(7,[]),(8,[])],[]))],pco:=[[some .sl_api_Atom],[]] }
def a322:FAnn U:={ pure:=true,scalar:=true }
def a323:FAnn U:={ pure:=true,scalar:=true }
def annL:List (Nat×FAnn U):=[(4,a4),(3,a3),(108,a108),(14,a14),(15,a15),(17,a17),(18,a18),(19,a19),(20,a20),(21,a21),(22,a22),(23,a23),(16,a16),(72,a72),(73,a73),(49,a49),(76,a76),(77,a77),(78,a78),(79,a79),(81,a81),(82,a82),(83,a83),(84,a84),(85,a85),(86,a86),(34,a34),(37,a37),(74,a74),(75,a75),(134,a134),(135,a135),(136,a136),(137,a137),(138,a138),(139,a139),(140,a140),(149,a149),(150,a150),(151,a151),(80,a80),(153,a153),(154,a154),(155,a155),(156,a156),(157,a157),(158,a158),(159,a159),(160,a160),(161,a161),(162,a162),(98,a98),(99,a99),(103,a103),(141,a141),(142,a142),(143,a143),(144,a144),(145,a145),(146,a146),(147,a147),(148,a148),(209,a209),(210,a210),(211,a211),(212,a212),(213,a213),(218,a218),(152,a152),(219,a219),(220,a220),(177,a177),(178,a178),(189,a189),(221,a221),(222,a222),(223,a223),(224,a224),(214,a214),(107,a107),(175,a175),(182,a182),(215,a215),(216,a216),(217,a217),(261,a261),(262,a262),(263,a263),(265,a265),(266,a266),(240,a240),(241,a241),(181,a181),(264,a264),(238,a238),(239,a239),(199,a199),(288,a288),(289,a289),(290,a290),(291,a291),(292,a292),(293,a293),(294,a294),(295,a295),(296,a296),(280,a280),(281,a281),(244,a244),(245,a245),(179,a179),(273,a273),(274,a274),(275,a275),(276,a276),(277,a277),(278,a278),(279,a279),(305,a305),(306,a306),(307,a307),(308,a308),(309,a309),(310,a310),(311,a311),(312,a312),(301,a301),(302,a302),(242,a242),(299,a299),(300,a300),(314,a314),(315,a315),(316,a316),(317,a317),(318,a318),(319,a319),(282,a282),(321,a321),(322,a322),(323,a323)]
noncomputable def K:Cfg where
 U:=U
 width:=width
 enc:=enc
 dec:=dec
 dflt:=dflt
 flat:=flat
 bytesC:=bytesC
 keyEq:=keyEq
 P:=Tryz.prog
 ti:=ofList none (tiL.map fun x=>(x.1,some x.2))
 vc:=ofList .ptr vcL
 kc:=ofList .int kcL
 meth:=methods
 glob:=ofList none (globL.map fun x=>(x.1,some x.2))
 ann:=ofList {} annL
 back:=ofList none [(222,some ⟨236,243,3,4,311⟩)]
structure WayS where
 x:List api_Op
 front:List Int
 known:Nat
 open':List ByteArray
 asked:Nat
 askedG:Nat
 askedS:Option (Nat×Nat)
 gate:ByteArray
structure WayR where
 x:List api_Op
 known:List api_Known
 open':List ByteArray
 asked:List ByteArray
 gate:ByteArray
structure Ans where
 R:Type
 enc:R→C U
def ansL:List (Nat×Ans):=[
 (4,⟨Bool,fun x=>.d (.bool x)⟩),
 (3,⟨Bool,fun x=>.d (.bool x)⟩),
 (108,⟨Bool,fun x=>.d (.bool x)⟩),
 (14,⟨(List api_Op),fun x=>.d (.sl .api_Op x)⟩),
 (15,⟨(List api_Op)×Int,fun x=>.tup [.osl .api_Op x.1,.d (.int .i64 x.2)]⟩),
 (17,⟨Bool,fun x=>.d (.bool x)⟩),
 (18,⟨Bool,fun x=>.d (.bool x)⟩),
 (19,⟨Int,fun x=>.d (.int .i64 x)⟩),
 (20,⟨api_Meaning×Int,fun x=>.tup [.agg [.d (.int .i64 x.1.gOutcome.gKind),.d (.sl .api_Atom x.1.gOutcome.gValue),.d (.sl .api_Crack x.1.gOutcome.gFail),.d (.str x.1.gGate),.d (.sl .str x.1.gAsked)],.d (.int .i64 x.2)]⟩),
 (21,⟨(List api_Known),fun x=>.d (.sl .api_Known x)⟩),
 (22,⟨(List ByteArray),fun x=>.osl .str x⟩),
 (23,⟨Bool,fun x=>.d (.bool x)⟩),
 (16,⟨(List api_Op)×Int,fun x=>.tup [.d (.sl .api_Op x.1),.d (.int .i64 x.2)]⟩),
 (72,⟨(List api_Op),fun x=>.osl .api_Op x⟩),
 (73,⟨(List api_Op),fun x=>.d (.sl .api_Op x)⟩),
 (49,⟨Bool,fun x=>.d (.bool x)⟩),
 (76,⟨Bool,fun x=>.d (.bool x)⟩),
 (77,⟨(List Int)×Bool,fun x=>.tup [.d (.sl .int x.1),.d (.bool x.2)]⟩),
 (78,⟨Bool,fun x=>.d (.bool x)⟩),
 (79,⟨Bool,fun x=>.d (.bool x)⟩),
 (81,⟨Int,fun x=>.d (.int .i64 x)⟩),
 (82,⟨Nat×Int,fun x=>.tup [.mp (.g x.1),.d (.int .i64 x.2)]⟩),
 (83,⟨(List Int),fun x=>.d (.sl .int x)⟩),
 (84,⟨api_Outcome,fun x=>.agg [.d (.int .i64 x.gKind),.d (.sl .api_Atom x.gValue),.d (.sl .api_Crack x.gFail)]⟩),
 (85,⟨(List api_Atom),fun x=>.d (.sl .api_Atom x)⟩),
 (86,⟨(List api_Crack),fun x=>.d (.sl .api_Crack x)⟩),
 (34,⟨api_Outcome,fun x=>.agg [.d (.int .i64 x.gKind),.d (.sl .api_Atom x.gValue),.d (.sl .api_Crack x.gFail)]⟩),
 (37,⟨Bool,fun x=>.d (.bool x)⟩),
 (74,⟨Int,fun x=>.d (.int .i64 x)⟩),
 (75,⟨(List api_Op),fun x=>.d (.sl .api_Op x)⟩),
 (134,⟨(List api_Op),fun x=>.d (.sl .api_Op x)⟩),
 (135,⟨(List (List api_Op)),fun x=>.osl .sl_api_Op x⟩),
 (136,⟨Bool,fun x=>.d (.bool x)⟩),
 (137,⟨(List api_Atom)×Bool,fun x=>.tup [.d (.sl .api_Atom x.1),.d (.bool x.2)]⟩),
 (138,⟨api_Atom,fun x=>.agg [.d (.int .i64 x.gKind),.d (.int .i64 x.gN),.d (.int .i64 x.gInt),.d (.str x.gText)]⟩),
 (139,⟨Bool,fun x=>.d (.bool x)⟩),
 (140,⟨(List api_Op),fun x=>.d (.sl .api_Op x)⟩),
 (149,⟨Bool,fun x=>.d (.bool x)⟩),
 (150,⟨(List Int),fun x=>.d (.sl .int x)⟩),
 (151,⟨(List ByteArray),fun x=>.osl .str x⟩),
 (80,⟨Bool,fun x=>.d (.bool x)⟩),
 (153,⟨Bool,fun x=>.d (.bool x)⟩),
 (154,⟨Bool,fun x=>.d (.bool x)⟩),
 (155,⟨Bool,fun x=>.d (.bool x)⟩),
 (156,⟨Bool,fun x=>.d (.bool x)⟩),
 (157,⟨(List Int),fun x=>.d (.sl .int x)⟩),
 (158,⟨api_Outcome,fun x=>.agg [.d (.int .i64 x.gKind),.d (.sl .api_Atom x.gValue),.d (.sl .api_Crack x.gFail)]⟩),
 (159,⟨api_Outcome,fun x=>.agg [.d (.int .i64 x.gKind),.d (.sl .api_Atom x.gValue),.d (.sl .api_Crack x.gFail)]⟩),
 (160,⟨Nat,fun x=>.fp 222 [] [.ptr (.g x) 0]⟩),
 (161,⟨api_Outcome,fun x=>.agg [.d (.int .i64 x.gKind),.d (.sl .api_Atom x.gValue),.d (.sl .api_Crack x.gFail)]⟩),
 (162,⟨api_Outcome,fun x=>.agg [.d (.int .i64 x.gKind),.d (.sl .api_Atom x.gValue),.d (.sl .api_Crack x.gFail)]⟩),
 (98,⟨(List api_Atom),fun x=>.d (.sl .api_Atom x)⟩),
 (99,⟨(List api_Crack),fun x=>.d (.sl .api_Crack x)⟩),
 (103,⟨Bool,fun x=>.d (.bool x)⟩),
 (141,⟨(List Int)×Bool,fun x=>.tup [.d (.sl .int x.1),.d (.bool x.2)]⟩),
 (142,⟨Bool,fun x=>.d (.bool x)⟩),
 (143,⟨Int,fun x=>.d (.int .i64 x)⟩),
 (144,⟨(List Int),fun x=>.d (.sl .int x)⟩),
 (145,⟨Bool,fun x=>.d (.bool x)⟩),
 (146,⟨api_Outcome,fun x=>.agg [.d (.int .i64 x.gKind),.d (.sl .api_Atom x.gValue),.d (.sl .api_Crack x.gFail)]⟩),
 (147,⟨(List api_Op),fun x=>.d (.sl .api_Op x)⟩),
 (148,⟨Bool,fun x=>.d (.bool x)⟩),
 (209,⟨(List api_Op),fun x=>.osl .api_Op x⟩),
 (210,⟨Bool,fun x=>.d (.bool x)⟩),
 (211,⟨Bool,fun x=>.d (.bool x)⟩),
 (212,⟨(List api_Atom)×Bool×Int,fun x=>.tup [.d (.sl .api_Atom x.1),.d (.bool x.2.1),.d (.int .i64 x.2.2)]⟩),
 (213,⟨(List api_Op),fun x=>.d (.sl .api_Op x)⟩),
 (218,⟨Int,fun x=>.d (.int .i64 x)⟩),
 (152,⟨Int,fun x=>.d (.int .i64 x)⟩),
 (219,⟨Int,fun x=>.d (.int .i64 x)⟩),
 (220,⟨Bool,fun x=>.d (.bool x)⟩),
 (177,⟨Int,fun x=>.d (.int .i64 x)⟩),
 (178,⟨Int,fun x=>.d (.int .i64 x)⟩),
 (189,⟨Int,fun x=>.d (.int .i64 x)⟩),
 (221,⟨api_Outcome,fun x=>.agg [.d (.int .i64 x.gKind),.d (.sl .api_Atom x.gValue),.d (.sl .api_Crack x.gFail)]⟩),
 (222,⟨Unit,fun _=>.tup []⟩),
 (223,⟨(List eval_local),fun x=>.osl .eval_local x⟩),
 (224,⟨ByteArray,fun x=>.d (.str x)⟩),
 (214,⟨Bool,fun x=>.d (.bool x)⟩),
 (107,⟨api_Outcome,fun x=>.agg [.d (.int .i64 x.gKind),.d (.sl .api_Atom x.gValue),.d (.sl .api_Crack x.gFail)]⟩),
 (175,⟨(List api_Atom)×Bool×Int,fun x=>.tup [.d (.sl .api_Atom x.1),.d (.bool x.2.1),.d (.int .i64 x.2.2)]⟩),
 (182,⟨api_Outcome,fun x=>.agg [.d (.int .i64 x.gKind),.d (.sl .api_Atom x.gValue),.d (.sl .api_Crack x.gFail)]⟩),
 (215,⟨api_Outcome,fun x=>.agg [.d (.int .i64 x.gKind),.d (.sl .api_Atom x.gValue),.d (.sl .api_Crack x.gFail)]⟩),
 (216,⟨api_Outcome,fun x=>.agg [.d (.int .i64 x.gKind),.d (.sl .api_Atom x.gValue),.d (.sl .api_Crack x.gFail)]⟩),
 (217,⟨(List (List api_Atom))×api_Outcome×Bool,fun x=>.tup [.d (.sl .sl_api_Atom x.1),.agg [.d (.int .i64 x.2.1.gKind),.d (.sl .api_Atom x.2.1.gValue),.d (.sl .api_Crack x.2.1.gFail)],.d (.bool x.2.2)]⟩),
 (261,⟨Int,fun x=>.d (.int .i64 x)⟩),
 (262,⟨Int×Nat,fun x=>.tup [.d (.int .i64 x.1),.fp x.2 [] []]⟩),
 (263,⟨Int,fun x=>.d (.int .i64 x)⟩),
 (265,⟨Bool,fun x=>.d (.bool x)⟩),
 (266,⟨Bool,fun x=>.d (.bool x)⟩),
 (240,⟨(List value_whole)×Bool,fun x=>.tup [.d (.sl .value_whole x.1),.d (.bool x.2)]⟩),
 (241,⟨(List Int)×Bool,fun x=>.tup [.d (.sl .int x.1),.d (.bool x.2)]⟩),
 (181,⟨Bool,fun x=>.d (.bool x)⟩),
 (264,⟨Int,fun x=>.d (.int .i64 x)⟩),
 (238,⟨Int,fun x=>.d (.int .i64 x)⟩),
 (239,⟨(List api_Atom)×Bool,fun x=>.tup [.d (.sl .api_Atom x.1),.d (.bool x.2)]⟩),
 (199,⟨ByteArray,fun x=>.d (.str x)⟩),
 (288,⟨(List api_Atom)×Bool,fun x=>.tup [.d (.sl .api_Atom x.1),.d (.bool x.2)]⟩),
 (289,⟨(List api_Atom)×Bool,fun x=>.tup [.d (.sl .api_Atom x.1),.d (.bool x.2)]⟩),
 (290,⟨(List api_Atom)×Bool,fun x=>.tup [.d (.sl .api_Atom x.1),.d (.bool x.2)]⟩),
 (291,⟨(List api_Atom)×Bool,fun x=>.tup [.d (.sl .api_Atom x.1),.d (.bool x.2)]⟩),
 (292,⟨(List api_Atom)×Bool,fun x=>.tup [.d (.sl .api_Atom x.1),.d (.bool x.2)]⟩),
 (293,⟨(List api_Atom)×Bool,fun x=>.tup [.d (.sl .api_Atom x.1),.d (.bool x.2)]⟩),
 (294,⟨(List api_Atom)×Bool,fun x=>.tup [.d (.sl .api_Atom x.1),.d (.bool x.2)]⟩),
 (295,⟨(List api_Atom)×Bool,fun x=>.tup [.d (.sl .api_Atom x.1),.d (.bool x.2)]⟩),
 (296,⟨(List api_Atom)×Bool,fun x=>.tup [.d (.sl .api_Atom x.1),.d (.bool x.2)]⟩),
 (280,⟨Bool,fun x=>.d (.bool x)⟩),
 (281,⟨Bool,fun x=>.d (.bool x)⟩),
 (244,⟨Bool,fun x=>.d (.bool x)⟩),
 (245,⟨(List ByteArray),fun x=>.d (.sl .str x)⟩),
 (179,⟨Int,fun x=>.d (.int .i64 x)⟩),
 (273,⟨(List api_Atom)×Bool,fun x=>.tup [.d (.sl .api_Atom x.1),.d (.bool x.2)]⟩),
 (274,⟨api_Atom,fun x=>.agg [.d (.int .i64 x.gKind),.d (.int .i64 x.gN),.d (.int .i64 x.gInt),.d (.str x.gText)]⟩),
 (275,⟨(List api_Atom)×Bool,fun x=>.tup [.d (.sl .api_Atom x.1),.d (.bool x.2)]⟩),
 (276,⟨Int,fun x=>.d (.int .i64 x)⟩),
 (277,⟨(List (List api_Atom)),fun x=>.osl .sl_api_Atom x⟩),
 (278,⟨(List api_Atom)×Int,fun x=>.tup [.d (.sl .api_Atom x.1),.d (.int .i64 x.2)]⟩),
 (279,⟨Int,fun x=>.d (.int .i64 x)⟩),
 (305,⟨(List api_Atom)×Bool,fun x=>.tup [.d (.sl .api_Atom x.1),.d (.bool x.2)]⟩),
 (306,⟨Bool,fun x=>.d (.bool x)⟩),
 (307,⟨(List api_Atom)×Bool,fun x=>.tup [.d (.sl .api_Atom x.1),.d (.bool x.2)]⟩),
 (308,⟨Int,fun x=>.d (.int .i64 x)⟩),
 (309,⟨api_Atom,fun x=>.agg [.d (.int .i64 x.gKind),.d (.int .i64 x.gN),.d (.int .i64 x.gInt),.d (.str x.gText)]⟩),
 (310,⟨(List (List api_Atom)),fun x=>.osl .sl_api_Atom x⟩),
 (311,⟨(List api_Atom)×Bool,fun x=>.tup [.d (.sl .api_Atom x.1),.d (.bool x.2)]⟩),
 (312,⟨Int,fun x=>.d (.int .i64 x)⟩),
 (301,⟨Int,fun x=>.d (.int .i64 x)⟩),
 (302,⟨Bool,fun x=>.d (.bool x)⟩),
 (242,⟨(List Int)×Int×Bool,fun x=>.tup [.d (.sl .int x.1),.d (.int .i64 x.2.1),.d (.bool x.2.2)]⟩),
 (299,⟨(List api_Atom)×Int,fun x=>.tup [.d (.sl .api_Atom x.1),.d (.int .i64 x.2)]⟩),
 (300,⟨Int,fun x=>.d (.int .i64 x)⟩),
 (314,⟨Bool,fun x=>.d (.bool x)⟩),
 (315,⟨Bool,fun x=>.d (.bool x)⟩),
 (316,⟨(List api_Atom)×Int,fun x=>.tup [.d (.sl .api_Atom x.1),.d (.int .i64 x.2)]⟩),
 (317,⟨Int,fun x=>.d (.int .i64 x)⟩),
 (318,⟨Int,fun x=>.d (.int .i64 x)⟩),
 (319,⟨Int,fun x=>.d (.int .i64 x)⟩),
 (282,⟨Bool,fun x=>.d (.bool x)⟩),
 (321,⟨Int,fun x=>.d (.int .i64 x)⟩),
 (322,⟨Bool,fun x=>.d (.bool x)⟩),
 (323,⟨Int,fun x=>.d (.int .i64 x)⟩)]
def ans:Nat→Ans:=ofList (⟨Unit,fun _=>.tup []⟩:Ans) ansL
def ansT:List (Nat×Ans):=[
 (3,⟨Int,fun x=>.d (.int .i64 x)⟩),
 (4,⟨Bool,fun x=>.d (.bool x)⟩),
 (5,⟨Int,fun x=>.d (.int .u8 x)⟩),
 (9,⟨ByteArray,fun x=>.d (.str x)⟩),
 (23,⟨(List api_Op),fun x=>.d (.sl .api_Op x)⟩),
 (25,⟨Int,fun x=>.d (.int .i64 x)⟩),
 (26,⟨(List api_Op)×Int,fun x=>.tup [.d (.sl .api_Op x.1),.d (.int .i64 x.2)]⟩),
 (30,⟨api_Op,fun x=>.agg [.d (.int .i64 x.gKind),.d (.int .i64 x.gN),.d (.int .i64 x.gInt),.d (.str x.gText)]⟩),
 (33,⟨(List api_Known),fun x=>.d (.sl .api_Known x)⟩),
 (34,⟨(List ByteArray),fun x=>.d (.sl .str x)⟩),
 (37,⟨(List api_Atom),fun x=>.d (.sl .api_Atom x)⟩),
 (39,⟨(List api_Crack),fun x=>.d (.sl .api_Crack x)⟩),
 (41,⟨api_Outcome,fun x=>.agg [.d (.int .i64 x.gKind),.d (.sl .api_Atom x.gValue),.d (.sl .api_Crack x.gFail)]⟩),
 (43,⟨api_Meaning,fun x=>.agg [.d (.int .i64 x.gOutcome.gKind),.d (.sl .api_Atom x.gOutcome.gValue),.d (.sl .api_Crack x.gOutcome.gFail),.d (.str x.gGate),.d (.sl .str x.gAsked)]⟩),
 (44,⟨api_Meaning×Int,fun x=>.tup [.agg [.d (.int .i64 x.1.gOutcome.gKind),.d (.sl .api_Atom x.1.gOutcome.gValue),.d (.sl .api_Crack x.1.gOutcome.gFail),.d (.str x.1.gGate),.d (.sl .str x.1.gAsked)],.d (.int .i64 x.2)]⟩),
 (51,⟨(List api_Instr),fun x=>.d (.sl .api_Instr x)⟩),
 (57,⟨(List (List api_Atom)),fun x=>.d (.sl .sl_api_Atom x)⟩),
 (66,⟨api_Instr,fun x=>.agg [.d (.int .i64 x.gOp),.d (.int .i64 x.gA),.d (.str x.gText)]⟩),
 (84,⟨api_Atom,fun x=>.agg [.d (.int .i64 x.gKind),.d (.int .i64 x.gN),.d (.int .i64 x.gInt),.d (.str x.gText)]⟩),
 (98,⟨(List api_Instr)×Int,fun x=>.tup [.d (.sl .api_Instr x.1),.d (.int .i64 x.2)]⟩),
 (100,⟨(List Int),fun x=>.d (.sl .int x)⟩),
 (101,⟨(List api_Own),fun x=>.d (.sl .api_Own x)⟩),
 (102,⟨anon_102,fun x=>.agg [.d (.sl .int x.gParents),.d (.sl .api_Own x.gCells),.d (.sl .str x.gOpen)]⟩),
 (103,⟨api_World,fun x=>.agg [.d (.sl .int x.gParents),.d (.sl .api_Own x.gCells),.d (.sl .str x.gOpen)]⟩),
 (105,⟨anon_105,fun x=>.agg [.d (.int .i64 x.gAt),.d (.int .i64 x.gCode)]⟩),
 (106,⟨api_Fault,fun x=>.agg [.d (.int .i64 x.gAt),.d (.int .i64 x.gCode)]⟩),
 (113,⟨(List api_Lone),fun x=>.d (.sl .api_Lone x)⟩),
 (114,⟨(List api_Lone)×api_Fault,fun x=>.tup [.d (.sl .api_Lone x.1),.agg [.d (.int .i64 x.2.gAt),.d (.int .i64 x.2.gCode)]]⟩),
 (117,⟨anon_117,fun x=>.agg [.d (.int .i64 x.gOut.gKind),.d (.sl .api_Atom x.gOut.gValue),.d (.sl .api_Crack x.gOut.gFail),.d (.str x.gGate),.d (.sl .int x.gRuns)]⟩),
 (118,⟨api_Lone,fun x=>.agg [.d (.int .i64 x.gOut.gKind),.d (.sl .api_Atom x.gOut.gValue),.d (.sl .api_Crack x.gOut.gFail),.d (.str x.gGate),.d (.sl .int x.gRuns)]⟩),
 (121,⟨api_Lone×api_Fault,fun x=>.tup [.agg [.d (.int .i64 x.1.gOut.gKind),.d (.sl .api_Atom x.1.gOut.gValue),.d (.sl .api_Crack x.1.gOut.gFail),.d (.str x.1.gGate),.d (.sl .int x.1.gRuns)],.agg [.d (.int .i64 x.2.gAt),.d (.int .i64 x.2.gCode)]]⟩),
 (127,⟨api_Policy,fun x=>.agg [.d (.int .i64 x.gTries),.d (.int .i64 x.gBase),.d (.int .i64 x.gFactor),.d (.int .i64 x.gCap)]⟩),
 (129,⟨api_Closer,fun x=>.agg [.d (.int .i64 x.gKind),.d (.str x.gText)]⟩),
 (131,⟨api_Provider,fun x=>.agg [.d (.str x.gName),.d (.sl .api_Op x.gExpr),.d (.bool x.gAgain),.d (.int .i64 x.gPolicy.gTries),.d (.int .i64 x.gPolicy.gBase),.d (.int .i64 x.gPolicy.gFactor),.d (.int .i64 x.gPolicy.gCap),.d (.int .i64 x.gCloser.gKind),.d (.str x.gCloser.gText)]⟩),
 (133,⟨api_Own,fun x=>.agg [.d (.int .i64 x.gScope),.d (.str x.gProvider.gName),.d (.sl .api_Op x.gProvider.gExpr),.d (.bool x.gProvider.gAgain),.d (.int .i64 x.gProvider.gPolicy.gTries),.d (.int .i64 x.gProvider.gPolicy.gBase),.d (.int .i64 x.gProvider.gPolicy.gFactor),.d (.int .i64 x.gProvider.gPolicy.gCap),.d (.int .i64 x.gProvider.gCloser.gKind),.d (.str x.gProvider.gCloser.gText)]⟩),
 (140,⟨(List (List api_Op)),fun x=>.d (.sl .sl_api_Op x)⟩),
 (144,⟨api_Known,fun x=>.agg [.d (.str x.gName),.d (.int .i64 x.gOutcome.gKind),.d (.sl .api_Atom x.gOutcome.gValue),.d (.sl .api_Crack x.gOutcome.gFail)]⟩),
 (146,⟨(List Int)×Bool,fun x=>.tup [.d (.sl .int x.1),.d (.bool x.2)]⟩),
 (163,⟨api_Crack,fun x=>.agg [.d (.int .i64 x.gKind),.d (.int .i64 x.gN),.d (.str x.gText)]⟩),
 (179,⟨api_Outcome×Bool,fun x=>.tup [.agg [.d (.int .i64 x.1.gKind),.d (.sl .api_Atom x.1.gValue),.d (.sl .api_Crack x.1.gFail)],.d (.bool x.2)]⟩),
 (220,⟨(List api_Atom)×Bool,fun x=>.tup [.d (.sl .api_Atom x.1),.d (.bool x.2)]⟩),
 (236,⟨(List eval_local),fun x=>.d (.sl .eval_local x)⟩),
 (243,⟨eval_local,fun x=>.agg [.d (.str x.gName),.d (.sl .api_Atom x.gV)]⟩),
 (264,⟨(List api_Atom)×Bool×Int,fun x=>.tup [.d (.sl .api_Atom x.1),.d (.bool x.2.1),.d (.int .i64 x.2.2)]⟩),
 (303,⟨(List oncewebref08_local),fun x=>.d (.sl .oncewebref08_local x)⟩),
 (305,⟨oncewebref08_local,fun x=>.agg [.d (.str x.gName),.d (.sl .api_Atom x.gV)]⟩),
 (307,⟨(List (List api_Atom))×api_Outcome×Bool,fun x=>.tup [.d (.sl .sl_api_Atom x.1),.agg [.d (.int .i64 x.2.1.gKind),.d (.sl .api_Atom x.2.1.gValue),.d (.sl .api_Crack x.2.1.gFail)],.d (.bool x.2.2)]⟩),
 (333,⟨(List value_whole),fun x=>.d (.sl .value_whole x)⟩),
 (334,⟨(List value_whole)×Bool,fun x=>.tup [.d (.sl .value_whole x.1),.d (.bool x.2)]⟩),
 (337,⟨(List Int)×Int×Bool,fun x=>.tup [.d (.sl .int x.1),.d (.int .i64 x.2.1),.d (.bool x.2.2)]⟩),
 (361,⟨(List api_Atom)×Int,fun x=>.tup [.d (.sl .api_Atom x.1),.d (.int .i64 x.2)]⟩),
 (365,⟨value_whole,fun x=>.agg [.d (.int .i64 x.gFrom),.d (.int .i64 x.gDeep)]⟩),
 (372,⟨(List (List api_Atom)),fun x=>.d (.sl .sl_api_Atom x)⟩)]
def ant:Nat→Ans:=ofList (⟨Unit,fun _=>.tup []⟩:Ans) ansT
structure ShpA where
 T:Type
 enc:T→List (C U)
def shpL:List (Nat×ShpA):=[(158,⟨WayS,fun x=>[.d (.sl .api_Op x.x),.d (.sl .int x.front),.mp (.g x.known),.d (.sl .str x.open'),.asl (.g x.asked) x.askedG x.askedS false,.d (.str x.gate)]⟩),
 (23,⟨List api_Op,fun x=>[.d (.sl .api_Op x)]⟩),
 (227,⟨WayR,fun x=>[.d (.sl .api_Op x.x),.d (.sl .api_Known x.known),.d (.sl .str x.open'),.d (.sl .str x.asked),.d (.str x.gate)]⟩)]
def shp:Nat→ShpA:=ofList (⟨Unit,fun _=>[]⟩:ShpA) shpL
noncomputable def Sh:Shp K where
 T:=fun t=>(shp t).T
 enc:=fun t=>(shp t).enc
structure AnsH where
 R:Type
 enc:List (O U)→R→List (O U)
def ansHL:List (Nat×AnsH):=[(20,⟨List (O U),fun _ y=>y⟩),
 (82,⟨List (O U),fun _ y=>y⟩),
 (84,⟨List (O U),fun _ y=>y⟩),
 (159,⟨List (O U),fun _ y=>y⟩),
 (160,⟨List (O U),fun _ y=>y⟩),
 (161,⟨List (O U),fun _ y=>y⟩),
 (146,⟨List (O U),fun _ y=>y⟩),
 (217,⟨List (O U),fun _ y=>y⟩)]
def ansH:Nat→AnsH:=ofList (⟨Unit,fun H _=>H⟩:AnsH) ansHL
noncomputable def Rs:Res K where
 R:=fun f=>(ans f).R
 enc:=fun f=>(ans f).enc
 RH:=fun f=>(ansH f).R
 encH:=fun f=>(ansH f).enc
 RT:=fun t=>(ant t).R
 encT:=fun t=>(ant t).enc
end Go.Proofs.YtopifagbbmhgfaaGreatDoor.V
