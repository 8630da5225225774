/- DEFINITIONS ALONE: the types and functions of this program, and remarks on how to walk them. Conditions: none. (Written by a program of mine, mkcfg.py.) -/
import Derived.Test.YtopifagbbmhgfaaGreatDoorC0
import Derived.Test.YtopifagbbmhgfaaGreatDoorProg
namespace Go.Proofs.YtopifagbbmhgfaaGreatDoor.V
set_option linter.unusedVariables false
set_option linter.unusedSimpArgs false
open Go Go.Abs
def tiL:List (Nat×TI):=[
 (3,⟨.int .i64,1,8,[.int .i64]⟩),
 (4,⟨.bool,1,1,[.bool]⟩),
 (5,⟨.int .u8,1,1,[.int .u8]⟩),
 (9,⟨.str,1,16,[.str]⟩),
 (23,⟨.slice 30,1,24,[.nils]⟩),
 (25,⟨.int .i64,1,8,[.int .i64]⟩),
 (30,⟨.strct [(3,0),(3,1),(3,2),(9,3)],4,40,[.int .i64,.int .i64,.int .i64,.str]⟩),
 (34,⟨.slice 9,1,24,[.nils]⟩),
 (37,⟨.slice 84,1,24,[.nils]⟩),
 (39,⟨.slice 163,1,24,[.nils]⟩),
 (41,⟨.strct [(3,0),(37,1),(39,2)],3,56,[.int .i64,.nils,.nils]⟩),
 (51,⟨.slice 66,1,24,[.nils]⟩),
 (54,⟨.ptr 167,1,8,[.nilp]⟩),
 (57,⟨.slice 37,1,24,[.nils]⟩),
 (66,⟨.strct [(3,0),(3,1),(9,2)],3,32,[.int .i64,.int .i64,.str]⟩),
 (71,⟨.strct [(3,0),(9,1),(41,2)],5,80,[.int .i64,.str,.int .i64,.nils,.nils]⟩),
 (84,⟨.strct [(3,0),(3,1),(3,2),(9,3)],4,40,[.int .i64,.int .i64,.int .i64,.str]⟩),
 (87,⟨.slice 41,1,24,[.nils]⟩),
 (91,⟨.slice 71,1,24,[.nils]⟩),
 (97,⟨.func,1,8,[.nilf]⟩),
 (99,⟨.func,1,8,[.nilf]⟩),
 (100,⟨.slice 3,1,24,[.nils]⟩),
 (101,⟨.slice 133,1,24,[.nils]⟩),
 (102,⟨.strct [(100,0),(101,1),(34,2)],3,72,[.nils,.nils,.nils]⟩),
 (105,⟨.strct [(3,0),(25,1)],2,16,[.int .i64,.int .i64]⟩),
 (106,⟨.strct [(3,0),(25,1)],2,16,[.int .i64,.int .i64]⟩),
 (108,⟨.func,1,8,[.nilf]⟩),
 (109,⟨.func,1,8,[.nilf]⟩),
 (110,⟨.func,1,8,[.nilf]⟩),
 (111,⟨.func,1,8,[.nilf]⟩),
 (112,⟨.func,1,8,[.nilf]⟩),
 (115,⟨.func,1,8,[.nilf]⟩),
 (116,⟨.func,1,8,[.nilf]⟩),
 (117,⟨.strct [(41,0),(9,3),(100,4)],5,96,[.int .i64,.nils,.nils,.str,.nils]⟩),
 (120,⟨.func,1,8,[.nilf]⟩),
 (122,⟨.func,1,8,[.nilf]⟩),
 (127,⟨.strct [(3,0),(3,1),(3,2),(3,3)],4,32,[.int .i64,.int .i64,.int .i64,.int .i64]⟩),
 (129,⟨.strct [(3,0),(9,1)],2,24,[.int .i64,.str]⟩),
 (131,⟨.strct [(9,0),(23,1),(4,2),(127,3),(129,7)],9,104,[.str,.nils,.bool,.int .i64,.int .i64,.int .i64,.int .i64,.int .i64,.str]⟩),
 (133,⟨.strct [(3,0),(131,1)],10,112,[.int .i64,.str,.nils,.bool,.int .i64,.int .i64,.int .i64,.int .i64,.int .i64,.str]⟩),
 (163,⟨.strct [(3,0),(3,1),(9,2)],3,32,[.int .i64,.int .i64,.str]⟩),
 (165,⟨.slice 178,1,24,[.nils]⟩),
 (167,⟨.strct [(51,0),(3,1),(3,2),(3,3),(57,4),(57,5),(165,6),(41,7),(4,10)],11,184,[.nils,.int .i64,.int .i64,.int .i64,.nils,.nils,.nils,.int .i64,.nils,.nils,.bool]⟩),
 (178,⟨.strct [(3,0),(57,1),(57,2)],3,56,[.int .i64,.nils,.nils]⟩),
 (313,⟨.slice 316,1,24,[.nils]⟩),
 (314,⟨.slice 352,1,24,[.nils]⟩),
 (316,⟨.strct [(4,0),(3,1),(314,2)],3,40,[.bool,.int .i64,.nils]⟩),
 (318,⟨.func,1,8,[.nilf]⟩),
 (333,⟨.slice 365,1,24,[.nils]⟩),
 (345,⟨.func,1,8,[.nilf]⟩),
 (349,⟨.arr 19 9,19,304,List.replicate 19 (.str)⟩),
 (352,⟨.strct [(3,0),(3,1),(3,2)],3,24,[.int .i64,.int .i64,.int .i64]⟩),
 (359,⟨.func,1,8,[.nilf]⟩),
 (365,⟨.strct [(3,0),(3,1)],2,16,[.int .i64,.int .i64]⟩),
 (372,⟨.slice 37,1,24,[.nils]⟩),
 (377,⟨.func,1,8,[.nilf]⟩),
 (378,⟨.func,1,8,[.nilf]⟩),
 (380,⟨.arr 12 3,12,96,List.replicate 12 (.int .i64)⟩),
 (381,⟨.arr 10 9,10,160,List.replicate 10 (.str)⟩),
 (383,⟨.func,1,8,[.nilf]⟩),
 (386,⟨.func,1,8,[.nilf]⟩)]
def vcL:List (Nat×Vc U):=[
 (3,(.pure .int)),(9,(.pure .str)),(30,(.pure .api_Op)),(37,(.pure .sl_api_Atom)),(41,(.pure .api_Outcome)),(66,(.pure .api_Instr)),(71,(.pure .api_Event)),(84,(.pure .api_Atom)),(133,(.pure .api_Own)),(163,(.pure .api_Crack)),(178,(.pure .machine_catch)),(316,(.pure .code_state)),(352,(.pure .code_mark)),(365,(.pure .value_whole))]
def kcL:List (Nat×Ty):=[]
def methods:Nat→String→Option Nat
 | _,_=>none
def globL:List (Nat×List (D U)):=[(0,[.str (bs [99,101,108,108]),.str (bs [97,103,97,105,110]),.str (bs [116,114,105,101,115]),.str (bs [98,97,115,101]),.str (bs [102,97,99,116,111,114]),.str (bs [99,97,112]),.str (bs [99,108,111,115,101]),.str (bs [102,105,110,101]),.str (bs [102,97,105,108]),.str (bs [112,97,110,105,99]),.str (bs [105,102]),.str (bs [116,104,101,110]),.str (bs [101,108,115,101]),.str (bs [116,114,121]),.str (bs [119,97,105,116]),.str (bs [108,101,116]),.str (bs [105,110]),.str (bs [105,116,101,109]),.str (bs [115,105,122,101])]),(1,[.int .i64 0,.int .i64 1,.int .i64 1,.int .i64 1,.int .i64 1,.int .i64 1,.int .i64 1,.int .i64 1,.int .i64 2,.int .i64 3,.int .i64 4,.int .i64 1]),(2,[.str (bs [108,105,115,116]),.str (bs [97,100,100]),.str (bs [115,117,98]),.str (bs [109,117,108]),.str (bs [106,111,105,110]),.str (bs [105,116,101,109]),.str (bs [115,105,122,101]),.str (bs [105,102]),.str (bs [102,97,105,108]),.str (bs [112,97,110,105,99])])]
def a6:FAnn U:={ live:=ofList none [(8,some ([(0,[some .api_Instr]),(1,[some .api_Outcome]),(2,[]),(7,[]),(9,[])],[])),(18,some ([(0,[some .api_Instr]),(1,[some .api_Outcome]),(7,[]),(9,[]),(12,[]),(13,[]),(14,[]),(15,[some .api_Event]),(16,[])],[(15,[])])),(25,some ([(1,[some .api_Outcome]),(7,[]),(9,[]),(12,[]),(15,[some .api_Event]),(102,[]),(103,[])],[(15,[])]))],op:=ofList (fun _=>{}) [(16,ofList {} [(0,{ own:=[(0,some 15,(.pure .api_Event))] })]),(19,ofList {} [(3,{ slot:=some 15 })])],split:=ofList false [(22,true),(31,true)],pure:=true,scalar:=true,pco:=[[some .api_Instr],[some .api_Outcome],[]] }
def a24:FAnn U:={ split:=ofList false [(7,true)],pure:=true,scalar:=true }
def a25:FAnn U:={ pure:=true,pco:=[[some .api_Instr]],rco:=[[some .api_Instr]] }
def a26:FAnn U:={ op:=ofList (fun _=>{}) [(4,ofList {} [(2,{ own:=[(4,none,(.pure .sl_api_Atom)),(5,none,(.pure .sl_api_Atom)),(6,none,(.pure .machine_catch))],co:=[some .api_Instr,none,none,none,none,none,none,none,some .api_Atom,some .api_Crack],sym:=some 167 }),(3,{ glob:=true,sym:=some 167 })])],pco:=[[some .api_Instr]] }
def a29:FAnn U:={ pure:=true,scalar:=true }
def a32:FAnn U:={ pure:=true,scalar:=true,pco:=[[none,none,none,some .api_Atom,some .api_Crack],[none,none,none,some .api_Atom,some .api_Crack]] }
def a40:FAnn U:={ op:=ofList (fun _=>{}) [(1,ofList {} [(2,{ sym:=some 167 }),(3,{ glob:=true,co:=[some .api_Instr,none,none,none,none,none,none,none,some .api_Atom,some .api_Crack,none],sym:=some 167 }),(4,{ sym:=some 9004 })]),(2,ofList {} [(3,{ sym:=some 167 }),(8,{ sym:=some 167 }),(13,{ sym:=some 167 }),(18,{ sym:=some 167 }),(21,{ sym:=some 9005 }),(23,{ sym:=some 9006 }),(25,{ sym:=some 9007 }),(27,{ sym:=some 9008 })])],perm:=ofList [] [(2,[0,1,2,3,5,6,7,8,10,11,12,13,15,16,17,18,4,9,14,19,20,21,22,23,24,25,26,27])] }
def a42:FAnn U:={ split:=ofList false [(4,true)],pco:=[[],[some .api_Outcome],[]],rco:=[[none,none,none,some .api_Atom,some .api_Crack],[]] }
def a43:FAnn U:={ op:=ofList (fun _=>{}) [(1,ofList {} [(3,{ sym:=some 9001 })])] }
def a44:FAnn U:={ op:=ofList (fun _=>{}) [(1,ofList {} [(3,{ sym:=some 9001 })])] }
def a45:FAnn U:={ live:=ofList none [(4,some ([(0,[some .sl_api_Atom]),(1,[some .sl_api_Atom]),(12,[]),(13,[])],[]))],pure:=true,scalar:=true,pco:=[[some .sl_api_Atom],[some .sl_api_Atom]] }
def a46:FAnn U:={ live:=ofList none [(3,some ([(3,[some .sl_api_Atom]),(9,[some .sl_api_Atom]),(10,[]),(11,[])],[(3,[])]))],op:=ofList (fun _=>{}) [(1,ofList {} [(0,{ own:=[(0,some 3,(.pure .sl_api_Atom))] })]),(2,ofList {} [(3,{ sym:=some 167 }),(4,{ sym:=some 0 })]),(4,ofList {} [(0,{ sym:=some 0 }),(1,{ sym:=some 37 })]),(5,ofList {} [(4,{ slot:=some 3 })])],rco:=[[some .sl_api_Atom]] }
def a30:FAnn U:={ live:=ofList none [(3,some ([(0,[]),(2,[])],[(2,[none,none,none,some .api_Atom,some .api_Crack])]))],op:=ofList (fun _=>{}) [(1,ofList {} [(3,{ sym:=some 9001 })]),(3,ofList {} [(3,{ sym:=some 9001 })]),(4,ofList {} [(3,{ sym:=some 9001 }),(7,{ sym:=some 9001 })]),(6,ofList {} [(3,{ sym:=some 167 })]),(7,ofList {} [(3,{ sym:=some 9001 }),(7,{ sym:=some 167 })])],rco:=[[none,none,none,some .api_Atom,some .api_Crack]] }
def a35:FAnn U:={ op:=ofList (fun _=>{}) [(1,ofList {} [(3,{ sym:=some 9001 }),(9,{ sym:=some 9001 }),(13,{ sym:=some 9001 })]),(5,ofList {} [(6,{ sym:=some 167 }),(9,{ sym:=some 167 })]),(6,ofList {} [(3,{ sym:=some 9001 }),(7,{ sym:=some 167 })])],pco:=[[],[none,some .api_Atom,some .api_Crack]] }
def a76:FAnn U:={ live:=ofList none [(4,some ([(0,[some .api_Atom]),(1,[some .api_Atom]),(5,[])],[]))],pure:=true,scalar:=true,pco:=[[some .api_Atom],[some .api_Atom]] }
def a87:FAnn U:={ pure:=true,scalar:=true,pco:=[[some .api_Instr]] }
def a88:FAnn U:={ pure:=true,pco:=[[some .api_Instr]],rco:=[[some .api_Instr]] }
def a37:FAnn U:={ pure:=true,scalar:=true,pco:=[[none,some .api_Atom,some .api_Crack],[none,some .api_Atom,some .api_Crack]] }
def a101:FAnn U:={ pure:=true,pco:=[[none,some .api_Atom,some .api_Crack]],rco:=[[none,some .api_Atom,some .api_Crack]] }
def a104:FAnn U:={ op:=ofList (fun _=>{}) [(2,ofList {} [(0,{ own:=[(0,none,(.pure .sl_api_Atom))] })]),(3,ofList {} [(0,{ glob:=true }),(2,{ sym:=none })])],rco:=[[some .sl_api_Atom]] }
def a105:FAnn U:={ op:=ofList (fun _=>{}) [(2,ofList {} [(0,{ own:=[(0,none,(.pure .machine_catch))] })]),(3,ofList {} [(0,{ glob:=true }),(2,{ sym:=none })])],rco:=[[some .machine_catch]] }
def a34:FAnn U:={ pure:=true,pco:=[[none,some .api_Atom,some .api_Crack]],rco:=[[none,some .api_Atom,some .api_Crack]] }
def a38:FAnn U:={ op:=ofList (fun _=>{}) [(1,ofList {} [(3,{ sym:=some 9001 }),(9,{ sym:=some 9001 }),(13,{ sym:=some 9001 })]),(3,ofList {} [(4,{ sym:=some 167 }),(7,{ sym:=some 167 })]),(4,ofList {} [(3,{ sym:=some 9001 }),(7,{ sym:=some 167 })])] }
def a85:FAnn U:={ pure:=true,pco:=[[some .api_Atom]],rco:=[[some .api_Atom]] }
def a90:FAnn U:={ op:=ofList (fun _=>{}) [(0,ofList {} [(3,{ sym:=some 167 })]),(1,ofList {} [(2,{ co:=[none,some .api_Atom,some .api_Crack] }),(5,{ sym:=some 167 }),(8,{ sym:=some 167 })]),(3,ofList {} [(3,{ sym:=some 167 })]),(4,ofList {} [(3,{ sym:=some 167 })]),(5,ofList {} [(3,{ sym:=some 167 }),(7,{ sym:=some 167 })])] }
def a91:FAnn U:={ op:=ofList (fun _=>{}) [(8,ofList {} [(4,{ sym:=some 167 }),(7,{ sym:=some 0 }),(8,{ sym:=some 37 })]),(20,ofList {} [(4,{ sym:=some 167 }),(5,{ sym:=some 0 }),(6,{ sym:=some 37 }),(7,{ co:=[none,some .api_Atom,some .api_Crack] })])] }
def a92:FAnn U:={ op:=ofList (fun _=>{}) [(1,ofList {} [(3,{ sym:=some 9001 }),(7,{ sym:=some 9001 })]),(2,ofList {} [(3,{ sym:=some 9001 })]),(3,ofList {} [(3,{ sym:=some 9001 }),(5,{ co:=[none,none,none,some .api_Atom,some .api_Crack] })]),(5,ofList {} [(2,{ co:=[none,none,none,some .api_Atom,some .api_Crack] })]),(6,ofList {} [(2,{ co:=[none,none,none,some .api_Atom,some .api_Crack] })])],rco:=[[none,none,none,some .api_Atom,some .api_Crack]] }
def a100:FAnn U:={ pure:=true,scalar:=true,pco:=[[none,some .api_Atom,some .api_Crack]] }
def a163:FAnn U:={ live:=ofList none [(2,some ([(0,[some .api_Instr]),(6,[some .api_Instr]),(7,[]),(8,[])],[]))],pure:=true,scalar:=true,pco:=[[some .api_Instr]] }
def a164:FAnn U:={ live:=ofList none [(5,some ([(3,[]),(4,[]),(17,[some .api_Instr]),(18,[]),(19,[])],[]))],op:=ofList (fun _=>{}) [(0,ofList {} [(0,{ glob:=true })]),(1,ofList {} [(3,{ glob:=true }),(4,{ glob:=true })]),(12,ofList {} [(4,{ frz:=true })]),(14,ofList {} [(4,{ frz:=true }),(10,{ frz:=true })]),(16,ofList {} [(4,{ frz:=true })]),(18,ofList {} [(7,{ frz:=true }),(13,{ frz:=true })])],split:=ofList false [(14,true)],pure:=true,scalar:=true,pco:=[[some .api_Instr]] }
def a103:FAnn U:={ live:=ofList none [(4,some ([(0,[some .api_Crack]),(1,[some .api_Crack]),(5,[])],[]))],pure:=true,scalar:=true,pco:=[[some .api_Crack],[some .api_Crack]] }
def a86:FAnn U:={ pure:=true,pco:=[[some .api_Crack]],rco:=[[some .api_Crack]] }
def a98:FAnn U:={ pure:=true,pco:=[[some .api_Atom]],rco:=[[some .api_Atom]] }
def a99:FAnn U:={ pure:=true,pco:=[[some .api_Crack]],rco:=[[some .api_Crack]] }
def a168:FAnn U:={ op:=ofList (fun _=>{}) [(0,ofList {} [(4,{ sym:=some 167 }),(7,{ sym:=some 0 }),(10,{ sym:=some 167 })]),(1,ofList {} [(3,{ sym:=some 167 }),(7,{ sym:=some 167 })])],pco:=[[],[some .api_Atom]] }
def a169:FAnn U:={ op:=ofList (fun _=>{}) [(0,ofList {} [(3,{ sym:=some 167 }),(4,{ sym:=some 0 })]),(2,ofList {} [(2,{ co:=[none,some .api_Atom,some .api_Crack] })]),(3,ofList {} [(3,{ sym:=some 167 }),(5,{ sym:=some 0 }),(6,{ sym:=some 178 })]),(4,ofList {} [(4,{ sym:=some 167 }),(6,{ sym:=some 0 }),(9,{ sym:=some 167 })]),(5,ofList {} [(13,{ sym:=some 167 }),(16,{ sym:=some 167 }),(19,{ sym:=some 167 })])],pco:=[[],[some .api_Crack]] }
def a170:FAnn U:={ op:=ofList (fun _=>{}) [(1,ofList {} [(5,{ sym:=some 167 }),(8,{ sym:=some 167 })]),(2,ofList {} [(5,{ sym:=some 167 }),(8,{ sym:=some 9002 }),(11,{ sym:=some 9003 })])],pco:=[[],[none,some .api_Atom,some .api_Crack]] }
def a171:FAnn U:={  }
def a172:FAnn U:={ op:=ofList (fun _=>{}) [(4,ofList {} [(5,{ co:=[none,some .api_Atom,some .api_Crack] })])] }
def a173:FAnn U:={ op:=ofList (fun _=>{}) [(3,ofList {} [(4,{ sym:=some 167 }),(10,{ sym:=some 0 }),(13,{ sym:=some 167 })]),(5,ofList {} [(4,{ sym:=some 167 }),(8,{ sym:=some 167 }),(9,{ sym:=some 0 }),(11,{ sym:=some 0 }),(14,{ sym:=some 167 })]),(11,ofList {} [(5,{ sym:=some 167 })]),(13,ofList {} [(5,{ sym:=some 167 })]),(15,ofList {} [(4,{ sym:=some 167 }),(10,{ sym:=some 167 }),(15,{ sym:=some 167 }),(17,{ co:=[none,some .sl_api_Atom,some .sl_api_Atom] }),(19,{ sym:=some 0 }),(22,{ sym:=some 167 })]),(17,ofList {} [(4,{ sym:=some 167 }),(8,{ sym:=some 167 }),(9,{ sym:=some 0 }),(11,{ sym:=some 0 }),(14,{ sym:=some 167 })]),(18,ofList {} [(3,{ sym:=some 167 }),(7,{ sym:=some 167 })])],perm:=ofList [] [(3,[0,1,2,3,4,5,6,7,8,9,10,11,12,13]),(15,[0,1,2,3,4,5,6,7,8,9,10,12,13,14,15,11,16,17,18,19,20,21,22])] }
def a177:FAnn U:={ pure:=true,scalar:=true,pco:=[[some .api_Atom]] }
def a178:FAnn U:={ pure:=true,scalar:=true,pco:=[[some .api_Crack]] }
def a225:FAnn U:={ live:=ofList none [(28,some ([(2,[]),(5,[]),(6,[])],[(2,[])])),(38,some ([(2,[]),(5,[])],[(2,[])]))],pure:=true,scalar:=true }
def a226:FAnn U:={ op:=ofList (fun _=>{}) [(1,ofList {} [(1,{ sym:=some 51 })]),(3,ofList {} [(0,{ sym:=some 313 }),(2,{ sym:=some 0 }),(4,{ sym:=some 316 })]),(4,ofList {} [(0,{ sym:=some 313 }),(2,{ sym:=some 0 }),(3,{ sym:=some 316 })]),(6,ofList {} [(0,{ sym:=some 313 }),(3,{ sym:=some 0 }),(4,{ sym:=some 316 })])],pco:=[[],[none,none,some .code_mark]] }
def a228:FAnn U:={ pure:=true,pco:=[[],[none,none,some .code_mark]],rco:=[[none,none,some .code_mark],[]] }
def a212:FAnn U:={ pure:=true,pco:=[[],[some .sl_api_Atom]],rco:=[[some .api_Atom],[],[]] }
def a235:FAnn U:={ op:=ofList (fun _=>{}) [(1,ofList {} [(3,{ sym:=some 167 }),(4,{ sym:=some 0 })]),(2,ofList {} [(3,{ sym:=some 167 }),(5,{ sym:=some 0 })]),(3,ofList {} [(4,{ sym:=some 167 }),(6,{ sym:=some 0 }),(9,{ sym:=some 167 })])],rco:=[[some .sl_api_Atom]] }
def a236:FAnn U:={  }
def a237:FAnn U:={ pure:=true,scalar:=true,pco:=[[some .api_Atom]] }
def a240:FAnn U:={ live:=ofList none [(3,some ([(4,[some .value_whole]),(5,[some .value_whole]),(16,[some .api_Atom]),(17,[]),(18,[])],[(5,[]),(14,[])])),(10,some ([(4,[some .value_whole]),(5,[some .value_whole]),(6,[]),(8,[]),(9,[]),(16,[some .api_Atom]),(17,[]),(18,[]),(42,[some .value_whole]),(43,[]),(44,[])],[(5,[]),(9,[]),(14,[])]))],op:=ofList (fun _=>{}) [(1,ofList {} [(3,{ slot:=some 5 })]),(19,ofList {} [(5,{ slot:=some 5 })])],pure:=true,pco:=[[some .api_Atom]],rco:=[[some .value_whole],[]] }
def a241:FAnn U:={ live:=ofList none [(3,some ([(4,[some .int]),(5,[some .int]),(12,[some .api_Crack]),(13,[]),(14,[])],[(5,[]),(10,[])]))],op:=ofList (fun _=>{}) [(1,ofList {} [(3,{ slot:=some 5 })]),(10,ofList {} [(12,{ slot:=some 5 })])],pure:=true,pco:=[[some .api_Crack]],rco:=[[some .int],[]] }
def a153:FAnn U:={ pure:=true,scalar:=true }
def a267:FAnn U:={ pure:=true,scalar:=true }
def a227:FAnn U:={ pure:=true,scalar:=true,pco:=[[none,none,some .code_mark],[none,none,some .code_mark]] }
def a269:FAnn U:={ pure:=true,pco:=[[none,none,some .code_mark],[],[]],rco:=[[none,none,some .code_mark],[]] }
def a270:FAnn U:={ live:=ofList none [(3,some ([(3,[]),(7,[some .code_mark]),(8,[]),(9,[])],[]))],pure:=true,scalar:=true,pco:=[[none,none,some .code_mark]] }
def a271:FAnn U:={ pure:=true,pco:=[[none,none,some .code_mark],[]],rco:=[[none,none,some .code_mark]] }
def a272:FAnn U:={ pure:=true,pco:=[[none,none,some .code_mark],[]],rco:=[[none,none,some .code_mark],[],[]] }
def a262:FAnn U:={  }
def a263:FAnn U:={ live:=ofList none [(2,some ([(6,[some .sl_api_Atom]),(7,[]),(8,[])],[]))],pure:=true,scalar:=true,pco:=[[some .sl_api_Atom]] }
def a224:FAnn U:={ pure:=true,scalar:=true }
def a280:FAnn U:={ pure:=true,scalar:=true }
def a281:FAnn U:={ pure:=true,scalar:=true }
def a219:FAnn U:={ live:=ofList none [(3,some ([(0,[]),(1,[])],[]))],pure:=true,scalar:=true }
def a220:FAnn U:={ pure:=true,scalar:=true }
def a268:FAnn U:={ live:=ofList none [(4,some ([(0,[some .code_mark]),(1,[some .code_mark]),(12,[]),(13,[])],[]))],pure:=true,scalar:=true,pco:=[[some .code_mark],[some .code_mark]] }
def a297:FAnn U:={ live:=ofList none [(2,some ([(2,[])],[(2,[])]))],pure:=true,scalar:=true,pco:=[[none,none,some .code_mark]] }
def a298:FAnn U:={ op:=ofList (fun _=>{}) [(2,ofList {} [(0,{ own:=[(0,some 2,(.pure .code_mark))] })])],pure:=true,scalar:=true,own:=true,pco:=[[some .code_mark]],rco:=[[some .code_mark]] }
def a288:FAnn U:={ pure:=true,pco:=[[some .sl_api_Atom]],rco:=[[some .api_Atom],[]] }
def a289:FAnn U:={ pure:=true,pco:=[[some .sl_api_Atom]],rco:=[[some .api_Atom],[]] }
def a290:FAnn U:={ pure:=true,pco:=[[some .sl_api_Atom]],rco:=[[some .api_Atom],[]] }
def a291:FAnn U:={ pure:=true,pco:=[[some .sl_api_Atom]],rco:=[[some .api_Atom],[]] }
def a292:FAnn U:={ pure:=true,pco:=[[some .sl_api_Atom]],rco:=[[some .api_Atom],[]] }
def a293:FAnn U:={ pure:=true,pco:=[[some .sl_api_Atom]],rco:=[[some .api_Atom],[]] }
def a294:FAnn U:={ pure:=true,pco:=[[some .sl_api_Atom]],rco:=[[some .api_Atom],[]] }
def a295:FAnn U:={ pure:=true,pco:=[[some .sl_api_Atom]],rco:=[[some .api_Atom],[]] }
def a296:FAnn U:={ pure:=true,pco:=[[some .sl_api_Atom]],rco:=[[some .api_Atom],[]] }
def a301:FAnn U:={ pure:=true,scalar:=true }
def a302:FAnn U:={ pure:=true,scalar:=true }
def a265:FAnn U:={ pure:=true,scalar:=true }
def a266:FAnn U:={ pure:=true,scalar:=true }
def a80:FAnn U:={ pure:=true,scalar:=true,pco:=[[some .str],[]] }
def a313:FAnn U:={ op:=ofList (fun _=>{}) [(0,ofList {} [(0,{ glob:=true,sym:=some 314 })])],pco:=[[some .code_mark]] }
def a305:FAnn U:={ live:=ofList none [(3,some ([(0,[some .sl_api_Atom]),(4,[some .api_Atom]),(7,[some .sl_api_Atom]),(8,[]),(9,[])],[(4,[])]))],op:=ofList (fun _=>{}) [(1,ofList {} [(0,{ own:=[(0,some 4,(.pure .api_Atom))] })]),(7,ofList {} [(2,{ slot:=some 4 })]),(9,ofList {} [(5,{ slot:=some 4 })])],pure:=true,pco:=[[some .sl_api_Atom]],rco:=[[some .api_Atom],[]] }
def a306:FAnn U:={ pure:=true,scalar:=true,pco:=[[some .sl_api_Atom]] }
def a307:FAnn U:={ pure:=true,rco:=[[some .api_Atom],[]] }
def a308:FAnn U:={ pure:=true,scalar:=true }
def a309:FAnn U:={ pure:=true,scalar:=true,pco:=[[some .api_Atom]] }
def a310:FAnn U:={ live:=ofList none [(5,some ([(0,[some .api_Atom]),(3,[some .value_whole]),(5,[some .sl_api_Atom]),(6,[]),(7,[])],[(17,[])]))],pure:=true,scalar:=true,own:=true,pco:=[[some .api_Atom]],rco:=[[some .sl_api_Atom]] }
def a311:FAnn U:={ pure:=true,rco:=[[some .api_Atom],[]] }
def a312:FAnn U:={ pure:=true,scalar:=true,pco:=[[some .api_Atom],[some .api_Atom]] }
def a152:FAnn U:={ live:=ofList none [(2,some ([(0,[some .str]),(1,[]),(7,[]),(8,[])],[]))],pure:=true,scalar:=true,pco:=[[some .str],[]] }
def a320:FAnn U:={ live:=ofList none [(1,some ([(0,[]),(1,[]),(3,[])],[]))] }
def a314:FAnn U:={ pco:=[[some .sl_api_Atom],[]] }
def a315:FAnn U:={ pure:=true,scalar:=true,pco:=[[some .api_Atom]] }
def a316:FAnn U:={ pure:=true,rco:=[[some .api_Atom],[]] }
def a317:FAnn U:={ pure:=true,scalar:=true }
def a318:FAnn U:={ pure:=true,scalar:=true }
def a319:FAnn U:={ live:=ofList none [(2,some ([(0,[some .sl_api_Atom]),(1,[some .sl_api_Atom]),(2,[]),(11,[some .sl_api_Atom]),(12,[]),(13,[])],[]))],pco:=[[some .sl_api_Atom],[some .sl_api_Atom],[]] }
def a321:FAnn U:={ live:=ofList none [(2,some ([(0,[some .sl_api_Atom]),(1,[]),(7,[]),(8,[])],[]))],pco:=[[some .sl_api_Atom],[]] }
def a322:FAnn U:={ pure:=true,scalar:=true }
def a323:FAnn U:={ pure:=true,scalar:=true }
def annL:List (Nat×FAnn U):=[(6,a6),(24,a24),(25,a25),(26,a26),(29,a29),(32,a32),(40,a40),(42,a42),(43,a43),(44,a44),(45,a45),(46,a46),(30,a30),(35,a35),(76,a76),(87,a87),(88,a88),(37,a37),(101,a101),(104,a104),(105,a105),(34,a34),(38,a38),(85,a85),(90,a90),(91,a91),(92,a92),(100,a100),(163,a163),(164,a164),(103,a103),(86,a86),(98,a98),(99,a99),(168,a168),(169,a169),(170,a170),(171,a171),(172,a172),(173,a173),(177,a177),(178,a178),(225,a225),(226,a226),(228,a228),(212,a212),(235,a235),(236,a236),(237,a237),(240,a240),(241,a241),(153,a153),(267,a267),(227,a227),(269,a269),(270,a270),(271,a271),(272,a272),(262,a262),(263,a263),(224,a224),(280,a280),(281,a281),(219,a219),(220,a220),(268,a268),(297,a297),(298,a298),(288,a288),(289,a289),(290,a290),(291,a291),(292,a292),(293,a293),(294,a294),(295,a295),(296,a296),(301,a301),(302,a302),(265,a265),(266,a266),(80,a80),(313,a313),(305,a305),(306,a306),(307,a307),(308,a308),(309,a309),(310,a310),(311,a311),(312,a312),(152,a152),(320,a320),(314,a314),(315,a315),(316,a316),(317,a317),(318,a318),(319,a319),(321,a321),(322,a322),(323,a323)]
noncomputable def K:Cfg where
 U:=U
 width:=width
 enc:=enc
 dec:=dec
 dflt:=dflt
 flat:=flat
 bytesC:=bytesC
 keyEq:=keyEq
 P:=Tryz.prog
 ti:=ofList none (tiL.map fun x=>(x.1,some x.2))
 vc:=ofList .ptr vcL
 kc:=ofList .int kcL
 meth:=methods
 glob:=ofList none (globL.map fun x=>(x.1,some x.2))
 ann:=ofList {} annL
 back:=ofList none [(320,some ⟨314,352,3,4,386⟩)]
structure MachS where
 c:List api_Instr
 at':Int
 state:Int
 done:Int
 st:Nat
 stG:Nat
 stS:Option (Nat×Nat)
 lo:Nat
 loG:Nat
 loS:Option (Nat×Nat)
 tr:Nat
 trG:Nat
 trS:Option (Nat×Nat)
 ok:Int
 ov:List api_Atom
 of':List api_Crack
 pass:Bool
structure AtS where
 a:Nat
 g:Nat
 s:Option (Nat×Nat)
structure MachO where
 c:List api_Instr
 at':Int
 state:Int
 done:Int
 st:C U
 lo:C U
 tr:C U
 ok:Int
 ov:List api_Atom
 of':List api_Crack
 pass:Bool
structure Ans where
 R:Type
 enc:R→C U
def ansL:List (Nat×Ans):=[
 (6,⟨Bool,fun x=>.d (.bool x)⟩),
 (24,⟨Bool,fun x=>.d (.bool x)⟩),
 (25,⟨(List api_Instr),fun x=>.d (.sl .api_Instr x)⟩),
 (26,⟨Option Nat×Int,fun x=>.tup [.optr x.1,.d (.int .i64 x.2)]⟩),
 (29,⟨Int,fun x=>.d (.int .i64 x)⟩),
 (32,⟨Bool,fun x=>.d (.bool x)⟩),
 (40,⟨Nat,fun x=>.ptr (.g x) 0⟩),
 (42,⟨api_Event×Bool,fun x=>.tup [.agg [.d (.int .i64 x.1.gKind),.d (.str x.1.gName),.d (.int .i64 x.1.gOutcome.gKind),.d (.sl .api_Atom x.1.gOutcome.gValue),.d (.sl .api_Crack x.1.gOutcome.gFail)],.d (.bool x.2)]⟩),
 (43,⟨Int,fun x=>.d (.int .i64 x)⟩),
 (44,⟨Int,fun x=>.d (.int .i64 x)⟩),
 (45,⟨Bool,fun x=>.d (.bool x)⟩),
 (46,⟨(List (List api_Atom)),fun x=>.d (.sl .sl_api_Atom x)⟩),
 (30,⟨api_Event,fun x=>.agg [.d (.int .i64 x.gKind),.d (.str x.gName),.d (.int .i64 x.gOutcome.gKind),.d (.sl .api_Atom x.gOutcome.gValue),.d (.sl .api_Crack x.gOutcome.gFail)]⟩),
 (35,⟨Int,fun x=>.d (.int .i64 x)⟩),
 (76,⟨Bool,fun x=>.d (.bool x)⟩),
 (87,⟨Int,fun x=>.d (.int .i64 x)⟩),
 (88,⟨(List api_Instr),fun x=>.d (.sl .api_Instr x)⟩),
 (37,⟨Bool,fun x=>.d (.bool x)⟩),
 (101,⟨api_Outcome,fun x=>.agg [.d (.int .i64 x.gKind),.d (.sl .api_Atom x.gValue),.d (.sl .api_Crack x.gFail)]⟩),
 (104,⟨(List (List api_Atom)),fun x=>.d (.sl .sl_api_Atom x)⟩),
 (105,⟨(List machine_catch),fun x=>.d (.sl .machine_catch x)⟩),
 (34,⟨api_Outcome,fun x=>.agg [.d (.int .i64 x.gKind),.d (.sl .api_Atom x.gValue),.d (.sl .api_Crack x.gFail)]⟩),
 (38,⟨Int,fun x=>.d (.int .i64 x)⟩),
 (85,⟨(List api_Atom),fun x=>.d (.sl .api_Atom x)⟩),
 (90,⟨Unit,fun _=>.tup []⟩),
 (91,⟨Unit,fun _=>.tup []⟩),
 (92,⟨api_Event,fun x=>.agg [.d (.int .i64 x.gKind),.d (.str x.gName),.d (.int .i64 x.gOutcome.gKind),.d (.sl .api_Atom x.gOutcome.gValue),.d (.sl .api_Crack x.gOutcome.gFail)]⟩),
 (100,⟨Bool,fun x=>.d (.bool x)⟩),
 (163,⟨Bool,fun x=>.d (.bool x)⟩),
 (164,⟨Bool,fun x=>.d (.bool x)⟩),
 (103,⟨Bool,fun x=>.d (.bool x)⟩),
 (86,⟨(List api_Crack),fun x=>.d (.sl .api_Crack x)⟩),
 (98,⟨(List api_Atom),fun x=>.d (.sl .api_Atom x)⟩),
 (99,⟨(List api_Crack),fun x=>.d (.sl .api_Crack x)⟩),
 (168,⟨Unit,fun _=>.tup []⟩),
 (169,⟨Unit,fun _=>.tup []⟩),
 (170,⟨Unit,fun _=>.tup []⟩),
 (171,⟨Unit,fun _=>.tup []⟩),
 (172,⟨Unit,fun _=>.tup []⟩),
 (173,⟨Unit,fun _=>.tup []⟩),
 (177,⟨Int,fun x=>.d (.int .i64 x)⟩),
 (178,⟨Int,fun x=>.d (.int .i64 x)⟩),
 (225,⟨Bool,fun x=>.d (.bool x)⟩),
 (226,⟨Bool,fun x=>.d (.bool x)⟩),
 (228,⟨code_state×Bool,fun x=>.tup [.agg [.d (.bool x.1.gCome),.d (.int .i64 x.1.gHigh),.d (.sl .code_mark x.1.gL)],.d (.bool x.2)]⟩),
 (212,⟨(List api_Atom)×Bool×Int,fun x=>.tup [.d (.sl .api_Atom x.1),.d (.bool x.2.1),.d (.int .i64 x.2.2)]⟩),
 (235,⟨(List (List api_Atom)),fun x=>.d (.sl .sl_api_Atom x)⟩),
 (236,⟨Unit,fun _=>.tup []⟩),
 (237,⟨api_Atom,fun x=>.agg [.d (.int .i64 x.gKind),.d (.int .i64 x.gN),.d (.int .i64 x.gInt),.d (.str x.gText)]⟩),
 (240,⟨(List value_whole)×Bool,fun x=>.tup [.d (.sl .value_whole x.1),.d (.bool x.2)]⟩),
 (241,⟨(List Int)×Bool,fun x=>.tup [.d (.sl .int x.1),.d (.bool x.2)]⟩),
 (153,⟨Bool,fun x=>.d (.bool x)⟩),
 (267,⟨Int,fun x=>.d (.int .i64 x)⟩),
 (227,⟨Bool,fun x=>.d (.bool x)⟩),
 (269,⟨code_state×Bool,fun x=>.tup [.agg [.d (.bool x.1.gCome),.d (.int .i64 x.1.gHigh),.d (.sl .code_mark x.1.gL)],.d (.bool x.2)]⟩),
 (270,⟨Int,fun x=>.d (.int .i64 x)⟩),
 (271,⟨code_state,fun x=>.agg [.d (.bool x.gCome),.d (.int .i64 x.gHigh),.d (.sl .code_mark x.gL)]⟩),
 (272,⟨code_state×code_mark×Bool,fun x=>.tup [.agg [.d (.bool x.1.gCome),.d (.int .i64 x.1.gHigh),.d (.sl .code_mark x.1.gL)],.agg [.d (.int .i64 x.2.1.gOp),.d (.int .i64 x.2.1.gGoes),.d (.int .i64 x.2.1.gHigh)],.d (.bool x.2.2)]⟩),
 (262,⟨Int×Nat,fun x=>.tup [.d (.int .i64 x.1),.fp x.2 [] []]⟩),
 (263,⟨Int,fun x=>.d (.int .i64 x)⟩),
 (224,⟨ByteArray,fun x=>.d (.str x)⟩),
 (280,⟨Bool,fun x=>.d (.bool x)⟩),
 (281,⟨Bool,fun x=>.d (.bool x)⟩),
 (219,⟨Int,fun x=>.d (.int .i64 x)⟩),
 (220,⟨Bool,fun x=>.d (.bool x)⟩),
 (268,⟨Bool,fun x=>.d (.bool x)⟩),
 (297,⟨Int,fun x=>.d (.int .i64 x)⟩),
 (298,⟨(List code_mark),fun x=>.osl .code_mark x⟩),
 (288,⟨(List api_Atom)×Bool,fun x=>.tup [.d (.sl .api_Atom x.1),.d (.bool x.2)]⟩),
 (289,⟨(List api_Atom)×Bool,fun x=>.tup [.d (.sl .api_Atom x.1),.d (.bool x.2)]⟩),
 (290,⟨(List api_Atom)×Bool,fun x=>.tup [.d (.sl .api_Atom x.1),.d (.bool x.2)]⟩),
 (291,⟨(List api_Atom)×Bool,fun x=>.tup [.d (.sl .api_Atom x.1),.d (.bool x.2)]⟩),
 (292,⟨(List api_Atom)×Bool,fun x=>.tup [.d (.sl .api_Atom x.1),.d (.bool x.2)]⟩),
 (293,⟨(List api_Atom)×Bool,fun x=>.tup [.d (.sl .api_Atom x.1),.d (.bool x.2)]⟩),
 (294,⟨(List api_Atom)×Bool,fun x=>.tup [.d (.sl .api_Atom x.1),.d (.bool x.2)]⟩),
 (295,⟨(List api_Atom)×Bool,fun x=>.tup [.d (.sl .api_Atom x.1),.d (.bool x.2)]⟩),
 (296,⟨(List api_Atom)×Bool,fun x=>.tup [.d (.sl .api_Atom x.1),.d (.bool x.2)]⟩),
 (301,⟨Int,fun x=>.d (.int .i64 x)⟩),
 (302,⟨Bool,fun x=>.d (.bool x)⟩),
 (265,⟨Bool,fun x=>.d (.bool x)⟩),
 (266,⟨Bool,fun x=>.d (.bool x)⟩),
 (80,⟨Bool,fun x=>.d (.bool x)⟩),
 (313,⟨Nat,fun x=>.fp 320 [] [.ptr (.g x) 0]⟩),
 (305,⟨(List api_Atom)×Bool,fun x=>.tup [.d (.sl .api_Atom x.1),.d (.bool x.2)]⟩),
 (306,⟨Bool,fun x=>.d (.bool x)⟩),
 (307,⟨(List api_Atom)×Bool,fun x=>.tup [.d (.sl .api_Atom x.1),.d (.bool x.2)]⟩),
 (308,⟨Int,fun x=>.d (.int .i64 x)⟩),
 (309,⟨api_Atom,fun x=>.agg [.d (.int .i64 x.gKind),.d (.int .i64 x.gN),.d (.int .i64 x.gInt),.d (.str x.gText)]⟩),
 (310,⟨(List (List api_Atom)),fun x=>.osl .sl_api_Atom x⟩),
 (311,⟨(List api_Atom)×Bool,fun x=>.tup [.d (.sl .api_Atom x.1),.d (.bool x.2)]⟩),
 (312,⟨Int,fun x=>.d (.int .i64 x)⟩),
 (152,⟨Int,fun x=>.d (.int .i64 x)⟩),
 (320,⟨Unit,fun _=>.tup []⟩),
 (314,⟨Bool,fun x=>.d (.bool x)⟩),
 (315,⟨Bool,fun x=>.d (.bool x)⟩),
 (316,⟨(List api_Atom)×Int,fun x=>.tup [.d (.sl .api_Atom x.1),.d (.int .i64 x.2)]⟩),
 (317,⟨Int,fun x=>.d (.int .i64 x)⟩),
 (318,⟨Int,fun x=>.d (.int .i64 x)⟩),
 (319,⟨Int,fun x=>.d (.int .i64 x)⟩),
 (321,⟨Int,fun x=>.d (.int .i64 x)⟩),
 (322,⟨Bool,fun x=>.d (.bool x)⟩),
 (323,⟨Int,fun x=>.d (.int .i64 x)⟩)]
def ans:Nat→Ans:=ofList (⟨Unit,fun _=>.tup []⟩:Ans) ansL
def ansT:List (Nat×Ans):=[
 (3,⟨Int,fun x=>.d (.int .i64 x)⟩),
 (4,⟨Bool,fun x=>.d (.bool x)⟩),
 (5,⟨Int,fun x=>.d (.int .u8 x)⟩),
 (9,⟨ByteArray,fun x=>.d (.str x)⟩),
 (23,⟨(List api_Op),fun x=>.d (.sl .api_Op x)⟩),
 (25,⟨Int,fun x=>.d (.int .i64 x)⟩),
 (30,⟨api_Op,fun x=>.agg [.d (.int .i64 x.gKind),.d (.int .i64 x.gN),.d (.int .i64 x.gInt),.d (.str x.gText)]⟩),
 (34,⟨(List ByteArray),fun x=>.d (.sl .str x)⟩),
 (37,⟨(List api_Atom),fun x=>.d (.sl .api_Atom x)⟩),
 (39,⟨(List api_Crack),fun x=>.d (.sl .api_Crack x)⟩),
 (41,⟨api_Outcome,fun x=>.agg [.d (.int .i64 x.gKind),.d (.sl .api_Atom x.gValue),.d (.sl .api_Crack x.gFail)]⟩),
 (51,⟨(List api_Instr),fun x=>.d (.sl .api_Instr x)⟩),
 (57,⟨(List (List api_Atom)),fun x=>.d (.sl .sl_api_Atom x)⟩),
 (66,⟨api_Instr,fun x=>.agg [.d (.int .i64 x.gOp),.d (.int .i64 x.gA),.d (.str x.gText)]⟩),
 (71,⟨api_Event,fun x=>.agg [.d (.int .i64 x.gKind),.d (.str x.gName),.d (.int .i64 x.gOutcome.gKind),.d (.sl .api_Atom x.gOutcome.gValue),.d (.sl .api_Crack x.gOutcome.gFail)]⟩),
 (84,⟨api_Atom,fun x=>.agg [.d (.int .i64 x.gKind),.d (.int .i64 x.gN),.d (.int .i64 x.gInt),.d (.str x.gText)]⟩),
 (87,⟨(List api_Outcome),fun x=>.d (.sl .api_Outcome x)⟩),
 (88,⟨api_Event×Bool,fun x=>.tup [.agg [.d (.int .i64 x.1.gKind),.d (.str x.1.gName),.d (.int .i64 x.1.gOutcome.gKind),.d (.sl .api_Atom x.1.gOutcome.gValue),.d (.sl .api_Crack x.1.gOutcome.gFail)],.d (.bool x.2)]⟩),
 (91,⟨(List api_Event),fun x=>.d (.sl .api_Event x)⟩),
 (98,⟨(List api_Instr)×Int,fun x=>.tup [.d (.sl .api_Instr x.1),.d (.int .i64 x.2)]⟩),
 (100,⟨(List Int),fun x=>.d (.sl .int x)⟩),
 (101,⟨(List api_Own),fun x=>.d (.sl .api_Own x)⟩),
 (102,⟨anon_102,fun x=>.agg [.d (.sl .int x.gParents),.d (.sl .api_Own x.gCells),.d (.sl .str x.gOpen)]⟩),
 (105,⟨anon_105,fun x=>.agg [.d (.int .i64 x.gAt),.d (.int .i64 x.gCode)]⟩),
 (106,⟨api_Fault,fun x=>.agg [.d (.int .i64 x.gAt),.d (.int .i64 x.gCode)]⟩),
 (117,⟨anon_117,fun x=>.agg [.d (.int .i64 x.gOut.gKind),.d (.sl .api_Atom x.gOut.gValue),.d (.sl .api_Crack x.gOut.gFail),.d (.str x.gGate),.d (.sl .int x.gRuns)]⟩),
 (127,⟨api_Policy,fun x=>.agg [.d (.int .i64 x.gTries),.d (.int .i64 x.gBase),.d (.int .i64 x.gFactor),.d (.int .i64 x.gCap)]⟩),
 (129,⟨api_Closer,fun x=>.agg [.d (.int .i64 x.gKind),.d (.str x.gText)]⟩),
 (131,⟨api_Provider,fun x=>.agg [.d (.str x.gName),.d (.sl .api_Op x.gExpr),.d (.bool x.gAgain),.d (.int .i64 x.gPolicy.gTries),.d (.int .i64 x.gPolicy.gBase),.d (.int .i64 x.gPolicy.gFactor),.d (.int .i64 x.gPolicy.gCap),.d (.int .i64 x.gCloser.gKind),.d (.str x.gCloser.gText)]⟩),
 (133,⟨api_Own,fun x=>.agg [.d (.int .i64 x.gScope),.d (.str x.gProvider.gName),.d (.sl .api_Op x.gProvider.gExpr),.d (.bool x.gProvider.gAgain),.d (.int .i64 x.gProvider.gPolicy.gTries),.d (.int .i64 x.gProvider.gPolicy.gBase),.d (.int .i64 x.gProvider.gPolicy.gFactor),.d (.int .i64 x.gProvider.gPolicy.gCap),.d (.int .i64 x.gProvider.gCloser.gKind),.d (.str x.gProvider.gCloser.gText)]⟩),
 (146,⟨(List Int)×Bool,fun x=>.tup [.d (.sl .int x.1),.d (.bool x.2)]⟩),
 (163,⟨api_Crack,fun x=>.agg [.d (.int .i64 x.gKind),.d (.int .i64 x.gN),.d (.str x.gText)]⟩),
 (165,⟨(List machine_catch),fun x=>.d (.sl .machine_catch x)⟩),
 (178,⟨machine_catch,fun x=>.agg [.d (.int .i64 x.gAt),.d (.sl .sl_api_Atom x.gStack),.d (.sl .sl_api_Atom x.gKept)]⟩),
 (220,⟨(List api_Atom)×Bool,fun x=>.tup [.d (.sl .api_Atom x.1),.d (.bool x.2)]⟩),
 (264,⟨(List api_Atom)×Bool×Int,fun x=>.tup [.d (.sl .api_Atom x.1),.d (.bool x.2.1),.d (.int .i64 x.2.2)]⟩),
 (313,⟨(List code_state),fun x=>.d (.sl .code_state x)⟩),
 (314,⟨(List code_mark),fun x=>.d (.sl .code_mark x)⟩),
 (316,⟨code_state,fun x=>.agg [.d (.bool x.gCome),.d (.int .i64 x.gHigh),.d (.sl .code_mark x.gL)]⟩),
 (319,⟨code_state×Bool,fun x=>.tup [.agg [.d (.bool x.1.gCome),.d (.int .i64 x.1.gHigh),.d (.sl .code_mark x.1.gL)],.d (.bool x.2)]⟩),
 (333,⟨(List value_whole),fun x=>.d (.sl .value_whole x)⟩),
 (334,⟨(List value_whole)×Bool,fun x=>.tup [.d (.sl .value_whole x.1),.d (.bool x.2)]⟩),
 (352,⟨code_mark,fun x=>.agg [.d (.int .i64 x.gOp),.d (.int .i64 x.gGoes),.d (.int .i64 x.gHigh)]⟩),
 (355,⟨code_state×code_mark×Bool,fun x=>.tup [.agg [.d (.bool x.1.gCome),.d (.int .i64 x.1.gHigh),.d (.sl .code_mark x.1.gL)],.agg [.d (.int .i64 x.2.1.gOp),.d (.int .i64 x.2.1.gGoes),.d (.int .i64 x.2.1.gHigh)],.d (.bool x.2.2)]⟩),
 (361,⟨(List api_Atom)×Int,fun x=>.tup [.d (.sl .api_Atom x.1),.d (.int .i64 x.2)]⟩),
 (365,⟨value_whole,fun x=>.agg [.d (.int .i64 x.gFrom),.d (.int .i64 x.gDeep)]⟩),
 (372,⟨(List (List api_Atom)),fun x=>.d (.sl .sl_api_Atom x)⟩)]
def ant:Nat→Ans:=ofList (⟨Unit,fun _=>.tup []⟩:Ans) ansT
structure ShpA where
 T:Type
 enc:T→List (C U)
def shpL:List (Nat×ShpA):=[(167,⟨MachS,fun x=>[.d (.sl .api_Instr x.c),.d (.int .i64 x.at'),.d (.int .i64 x.state),.d (.int .i64 x.done),.asl (.g x.st) x.stG x.stS false,.asl (.g x.lo) x.loG x.loS false,.asl (.g x.tr) x.trG x.trS false,.d (.int .i64 x.ok),.d (.sl .api_Atom x.ov),.d (.sl .api_Crack x.of'),.d (.bool x.pass)]⟩),
 (9001,⟨MachO,fun x=>[.d (.sl .api_Instr x.c),.d (.int .i64 x.at'),.d (.int .i64 x.state),.d (.int .i64 x.done),x.st,x.lo,x.tr,.d (.int .i64 x.ok),.d (.sl .api_Atom x.ov),.d (.sl .api_Crack x.of'),.d (.bool x.pass)]⟩),
 (9002,⟨MachS,fun x=>[.d (.sl .api_Instr x.c),.d (.int .i64 x.at'),.d (.int .i64 x.state),.d (.int .i64 x.done),.d .nils,.asl (.g x.lo) x.loG x.loS false,.asl (.g x.tr) x.trG x.trS false,.d (.int .i64 x.ok),.d (.sl .api_Atom x.ov),.d (.sl .api_Crack x.of'),.d (.bool x.pass)]⟩),
 (9003,⟨MachS,fun x=>[.d (.sl .api_Instr x.c),.d (.int .i64 x.at'),.d (.int .i64 x.state),.d (.int .i64 x.done),.d .nils,.d .nils,.asl (.g x.tr) x.trG x.trS false,.d (.int .i64 x.ok),.d (.sl .api_Atom x.ov),.d (.sl .api_Crack x.of'),.d (.bool x.pass)]⟩),
 (9004,⟨MachS,fun x=>[.d (.sl .api_Instr x.c),.d (.int .i64 x.at'),.d (.int .i64 x.state),.d (.int .i64 x.done),.d .nils,.d .nils,.d .nils,.d (.int .i64 x.ok),.d (.sl .api_Atom x.ov),.d (.sl .api_Crack x.of'),.d (.bool x.pass)]⟩),
 (51,⟨List api_Instr,fun x=>[.d (.sl .api_Instr x)]⟩),
 (313,⟨AtS,fun x=>[.asl (.g x.a) x.g x.s false]⟩),
 (9005,⟨MachS,fun x=>[.d (.sl .api_Instr x.c),.d (.int .i64 x.at'),.d (.int .i64 x.state),.d (.int .i64 x.done),.asl (.g x.st) x.stG x.stS false,.asl (.g x.lo) x.loG x.loS false,.asl (.g x.tr) x.trG x.trS false,.d (.int .i64 x.ok),.d (.sl .api_Atom x.ov),.d (.sl .api_Crack x.of'),.d (.bool x.pass)]⟩),
 (9006,⟨MachS,fun x=>[.d (.sl .api_Instr x.c),.d (.int .i64 x.at'),.d (.int .i64 x.state),.d (.int .i64 x.done),.asl (.g x.st) x.stG x.stS false,.asl (.g x.lo) x.loG x.loS false,.asl (.g x.tr) x.trG x.trS false,.d (.int .i64 x.ok),.d (.sl .api_Atom x.ov),.d (.sl .api_Crack x.of'),.d (.bool x.pass)]⟩),
 (9007,⟨MachS,fun x=>[.d (.sl .api_Instr x.c),.d (.int .i64 x.at'),.d (.int .i64 x.state),.d (.int .i64 x.done),.asl (.g x.st) x.stG x.stS false,.asl (.g x.lo) x.loG x.loS false,.asl (.g x.tr) x.trG x.trS false,.d (.int .i64 x.ok),.d (.sl .api_Atom x.ov),.d (.sl .api_Crack x.of'),.d (.bool x.pass)]⟩),
 (9008,⟨MachS,fun x=>[.d (.sl .api_Instr x.c),.d (.int .i64 x.at'),.d (.int .i64 x.state),.d (.int .i64 x.done),.asl (.g x.st) x.stG x.stS false,.asl (.g x.lo) x.loG x.loS false,.asl (.g x.tr) x.trG x.trS false,.d (.int .i64 x.ok),.d (.sl .api_Atom x.ov),.d (.sl .api_Crack x.of'),.d (.bool x.pass)]⟩)]
def shp:Nat→ShpA:=ofList (⟨Unit,fun _=>[]⟩:ShpA) shpL
noncomputable def Sh:Shp K where
 T:=fun t=>(shp t).T
 enc:=fun t=>(shp t).enc
structure AnsH where
 R:Type
 enc:List (O U)→R→List (O U)
def ansHL:List (Nat×AnsH):=[(26,⟨List (O U),fun _ y=>y⟩),
 (40,⟨List (O U),fun _ y=>y⟩),
 (42,⟨List (O U),fun _ y=>y⟩),
 (43,⟨List (O U),fun _ y=>y⟩),
 (44,⟨List (O U),fun _ y=>y⟩),
 (46,⟨List (O U),fun _ y=>y⟩),
 (30,⟨List (O U),fun _ y=>y⟩),
 (35,⟨List (O U),fun _ y=>y⟩),
 (104,⟨List (O U),fun _ y=>y⟩),
 (105,⟨List (O U),fun _ y=>y⟩),
 (38,⟨List (O U),fun _ y=>y⟩),
 (90,⟨List (O U),fun _ y=>y⟩),
 (91,⟨List (O U),fun _ y=>y⟩),
 (92,⟨List (O U),fun _ y=>y⟩),
 (168,⟨List (O U),fun _ y=>y⟩),
 (169,⟨List (O U),fun _ y=>y⟩),
 (170,⟨List (O U),fun _ y=>y⟩),
 (171,⟨List (O U),fun _ y=>y⟩),
 (172,⟨List (O U),fun _ y=>y⟩),
 (173,⟨List (O U),fun _ y=>y⟩),
 (226,⟨List code_state,fun H y=>match H with|[a,_,b]=>[a,.arr 0 (.pure .code_state) y,b]|H=>H⟩),
 (235,⟨List (O U),fun _ y=>y⟩),
 (236,⟨List (O U),fun _ y=>y⟩),
 (313,⟨List (O U),fun _ y=>y⟩)]
def ansH:Nat→AnsH:=ofList (⟨Unit,fun H _=>H⟩:AnsH) ansHL
noncomputable def Rs:Res K where
 R:=fun f=>(ans f).R
 enc:=fun f=>(ans f).enc
 RH:=fun f=>(ansH f).R
 encH:=fun f=>(ansH f).enc
 RT:=fun t=>(ant t).R
 encT:=fun t=>(ant t).enc
end Go.Proofs.YtopifagbbmhgfaaGreatDoor.V
