/- DEFINITIONS, and how they lie in memory cells: the pure data of this program. Conditions: none. (Written by a program of mine, mkcfg.py.) -/
import Derived.Test.YtopifagbbmhgfaaGreatDoorA30
namespace Go.Proofs.YtopifagbbmhgfaaGreatDoor.V
set_option linter.unusedVariables false
set_option linter.unusedSimpArgs false
open Go Go.Abs
structure api_Op where
 gKind:Int
 gN:Int
 gInt:Int
 gText:ByteArray
structure api_Policy where
 gTries:Int
 gBase:Int
 gFactor:Int
 gCap:Int
structure api_Closer where
 gKind:Int
 gText:ByteArray
structure api_Provider where
 gName:ByteArray
 gExpr:(List api_Op)
 gAgain:Bool
 gPolicy:api_Policy
 gCloser:api_Closer
structure api_Own where
 gScope:Int
 gProvider:api_Provider
structure anon_102 where
 gParents:(List Int)
 gCells:(List api_Own)
 gOpen:(List ByteArray)
structure anon_105 where
 gAt:Int
 gCode:Int
structure api_Atom where
 gKind:Int
 gN:Int
 gInt:Int
 gText:ByteArray
structure api_Crack where
 gKind:Int
 gN:Int
 gText:ByteArray
structure api_Outcome where
 gKind:Int
 gValue:(List api_Atom)
 gFail:(List api_Crack)
structure anon_117 where
 gOut:api_Outcome
 gGate:ByteArray
 gRuns:(List Int)
structure api_Event where
 gKind:Int
 gName:ByteArray
 gOutcome:api_Outcome
structure api_Fault where
 gAt:Int
 gCode:Int
structure api_Instr where
 gOp:Int
 gA:Int
 gText:ByteArray
structure code_mark where
 gOp:Int
 gGoes:Int
 gHigh:Int
structure code_state where
 gCome:Bool
 gHigh:Int
 gL:(List code_mark)
structure machine_catch where
 gAt:Int
 gStack:(List (List api_Atom))
 gKept:(List (List api_Atom))
structure value_whole where
 gFrom:Int
 gDeep:Int
inductive Ty where
 | anon_102
 | anon_105
 | anon_117
 | api_Atom
 | api_Closer
 | api_Crack
 | api_Event
 | api_Fault
 | api_Instr
 | api_Op
 | api_Outcome
 | api_Own
 | api_Policy
 | api_Provider
 | bool
 | code_mark
 | code_state
 | int
 | machine_catch
 | sl_api_Atom
 | str
 | value_whole
 deriving DecidableEq
def El:Ty→Type
 | .anon_102=>anon_102
 | .anon_105=>anon_105
 | .anon_117=>anon_117
 | .api_Atom=>api_Atom
 | .api_Closer=>api_Closer
 | .api_Crack=>api_Crack
 | .api_Event=>api_Event
 | .api_Fault=>api_Fault
 | .api_Instr=>api_Instr
 | .api_Op=>api_Op
 | .api_Outcome=>api_Outcome
 | .api_Own=>api_Own
 | .api_Policy=>api_Policy
 | .api_Provider=>api_Provider
 | .bool=>Bool
 | .code_mark=>code_mark
 | .code_state=>code_state
 | .int=>Int
 | .machine_catch=>machine_catch
 | .sl_api_Atom=>(List api_Atom)
 | .str=>ByteArray
 | .value_whole=>value_whole
def U:Univ:=⟨Ty,El,inferInstance⟩
def width:Ty→Nat
 | .anon_102=>3
 | .anon_105=>2
 | .anon_117=>5
 | .api_Atom=>4
 | .api_Closer=>2
 | .api_Crack=>3
 | .api_Event=>5
 | .api_Fault=>2
 | .api_Instr=>3
 | .api_Op=>4
 | .api_Outcome=>3
 | .api_Own=>10
 | .api_Policy=>4
 | .api_Provider=>9
 | .bool=>1
 | .code_mark=>3
 | .code_state=>3
 | .int=>1
 | .machine_catch=>3
 | .sl_api_Atom=>1
 | .str=>1
 | .value_whole=>2
def enc:(c:Ty)→El c→List (D U)
 | .anon_102,(x:anon_102)=>[.sl .int x.gParents,.sl .api_Own x.gCells,.sl .str x.gOpen]
 | .anon_105,(x:anon_105)=>[.int .i64 x.gAt,.int .i64 x.gCode]
 | .anon_117,(x:anon_117)=>[.int .i64 x.gOut.gKind,.sl .api_Atom x.gOut.gValue,.sl .api_Crack x.gOut.gFail,.str x.gGate,.sl .int x.gRuns]
 | .api_Atom,(x:api_Atom)=>[.int .i64 x.gKind,.int .i64 x.gN,.int .i64 x.gInt,.str x.gText]
 | .api_Closer,(x:api_Closer)=>[.int .i64 x.gKind,.str x.gText]
 | .api_Crack,(x:api_Crack)=>[.int .i64 x.gKind,.int .i64 x.gN,.str x.gText]
 | .api_Event,(x:api_Event)=>[.int .i64 x.gKind,.str x.gName,.int .i64 x.gOutcome.gKind,.sl .api_Atom x.gOutcome.gValue,.sl .api_Crack x.gOutcome.gFail]
 | .api_Fault,(x:api_Fault)=>[.int .i64 x.gAt,.int .i64 x.gCode]
 | .api_Instr,(x:api_Instr)=>[.int .i64 x.gOp,.int .i64 x.gA,.str x.gText]
 | .api_Op,(x:api_Op)=>[.int .i64 x.gKind,.int .i64 x.gN,.int .i64 x.gInt,.str x.gText]
 | .api_Outcome,(x:api_Outcome)=>[.int .i64 x.gKind,.sl .api_Atom x.gValue,.sl .api_Crack x.gFail]
 | .api_Own,(x:api_Own)=>[.int .i64 x.gScope,.str x.gProvider.gName,.sl .api_Op x.gProvider.gExpr,.bool x.gProvider.gAgain,.int .i64 x.gProvider.gPolicy.gTries,.int .i64 x.gProvider.gPolicy.gBase,.int .i64 x.gProvider.gPolicy.gFactor,.int .i64 x.gProvider.gPolicy.gCap,.int .i64 x.gProvider.gCloser.gKind,.str x.gProvider.gCloser.gText]
 | .api_Policy,(x:api_Policy)=>[.int .i64 x.gTries,.int .i64 x.gBase,.int .i64 x.gFactor,.int .i64 x.gCap]
 | .api_Provider,(x:api_Provider)=>[.str x.gName,.sl .api_Op x.gExpr,.bool x.gAgain,.int .i64 x.gPolicy.gTries,.int .i64 x.gPolicy.gBase,.int .i64 x.gPolicy.gFactor,.int .i64 x.gPolicy.gCap,.int .i64 x.gCloser.gKind,.str x.gCloser.gText]
 | .bool,(x:Bool)=>[.bool x]
 | .code_mark,(x:code_mark)=>[.int .i64 x.gOp,.int .i64 x.gGoes,.int .i64 x.gHigh]
 | .code_state,(x:code_state)=>[.bool x.gCome,.int .i64 x.gHigh,.sl .code_mark x.gL]
 | .int,(x:Int)=>[.int .i64 x]
 | .machine_catch,(x:machine_catch)=>[.int .i64 x.gAt,.sl .sl_api_Atom x.gStack,.sl .sl_api_Atom x.gKept]
 | .sl_api_Atom,(x:(List api_Atom))=>[.sl .api_Atom x]
 | .str,(x:ByteArray)=>[.str x]
 | .value_whole,(x:value_whole)=>[.int .i64 x.gFrom,.int .i64 x.gDeep]
def asSl (c:Ty):D U→Option (List (El c))
 | .sl _ xs=>castL (F:=El) xs
 | .nils=>some (nilL _)
 | _=>none
def dec_anon_102:List (D U)→Option (El .anon_102)
 | [x0,x1,x2]=>match asSl .int x0,asSl .api_Own x1,asSl .str x2 with|some x0',some x1',some x2'=>some (⟨x0',x1',x2'⟩:anon_102)|_,_,_=>none
 | _=>none
def dec_anon_105:List (D U)→Option (El .anon_105)
 | [.int .i64 x0,.int .i64 x1]=>some (⟨x0,x1⟩:anon_105)
 | _=>none
def dec_anon_117:List (D U)→Option (El .anon_117)
 | [.int .i64 x0,x1,x2,.str x3,x4]=>match asSl .api_Atom x1,asSl .api_Crack x2,asSl .int x4 with|some x1',some x2',some x4'=>some (⟨⟨x0,x1',x2'⟩,x3,x4'⟩:anon_117)|_,_,_=>none
 | _=>none
def dec_api_Atom:List (D U)→Option (El .api_Atom)
 | [.int .i64 x0,.int .i64 x1,.int .i64 x2,.str x3]=>some (⟨x0,x1,x2,x3⟩:api_Atom)
 | _=>none
def dec_api_Closer:List (D U)→Option (El .api_Closer)
 | [.int .i64 x0,.str x1]=>some (⟨x0,x1⟩:api_Closer)
 | _=>none
def dec_api_Crack:List (D U)→Option (El .api_Crack)
 | [.int .i64 x0,.int .i64 x1,.str x2]=>some (⟨x0,x1,x2⟩:api_Crack)
 | _=>none
def dec_api_Event:List (D U)→Option (El .api_Event)
 | [.int .i64 x0,.str x1,.int .i64 x2,x3,x4]=>match asSl .api_Atom x3,asSl .api_Crack x4 with|some x3',some x4'=>some (⟨x0,x1,⟨x2,x3',x4'⟩⟩:api_Event)|_,_=>none
 | _=>none
def dec_api_Fault:List (D U)→Option (El .api_Fault)
 | [.int .i64 x0,.int .i64 x1]=>some (⟨x0,x1⟩:api_Fault)
 | _=>none
def dec_api_Instr:List (D U)→Option (El .api_Instr)
 | [.int .i64 x0,.int .i64 x1,.str x2]=>some (⟨x0,x1,x2⟩:api_Instr)
 | _=>none
def dec_api_Op:List (D U)→Option (El .api_Op)
 | [.int .i64 x0,.int .i64 x1,.int .i64 x2,.str x3]=>some (⟨x0,x1,x2,x3⟩:api_Op)
 | _=>none
def dec_api_Outcome:List (D U)→Option (El .api_Outcome)
 | [.int .i64 x0,x1,x2]=>match asSl .api_Atom x1,asSl .api_Crack x2 with|some x1',some x2'=>some (⟨x0,x1',x2'⟩:api_Outcome)|_,_=>none
 | _=>none
def dec_api_Own:List (D U)→Option (El .api_Own)
 | [.int .i64 x0,.str x1,x2,.bool x3,.int .i64 x4,.int .i64 x5,.int .i64 x6,.int .i64 x7,.int .i64 x8,.str x9]=>match asSl .api_Op x2 with|some x2'=>some (⟨x0,⟨x1,x2',x3,⟨x4,x5,x6,x7⟩,⟨x8,x9⟩⟩⟩:api_Own)|_=>none
 | _=>none
def dec_api_Policy:List (D U)→Option (El .api_Policy)
 | [.int .i64 x0,.int .i64 x1,.int .i64 x2,.int .i64 x3]=>some (⟨x0,x1,x2,x3⟩:api_Policy)
 | _=>none
def dec_api_Provider:List (D U)→Option (El .api_Provider)
 | [.str x0,x1,.bool x2,.int .i64 x3,.int .i64 x4,.int .i64 x5,.int .i64 x6,.int .i64 x7,.str x8]=>match asSl .api_Op x1 with|some x1'=>some (⟨x0,x1',x2,⟨x3,x4,x5,x6⟩,⟨x7,x8⟩⟩:api_Provider)|_=>none
 | _=>none
def dec_bool:List (D U)→Option (El .bool)
 | [.bool x0]=>some (x0:Bool)
 | _=>none
def dec_code_mark:List (D U)→Option (El .code_mark)
 | [.int .i64 x0,.int .i64 x1,.int .i64 x2]=>some (⟨x0,x1,x2⟩:code_mark)
 | _=>none
def dec_code_state:List (D U)→Option (El .code_state)
 | [.bool x0,.int .i64 x1,x2]=>match asSl .code_mark x2 with|some x2'=>some (⟨x0,x1,x2'⟩:code_state)|_=>none
 | _=>none
def dec_int:List (D U)→Option (El .int)
 | [.int .i64 x0]=>some (x0:Int)
 | _=>none
def dec_machine_catch:List (D U)→Option (El .machine_catch)
 | [.int .i64 x0,x1,x2]=>match asSl .sl_api_Atom x1,asSl .sl_api_Atom x2 with|some x1',some x2'=>some (⟨x0,x1',x2'⟩:machine_catch)|_,_=>none
 | _=>none
def dec_sl_api_Atom:List (D U)→Option (El .sl_api_Atom)
 | [x0]=>match asSl .api_Atom x0 with|some x0'=>some (x0':(List api_Atom))|_=>none
 | _=>none
def dec_str:List (D U)→Option (El .str)
 | [.str x0]=>some (x0:ByteArray)
 | _=>none
def dec_value_whole:List (D U)→Option (El .value_whole)
 | [.int .i64 x0,.int .i64 x1]=>some (⟨x0,x1⟩:value_whole)
 | _=>none
def dec:(c:Ty)→List (D U)→Option (El c)
 | .anon_102=>dec_anon_102
 | .anon_105=>dec_anon_105
 | .anon_117=>dec_anon_117
 | .api_Atom=>dec_api_Atom
 | .api_Closer=>dec_api_Closer
 | .api_Crack=>dec_api_Crack
 | .api_Event=>dec_api_Event
 | .api_Fault=>dec_api_Fault
 | .api_Instr=>dec_api_Instr
 | .api_Op=>dec_api_Op
 | .api_Outcome=>dec_api_Outcome
 | .api_Own=>dec_api_Own
 | .api_Policy=>dec_api_Policy
 | .api_Provider=>dec_api_Provider
 | .bool=>dec_bool
 | .code_mark=>dec_code_mark
 | .code_state=>dec_code_state
 | .int=>dec_int
 | .machine_catch=>dec_machine_catch
 | .sl_api_Atom=>dec_sl_api_Atom
 | .str=>dec_str
 | .value_whole=>dec_value_whole
def dflt:(c:Ty)→El c
 | .anon_102=>(⟨[],[],[]⟩:anon_102)
 | .anon_105=>(⟨0,0⟩:anon_105)
 | .anon_117=>(⟨⟨0,[],[]⟩,⟨#[]⟩,[]⟩:anon_117)
 | .api_Atom=>(⟨0,0,0,⟨#[]⟩⟩:api_Atom)
 | .api_Closer=>(⟨0,⟨#[]⟩⟩:api_Closer)
 | .api_Crack=>(⟨0,0,⟨#[]⟩⟩:api_Crack)
 | .api_Event=>(⟨0,⟨#[]⟩,⟨0,[],[]⟩⟩:api_Event)
 | .api_Fault=>(⟨0,0⟩:api_Fault)
 | .api_Instr=>(⟨0,0,⟨#[]⟩⟩:api_Instr)
 | .api_Op=>(⟨0,0,0,⟨#[]⟩⟩:api_Op)
 | .api_Outcome=>(⟨0,[],[]⟩:api_Outcome)
 | .api_Own=>(⟨0,⟨⟨#[]⟩,[],false,⟨0,0,0,0⟩,⟨0,⟨#[]⟩⟩⟩⟩:api_Own)
 | .api_Policy=>(⟨0,0,0,0⟩:api_Policy)
 | .api_Provider=>(⟨⟨#[]⟩,[],false,⟨0,0,0,0⟩,⟨0,⟨#[]⟩⟩⟩:api_Provider)
 | .bool=>(false:Bool)
 | .code_mark=>(⟨0,0,0⟩:code_mark)
 | .code_state=>(⟨false,0,[]⟩:code_state)
 | .int=>(0:Int)
 | .machine_catch=>(⟨0,[],[]⟩:machine_catch)
 | .sl_api_Atom=>([]:(List api_Atom))
 | .str=>(⟨#[]⟩:ByteArray)
 | .value_whole=>(⟨0,0⟩:value_whole)
def keyEq:(c:Ty)→Option (List Z×(El c→El c→Bool))
 | .anon_105=>some ([.int .i64,.int .i64],fun (x y:anon_105)=>andB (eqI (x.gAt) (y.gAt)) (andB (eqI (x.gCode) (y.gCode)) (true)))
 | .api_Atom=>some ([.int .i64,.int .i64,.int .i64,.str],fun (x y:api_Atom)=>andB (eqI (x.gKind) (y.gKind)) (andB (eqI (x.gN) (y.gN)) (andB (eqI (x.gInt) (y.gInt)) (andB (strEq (x.gText) (y.gText)) (true)))))
 | .api_Closer=>some ([.int .i64,.str],fun (x y:api_Closer)=>andB (eqI (x.gKind) (y.gKind)) (andB (strEq (x.gText) (y.gText)) (true)))
 | .api_Crack=>some ([.int .i64,.int .i64,.str],fun (x y:api_Crack)=>andB (eqI (x.gKind) (y.gKind)) (andB (eqI (x.gN) (y.gN)) (andB (strEq (x.gText) (y.gText)) (true))))
 | .api_Fault=>some ([.int .i64,.int .i64],fun (x y:api_Fault)=>andB (eqI (x.gAt) (y.gAt)) (andB (eqI (x.gCode) (y.gCode)) (true)))
 | .api_Instr=>some ([.int .i64,.int .i64,.str],fun (x y:api_Instr)=>andB (eqI (x.gOp) (y.gOp)) (andB (eqI (x.gA) (y.gA)) (andB (strEq (x.gText) (y.gText)) (true))))
 | .api_Op=>some ([.int .i64,.int .i64,.int .i64,.str],fun (x y:api_Op)=>andB (eqI (x.gKind) (y.gKind)) (andB (eqI (x.gN) (y.gN)) (andB (eqI (x.gInt) (y.gInt)) (andB (strEq (x.gText) (y.gText)) (true)))))
 | .api_Policy=>some ([.int .i64,.int .i64,.int .i64,.int .i64],fun (x y:api_Policy)=>andB (eqI (x.gTries) (y.gTries)) (andB (eqI (x.gBase) (y.gBase)) (andB (eqI (x.gFactor) (y.gFactor)) (andB (eqI (x.gCap) (y.gCap)) (true)))))
 | .bool=>some ([.bool],fun (x y:Bool)=>andB (eqB (x) (y)) (true))
 | .code_mark=>some ([.int .i64,.int .i64,.int .i64],fun (x y:code_mark)=>andB (eqI (x.gOp) (y.gOp)) (andB (eqI (x.gGoes) (y.gGoes)) (andB (eqI (x.gHigh) (y.gHigh)) (true))))
 | .int=>some ([.int .i64],fun (x y:Int)=>andB (eqI (x) (y)) (true))
 | .str=>some ([.str],fun (x y:ByteArray)=>andB (strEq (x) (y)) (true))
 | .value_whole=>some ([.int .i64,.int .i64],fun (x y:value_whole)=>andB (eqI (x.gFrom) (y.gFrom)) (andB (eqI (x.gDeep) (y.gDeep)) (true)))
 | _=>none
def bytesC:Ty→Nat
 | .anon_102=>72
 | .anon_105=>16
 | .anon_117=>96
 | .api_Atom=>40
 | .api_Closer=>24
 | .api_Crack=>32
 | .api_Event=>80
 | .api_Fault=>16
 | .api_Instr=>32
 | .api_Op=>40
 | .api_Outcome=>56
 | .api_Own=>112
 | .api_Policy=>32
 | .api_Provider=>104
 | .bool=>1
 | .code_mark=>24
 | .code_state=>40
 | .int=>8
 | .machine_catch=>56
 | .sl_api_Atom=>24
 | .str=>16
 | .value_whole=>16
def flat:Ty→Bool
 | .anon_105=>true
 | .api_Atom=>true
 | .api_Closer=>true
 | .api_Crack=>true
 | .api_Fault=>true
 | .api_Instr=>true
 | .api_Op=>true
 | .api_Policy=>true
 | .bool=>true
 | .code_mark=>true
 | .int=>true
 | .str=>true
 | .value_whole=>true
 | _=>false
end Go.Proofs.YtopifagbbmhgfaaGreatDoor.V
