/- DEFINITIONS, and how they lie in memory cells: the pure data of this program. Conditions: none. (Written by a program of mine, mkcfg.py.) -/
import Derived.Test.YtaldbipmbkapmaaDoorA30
namespace Go.Proofs.YtaldbipmbkapmaaDoor.V
set_option linter.unusedVariables false
set_option linter.unusedSimpArgs false
open Go Go.Abs
structure api_Closer where
 gKind:Int
 gText:ByteArray
structure api_Fault where
 gAt:Int
 gCode:Int
structure api_Op where
 gKind:Int
 gN:Int
 gInt:Int
 gText:ByteArray
structure api_Policy where
 gTries:Int
 gBase:Int
 gFactor:Int
 gCap:Int
structure api_Provider where
 gName:ByteArray
 gExpr:(List api_Op)
 gAgain:Bool
 gPolicy:api_Policy
 gCloser:api_Closer
structure api_Own where
 gScope:Int
 gProvider:api_Provider
structure api_World where
 gParents:(List Int)
 gCells:(List api_Own)
 gOpen:(List ByteArray)
structure lazy_key where
 gScope:Int
 gName:ByteArray
inductive Ty where
 | api_Closer
 | api_Fault
 | api_Op
 | api_Own
 | api_Policy
 | api_Provider
 | api_World
 | bool
 | int
 | lazy_key
 | sl_int
 | str
 deriving DecidableEq
def El:Ty→Type
 | .api_Closer=>api_Closer
 | .api_Fault=>api_Fault
 | .api_Op=>api_Op
 | .api_Own=>api_Own
 | .api_Policy=>api_Policy
 | .api_Provider=>api_Provider
 | .api_World=>api_World
 | .bool=>Bool
 | .int=>Int
 | .lazy_key=>lazy_key
 | .sl_int=>(List Int)
 | .str=>ByteArray
def U:Univ:=⟨Ty,El,inferInstance⟩
def width:Ty→Nat
 | .api_Closer=>2
 | .api_Fault=>2
 | .api_Op=>4
 | .api_Own=>10
 | .api_Policy=>4
 | .api_Provider=>9
 | .api_World=>3
 | .bool=>1
 | .int=>1
 | .lazy_key=>2
 | .sl_int=>1
 | .str=>1
def enc:(c:Ty)→El c→List (D U)
 | .api_Closer,(x:api_Closer)=>[.int .i64 x.gKind,.str x.gText]
 | .api_Fault,(x:api_Fault)=>[.int .i64 x.gAt,.int .i64 x.gCode]
 | .api_Op,(x:api_Op)=>[.int .i64 x.gKind,.int .i64 x.gN,.int .i64 x.gInt,.str x.gText]
 | .api_Own,(x:api_Own)=>[.int .i64 x.gScope,.str x.gProvider.gName,.sl .api_Op x.gProvider.gExpr,.bool x.gProvider.gAgain,.int .i64 x.gProvider.gPolicy.gTries,.int .i64 x.gProvider.gPolicy.gBase,.int .i64 x.gProvider.gPolicy.gFactor,.int .i64 x.gProvider.gPolicy.gCap,.int .i64 x.gProvider.gCloser.gKind,.str x.gProvider.gCloser.gText]
 | .api_Policy,(x:api_Policy)=>[.int .i64 x.gTries,.int .i64 x.gBase,.int .i64 x.gFactor,.int .i64 x.gCap]
 | .api_Provider,(x:api_Provider)=>[.str x.gName,.sl .api_Op x.gExpr,.bool x.gAgain,.int .i64 x.gPolicy.gTries,.int .i64 x.gPolicy.gBase,.int .i64 x.gPolicy.gFactor,.int .i64 x.gPolicy.gCap,.int .i64 x.gCloser.gKind,.str x.gCloser.gText]
 | .api_World,(x:api_World)=>[.sl .int x.gParents,.sl .api_Own x.gCells,.sl .str x.gOpen]
 | .bool,(x:Bool)=>[.bool x]
 | .int,(x:Int)=>[.int .i64 x]
 | .lazy_key,(x:lazy_key)=>[.int .i64 x.gScope,.str x.gName]
 | .sl_int,(x:(List Int))=>[.sl .int x]
 | .str,(x:ByteArray)=>[.str x]
def asSl (c:Ty):D U→Option (List (El c))
 | .sl _ xs=>castL (F:=El) xs
 | .nils=>some (nilL _)
 | _=>none
def dec_api_Closer:List (D U)→Option (El .api_Closer)
 | [.int .i64 x0,.str x1]=>some (⟨x0,x1⟩:api_Closer)
 | _=>none
def dec_api_Fault:List (D U)→Option (El .api_Fault)
 | [.int .i64 x0,.int .i64 x1]=>some (⟨x0,x1⟩:api_Fault)
 | _=>none
def dec_api_Op:List (D U)→Option (El .api_Op)
 | [.int .i64 x0,.int .i64 x1,.int .i64 x2,.str x3]=>some (⟨x0,x1,x2,x3⟩:api_Op)
 | _=>none
def dec_api_Own:List (D U)→Option (El .api_Own)
 | [.int .i64 x0,.str x1,x2,.bool x3,.int .i64 x4,.int .i64 x5,.int .i64 x6,.int .i64 x7,.int .i64 x8,.str x9]=>match asSl .api_Op x2 with|some x2'=>some (⟨x0,⟨x1,x2',x3,⟨x4,x5,x6,x7⟩,⟨x8,x9⟩⟩⟩:api_Own)|_=>none
 | _=>none
def dec_api_Policy:List (D U)→Option (El .api_Policy)
 | [.int .i64 x0,.int .i64 x1,.int .i64 x2,.int .i64 x3]=>some (⟨x0,x1,x2,x3⟩:api_Policy)
 | _=>none
def dec_api_Provider:List (D U)→Option (El .api_Provider)
 | [.str x0,x1,.bool x2,.int .i64 x3,.int .i64 x4,.int .i64 x5,.int .i64 x6,.int .i64 x7,.str x8]=>match asSl .api_Op x1 with|some x1'=>some (⟨x0,x1',x2,⟨x3,x4,x5,x6⟩,⟨x7,x8⟩⟩:api_Provider)|_=>none
 | _=>none
def dec_api_World:List (D U)→Option (El .api_World)
 | [x0,x1,x2]=>match asSl .int x0,asSl .api_Own x1,asSl .str x2 with|some x0',some x1',some x2'=>some (⟨x0',x1',x2'⟩:api_World)|_,_,_=>none
 | _=>none
def dec_bool:List (D U)→Option (El .bool)
 | [.bool x0]=>some (x0:Bool)
 | _=>none
def dec_int:List (D U)→Option (El .int)
 | [.int .i64 x0]=>some (x0:Int)
 | _=>none
def dec_lazy_key:List (D U)→Option (El .lazy_key)
 | [.int .i64 x0,.str x1]=>some (⟨x0,x1⟩:lazy_key)
 | _=>none
def dec_sl_int:List (D U)→Option (El .sl_int)
 | [x0]=>match asSl .int x0 with|some x0'=>some (x0':(List Int))|_=>none
 | _=>none
def dec_str:List (D U)→Option (El .str)
 | [.str x0]=>some (x0:ByteArray)
 | _=>none
def dec:(c:Ty)→List (D U)→Option (El c)
 | .api_Closer=>dec_api_Closer
 | .api_Fault=>dec_api_Fault
 | .api_Op=>dec_api_Op
 | .api_Own=>dec_api_Own
 | .api_Policy=>dec_api_Policy
 | .api_Provider=>dec_api_Provider
 | .api_World=>dec_api_World
 | .bool=>dec_bool
 | .int=>dec_int
 | .lazy_key=>dec_lazy_key
 | .sl_int=>dec_sl_int
 | .str=>dec_str
def dflt:(c:Ty)→El c
 | .api_Closer=>(⟨0,⟨#[]⟩⟩:api_Closer)
 | .api_Fault=>(⟨0,0⟩:api_Fault)
 | .api_Op=>(⟨0,0,0,⟨#[]⟩⟩:api_Op)
 | .api_Own=>(⟨0,⟨⟨#[]⟩,[],false,⟨0,0,0,0⟩,⟨0,⟨#[]⟩⟩⟩⟩:api_Own)
 | .api_Policy=>(⟨0,0,0,0⟩:api_Policy)
 | .api_Provider=>(⟨⟨#[]⟩,[],false,⟨0,0,0,0⟩,⟨0,⟨#[]⟩⟩⟩:api_Provider)
 | .api_World=>(⟨[],[],[]⟩:api_World)
 | .bool=>(false:Bool)
 | .int=>(0:Int)
 | .lazy_key=>(⟨0,⟨#[]⟩⟩:lazy_key)
 | .sl_int=>([]:(List Int))
 | .str=>(⟨#[]⟩:ByteArray)
def keyEq:(c:Ty)→Option (List Z×(El c→El c→Bool))
 | .api_Closer=>some ([.int .i64,.str],fun (x y:api_Closer)=>andB (eqI (x.gKind) (y.gKind)) (andB (strEq (x.gText) (y.gText)) (true)))
 | .api_Fault=>some ([.int .i64,.int .i64],fun (x y:api_Fault)=>andB (eqI (x.gAt) (y.gAt)) (andB (eqI (x.gCode) (y.gCode)) (true)))
 | .api_Op=>some ([.int .i64,.int .i64,.int .i64,.str],fun (x y:api_Op)=>andB (eqI (x.gKind) (y.gKind)) (andB (eqI (x.gN) (y.gN)) (andB (eqI (x.gInt) (y.gInt)) (andB (strEq (x.gText) (y.gText)) (true)))))
 | .api_Policy=>some ([.int .i64,.int .i64,.int .i64,.int .i64],fun (x y:api_Policy)=>andB (eqI (x.gTries) (y.gTries)) (andB (eqI (x.gBase) (y.gBase)) (andB (eqI (x.gFactor) (y.gFactor)) (andB (eqI (x.gCap) (y.gCap)) (true)))))
 | .bool=>some ([.bool],fun (x y:Bool)=>andB (eqB (x) (y)) (true))
 | .int=>some ([.int .i64],fun (x y:Int)=>andB (eqI (x) (y)) (true))
 | .lazy_key=>some ([.int .i64,.str],fun (x y:lazy_key)=>andB (eqI (x.gScope) (y.gScope)) (andB (strEq (x.gName) (y.gName)) (true)))
 | .str=>some ([.str],fun (x y:ByteArray)=>andB (strEq (x) (y)) (true))
 | _=>none
def bytesC:Ty→Nat
 | .api_Closer=>24
 | .api_Fault=>16
 | .api_Op=>40
 | .api_Own=>112
 | .api_Policy=>32
 | .api_Provider=>104
 | .api_World=>72
 | .bool=>1
 | .int=>8
 | .lazy_key=>24
 | .sl_int=>24
 | .str=>16
def flat:Ty→Bool
 | .api_Closer=>true
 | .api_Fault=>true
 | .api_Op=>true
 | .api_Policy=>true
 | .bool=>true
 | .int=>true
 | .lazy_key=>true
 | .str=>true
 | _=>false
end Go.Proofs.YtaldbipmbkapmaaDoor.V
