/- DEFINITIONS, and how they lie in memory cells: the pure data of this program. Conditions: none. (Written by a program of mine, mkcfg.py.) -/
import Derived.Test.YtopifagbbmhgfaaDoorA30
namespace Go.Proofs.YtopifagbbmhgfaaDoor.V
set_option linter.unusedVariables false
set_option linter.unusedSimpArgs false
open Go Go.Abs
structure anon_103 where
 gFrom:Int
 gDeep:Int
structure api_Atom where
 gKind:Int
 gN:Int
 gInt:Int
 gText:ByteArray
structure api_Crack where
 gKind:Int
 gN:Int
 gText:ByteArray
structure api_Outcome where
 gKind:Int
 gValue:(List api_Atom)
 gFail:(List api_Crack)
structure api_Known where
 gName:ByteArray
 gOutcome:api_Outcome
structure api_Meaning where
 gOutcome:api_Outcome
 gGate:ByteArray
 gAsked:(List ByteArray)
structure api_Op where
 gKind:Int
 gN:Int
 gInt:Int
 gText:ByteArray
structure eval_local where
 gName:ByteArray
 gV:(List api_Atom)
structure value_whole where
 gFrom:Int
 gDeep:Int
inductive Ty where
 | anon_103
 | api_Atom
 | api_Crack
 | api_Known
 | api_Meaning
 | api_Op
 | api_Outcome
 | bool
 | eval_local
 | int
 | sl_api_Atom
 | sl_api_Op
 | str
 | value_whole
 deriving DecidableEq
def El:Ty→Type
 | .anon_103=>anon_103
 | .api_Atom=>api_Atom
 | .api_Crack=>api_Crack
 | .api_Known=>api_Known
 | .api_Meaning=>api_Meaning
 | .api_Op=>api_Op
 | .api_Outcome=>api_Outcome
 | .bool=>Bool
 | .eval_local=>eval_local
 | .int=>Int
 | .sl_api_Atom=>(List api_Atom)
 | .sl_api_Op=>(List api_Op)
 | .str=>ByteArray
 | .value_whole=>value_whole
def U:Univ:=⟨Ty,El,inferInstance⟩
def width:Ty→Nat
 | .anon_103=>2
 | .api_Atom=>4
 | .api_Crack=>3
 | .api_Known=>4
 | .api_Meaning=>5
 | .api_Op=>4
 | .api_Outcome=>3
 | .bool=>1
 | .eval_local=>2
 | .int=>1
 | .sl_api_Atom=>1
 | .sl_api_Op=>1
 | .str=>1
 | .value_whole=>2
def enc:(c:Ty)→El c→List (D U)
 | .anon_103,(x:anon_103)=>[.int .i64 x.gFrom,.int .i64 x.gDeep]
 | .api_Atom,(x:api_Atom)=>[.int .i64 x.gKind,.int .i64 x.gN,.int .i64 x.gInt,.str x.gText]
 | .api_Crack,(x:api_Crack)=>[.int .i64 x.gKind,.int .i64 x.gN,.str x.gText]
 | .api_Known,(x:api_Known)=>[.str x.gName,.int .i64 x.gOutcome.gKind,.sl .api_Atom x.gOutcome.gValue,.sl .api_Crack x.gOutcome.gFail]
 | .api_Meaning,(x:api_Meaning)=>[.int .i64 x.gOutcome.gKind,.sl .api_Atom x.gOutcome.gValue,.sl .api_Crack x.gOutcome.gFail,.str x.gGate,.sl .str x.gAsked]
 | .api_Op,(x:api_Op)=>[.int .i64 x.gKind,.int .i64 x.gN,.int .i64 x.gInt,.str x.gText]
 | .api_Outcome,(x:api_Outcome)=>[.int .i64 x.gKind,.sl .api_Atom x.gValue,.sl .api_Crack x.gFail]
 | .bool,(x:Bool)=>[.bool x]
 | .eval_local,(x:eval_local)=>[.str x.gName,.sl .api_Atom x.gV]
 | .int,(x:Int)=>[.int .i64 x]
 | .sl_api_Atom,(x:(List api_Atom))=>[.sl .api_Atom x]
 | .sl_api_Op,(x:(List api_Op))=>[.sl .api_Op x]
 | .str,(x:ByteArray)=>[.str x]
 | .value_whole,(x:value_whole)=>[.int .i64 x.gFrom,.int .i64 x.gDeep]
def asSl (c:Ty):D U→Option (List (El c))
 | .sl _ xs=>castL (F:=El) xs
 | .nils=>some (nilL _)
 | _=>none
def dec_anon_103:List (D U)→Option (El .anon_103)
 | [.int .i64 x0,.int .i64 x1]=>some (⟨x0,x1⟩:anon_103)
 | _=>none
def dec_api_Atom:List (D U)→Option (El .api_Atom)
 | [.int .i64 x0,.int .i64 x1,.int .i64 x2,.str x3]=>some (⟨x0,x1,x2,x3⟩:api_Atom)
 | _=>none
def dec_api_Crack:List (D U)→Option (El .api_Crack)
 | [.int .i64 x0,.int .i64 x1,.str x2]=>some (⟨x0,x1,x2⟩:api_Crack)
 | _=>none
def dec_api_Known:List (D U)→Option (El .api_Known)
 | [.str x0,.int .i64 x1,x2,x3]=>match asSl .api_Atom x2,asSl .api_Crack x3 with|some x2',some x3'=>some (⟨x0,⟨x1,x2',x3'⟩⟩:api_Known)|_,_=>none
 | _=>none
def dec_api_Meaning:List (D U)→Option (El .api_Meaning)
 | [.int .i64 x0,x1,x2,.str x3,x4]=>match asSl .api_Atom x1,asSl .api_Crack x2,asSl .str x4 with|some x1',some x2',some x4'=>some (⟨⟨x0,x1',x2'⟩,x3,x4'⟩:api_Meaning)|_,_,_=>none
 | _=>none
def dec_api_Op:List (D U)→Option (El .api_Op)
 | [.int .i64 x0,.int .i64 x1,.int .i64 x2,.str x3]=>some (⟨x0,x1,x2,x3⟩:api_Op)
 | _=>none
def dec_api_Outcome:List (D U)→Option (El .api_Outcome)
 | [.int .i64 x0,x1,x2]=>match asSl .api_Atom x1,asSl .api_Crack x2 with|some x1',some x2'=>some (⟨x0,x1',x2'⟩:api_Outcome)|_,_=>none
 | _=>none
def dec_bool:List (D U)→Option (El .bool)
 | [.bool x0]=>some (x0:Bool)
 | _=>none
def dec_eval_local:List (D U)→Option (El .eval_local)
 | [.str x0,x1]=>match asSl .api_Atom x1 with|some x1'=>some (⟨x0,x1'⟩:eval_local)|_=>none
 | _=>none
def dec_int:List (D U)→Option (El .int)
 | [.int .i64 x0]=>some (x0:Int)
 | _=>none
def dec_sl_api_Atom:List (D U)→Option (El .sl_api_Atom)
 | [x0]=>match asSl .api_Atom x0 with|some x0'=>some (x0':(List api_Atom))|_=>none
 | _=>none
def dec_sl_api_Op:List (D U)→Option (El .sl_api_Op)
 | [x0]=>match asSl .api_Op x0 with|some x0'=>some (x0':(List api_Op))|_=>none
 | _=>none
def dec_str:List (D U)→Option (El .str)
 | [.str x0]=>some (x0:ByteArray)
 | _=>none
def dec_value_whole:List (D U)→Option (El .value_whole)
 | [.int .i64 x0,.int .i64 x1]=>some (⟨x0,x1⟩:value_whole)
 | _=>none
def dec:(c:Ty)→List (D U)→Option (El c)
 | .anon_103=>dec_anon_103
 | .api_Atom=>dec_api_Atom
 | .api_Crack=>dec_api_Crack
 | .api_Known=>dec_api_Known
 | .api_Meaning=>dec_api_Meaning
 | .api_Op=>dec_api_Op
 | .api_Outcome=>dec_api_Outcome
 | .bool=>dec_bool
 | .eval_local=>dec_eval_local
 | .int=>dec_int
 | .sl_api_Atom=>dec_sl_api_Atom
 | .sl_api_Op=>dec_sl_api_Op
 | .str=>dec_str
 | .value_whole=>dec_value_whole
def dflt:(c:Ty)→El c
 | .anon_103=>(⟨0,0⟩:anon_103)
 | .api_Atom=>(⟨0,0,0,⟨#[]⟩⟩:api_Atom)
 | .api_Crack=>(⟨0,0,⟨#[]⟩⟩:api_Crack)
 | .api_Known=>(⟨⟨#[]⟩,⟨0,[],[]⟩⟩:api_Known)
 | .api_Meaning=>(⟨⟨0,[],[]⟩,⟨#[]⟩,[]⟩:api_Meaning)
 | .api_Op=>(⟨0,0,0,⟨#[]⟩⟩:api_Op)
 | .api_Outcome=>(⟨0,[],[]⟩:api_Outcome)
 | .bool=>(false:Bool)
 | .eval_local=>(⟨⟨#[]⟩,[]⟩:eval_local)
 | .int=>(0:Int)
 | .sl_api_Atom=>([]:(List api_Atom))
 | .sl_api_Op=>([]:(List api_Op))
 | .str=>(⟨#[]⟩:ByteArray)
 | .value_whole=>(⟨0,0⟩:value_whole)
def keyEq:(c:Ty)→Option (List Z×(El c→El c→Bool))
 | .anon_103=>some ([.int .i64,.int .i64],fun (x y:anon_103)=>andB (eqI (x.gFrom) (y.gFrom)) (andB (eqI (x.gDeep) (y.gDeep)) (true)))
 | .api_Atom=>some ([.int .i64,.int .i64,.int .i64,.str],fun (x y:api_Atom)=>andB (eqI (x.gKind) (y.gKind)) (andB (eqI (x.gN) (y.gN)) (andB (eqI (x.gInt) (y.gInt)) (andB (strEq (x.gText) (y.gText)) (true)))))
 | .api_Crack=>some ([.int .i64,.int .i64,.str],fun (x y:api_Crack)=>andB (eqI (x.gKind) (y.gKind)) (andB (eqI (x.gN) (y.gN)) (andB (strEq (x.gText) (y.gText)) (true))))
 | .api_Op=>some ([.int .i64,.int .i64,.int .i64,.str],fun (x y:api_Op)=>andB (eqI (x.gKind) (y.gKind)) (andB (eqI (x.gN) (y.gN)) (andB (eqI (x.gInt) (y.gInt)) (andB (strEq (x.gText) (y.gText)) (true)))))
 | .bool=>some ([.bool],fun (x y:Bool)=>andB (eqB (x) (y)) (true))
 | .int=>some ([.int .i64],fun (x y:Int)=>andB (eqI (x) (y)) (true))
 | .str=>some ([.str],fun (x y:ByteArray)=>andB (strEq (x) (y)) (true))
 | .value_whole=>some ([.int .i64,.int .i64],fun (x y:value_whole)=>andB (eqI (x.gFrom) (y.gFrom)) (andB (eqI (x.gDeep) (y.gDeep)) (true)))
 | _=>none
def bytesC:Ty→Nat
 | .anon_103=>16
 | .api_Atom=>40
 | .api_Crack=>32
 | .api_Known=>72
 | .api_Meaning=>96
 | .api_Op=>40
 | .api_Outcome=>56
 | .bool=>1
 | .eval_local=>40
 | .int=>8
 | .sl_api_Atom=>24
 | .sl_api_Op=>24
 | .str=>16
 | .value_whole=>16
def flat:Ty→Bool
 | .anon_103=>true
 | .api_Atom=>true
 | .api_Crack=>true
 | .api_Op=>true
 | .bool=>true
 | .int=>true
 | .str=>true
 | .value_whole=>true
 | _=>false
end Go.Proofs.YtopifagbbmhgfaaDoor.V
