/- DEFINITIONS, and how they lie in memory cells: the pure data of this program. Conditions: none. (Written by a program of mine, mkcfg.py.) -/
import Derived.Test.YtikcopbjconkfaaDoorA30
namespace Go.Proofs.YtikcopbjconkfaaDoor.V
set_option linter.unusedVariables false
set_option linter.unusedSimpArgs false
open Go Go.Abs

structure api_Op where
  gKind : Int
  gN : Int
  gInt : Int
  gText : ByteArray

structure api_Policy where
  gTries : Int
  gBase : Int
  gFactor : Int
  gCap : Int

structure api_Closer where
  gKind : Int
  gText : ByteArray

structure anon_97 where
  gName : ByteArray
  gExpr : (List api_Op)
  gAgain : Bool
  gPolicy : api_Policy
  gCloser : api_Closer

structure api_Provider where
  gName : ByteArray
  gExpr : (List api_Op)
  gAgain : Bool
  gPolicy : api_Policy
  gCloser : api_Closer

structure anon_99 where
  gScope : Int
  gProvider : api_Provider

structure api_Atom where
  gKind : Int
  gN : Int
  gInt : Int
  gText : ByteArray

structure api_Crack where
  gKind : Int
  gN : Int
  gText : ByteArray

structure api_Outcome where
  gKind : Int
  gValue : (List api_Atom)
  gFail : (List api_Crack)

structure api_Known where
  gName : ByteArray
  gOutcome : api_Outcome

structure api_Meaning where
  gOutcome : api_Outcome
  gGate : ByteArray
  gAsked : (List ByteArray)

structure api_Own where
  gScope : Int
  gProvider : api_Provider

structure audit_cell where
  gScope : Int
  gName : ByteArray

structure audit_generation where
  gCell : audit_cell
  gGen : Int

structure audit_state where
  gGen : Int
  gRuns : Bool
  gTask : Int
  gOut : api_Outcome
  gShut : Bool
  gUsed : (List audit_generation)
  gPut : Int

structure eval_local where
  gName : ByteArray
  gV : (List api_Atom)

structure lazy_key where
  gScope : Int
  gName : ByteArray

structure value_whole where
  gFrom : Int
  gDeep : Int

inductive Ty where
  | anon_97
  | anon_99
  | api_Atom
  | api_Closer
  | api_Crack
  | api_Known
  | api_Meaning
  | api_Op
  | api_Outcome
  | api_Own
  | api_Policy
  | api_Provider
  | audit_cell
  | audit_generation
  | audit_state
  | bool
  | eval_local
  | int
  | lazy_key
  | sl_api_Atom
  | sl_int
  | str
  | value_whole
  deriving DecidableEq

def El : Ty → Type
  | .anon_97 => anon_97
  | .anon_99 => anon_99
  | .api_Atom => api_Atom
  | .api_Closer => api_Closer
  | .api_Crack => api_Crack
  | .api_Known => api_Known
  | .api_Meaning => api_Meaning
  | .api_Op => api_Op
  | .api_Outcome => api_Outcome
  | .api_Own => api_Own
  | .api_Policy => api_Policy
  | .api_Provider => api_Provider
  | .audit_cell => audit_cell
  | .audit_generation => audit_generation
  | .audit_state => audit_state
  | .bool => Bool
  | .eval_local => eval_local
  | .int => Int
  | .lazy_key => lazy_key
  | .sl_api_Atom => (List api_Atom)
  | .sl_int => (List Int)
  | .str => ByteArray
  | .value_whole => value_whole

def U : Univ := ⟨Ty, El, inferInstance⟩

def width : Ty → Nat
  | .anon_97 => 9
  | .anon_99 => 10
  | .api_Atom => 4
  | .api_Closer => 2
  | .api_Crack => 3
  | .api_Known => 4
  | .api_Meaning => 5
  | .api_Op => 4
  | .api_Outcome => 3
  | .api_Own => 10
  | .api_Policy => 4
  | .api_Provider => 9
  | .audit_cell => 2
  | .audit_generation => 3
  | .audit_state => 9
  | .bool => 1
  | .eval_local => 2
  | .int => 1
  | .lazy_key => 2
  | .sl_api_Atom => 1
  | .sl_int => 1
  | .str => 1
  | .value_whole => 2

def enc : (c : Ty) → El c → List (D U)
  | .anon_97, (x : anon_97) => [.str x.gName, .sl .api_Op x.gExpr, .bool x.gAgain, .int .i64 x.gPolicy.gTries, .int .i64 x.gPolicy.gBase, .int .i64 x.gPolicy.gFactor, .int .i64 x.gPolicy.gCap, .int .i64 x.gCloser.gKind, .str x.gCloser.gText]
  | .anon_99, (x : anon_99) => [.int .i64 x.gScope, .str x.gProvider.gName, .sl .api_Op x.gProvider.gExpr, .bool x.gProvider.gAgain, .int .i64 x.gProvider.gPolicy.gTries, .int .i64 x.gProvider.gPolicy.gBase, .int .i64 x.gProvider.gPolicy.gFactor, .int .i64 x.gProvider.gPolicy.gCap, .int .i64 x.gProvider.gCloser.gKind, .str x.gProvider.gCloser.gText]
  | .api_Atom, (x : api_Atom) => [.int .i64 x.gKind, .int .i64 x.gN, .int .i64 x.gInt, .str x.gText]
  | .api_Closer, (x : api_Closer) => [.int .i64 x.gKind, .str x.gText]
  | .api_Crack, (x : api_Crack) => [.int .i64 x.gKind, .int .i64 x.gN, .str x.gText]
  | .api_Known, (x : api_Known) => [.str x.gName, .int .i64 x.gOutcome.gKind, .sl .api_Atom x.gOutcome.gValue, .sl .api_Crack x.gOutcome.gFail]
  | .api_Meaning, (x : api_Meaning) => [.int .i64 x.gOutcome.gKind, .sl .api_Atom x.gOutcome.gValue, .sl .api_Crack x.gOutcome.gFail, .str x.gGate, .sl .str x.gAsked]
  | .api_Op, (x : api_Op) => [.int .i64 x.gKind, .int .i64 x.gN, .int .i64 x.gInt, .str x.gText]
  | .api_Outcome, (x : api_Outcome) => [.int .i64 x.gKind, .sl .api_Atom x.gValue, .sl .api_Crack x.gFail]
  | .api_Own, (x : api_Own) => [.int .i64 x.gScope, .str x.gProvider.gName, .sl .api_Op x.gProvider.gExpr, .bool x.gProvider.gAgain, .int .i64 x.gProvider.gPolicy.gTries, .int .i64 x.gProvider.gPolicy.gBase, .int .i64 x.gProvider.gPolicy.gFactor, .int .i64 x.gProvider.gPolicy.gCap, .int .i64 x.gProvider.gCloser.gKind, .str x.gProvider.gCloser.gText]
  | .api_Policy, (x : api_Policy) => [.int .i64 x.gTries, .int .i64 x.gBase, .int .i64 x.gFactor, .int .i64 x.gCap]
  | .api_Provider, (x : api_Provider) => [.str x.gName, .sl .api_Op x.gExpr, .bool x.gAgain, .int .i64 x.gPolicy.gTries, .int .i64 x.gPolicy.gBase, .int .i64 x.gPolicy.gFactor, .int .i64 x.gPolicy.gCap, .int .i64 x.gCloser.gKind, .str x.gCloser.gText]
  | .audit_cell, (x : audit_cell) => [.int .i64 x.gScope, .str x.gName]
  | .audit_generation, (x : audit_generation) => [.int .i64 x.gCell.gScope, .str x.gCell.gName, .int .i64 x.gGen]
  | .audit_state, (x : audit_state) => [.int .i64 x.gGen, .bool x.gRuns, .int .i64 x.gTask, .int .i64 x.gOut.gKind, .sl .api_Atom x.gOut.gValue, .sl .api_Crack x.gOut.gFail, .bool x.gShut, .sl .audit_generation x.gUsed, .int .i64 x.gPut]
  | .bool, (x : Bool) => [.bool x]
  | .eval_local, (x : eval_local) => [.str x.gName, .sl .api_Atom x.gV]
  | .int, (x : Int) => [.int .i64 x]
  | .lazy_key, (x : lazy_key) => [.int .i64 x.gScope, .str x.gName]
  | .sl_api_Atom, (x : (List api_Atom)) => [.sl .api_Atom x]
  | .sl_int, (x : (List Int)) => [.sl .int x]
  | .str, (x : ByteArray) => [.str x]
  | .value_whole, (x : value_whole) => [.int .i64 x.gFrom, .int .i64 x.gDeep]

def asSl (c : Ty) : D U → Option (List (El c))
  | .sl _ xs => castL (F := El) xs
  | .nils => some (nilL _)
  | _ => none

def dec_anon_97 : List (D U) → Option (El .anon_97)
  | [.str x0, x1, .bool x2, .int .i64 x3, .int .i64 x4, .int .i64 x5, .int .i64 x6, .int .i64 x7, .str x8] => match asSl .api_Op x1 with | some x1' => some (⟨x0, x1', x2, ⟨x3, x4, x5, x6⟩, ⟨x7, x8⟩⟩ : anon_97) | _ => none
  | _ => none

def dec_anon_99 : List (D U) → Option (El .anon_99)
  | [.int .i64 x0, .str x1, x2, .bool x3, .int .i64 x4, .int .i64 x5, .int .i64 x6, .int .i64 x7, .int .i64 x8, .str x9] => match asSl .api_Op x2 with | some x2' => some (⟨x0, ⟨x1, x2', x3, ⟨x4, x5, x6, x7⟩, ⟨x8, x9⟩⟩⟩ : anon_99) | _ => none
  | _ => none

def dec_api_Atom : List (D U) → Option (El .api_Atom)
  | [.int .i64 x0, .int .i64 x1, .int .i64 x2, .str x3] => some (⟨x0, x1, x2, x3⟩ : api_Atom)
  | _ => none

def dec_api_Closer : List (D U) → Option (El .api_Closer)
  | [.int .i64 x0, .str x1] => some (⟨x0, x1⟩ : api_Closer)
  | _ => none

def dec_api_Crack : List (D U) → Option (El .api_Crack)
  | [.int .i64 x0, .int .i64 x1, .str x2] => some (⟨x0, x1, x2⟩ : api_Crack)
  | _ => none

def dec_api_Known : List (D U) → Option (El .api_Known)
  | [.str x0, .int .i64 x1, x2, x3] => match asSl .api_Atom x2, asSl .api_Crack x3 with | some x2', some x3' => some (⟨x0, ⟨x1, x2', x3'⟩⟩ : api_Known) | _, _ => none
  | _ => none

def dec_api_Meaning : List (D U) → Option (El .api_Meaning)
  | [.int .i64 x0, x1, x2, .str x3, x4] => match asSl .api_Atom x1, asSl .api_Crack x2, asSl .str x4 with | some x1', some x2', some x4' => some (⟨⟨x0, x1', x2'⟩, x3, x4'⟩ : api_Meaning) | _, _, _ => none
  | _ => none

def dec_api_Op : List (D U) → Option (El .api_Op)
  | [.int .i64 x0, .int .i64 x1, .int .i64 x2, .str x3] => some (⟨x0, x1, x2, x3⟩ : api_Op)
  | _ => none

def dec_api_Outcome : List (D U) → Option (El .api_Outcome)
  | [.int .i64 x0, x1, x2] => match asSl .api_Atom x1, asSl .api_Crack x2 with | some x1', some x2' => some (⟨x0, x1', x2'⟩ : api_Outcome) | _, _ => none
  | _ => none

def dec_api_Own : List (D U) → Option (El .api_Own)
  | [.int .i64 x0, .str x1, x2, .bool x3, .int .i64 x4, .int .i64 x5, .int .i64 x6, .int .i64 x7, .int .i64 x8, .str x9] => match asSl .api_Op x2 with | some x2' => some (⟨x0, ⟨x1, x2', x3, ⟨x4, x5, x6, x7⟩, ⟨x8, x9⟩⟩⟩ : api_Own) | _ => none
  | _ => none

def dec_api_Policy : List (D U) → Option (El .api_Policy)
  | [.int .i64 x0, .int .i64 x1, .int .i64 x2, .int .i64 x3] => some (⟨x0, x1, x2, x3⟩ : api_Policy)
  | _ => none

def dec_api_Provider : List (D U) → Option (El .api_Provider)
  | [.str x0, x1, .bool x2, .int .i64 x3, .int .i64 x4, .int .i64 x5, .int .i64 x6, .int .i64 x7, .str x8] => match asSl .api_Op x1 with | some x1' => some (⟨x0, x1', x2, ⟨x3, x4, x5, x6⟩, ⟨x7, x8⟩⟩ : api_Provider) | _ => none
  | _ => none

def dec_audit_cell : List (D U) → Option (El .audit_cell)
  | [.int .i64 x0, .str x1] => some (⟨x0, x1⟩ : audit_cell)
  | _ => none

def dec_audit_generation : List (D U) → Option (El .audit_generation)
  | [.int .i64 x0, .str x1, .int .i64 x2] => some (⟨⟨x0, x1⟩, x2⟩ : audit_generation)
  | _ => none

def dec_audit_state : List (D U) → Option (El .audit_state)
  | [.int .i64 x0, .bool x1, .int .i64 x2, .int .i64 x3, x4, x5, .bool x6, x7, .int .i64 x8] => match asSl .api_Atom x4, asSl .api_Crack x5, asSl .audit_generation x7 with | some x4', some x5', some x7' => some (⟨x0, x1, x2, ⟨x3, x4', x5'⟩, x6, x7', x8⟩ : audit_state) | _, _, _ => none
  | _ => none

def dec_bool : List (D U) → Option (El .bool)
  | [.bool x0] => some (x0 : Bool)
  | _ => none

def dec_eval_local : List (D U) → Option (El .eval_local)
  | [.str x0, x1] => match asSl .api_Atom x1 with | some x1' => some (⟨x0, x1'⟩ : eval_local) | _ => none
  | _ => none

def dec_int : List (D U) → Option (El .int)
  | [.int .i64 x0] => some (x0 : Int)
  | _ => none

def dec_lazy_key : List (D U) → Option (El .lazy_key)
  | [.int .i64 x0, .str x1] => some (⟨x0, x1⟩ : lazy_key)
  | _ => none

def dec_sl_api_Atom : List (D U) → Option (El .sl_api_Atom)
  | [x0] => match asSl .api_Atom x0 with | some x0' => some (x0' : (List api_Atom)) | _ => none
  | _ => none

def dec_sl_int : List (D U) → Option (El .sl_int)
  | [x0] => match asSl .int x0 with | some x0' => some (x0' : (List Int)) | _ => none
  | _ => none

def dec_str : List (D U) → Option (El .str)
  | [.str x0] => some (x0 : ByteArray)
  | _ => none

def dec_value_whole : List (D U) → Option (El .value_whole)
  | [.int .i64 x0, .int .i64 x1] => some (⟨x0, x1⟩ : value_whole)
  | _ => none

def dec : (c : Ty) → List (D U) → Option (El c)
  | .anon_97 => dec_anon_97
  | .anon_99 => dec_anon_99
  | .api_Atom => dec_api_Atom
  | .api_Closer => dec_api_Closer
  | .api_Crack => dec_api_Crack
  | .api_Known => dec_api_Known
  | .api_Meaning => dec_api_Meaning
  | .api_Op => dec_api_Op
  | .api_Outcome => dec_api_Outcome
  | .api_Own => dec_api_Own
  | .api_Policy => dec_api_Policy
  | .api_Provider => dec_api_Provider
  | .audit_cell => dec_audit_cell
  | .audit_generation => dec_audit_generation
  | .audit_state => dec_audit_state
  | .bool => dec_bool
  | .eval_local => dec_eval_local
  | .int => dec_int
  | .lazy_key => dec_lazy_key
  | .sl_api_Atom => dec_sl_api_Atom
  | .sl_int => dec_sl_int
  | .str => dec_str
  | .value_whole => dec_value_whole

def dflt : (c : Ty) → El c
  | .anon_97 => (⟨⟨#[]⟩, [], false, ⟨0, 0, 0, 0⟩, ⟨0, ⟨#[]⟩⟩⟩ : anon_97)
  | .anon_99 => (⟨0, ⟨⟨#[]⟩, [], false, ⟨0, 0, 0, 0⟩, ⟨0, ⟨#[]⟩⟩⟩⟩ : anon_99)
  | .api_Atom => (⟨0, 0, 0, ⟨#[]⟩⟩ : api_Atom)
  | .api_Closer => (⟨0, ⟨#[]⟩⟩ : api_Closer)
  | .api_Crack => (⟨0, 0, ⟨#[]⟩⟩ : api_Crack)
  | .api_Known => (⟨⟨#[]⟩, ⟨0, [], []⟩⟩ : api_Known)
  | .api_Meaning => (⟨⟨0, [], []⟩, ⟨#[]⟩, []⟩ : api_Meaning)
  | .api_Op => (⟨0, 0, 0, ⟨#[]⟩⟩ : api_Op)
  | .api_Outcome => (⟨0, [], []⟩ : api_Outcome)
  | .api_Own => (⟨0, ⟨⟨#[]⟩, [], false, ⟨0, 0, 0, 0⟩, ⟨0, ⟨#[]⟩⟩⟩⟩ : api_Own)
  | .api_Policy => (⟨0, 0, 0, 0⟩ : api_Policy)
  | .api_Provider => (⟨⟨#[]⟩, [], false, ⟨0, 0, 0, 0⟩, ⟨0, ⟨#[]⟩⟩⟩ : api_Provider)
  | .audit_cell => (⟨0, ⟨#[]⟩⟩ : audit_cell)
  | .audit_generation => (⟨⟨0, ⟨#[]⟩⟩, 0⟩ : audit_generation)
  | .audit_state => (⟨0, false, 0, ⟨0, [], []⟩, false, [], 0⟩ : audit_state)
  | .bool => (false : Bool)
  | .eval_local => (⟨⟨#[]⟩, []⟩ : eval_local)
  | .int => (0 : Int)
  | .lazy_key => (⟨0, ⟨#[]⟩⟩ : lazy_key)
  | .sl_api_Atom => ([] : (List api_Atom))
  | .sl_int => ([] : (List Int))
  | .str => (⟨#[]⟩ : ByteArray)
  | .value_whole => (⟨0, 0⟩ : value_whole)

def keyEq : (c : Ty) → Option (List Z × (El c → El c → Bool))
  | .api_Atom => some ([.int .i64, .int .i64, .int .i64, .str], fun (x y : api_Atom) => andB (eqI (x.gKind) (y.gKind)) (andB (eqI (x.gN) (y.gN)) (andB (eqI (x.gInt) (y.gInt)) (andB (strEq (x.gText) (y.gText)) (true)))))
  | .api_Closer => some ([.int .i64, .str], fun (x y : api_Closer) => andB (eqI (x.gKind) (y.gKind)) (andB (strEq (x.gText) (y.gText)) (true)))
  | .api_Crack => some ([.int .i64, .int .i64, .str], fun (x y : api_Crack) => andB (eqI (x.gKind) (y.gKind)) (andB (eqI (x.gN) (y.gN)) (andB (strEq (x.gText) (y.gText)) (true))))
  | .api_Op => some ([.int .i64, .int .i64, .int .i64, .str], fun (x y : api_Op) => andB (eqI (x.gKind) (y.gKind)) (andB (eqI (x.gN) (y.gN)) (andB (eqI (x.gInt) (y.gInt)) (andB (strEq (x.gText) (y.gText)) (true)))))
  | .api_Policy => some ([.int .i64, .int .i64, .int .i64, .int .i64], fun (x y : api_Policy) => andB (eqI (x.gTries) (y.gTries)) (andB (eqI (x.gBase) (y.gBase)) (andB (eqI (x.gFactor) (y.gFactor)) (andB (eqI (x.gCap) (y.gCap)) (true)))))
  | .audit_cell => some ([.int .i64, .str], fun (x y : audit_cell) => andB (eqI (x.gScope) (y.gScope)) (andB (strEq (x.gName) (y.gName)) (true)))
  | .audit_generation => some ([.int .i64, .str, .int .i64], fun (x y : audit_generation) => andB (eqI (x.gCell.gScope) (y.gCell.gScope)) (andB (strEq (x.gCell.gName) (y.gCell.gName)) (andB (eqI (x.gGen) (y.gGen)) (true))))
  | .bool => some ([.bool], fun (x y : Bool) => andB (eqB (x) (y)) (true))
  | .int => some ([.int .i64], fun (x y : Int) => andB (eqI (x) (y)) (true))
  | .lazy_key => some ([.int .i64, .str], fun (x y : lazy_key) => andB (eqI (x.gScope) (y.gScope)) (andB (strEq (x.gName) (y.gName)) (true)))
  | .str => some ([.str], fun (x y : ByteArray) => andB (strEq (x) (y)) (true))
  | .value_whole => some ([.int .i64, .int .i64], fun (x y : value_whole) => andB (eqI (x.gFrom) (y.gFrom)) (andB (eqI (x.gDeep) (y.gDeep)) (true)))
  | _ => none

def bytesC : Ty → Nat
  | .anon_97 => 104
  | .anon_99 => 112
  | .api_Atom => 40
  | .api_Closer => 24
  | .api_Crack => 32
  | .api_Known => 72
  | .api_Meaning => 96
  | .api_Op => 40
  | .api_Outcome => 56
  | .api_Own => 112
  | .api_Policy => 32
  | .api_Provider => 104
  | .audit_cell => 24
  | .audit_generation => 32
  | .audit_state => 120
  | .bool => 1
  | .eval_local => 40
  | .int => 8
  | .lazy_key => 24
  | .sl_api_Atom => 24
  | .sl_int => 24
  | .str => 16
  | .value_whole => 16

def flat : Ty → Bool
  | .api_Atom => true
  | .api_Closer => true
  | .api_Crack => true
  | .api_Op => true
  | .api_Policy => true
  | .audit_cell => true
  | .audit_generation => true
  | .bool => true
  | .int => true
  | .lazy_key => true
  | .str => true
  | .value_whole => true
  | _ => false

end Go.Proofs.YtikcopbjconkfaaDoor.V
