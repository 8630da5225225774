/- DEFINITIONS, and how they lie in memory cells: the pure data of this program. Conditions: none. (Written by a program of mine, mkcfg.py.) -/
import Derived.Test.YtikcopbjconkfaaA1
namespace Go.Proofs.Ytikcopbjconkfaa.V
set_option linter.unusedVariables false
set_option linter.unusedSimpArgs false
open Go Go.Abs

structure api_Op where
  gKind : Int
  gN : Int
  gInt : Int
  gText : ByteArray

structure api_Policy where
  gTries : Int
  gBase : Int
  gFactor : Int
  gCap : Int

structure api_Closer where
  gKind : Int
  gText : ByteArray

structure api_Provider where
  gName : ByteArray
  gExpr : (List api_Op)
  gAgain : Bool
  gPolicy : api_Policy
  gCloser : api_Closer

structure api_Act where
  gKind : Int
  gScope : Int
  gNumber : Int
  gName : ByteArray
  gText : ByteArray
  gProvider : api_Provider

structure api_Rule where
  gKind : Int
  gSeed : Int
  gList : (List Int)

structure oncewebref20_Weight where
  gNumber : Int
  gWeight : Int

structure oncewebref20_Sched where
  gPolicy : Int
  gList : (List Int)
  gState : Int
  gPicks : (List Int)
  gWeights : (List oncewebref20_Weight)

structure sched_lot where
  gC : Int

inductive Ty where
  | api_Act
  | api_Closer
  | api_Op
  | api_Policy
  | api_Provider
  | api_Rule
  | bool
  | int
  | int_u8
  | oncewebref20_Sched
  | oncewebref20_Weight
  | sched_lot
  | str
  deriving DecidableEq

def El : Ty → Type
  | .api_Act => api_Act
  | .api_Closer => api_Closer
  | .api_Op => api_Op
  | .api_Policy => api_Policy
  | .api_Provider => api_Provider
  | .api_Rule => api_Rule
  | .bool => Bool
  | .int => Int
  | .int_u8 => Int
  | .oncewebref20_Sched => oncewebref20_Sched
  | .oncewebref20_Weight => oncewebref20_Weight
  | .sched_lot => sched_lot
  | .str => ByteArray

def U : Univ := ⟨Ty, El, inferInstance⟩

def width : Ty → Nat
  | .api_Act => 14
  | .api_Closer => 2
  | .api_Op => 4
  | .api_Policy => 4
  | .api_Provider => 9
  | .api_Rule => 3
  | .bool => 1
  | .int => 1
  | .int_u8 => 1
  | .oncewebref20_Sched => 5
  | .oncewebref20_Weight => 2
  | .sched_lot => 1
  | .str => 1

def enc : (c : Ty) → El c → List (D U)
  | .api_Act, (x : api_Act) => [.int .i64 x.gKind, .int .i64 x.gScope, .int .i64 x.gNumber, .str x.gName, .str x.gText, .str x.gProvider.gName, .sl .api_Op x.gProvider.gExpr, .bool x.gProvider.gAgain, .int .i64 x.gProvider.gPolicy.gTries, .int .i64 x.gProvider.gPolicy.gBase, .int .i64 x.gProvider.gPolicy.gFactor, .int .i64 x.gProvider.gPolicy.gCap, .int .i64 x.gProvider.gCloser.gKind, .str x.gProvider.gCloser.gText]
  | .api_Closer, (x : api_Closer) => [.int .i64 x.gKind, .str x.gText]
  | .api_Op, (x : api_Op) => [.int .i64 x.gKind, .int .i64 x.gN, .int .i64 x.gInt, .str x.gText]
  | .api_Policy, (x : api_Policy) => [.int .i64 x.gTries, .int .i64 x.gBase, .int .i64 x.gFactor, .int .i64 x.gCap]
  | .api_Provider, (x : api_Provider) => [.str x.gName, .sl .api_Op x.gExpr, .bool x.gAgain, .int .i64 x.gPolicy.gTries, .int .i64 x.gPolicy.gBase, .int .i64 x.gPolicy.gFactor, .int .i64 x.gPolicy.gCap, .int .i64 x.gCloser.gKind, .str x.gCloser.gText]
  | .api_Rule, (x : api_Rule) => [.int .i64 x.gKind, .int .u64 x.gSeed, .sl .int x.gList]
  | .bool, (x : Bool) => [.bool x]
  | .int, (x : Int) => [.int .i64 x]
  | .int_u8, (x : Int) => [.int .u8 x]
  | .oncewebref20_Sched, (x : oncewebref20_Sched) => [.int .i64 x.gPolicy, .sl .int x.gList, .int .u64 x.gState, .sl .int x.gPicks, .sl .oncewebref20_Weight x.gWeights]
  | .oncewebref20_Weight, (x : oncewebref20_Weight) => [.int .i64 x.gNumber, .int .i64 x.gWeight]
  | .sched_lot, (x : sched_lot) => [.int .u64 x.gC]
  | .str, (x : ByteArray) => [.str x]

def asSl (c : Ty) : D U → Option (List (El c))
  | .sl _ xs => castL (F := El) xs
  | .nils => some (nilL _)
  | _ => none

def dec_api_Act : List (D U) → Option (El .api_Act)
  | [.int .i64 x0, .int .i64 x1, .int .i64 x2, .str x3, .str x4, .str x5, x6, .bool x7, .int .i64 x8, .int .i64 x9, .int .i64 x10, .int .i64 x11, .int .i64 x12, .str x13] => match asSl .api_Op x6 with | some x6' => some (⟨x0, x1, x2, x3, x4, ⟨x5, x6', x7, ⟨x8, x9, x10, x11⟩, ⟨x12, x13⟩⟩⟩ : api_Act) | _ => none
  | _ => none

def dec_api_Closer : List (D U) → Option (El .api_Closer)
  | [.int .i64 x0, .str x1] => some (⟨x0, x1⟩ : api_Closer)
  | _ => none

def dec_api_Op : List (D U) → Option (El .api_Op)
  | [.int .i64 x0, .int .i64 x1, .int .i64 x2, .str x3] => some (⟨x0, x1, x2, x3⟩ : api_Op)
  | _ => none

def dec_api_Policy : List (D U) → Option (El .api_Policy)
  | [.int .i64 x0, .int .i64 x1, .int .i64 x2, .int .i64 x3] => some (⟨x0, x1, x2, x3⟩ : api_Policy)
  | _ => none

def dec_api_Provider : List (D U) → Option (El .api_Provider)
  | [.str x0, x1, .bool x2, .int .i64 x3, .int .i64 x4, .int .i64 x5, .int .i64 x6, .int .i64 x7, .str x8] => match asSl .api_Op x1 with | some x1' => some (⟨x0, x1', x2, ⟨x3, x4, x5, x6⟩, ⟨x7, x8⟩⟩ : api_Provider) | _ => none
  | _ => none

def dec_api_Rule : List (D U) → Option (El .api_Rule)
  | [.int .i64 x0, .int .u64 x1, x2] => match asSl .int x2 with | some x2' => some (⟨x0, x1, x2'⟩ : api_Rule) | _ => none
  | _ => none

def dec_bool : List (D U) → Option (El .bool)
  | [.bool x0] => some (x0 : Bool)
  | _ => none

def dec_int : List (D U) → Option (El .int)
  | [.int .i64 x0] => some (x0 : Int)
  | _ => none

def dec_int_u8 : List (D U) → Option (El .int_u8)
  | [.int .u8 x0] => some (x0 : Int)
  | _ => none

def dec_oncewebref20_Sched : List (D U) → Option (El .oncewebref20_Sched)
  | [.int .i64 x0, x1, .int .u64 x2, x3, x4] => match asSl .int x1, asSl .int x3, asSl .oncewebref20_Weight x4 with | some x1', some x3', some x4' => some (⟨x0, x1', x2, x3', x4'⟩ : oncewebref20_Sched) | _, _, _ => none
  | _ => none

def dec_oncewebref20_Weight : List (D U) → Option (El .oncewebref20_Weight)
  | [.int .i64 x0, .int .i64 x1] => some (⟨x0, x1⟩ : oncewebref20_Weight)
  | _ => none

def dec_sched_lot : List (D U) → Option (El .sched_lot)
  | [.int .u64 x0] => some (⟨x0⟩ : sched_lot)
  | _ => none

def dec_str : List (D U) → Option (El .str)
  | [.str x0] => some (x0 : ByteArray)
  | _ => none

def dec : (c : Ty) → List (D U) → Option (El c)
  | .api_Act => dec_api_Act
  | .api_Closer => dec_api_Closer
  | .api_Op => dec_api_Op
  | .api_Policy => dec_api_Policy
  | .api_Provider => dec_api_Provider
  | .api_Rule => dec_api_Rule
  | .bool => dec_bool
  | .int => dec_int
  | .int_u8 => dec_int_u8
  | .oncewebref20_Sched => dec_oncewebref20_Sched
  | .oncewebref20_Weight => dec_oncewebref20_Weight
  | .sched_lot => dec_sched_lot
  | .str => dec_str

def dflt : (c : Ty) → El c
  | .api_Act => (⟨0, 0, 0, ⟨#[]⟩, ⟨#[]⟩, ⟨⟨#[]⟩, [], false, ⟨0, 0, 0, 0⟩, ⟨0, ⟨#[]⟩⟩⟩⟩ : api_Act)
  | .api_Closer => (⟨0, ⟨#[]⟩⟩ : api_Closer)
  | .api_Op => (⟨0, 0, 0, ⟨#[]⟩⟩ : api_Op)
  | .api_Policy => (⟨0, 0, 0, 0⟩ : api_Policy)
  | .api_Provider => (⟨⟨#[]⟩, [], false, ⟨0, 0, 0, 0⟩, ⟨0, ⟨#[]⟩⟩⟩ : api_Provider)
  | .api_Rule => (⟨0, 0, []⟩ : api_Rule)
  | .bool => (false : Bool)
  | .int => (0 : Int)
  | .int_u8 => (0 : Int)
  | .oncewebref20_Sched => (⟨0, [], 0, [], []⟩ : oncewebref20_Sched)
  | .oncewebref20_Weight => (⟨0, 0⟩ : oncewebref20_Weight)
  | .sched_lot => (⟨0⟩ : sched_lot)
  | .str => (⟨#[]⟩ : ByteArray)

def keyEq : (c : Ty) → Option (List Z × (El c → El c → Bool))
  | .api_Closer => some ([.int .i64, .str], fun (x y : api_Closer) => andB (eqI (x.gKind) (y.gKind)) (andB (strEq (x.gText) (y.gText)) (true)))
  | .api_Op => some ([.int .i64, .int .i64, .int .i64, .str], fun (x y : api_Op) => andB (eqI (x.gKind) (y.gKind)) (andB (eqI (x.gN) (y.gN)) (andB (eqI (x.gInt) (y.gInt)) (andB (strEq (x.gText) (y.gText)) (true)))))
  | .api_Policy => some ([.int .i64, .int .i64, .int .i64, .int .i64], fun (x y : api_Policy) => andB (eqI (x.gTries) (y.gTries)) (andB (eqI (x.gBase) (y.gBase)) (andB (eqI (x.gFactor) (y.gFactor)) (andB (eqI (x.gCap) (y.gCap)) (true)))))
  | .bool => some ([.bool], fun (x y : Bool) => andB (eqB (x) (y)) (true))
  | .int => some ([.int .i64], fun (x y : Int) => andB (eqI (x) (y)) (true))
  | .int_u8 => some ([.int .u8], fun (x y : Int) => andB (eqI (x) (y)) (true))
  | .oncewebref20_Weight => some ([.int .i64, .int .i64], fun (x y : oncewebref20_Weight) => andB (eqI (x.gNumber) (y.gNumber)) (andB (eqI (x.gWeight) (y.gWeight)) (true)))
  | .sched_lot => some ([.int .u64], fun (x y : sched_lot) => andB (eqI (x.gC) (y.gC)) (true))
  | .str => some ([.str], fun (x y : ByteArray) => andB (strEq (x) (y)) (true))
  | _ => none

def bytesC : Ty → Nat
  | .api_Act => 160
  | .api_Closer => 24
  | .api_Op => 40
  | .api_Policy => 32
  | .api_Provider => 104
  | .api_Rule => 40
  | .bool => 1
  | .int => 8
  | .int_u8 => 1
  | .oncewebref20_Sched => 88
  | .oncewebref20_Weight => 16
  | .sched_lot => 8
  | .str => 16

def flat : Ty → Bool
  | .api_Closer => true
  | .api_Op => true
  | .api_Policy => true
  | .bool => true
  | .int => true
  | .int_u8 => true
  | .oncewebref20_Weight => true
  | .sched_lot => true
  | .str => true
  | _ => false

end Go.Proofs.Ytikcopbjconkfaa.V
