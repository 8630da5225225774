/- LEMMAS: what helps to tell what functions come to. Conditions: none. -/
import Derived.Test.YtaldbipmbkapmaaDoorA25
namespace Go.Abs
set_option linter.unusedVariables false
set_option linter.unusedSimpArgs false
section
variable {K:Cfg}
theorem addW_small {a:Int} (h0:0≤a) (h:a<4611686018427387904):addW .i64 a 1=a+1:=by
 unfold addW IntKind.wrap
 simp only [IntKind.signed,IntKind.bits]
 simp
 omega
theorem rd_nat {α:Type} {d:α} {xs:List α} {i:Nat} {x:α} (h:xs[i]?=some x):rd d xs (i:Int)=x:=by
 simp [rd,List.getD_eq_getElem?_getD,h]
theorem rd_at {α:Type} {d:α} {xs:List α} {i:Nat} (h:i<xs.length):rd d xs (i:Int)=xs[i]:=rd_nat (List.getElem?_eq_getElem h)
theorem byteAt_nat {s:ByteArray} {i:Nat} (h:i<s.size):byteAt s (i:Int)=(s.data.toList[i]'(by simpa using h)).toNat:=by
 unfold byteAt
 rw [Int.toNat_natCast,List.getD_eq_getElem?_getD,List.getElem?_eq_getElem (by simpa using h)]
 rfl
theorem roomB_iff {n b:Nat}:roomB n b=true↔n * b≤room:=by simp [roomB]
theorem strEq_self (s:ByteArray):strEq s s=true:=by simp [strEq]
theorem eqI_self (a:Int):eqI a a=true:=by simp [eqI]
theorem eqB_self (a:Bool):eqB a a=true:=by simp [eqB]
end
end Go.Abs
