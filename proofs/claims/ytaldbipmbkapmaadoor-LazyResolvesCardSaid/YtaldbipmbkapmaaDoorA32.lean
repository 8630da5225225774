/- LEMMAS: small helps for telling what functions come to. Conditions: none. -/
import Derived.Test.YtaldbipmbkapmaaDoorA31
import Derived.Test.YtaldbipmbkapmaaDoorA26
import Derived.Laws.Strings
namespace Go.Abs
set_option linter.unusedVariables false
set_option linter.unusedSimpArgs false
section
theorem upto {n : Nat} {P : Nat → Prop} (last : P n) (step : ∀ i, i < n → P (i + 1) → P i) : ∀ i, i ≤ n → P i := by
  intro i hi
  induction h : n - i generalizing i with
  | zero => have : i = n := by omega
            subst this; exact last
  | succ k ih => exact step i (by omega) (ih (i + 1) (by omega) (by omega))
theorem and_of {a b:Bool} {X k:Bool→Prop} (hx:a=true→X b) (hk:k (a && b)):∃v,iteP a (X v) (false=v)∧k v:=by
 refine ⟨a && b,?_,hk⟩
 cases a
 ·exact rfl
 ·exact hx rfl
theorem or_of {a b:Bool} {X k:Bool→Prop} (hx:a=false→X b) (hk:k (a || b)):∃v,iteP a (true=v) (X v)∧k v:=by
 refine ⟨a || b,?_,hk⟩
 cases a
 ·exact hx rfl
 ·exact rfl
theorem ite_t {b:Bool} {p q:Prop} (h:b=true) (hp:p):iteP b p q:=by subst h; exact hp
theorem ite_f {b:Bool} {p q:Prop} (h:b=false) (hq:q):iteP b p q:=by subst h; exact hq
theorem ite_w {b:Bool} {p q:Prop} (hp:b=true→p) (hq:b=false→q):iteP b p q:=by cases b; exact hq rfl; exact hp rfl
theorem and_t {b:Bool} {p:Prop} (h:b=true) (hp:p):andP b p:=andP_iff.2 ⟨h,hp⟩
theorem notB_t {b:Bool}:notB b=true↔b=false:=by cases b <;> simp [notB]
theorem notB_f {b:Bool}:notB b=false↔b=true:=by cases b <;> simp [notB]
theorem in_len {α:Type} {l:List α} {i:Nat} (h:i<l.length):inB (i:Int) (lenL l)=true:=by rw [inB_iff]; simp [lenL]; omega
theorem in_str {s:ByteArray} {i:Nat} (h:i<s.size):inB (i:Int) (strLen s)=true:=by rw [inB_iff]; simp [strLen]; omega
theorem lt_len {α:Type} {l:List α} {i:Nat} (h:i<l.length):ltI (i:Int) (intN (lenL l))=true:=by simp [ltI,intN,lenL]; omega
theorem lt_len_f {α:Type} {l:List α} {i:Nat} (h:l.length≤i):ltI (i:Int) (intN (lenL l))=false:=by simp [ltI,intN,lenL]; omega
theorem lt_str {s:ByteArray} {i:Nat} (h:i<s.size):ltI (i:Int) (intN (strLen s))=true:=by simp [ltI,intN,strLen]; omega
theorem lt_str_f {s:ByteArray} {i:Nat} (h:s.size≤i):ltI (i:Int) (intN (strLen s))=false:=by simp [ltI,intN,strLen]; omega
theorem add_one {i:Nat} (h:i<4611686018427387904):addW .i64 (i:Int) 1=((i+1:Nat):Int):=by rw [addW_small (by omega) (by omega)]; omega
theorem drop_any {α:Type} {l:List α} {p:α→Bool} {i:Nat} (h:i<l.length):(l.drop i).any p=(p l[i] || (l.drop (i+1)).any p):=by rw [List.drop_eq_getElem_cons h,List.any_cons]
theorem drop_all {α:Type} {l:List α} {p:α→Bool} {i:Nat} (h:i<l.length):(l.drop i).all p=(p l[i] && (l.drop (i+1)).all p):=by rw [List.drop_eq_getElem_cons h,List.all_cons]
theorem wrap_id {n:Int} (h1:-9223372036854775808≤n) (h2:n<9223372036854775808):IntKind.wrap .i64 n=n:=by
 unfold IntKind.wrap
 simp only [IntKind.signed,IntKind.bits]
 simp
 omega
theorem addW_id {a b:Int} (h1:-9223372036854775808≤a+b) (h2:a+b<9223372036854775808):addW .i64 a b=a+b:=wrap_id h1 h2
theorem subW_id {a b:Int} (h1:-9223372036854775808≤a - b) (h2:a - b<9223372036854775808):subW .i64 a b=a - b:=wrap_id h1 h2
theorem strEq_iff' {x y:ByteArray}:strEq x y=true↔x=y:=by
 constructor
 ·intro h
  have h:=eq_of_beq h
  have:x.data.toList=y.data.toList:=by
   have e:∀z:ByteArray,z.toList=z.data.toList:=fun z=>by
    exact ByteArray.toList_eq z
   rw [←e,←e]; exact h
  cases x; cases y
  simp only [ByteArray.mk.injEq]
  exact Array.ext' this
 ·rintro rfl; exact strEq_self _
theorem strEq_comm (x y:ByteArray):strEq x y=strEq y x:=by
 rw [Bool.eq_iff_iff,strEq_iff',strEq_iff']; exact eq_comm
end
end Go.Abs
