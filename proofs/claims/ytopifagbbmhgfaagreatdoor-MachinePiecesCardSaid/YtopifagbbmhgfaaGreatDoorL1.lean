/- LEMMAS: what functions answer, and what is true of it. Conditions: none. -/
import Derived.Test.YtopifagbbmhgfaaGreatDoorW1
import Derived.Test.YtopifagbbmhgfaaGreatDoorA32
import Derived.Test.YtopifagbbmhgfaaGreatDoorA33
import Derived.Test.YtopifagbbmhgfaaGreatDoorA38
import Derived.Lib.Bytealg
set_option maxRecDepth 4000
set_option linter.unusedSectionVars false
namespace Go.Proofs.YtopifagbbmhgfaaGreatDoor.V
set_option linter.unusedVariables false
set_option linter.unusedSimpArgs false
open Go Go.Abs
theorem room_eq:room=140737488355328:=rfl
theorem maxStr_eq:maxStr=4611686018427387904:=rfl
theorem known_str {s:ByteArray} (h:C.Known K (.d (.str s):C U)):s.size≤4611686018427387904:=h.d.str
theorem known_strs {l:List ByteArray} (h:C.Known K (.d (.sl (U:=U) .str l))):l.length * 16≤140737488355328:=h.d.sl.1
theorem known_atoms {l:List api_Atom} (h:C.Known K (.d (.sl (U:=U) .api_Atom l))):l.length * 40≤140737488355328:=h.d.sl.1
theorem known_cracks {l:List api_Crack} (h:C.Known K (.d (.sl (U:=U) .api_Crack l))):l.length * 32≤140737488355328:=h.d.sl.1
def inB' (l:List ByteArray) (s:ByteArray):Bool:=l.any fun x=>strEq x s
theorem gives152 (l:List ByteArray) (s:ByteArray):∃n,Gives 152 [.d (.sl .str l),.d (.str s)] (.d (.int .i64 n))∧(l.length * 16≤140737488355328→leI 0 n=inB' l s):=by
 by_cases hl:l.length * 16≤140737488355328
 case neg=>exact ⟨0,Runs.known fun hk _=>absurd (known_strs (hk _ (List.mem_cons_self ..))) hl,fun h=>absurd h hl⟩
 have loop:∀i,i≤l.length→∃n,At K 152 (fun c' H'=>c'=(.d (.int .i64 n):C U)∧H'=[]) t152_2 (s152_2 l s (intN (lenL l)) i)∧leI 0 n=inB' (l.drop i) s:=by
  refine upto ?_ fun i hi ih=>?_
  ·exact ⟨_,l152_2 _ _ _ _ _ (ite_f (lt_len_f (Nat.le_refl _)) ⟨rfl,rfl⟩),by simp [inB',leI]⟩
  ·obtain ⟨n,h1,h2⟩:=ih
   have e:inB' (l.drop i) s=(strEq l[i] s || inB' (l.drop (i+1)) s):=drop_any hi
   rw [e]
   cases hb:strEq l[i] s with
   | true=>exact ⟨i,l152_2 _ _ _ _ _ (ite_t (lt_len hi) (and_t (in_len hi) (by rw [rd_at hi,strEq_comm]; exact ite_t hb ⟨rfl,rfl⟩))),by simp [leI]⟩
   | false=>exact ⟨n,l152_2 _ _ _ _ _ (ite_t (lt_len hi) (and_t (in_len hi) (by rw [rd_at hi,strEq_comm,add_one (by omega)]; exact ite_f hb h1))),by simpa using h2⟩
 obtain ⟨n,h1,h2⟩:=loop 0 (Nat.zero_le _)
 exact ⟨n,e152 _ _ _ h1,fun _=>h2⟩
theorem gives80 (l:List ByteArray) (s:ByteArray):Gives 80 [.d (.sl .str l),.d (.str s)] (.d (.bool (inB' l s))):=by
 refine Runs.known fun hk _=>?_
 have hl:=known_strs (hk _ (List.mem_cons_self ..))
 obtain ⟨n,h1,h2⟩:=gives152 l s
 exact e80 _ _ _ ⟨n,h1,by rw [h2 hl],rfl⟩
def keyL:List ByteArray:=[bs [99,101,108,108],bs [97,103,97,105,110],bs [116,114,105,101,115],bs [98,97,115,101],bs [102,97,99,116,111,114],bs [99,97,112],bs [99,108,111,115,101],bs [102,105,110,101],bs [102,97,105,108],bs [112,97,110,105,99],bs [105,102],bs [116,104,101,110],bs [101,108,115,101],bs [116,114,121],bs [119,97,105,116],bs [108,101,116],bs [105,110],bs [105,116,101,109],bs [115,105,122,101]]
def wordL:List ByteArray:=[bs [108,105,115,116],bs [97,100,100],bs [115,117,98],bs [109,117,108],bs [106,111,105,110],bs [105,116,101,109],bs [115,105,122,101],bs [105,102],bs [102,97,105,108],bs [112,97,110,105,99]]
theorem gives220 (s:ByteArray):Gives 220 [.d (.str s)] (.d (.bool (inB' keyL s))):=e220 _ _ ⟨_,gives80 keyL s,rfl,rfl⟩
def letB (c:Int):Bool:=leI 97 c && leI c 122
def digB (c:Int):Bool:=leI 48 c && leI c 57
def wcB (c:Int):Bool:=(letB c || digB c) || eqI c 95
theorem gives265 (c:Int):Gives 265 [.d (.int .u8 c)] (.d (.bool (letB c))):=e265 _ _ (and_of (fun _=>rfl) ⟨rfl,rfl⟩)
theorem gives266 (c:Int):Gives 266 [.d (.int .u8 c)] (.d (.bool (digB c))):=e266 _ _ (and_of (fun _=>rfl) ⟨rfl,rfl⟩)
def byL (s:ByteArray):List Int:=s.data.toList.map fun b=>(b.toNat:Int)
theorem byL_length (s:ByteArray):(byL s).length=s.size:=by simp [byL]
theorem byteAt_byL {s:ByteArray} {i:Nat} (h:i<s.size):byteAt s (i:Int)=(byL s)[i]'(by rw [byL_length]; exact h):=by
 rw [byteAt_nat h]; simp [byL]
def wordB (s:ByteArray):Bool:=(byL s).head?.any letB && (byL s).all wcB
theorem gives219 (s:ByteArray):∃n,Gives 219 [.d (.str s),.d (.int .i64 0)] (.d (.int .i64 n))∧(s.size≤4611686018427387904→s.size ≠ 0→eqI n (intN (strLen s))=wordB s):=by
 by_cases hs:s.size≤4611686018427387904
 case neg=>exact ⟨0,Runs.known fun hk _=>absurd (known_str (hk _ (List.mem_cons_self ..))) hs,fun h=>absurd h hs⟩
 have hlen:=byL_length s
 have loop:∀i,i≤s.size→∃n,At K 219 (fun c' H'=>c'=(.d (.int .i64 n):C U)∧H'=[]) t219_3 (s219_3 s i)∧eqI n (intN (strLen s))=((byL s).drop i).all wcB:=by
  refine upto ?_ fun i hi ih=>?_
  ·refine ⟨_,l219_3 _ _ _ ⟨false,ite_f (lt_str_f (Nat.le_refl _)) rfl,rfl,rfl⟩,?_⟩
   rw [List.drop_of_length_le (by omega)]; simp [eqI,intN,strLen]
  ·obtain ⟨n,h1,h2⟩:=ih
   have hb:byteAt s (i:Int)=(byL s)[i]'(by omega):=byteAt_byL hi
   rw [drop_all (by omega)]
   have body:∀{k:Bool→Prop},k (wcB (byL s)[i])→∃v,iteP (ltI (i:Int) (intN (strLen s))) (andP (inB (i:Int) (strLen s)) (∃x:Bool,(Gives 265 [.d (.int .u8 (byteAt s i))] (.d (.bool x)))∧
     ∃v_1:Bool,iteP x (true=v_1) (andP (inB (i:Int) (strLen s)) (∃x:Bool,(Gives 266 [.d (.int .u8 (byteAt s i))] (.d (.bool x)))∧x=v_1))∧
     ∃v_2:Bool,iteP v_1 (true=v_2) (andP (inB (i:Int) (strLen s)) (eqI (byteAt s i) 95=v_2))∧v_2=v)) (false=v)∧k v:=by
    intro k hk
    rw [hb]
    refine ⟨wcB (byL s)[i],ite_t (lt_str hi) (and_t (in_str hi) ⟨_,gives265 _,or_of (fun _=>and_t (in_str hi) ⟨_,gives266 _,rfl⟩) (or_of (fun _=>and_t (in_str hi) rfl) rfl)⟩),hk⟩
   cases hw:wcB (byL s)[i] with
   | true=>refine ⟨n,l219_3 _ _ _ (body ?_),by simpa using h2⟩; rw [hw,add_one (by omega)]; exact h1
   | false=>
    refine ⟨i,l219_3 _ _ _ (body ?_),?_⟩
    ·rw [hw]; exact ⟨rfl,rfl⟩
    ·simp [eqI,intN,strLen]; omega
 by_cases h0:s.size=0
 ·refine ⟨0,e219 _ _ _ ⟨true,ite_t (by simp [leI,intN,strLen,h0]) rfl,rfl,rfl⟩,fun _ h=>absurd h0 h⟩
 ·have hpos:0<s.size:=by omega
  have hhd:(byL s).head?=some ((byL s)[0]'(by omega)):=by rw [List.head?_eq_getElem?,List.getElem?_eq_getElem]
  have hb:byteAt s (0:Int)=(byL s)[0]'(by omega):=byteAt_byL hpos
  have hnl:leI (intN (strLen s)) 0=false:=by
   show decide ((s.size:Int)≤0)=false
   rw [decide_eq_false_iff_not]; omega
  cases hl:letB (byL s)[0] with
  | false=>
   refine ⟨0,e219 _ _ _ ⟨true,ite_f hnl (and_t (in_str (i:=0) hpos) ⟨_,gives265 _,by rw [hb,hl]; rfl⟩),rfl,rfl⟩,fun _ _=>?_⟩
   simp only [wordB,hhd,Option.any_some,hl,Bool.false_and]
   simp [eqI,intN,strLen]; omega
  | true=>
   obtain ⟨n,h1,h2⟩:=loop 0 (Nat.zero_le _)
   refine ⟨n,e219 _ _ _ ⟨false,ite_f hnl (and_t (in_str (i:=0) hpos) ⟨_,gives265 _,by rw [hb,hl]; rfl⟩),h1⟩,fun _ _=>?_⟩
   rw [h2]
   simp [wordB,hhd,hl]
def nameB (s:ByteArray):Bool:=((notB (strEq s (bs [])) && leI (intN (strLen s)) 24) && wordB s) && notB (inB' keyL s)
theorem strEq_nil {s:ByteArray}:strEq s (bs [])=true↔s.size=0:=by
 rw [strEq_iff']
 constructor
 ·rintro rfl; rfl
 ·intro h
  have:s.data.toList=[]:=List.eq_nil_of_length_eq_zero (by simpa using h)
  cases s with
  | mk d=>simp only [bs,List.map_nil,ByteArray.mk.injEq]; exact Array.ext' this
theorem gives153 (s:ByteArray):Gives 153 [.d (.str s)] (.d (.bool (nameB s))):=by
 obtain ⟨n,h1,h2⟩:=gives219 s
 refine Runs.known fun hk _=>?_
 have hl:=known_str (hk _ (List.mem_cons_self ..))
 refine e153 _ _ (and_of (fun _=>rfl) (and_of (b:=wordB s) (fun h=>⟨n,h1,?_⟩) (and_of (fun _=>⟨_,gives220 s,rfl⟩) ⟨rfl,rfl⟩)))
 refine h2 hl fun h0=>?_
 simp only [Bool.and_eq_true,notB_t] at h
 have:=strEq_nil.2 h0
 rw [h.1] at this; cases this
def Ns (l:List Nat):List Int:=l.map fun n:Nat=>(n:Int)
theorem Ns_length (l:List Nat):(Ns l).length=l.length:=by simp [Ns]
theorem Ns_append (l m:List Nat):Ns (l ++ m)=Ns l ++ Ns m:=by simp [Ns]
theorem Ns_take (l:List Nat) (k:Nat):(Ns l).take k=Ns (l.take k):=by simp [Ns,List.map_take]
theorem Ns_get {l:List Nat} {k n:Nat} (h:l[k]?=some n):(Ns l)[k]?=some (n:Int):=by simp [Ns,h]
theorem Ns_one (n:Nat):Ns [n]=[(n:Int)]:=rfl
theorem natI_nat (n:Nat):natI (n:Int)=n:=rfl
theorem lenL_eq {α:Type} (l:List α):lenL l=l.length:=rfl
theorem intN_eq (n:Nat):intN n=(n:Int):=rfl
theorem rdN_some {α:Type} {d:α} {l:List α} {i:Nat} {x:α} (h:l[i]?=some x):rdN d l i=x:=by simp [rdN,List.getD_eq_getElem?_getD,h]
theorem roomB_t {n b:Nat} (h:n * b≤140737488355328):roomB n b=true:=by rw [roomB_iff]; exact h
def atomB (a:api_Atom):Bool:=
 if a.gKind=1 then ((eqI a.gN 0 && strEq a.gText (bs [])) && leI (-9007199254740992) a.gInt) && leI a.gInt 9007199254740992
 else if a.gKind=2 then (eqI a.gN 0 && eqI a.gInt 0) && leI (intN (strLen a.gText)) 4096
 else if a.gKind=3 then (leI 0 a.gN && eqI a.gInt 0) && strEq a.gText (bs [])
 else false
theorem eqI_t {a b:Int}:eqI a b=true↔a=b:=eqI_iff
theorem eqI_f {a b:Int}:eqI a b=false↔a ≠ b:=by rw [←Bool.not_eq_true,eqI_iff]
theorem sw {k:Int} {n:Int} {p q:Prop} (hp:k=n→p) (hq:k ≠ n→q):iteP (eqI k n) p q:=ite_w (fun h=>hp (eqI_t.1 h)) (fun h=>hq (eqI_f.1 h))
abbrev atomC (a:api_Atom):C U:=.agg [.d (.int .i64 a.gKind),.d (.int .i64 a.gN),.d (.int .i64 a.gInt),.d (.str a.gText)]
theorem atom_of {a:api_Atom} {post:C U→List (O U)→Prop} (h:post (.d (.bool (atomB a))) []):iteP (eqI a.1 1) (∃(v:Bool),iteP (eqI a.2 0) (strEq a.4 (bs [])=v) (false=v)∧∃(v_1:Bool),iteP v (leI (Int.negSucc 9007199254740991) a.3=v_1) (false=v_1)∧∃(v:Bool),iteP v_1 (leI a.3 9007199254740992=v) (false=v)∧post (C.d (D.bool v)) [])
  (iteP (eqI a.1 2) (∃(v:Bool),iteP (eqI a.2 0) (eqI a.3 0=v) (false=v)∧∃(v_1:Bool),iteP v (leI (intN (strLen a.4)) 4096=v_1) (false=v_1)∧post (C.d (D.bool v_1)) [])
  (iteP (eqI a.1 3) (∃(v:Bool),iteP (leI 0 a.2) (eqI a.3 0=v) (false=v)∧∃(v_1:Bool),iteP v (strEq a.4 (bs [])=v_1) (false=v_1)∧post (C.d (D.bool v_1)) []) (post (C.d (D.bool false)) []))):=by
 refine sw (fun h1=>?_) (fun h1=>sw (fun h2=>?_) (fun h2=>sw (fun h3=>?_) (fun h3=>?_)))
 ·refine and_of (fun _=>rfl) (and_of (fun _=>rfl) (and_of (fun _=>rfl) ?_))
  simp only [atomB,if_pos h1] at h; exact h
 ·refine and_of (fun _=>rfl) (and_of (fun _=>rfl) ?_)
  simp only [atomB,if_neg h1,if_pos h2] at h; exact h
 ·refine and_of (fun _=>rfl) (and_of (fun _=>rfl) ?_)
  simp only [atomB,if_neg h1,if_neg h2,if_pos h3] at h; exact h
 ·simp only [atomB,if_neg h1,if_neg h2,if_neg h3] at h; exact h
theorem gives280 (a:api_Atom):Gives 280 [atomC a] (.d (.bool (atomB a))):=e280 a _ (atom_of (a:=a) (post:=fun c' H'=>c'=(.d (.bool (atomB a)):C U)∧H'=[]) ⟨rfl,rfl⟩)
theorem atomB_pos {a:api_Atom} (h:atomB a=true):0≤a.gN:=by
 unfold atomB at h
 split at h
 ·simp only [Bool.and_eq_true,eqI_t] at h; omega
 ·split at h
  ·simp only [Bool.and_eq_true,eqI_t] at h; omega
  ·split at h
   ·simp only [Bool.and_eq_true] at h
    have:=of_decide_eq_true h.1.1
    exact this
   ·cases h
abbrev valT (v:List api_Atom):Option (List (Tr api_Atom)):=Tr.read atomB (·.gN) [] v
def valD (v:List api_Atom):Option Nat:=match valT v with
 | some [t]=>some t.deep
 | _=>none
def valOk (v:List api_Atom):Bool:=match valD v with
 | some d=>decide (d≤32)
 | none=>false
theorem maxI_nat (a b:Nat):maxI (a:Int) (b:Int)=((max a b:Nat):Int):=by
 unfold maxI; split <;> omega
section
variable {α:Type} {ok:α→Bool} {ar:α→Int}
theorem starts_put {st:List (Tr α)} {a:α} {n:Nat} (hn:n≤st.length):Tr.starts 0 (st.take (st.length - n) ++ [Tr.nd a (st.drop (st.length - n))])=(Tr.starts 0 st).take (st.length - n) ++ [Tr.sizes (st.take (st.length - n))]:=by
 rw [Tr.starts_append,Tr.starts_take]; simp [Tr.starts]
theorem start_at {st:List (Tr α)} {k:Nat} (h:k<st.length):(Tr.starts 0 st)[k]?=some (Tr.sizes (st.take k)):=by
 rw [Tr.starts_get h]; simp
end
def valE (v:List api_Atom):Int:=if 1024<v.length then 3 else if valOk v then 0 else 5
def whl (p:Nat):List (Tr api_Atom)→List value_whole
 | []=>[]
 | t :: l=>⟨(p:Nat),(t.deep:Nat)⟩ :: whl (p+t.size) l
theorem whl_length:∀(p:Nat) (l:List (Tr api_Atom)),(whl p l).length=l.length
 | _,[]=>rfl
 | p,t :: l=>by simp [whl,whl_length _ l]
theorem whl_append:∀(p:Nat) (l m:List (Tr api_Atom)),whl p (l ++ m)=whl p l ++ whl (p+Tr.sizes l) m
 | p,[],m=>by simp [whl,Tr.sizes]
 | p,t :: l,m=>by simp [whl,Tr.sizes,whl_append _ l m,Nat.add_assoc]
theorem whl_take:∀(p k:Nat) (l:List (Tr api_Atom)),(whl p l).take k=whl p (l.take k)
 | _,0,_=>by simp [whl]
 | _,_+1,[]=>by simp [whl]
 | p,k+1,t :: l=>by simp [whl,whl_take _ k l]
theorem whl_get:∀{p k:Nat} {l:List (Tr api_Atom)} (h:k<l.length),(whl p l)[k]?=some ⟨((p+Tr.sizes (l.take k):Nat):Int),((l[k].deep:Nat):Int)⟩
 | p,0,t :: l,_=>by simp [whl,Tr.sizes]
 | p,k+1,t :: l,h=>by
  have:=whl_get (p:=p+t.size) (k:=k) (l:=l) (by simpa using h)
  simp [whl,Tr.sizes,this,Nat.add_assoc]
theorem slice_ok {n k:Nat} (h:k≤n):(andB (leI 0 (k:Int)) (andB (leI (k:Int) (n:Int)) (andB (leI (n:Int) (n:Int)) true)))=true:=by
 simp [andB,leI]; omega
theorem slice_ok' {n k:Nat} (h:k≤n):(andB (leI 0 0) (andB (leI 0 (k:Int)) (andB (leI (k:Int) (n:Int)) true)))=true:=by
 simp [andB,leI]; omega
theorem fronts_put {α:Type} {st:List (Tr α)} {a:α} {n:Nat} (hn:n≤st.length):Tr.frontss 0 (st.take (st.length - n) ++ [Tr.nd a (st.drop (st.length - n))])=Tr.frontss 0 st ++ [Tr.sizes (st.take (st.length - n))]:=by
 rw [Tr.frontss_append]
 simp only [Tr.frontss,Tr.fronts,List.append_nil,Nat.zero_add]
 rw [←List.append_assoc]
 congr 1
 conv=>rhs; rw [←List.take_append_drop (st.length - n) st]
 rw [Tr.frontss_append,Nat.zero_add]
def WOk (v:List api_Atom) (ws:List value_whole):Prop:=valOk v=true→∀st,valT v=some st→ws.map (fun w=>w.gFrom)=Ns (Tr.frontss 0 st)
theorem gives240 (v:List api_Atom):∃ws:List value_whole,Gives 240 [.d (.sl .api_Atom v)] (.tup [.d (.sl .value_whole ws),.d (.bool (valOk v))])∧(v.length * 40≤140737488355328→WOk v ws):=by
 by_cases hl:v.length * 40≤140737488355328
 case neg=>exact ⟨[],Runs.known fun hk _=>absurd (known_atoms (hk _ (List.mem_cons_self ..))) hl,fun h=>absurd h hl⟩
 let P:Nat→Prop:=fun i=>∀(st:List (Tr api_Atom)) (y14:List value_whole),valT (v.take i)=some st→Tr.deeps st≤32→y14.length=v.length→(y14.take i).map (fun w=>w.gFrom)=Ns (Tr.frontss 0 st)→∃ws,WOk v ws∧
  At K 240 (fun c' H'=>c'=(.tup [.d (.sl .value_whole ws),.d (.bool (valOk v))]:C U)∧H'=[]) t240_3 (s240_3 v (intN (lenL v)) i (whl 0 st) y14)
 have bad:∀(i:Nat),valT (v.take (i+1))=none→valOk v=false:=by
  intro i h
  have:=Tr.read_take_none (ok:=atomB) (ar:=(·.gN)) h
  simp only [valOk,valD,this]
 have deepB:∀(i:Nat) st,valT (v.take i)=some st→32<Tr.deeps st→valOk v=false:=by
  intro i st h h'
  cases hv:valT v with
  | none=>simp only [valOk,valD,hv]
  | some q=>
   have:=Tr.read_take_deeps h hv
   simp only [valOk,valD,hv]
   split
   ·rename_i d hd
    split at hd
    ·rename_i t e
     cases e; cases hd
     rw [Tr.deeps_one] at this
     rw [decide_eq_false_iff_not]; omega
    ·cases hd
   ·rfl
 have loop:∀i,i≤v.length→P i:=by
  refine upto ?_ fun i hi ih=>?_
  ·intro st y14 hst hd hy hyt
   rw [List.take_length] at hst
   rw [←hy,List.take_length] at hyt
   refine ⟨y14,fun _ st' h'=>(by rw [hst] at h'; cases h'; exact hyt),l240_3 _ _ _ _ _ _ (ite_f (lt_len_f (Nat.le_refl _)) ⟨?_,rfl⟩)⟩
   have:valOk v=eqI (intN (lenL (whl 0 st))) 1:=by
    rw [intN_eq,lenL_eq,whl_length]
    by_cases h1:st.length=1
    ·obtain ⟨t,rfl⟩:=List.length_eq_one_iff.1 h1
     rw [Tr.deeps_one] at hd
     simp only [valOk,valD,hst,hd]
     rfl
    ·have hn:valD v=none:=by
      simp only [valD,hst]
      split
      ·rename_i t e; cases e; simp at h1
      ·rfl
     simp only [valOk,hn]
     rw [eq_comm,eqI_f]; omega
   rw [this]
  ·intro st y14 hst hd hy hyt
   have hlen:(whl 0 st).length=st.length:=whl_length _ _
   have hsz:Tr.sizes st=i:=by rw [Tr.read_sizes hst]; simp; omega
   have hle:=Tr.length_le_sizes st
   have hsucc:=Tr.read_take_succ (ok:=atomB) (ar:=(·.gN)) hi hst
   have hrd:rd (api_Atom.mk 0 0 0 (bs [])) v (i:Int)=v[i]:=rd_at hi
   by_cases hok:atomB v[i]=true∧v[i].gN≤st.length
   ·obtain ⟨ho,hN⟩:=hok
    have hp:=atomB_pos ho
    obtain ⟨n,hn⟩:∃n:Nat,v[i].gN=(n:Int):=⟨v[i].gN.toNat,by omega⟩
    have hnl:n≤st.length:=by omega
    rw [Tr.put_of ho hn hnl] at hsucc
    have hsub:subW .i64 (intN (lenL (whl 0 st))) (n:Int)=((st.length - n:Nat):Int):=by
     rw [intN_eq,lenL_eq,hlen,subW_id (by omega) (by omega)]; omega
    have hw:whl 0 (st.take (st.length - n) ++ [Tr.nd v[i] (st.drop (st.length - n))])=(whl 0 st).take (st.length - n) ++ [⟨((Tr.sizes (st.take (st.length - n)):Nat):Int),((Tr.deeps (st.drop (st.length - n))+1:Nat):Int)⟩]:=by
     rw [whl_append,whl_take]; simp [whl,Tr.deep]
    have hds:Tr.deeps (st.take (st.length - n) ++ [Tr.nd v[i] (st.drop (st.length - n))])=max (Tr.deeps (st.take (st.length - n))) (Tr.deeps (st.drop (st.length - n))+1):=by
     rw [Tr.deeps_append,Tr.deeps_one]; simp only [Tr.deep]
    have htk:=Tr.deeps_take_le st (st.length - n)
    have inner:∃ws,WOk v ws∧∀k,k≤n→At K 240 (fun c' H'=>c'=(.tup [.d (.sl .value_whole ws),.d (.bool (valOk v))]:C U)∧H'=[]) t240_10
      (s240_10 i ((st.length - n:Nat):Int) v (intN (lenL v)) i (st.length - n) n (n:Int) k (whl 0 st) (if k=0 then (i:Int) else ((Tr.sizes (st.take (st.length - n)):Nat):Int)) ((Tr.deeps ((st.drop (st.length - n)).take k)+1:Nat):Int) y14):=by
     have last:∃ws,WOk v ws∧At K 240 (fun c' H'=>c'=(.tup [.d (.sl .value_whole ws),.d (.bool (valOk v))]:C U)∧H'=[]) t240_10
      (s240_10 i ((st.length - n:Nat):Int) v (intN (lenL v)) i (st.length - n) n (n:Int) n (whl 0 st) (if n=0 then (i:Int) else ((Tr.sizes (st.take (st.length - n)):Nat):Int)) ((Tr.deeps ((st.drop (st.length - n)).take n)+1:Nat):Int) y14):=by
      have e1:(st.drop (st.length - n)).take n=st.drop (st.length - n):=List.take_of_length_le (by simp; omega)
      have e2:(if n=0 then (i:Int) else ((Tr.sizes (st.take (st.length - n)):Nat):Int))=((Tr.sizes (st.take (st.length - n)):Nat):Int):=by
       split
       ·rename_i h0; subst h0; simp [hsz]
       ·rfl
      rw [e1,e2]
      by_cases hdd:Tr.deeps (st.drop (st.length - n))+1≤32
      ·obtain ⟨ws,hW,h1⟩:=ih _ (y14.set i ⟨((Tr.sizes (st.take (st.length - n)):Nat):Int),((Tr.deeps (st.drop (st.length - n))+1:Nat):Int)⟩) hsucc (by rw [hds]; omega) (by simp [hy]) (by
        rw [List.take_succ_eq_append_getElem (by simp; omega),List.take_set,List.set_eq_of_length_le (by simp; omega),List.map_append,hyt,fronts_put hnl,Ns_append,Ns_one]
        simp)
       rw [hw] at h1
       refine ⟨ws,hW,l240_10 _ _ _ _ _ _ _ _ _ _ _ _ _ _ (ite_f (by simp [ltI]) (ite_f ?_ (and_t (in_len (by omega)) (and_t ?_ (and_t (by rw [intN_eq,lenL_eq,hlen]; exact slice_ok' (by omega)) (and_t ?_ ?_))))))⟩
       ·show decide _=false
        rw [decide_eq_false_iff_not]; omega
       ·show decide _=true
        rw [decide_eq_true_eq,natI_nat,lenL_eq]; omega
       ·rw [natI_nat,andB_true]
        refine ⟨by simp [leN,addN,lenL_eq,hlen],roomB_t ?_⟩
        simp only [addN,lenL_eq,List.length_singleton]; omega
       ·rw [natI_nat,natI_nat,add_one (by omega)]; exact h1
      ·have hnot:=deepB _ _ hsucc (by rw [hds]; omega)
       refine ⟨[],fun h=>(by rw [hnot] at h; cases h),l240_10 _ _ _ _ _ _ _ _ _ _ _ _ _ _ (ite_f (by simp [ltI]) (ite_t ?_ ⟨?_,rfl⟩))⟩
       ·show decide _=true
        rw [decide_eq_true_eq]; omega
       ·rw [hnot]
     obtain ⟨ws,hW,h1⟩:=last
     refine ⟨ws,hW,upto h1 fun k hk ih=>?_⟩
     refine l240_10 _ _ _ _ _ _ _ _ _ _ _ _ _ _ (ite_t (by simp [ltI]; omega) ?_)
     have hkk:st.length - n+k<st.length:=by omega
     have hg:=whl_get (p:=0) hkk
     have hb:(andB (inB (k:Int) n) (leN (addN (st.length - n) n) (lenL (whl 0 st))))=true:=by
      rw [andB_true,inB_iff]
      refine ⟨by omega,?_⟩
      show decide _=true
      rw [decide_eq_true_eq,lenL_eq,hlen]; simp only [addN]; omega
     have hb':ltN (addN (st.length - n) (natI (k:Int))) (lenL (whl 0 st))=true:=by
      show decide _=true
      rw [decide_eq_true_eq,lenL_eq,hlen,natI_nat]; exact hkk
     have e3:rdN (value_whole.mk 0 0) (whl 0 st) (addN (st.length - n) (natI (k:Int)))=⟨((0+Tr.sizes (st.take (st.length - n+k)):Nat):Int),((st[st.length - n+k].deep:Nat):Int)⟩:=rdN_some hg
     have e4:(st.drop (st.length - n)).take (k+1)=(st.drop (st.length - n)).take k ++ [st[st.length - n+k]]:=by
      rw [List.take_succ_eq_append_getElem (by simp; omega)]; simp
     have hdp:st[st.length - n+k].deep≤Tr.deeps st:=Tr.le_deeps (List.getElem_mem _)
     have e5:maxI ((Tr.deeps ((st.drop (st.length - n)).take k)+1:Nat):Int) (addW .i64 ((st[st.length - n+k].deep:Nat):Int) 1)=((Tr.deeps ((st.drop (st.length - n)).take (k+1))+1:Nat):Int):=by
      rw [add_one (by omega),maxI_nat,e4,Tr.deeps_append,Tr.deeps_one]
      congr 1; omega
     refine and_t hb (and_t hb' ?_)
     rw [e3]
     dsimp only
     rw [e5,add_one (by omega)]
     refine ite_w (fun h0=>?_) (fun h0=>?_)
     ·have h0:k=0:=by have:=eqI_t.1 h0; omega
      subst h0
      simpa using ih
     ·have h0:k ≠ 0:=fun e=>by subst e; exact Bool.noConfusion (h0.symm.trans (by rfl:eqI 0 0=true))
      rw [if_neg h0]
      rw [if_neg (by omega)] at ih
      exact ih
    obtain ⟨ws,hW,h1⟩:=inner
    refine ⟨ws,hW,l240_3 _ _ _ _ _ _ (ite_t (lt_len hi) (and_t (in_len hi) ?_))⟩
    rw [hrd]
    refine ⟨_,gives280 _,or_of (fun _=>rfl) (ite_f ?_ ?_)⟩
    ·rw [ho,hn,intN_eq,lenL_eq,hlen]
     show (false || decide ((st.length:Int)<n))=false
     rw [Bool.false_or,decide_eq_false_iff_not]; omega
    ·rw [hn,hsub]
     refine and_t (by rw [intN_eq,lenL_eq,hlen]; exact slice_ok (by omega)) ?_
     have:=h1 0 (Nat.zero_le _)
     simp only [List.take_zero,Tr.deeps_nil,if_true] at this
     have e1:addN 0 (natI ((st.length - n:Nat):Int))=st.length - n:=by simp [addN,natI]
     have e2:subN (natI (intN (lenL (whl 0 st)))) (natI ((st.length - n:Nat):Int))=n:=by
      simp only [intN_eq,lenL_eq,hlen,natI_nat,subN]; omega
     rw [e1,e2]
     exact this
   ·have hf:=bad i (hsucc.trans (Tr.put_none fun h=>hok ⟨h.1,h.2.2⟩))
    rw [hf]
    refine ⟨[],fun h=>(by rw [hf] at h; cases h),l240_3 _ _ _ _ _ _ (ite_t (lt_len hi) (and_t (in_len hi) ?_))⟩
    rw [hrd]
    refine ⟨_,gives280 _,or_of (fun _=>rfl) (ite_t ?_ ⟨rfl,rfl⟩)⟩
    rw [intN_eq,lenL_eq,hlen]
    cases hb:atomB v[i] with
    | false=>rfl
    | true=>
     have:¬v[i].gN≤st.length:=fun h=>hok ⟨hb,h⟩
     simp [notB,ltI]; omega
 obtain ⟨ws,hW,h1⟩:=loop 0 (Nat.zero_le _) [] (replL (intN (lenL v)) (value_whole.mk 0 0)) rfl (by simp [Tr.deeps]) (by simp [replL,intN,lenL]) (by simp [Tr.frontss,Ns])
 refine ⟨ws,e240 _ _ (and_t ?_ h1),fun _=>hW⟩
 rw [intN_eq,lenL_eq]
 rw [andB_true,andB_true]
 refine ⟨decide_eq_true (by omega),decide_eq_true (by omega),decide_eq_true ?_⟩
 rw [room_eq]; omega
theorem gives177 (v:List api_Atom):Gives 177 [.d (.sl .api_Atom v)] (.d (.int .i64 (valE v))):=by
 obtain ⟨ws,h1,_⟩:=gives240 v
 refine e177 _ _ (ite_w (fun h=>?_) (fun h=>?_))
 ·have h:=of_decide_eq_true h
  simp only [intN_eq,lenL_eq] at h
  have e:valE v=3:=if_pos (by omega)
  rw [e]; exact ⟨rfl,rfl⟩
 ·have h:=of_decide_eq_false h
  simp only [intN_eq,lenL_eq] at h
  have e:valE v=if valOk v then 0 else 5:=if_neg (by omega)
  rw [e]
  refine ⟨(ws,valOk v),h1,ite_w (fun h=>?_) (fun h=>?_)⟩
  ·have h:=notB_t.1 h
   dsimp only at h
   rw [h]; exact ⟨rfl,rfl⟩
  ·have h:=notB_f.1 h
   dsimp only at h
   rw [h]; exact ⟨rfl,rfl⟩
def sortN (k:Int):Int:=if (ltI k 0 || leI 12 k)=true then 0 else rd 0 [0,1,1,1,1,1,1,1,2,3,4,1] k
theorem gives301 (k:Int):Gives 301 [.d (.int .i64 k)] (.d (.int .i64 (sortN k))):=by
 refine e301 _ _ (or_of (fun _=>rfl) (ite_w (fun h=>?_) (fun h=>?_)))
 ·have:sortN k=0:=if_pos h
  rw [this]; exact ⟨rfl,rfl⟩
 ·have e:sortN k=rd 0 [0,1,1,1,1,1,1,1,2,3,4,1] k:=if_neg (by rw [h]; simp)
  rw [e]
  rw [Bool.or_eq_false_iff] at h
  have h1:=of_decide_eq_false h.1
  have h2:=of_decide_eq_false h.2
  exact and_t (inB_iff.2 ⟨by omega,by omega⟩) ⟨rfl,rfl⟩
def fitB (k:Int) (t:ByteArray):Bool:=
 if k=1∨k=2∨k=8 then true else if k=3 then inB' wordL t else if k=4∨k=5∨k=9 then nameB t else strEq t (bs [])
theorem kinds (k:Int):k=1∨k=2∨k=3∨k=4∨k=5∨k=6∨k=7∨k=8∨k=9∨k=10∨k=11∨(k ≠ 1∧k ≠ 2∧k ≠ 3∧k ≠ 4∧k ≠ 5∧k ≠ 6∧k ≠ 7∧k ≠ 8∧k ≠ 9∧k ≠ 10∧k ≠ 11):=by omega
theorem gives302 (k:Int) (t:ByteArray):Gives 302 [.d (.int .i64 k),.d (.str t)] (.d (.bool (fitB k t))):=by
 refine e302 _ _ _ ?_
 rcases kinds k with rfl|rfl|rfl|rfl|rfl|rfl|rfl|rfl|rfl|rfl|rfl|⟨h1,h2,h3,h4,h5,h6,h7,h8,h9,h10,h11⟩
 ·simp only [eqI,Int.reduceBEq,iteP]; exact ⟨rfl,rfl⟩
 ·simp only [eqI,Int.reduceBEq,iteP]; exact ⟨rfl,rfl⟩
 ·simp only [eqI,Int.reduceBEq,iteP]; exact ⟨_,gives80 wordL t,rfl,rfl⟩
 ·simp only [eqI,Int.reduceBEq,iteP]; exact ⟨_,gives153 t,rfl,rfl⟩
 ·simp only [eqI,Int.reduceBEq,iteP]; exact ⟨_,gives153 t,rfl,rfl⟩
 ·simp only [eqI,Int.reduceBEq,iteP]; exact ⟨rfl,rfl⟩
 ·simp only [eqI,Int.reduceBEq,iteP]; exact ⟨rfl,rfl⟩
 ·simp only [eqI,Int.reduceBEq,iteP]; exact ⟨rfl,rfl⟩
 ·simp only [eqI,Int.reduceBEq,iteP]; exact ⟨_,gives153 t,rfl,rfl⟩
 ·simp only [eqI,Int.reduceBEq,iteP]; exact ⟨rfl,rfl⟩
 ·simp only [eqI,Int.reduceBEq,iteP]; exact ⟨rfl,rfl⟩
 ·have e:fitB k t=strEq t (bs []):=by
   unfold fitB
   rw [if_neg (by omega),if_neg h3,if_neg (by omega)]
  rw [e]
  simp only [eqI_f.2 h1,eqI_f.2 h2,eqI_f.2 h3,eqI_f.2 h4,eqI_f.2 h5,eqI_f.2 h8,eqI_f.2 h9,iteP]
  exact ⟨rfl,rfl⟩
def crackB (c:api_Crack):Bool:=
 if sortN c.gKind=1 then (eqI c.gN 0 && leI (intN (strLen c.gText)) 4096) && fitB c.gKind c.gText
 else if sortN c.gKind=2 then ((eqI c.gN 0 || eqI c.gN 1) && leI (intN (strLen c.gText)) 4096) && fitB c.gKind c.gText
 else if sortN c.gKind=3 then (eqI c.gN 1 && leI (intN (strLen c.gText)) 4096) && fitB c.gKind c.gText
 else if sortN c.gKind=4 then (leI 1 c.gN && leI (intN (strLen c.gText)) 4096) && fitB c.gKind c.gText
 else false
abbrev crackC (a:api_Crack):C U:=.agg [.d (.int .i64 a.gKind),.d (.int .i64 a.gN),.d (.str a.gText)]
theorem gives281 (c:api_Crack):Gives 281 [crackC c] (.d (.bool (crackB c))):=by
 refine e281 _ _ ⟨_,gives301 _,sw (fun h1=>?_) (fun h1=>sw (fun h2=>?_) (fun h2=>sw (fun h3=>?_) (fun h3=>sw (fun h4=>?_) (fun h4=>?_))))⟩
 ·simp only [crackB,if_pos h1]
  exact and_of (fun _=>rfl) (and_of (fun _=>⟨_,gives302 _ _,rfl⟩) ⟨rfl,rfl⟩)
 ·simp only [crackB,if_neg h1,if_pos h2]
  exact or_of (fun _=>rfl) (and_of (fun _=>rfl) (and_of (fun _=>⟨_,gives302 _ _,rfl⟩) ⟨rfl,rfl⟩))
 ·simp only [crackB,if_neg h1,if_neg h2,if_pos h3]
  exact and_of (fun _=>rfl) (and_of (fun _=>⟨_,gives302 _ _,rfl⟩) ⟨rfl,rfl⟩)
 ·simp only [crackB,if_neg h1,if_neg h2,if_neg h3,if_pos h4]
  exact and_of (fun _=>rfl) (and_of (fun _=>⟨_,gives302 _ _,rfl⟩) ⟨rfl,rfl⟩)
 ·simp only [crackB,if_neg h1,if_neg h2,if_neg h3,if_neg h4]
  exact ⟨false,rfl,and_of (b:=true) (fun h=>by cases h) ⟨rfl,rfl⟩⟩
theorem crackB_pos {a:api_Crack} (h:crackB a=true):0≤a.gN:=by
 unfold crackB at h
 split at h
 ·simp only [Bool.and_eq_true,eqI_t] at h; omega
 ·split at h
  ·simp only [Bool.and_eq_true,Bool.or_eq_true,eqI_t] at h; omega
  ·split at h
   ·simp only [Bool.and_eq_true,eqI_t] at h; omega
   ·split at h
    ·simp only [Bool.and_eq_true] at h
     have:=of_decide_eq_true h.1.1
     omega
    ·cases h
abbrev failT (v:List api_Crack):Option (List (Tr api_Crack)):=Tr.read crackB (·.gN) [] v
def failOk (v:List api_Crack):Bool:=match failT v with
 | some [_]=>true
 | _=>false
theorem failOk_one {v:List api_Crack} {st:List (Tr api_Crack)} (h:failT v=some st):failOk v=eqI (st.length:Int) 1:=by
 simp only [failOk,h]
 split
 ·rename_i t e; cases e; rfl
 ·rename_i hn
  rw [eq_comm,eqI_f]
  intro h1
  obtain ⟨t,rfl⟩:=List.length_eq_one_iff.1 (by omega:st.length=1)
  exact hn t rfl
theorem failOk_none {v:List api_Crack} (h:failT v=none):failOk v=false:=by simp only [failOk,h]
theorem setL_get {α:Type} {d:α} {l:List α} {i:Nat} {x:α} (h:i<l.length):rdN d (setL l i x) i=x:=by
 refine rdN_some ?_
 simp [setL,h]
theorem ltN_t {a b:Nat} (h:a<b):ltN a b=true:=decide_eq_true h
theorem leN_t {a b:Nat} (h:a≤b):leN a b=true:=decide_eq_true h
section
variable {v:List api_Crack} {i:Nat} {st:List (Tr api_Crack)}
theorem crack_bad (hi:i<v.length) (hst:failT (v.take i)=some st) (hok:¬(crackB v[i]=true∧v[i].gN≤st.length)):failOk v=false∧(notB (crackB v[i]) || ltI (intN (lenL (Ns (Tr.starts 0 st)))) v[i].gN)=true:=by
 refine ⟨failOk_none (Tr.read_take_none (i:=i+1) ((Tr.read_take_succ hi hst).trans (Tr.put_none fun h=>hok ⟨h.1,h.2.2⟩))),?_⟩
 rw [intN_eq,lenL_eq,Ns_length,Tr.starts_length]
 cases hb:crackB v[i] with
 | false=>rfl
 | true=>
  have:¬v[i].gN≤st.length:=fun h=>hok ⟨hb,h⟩
  simp [notB,ltI]; omega
end
theorem gives241 (v:List api_Crack):∃fr,Gives 241 [.d (.sl .api_Crack v)] (.tup [.d (.sl .int fr),.d (.bool (failOk v))]):=by
 by_cases hl:v.length * 32≤140737488355328
 case neg=>exact ⟨[],Runs.known fun hk _=>absurd (known_cracks (hk _ (List.mem_cons_self ..))) hl⟩
 let P:Nat→Prop:=fun i=>∀(st:List (Tr api_Crack)) (y10:List Int),failT (v.take i)=some st→y10.length=v.length→∃fr:List Int,
  At K 241 (fun c' H'=>c'=(.tup [.d (.sl .int fr),.d (.bool (failOk v))]:C U)∧H'=[]) t241_3 (s241_3 v (intN (lenL v)) i (Ns (Tr.starts 0 st)) y10)
 have loop:∀i,i≤v.length→P i:=by
  refine upto ?_ fun i hi ih=>?_
  ·intro st y10 hst hy
   rw [List.take_length] at hst
   refine ⟨y10,l241_3 _ _ _ _ _ _ (ite_f (lt_len_f (Nat.le_refl _)) ⟨?_,rfl⟩)⟩
   rw [failOk_one hst,intN_eq,lenL_eq,Ns_length,Tr.starts_length]
  ·intro st y10 hst hy
   have hlen:(Ns (Tr.starts 0 st)).length=st.length:=by rw [Ns_length,Tr.starts_length]
   have hsz:Tr.sizes st=i:=by rw [Tr.read_sizes hst]; simp; omega
   have hle:=Tr.length_le_sizes st
   have hrd:rd (api_Crack.mk 0 0 (bs [])) v (i:Int)=v[i]:=rd_at hi
   have hroom:∀m,m≤v.length→(m+1) * 8≤140737488355328:=fun m hm=>by omega
   by_cases hok:crackB v[i]=true∧v[i].gN≤st.length
   ·obtain ⟨ho,hN⟩:=hok
    have hp:=crackB_pos ho
    obtain ⟨n,hn⟩:∃n:Nat,v[i].gN=(n:Int):=⟨v[i].gN.toNat,by omega⟩
    have hnl:n≤st.length:=by omega
    have hsucc:=(Tr.read_take_succ (ok:=crackB) (ar:=(·.gN)) hi hst).trans (Tr.put_of ho hn hnl)
    have hsub:subW .i64 (intN (lenL (Ns (Tr.starts 0 st)))) (n:Int)=((st.length - n:Nat):Int):=by
     rw [intN_eq,lenL_eq,hlen,subW_id (by omega) (by omega)]; omega
    have in1:∀L:List Int,lenL L=v.length→inB (i:Int) (lenL L)=true:=fun L h=>by rw [inB_iff,h]; omega
    have lt1:∀L:List Int,lenL L=v.length→ltN (natI (i:Int)) (lenL L)=true:=fun L h=>ltN_t (by rw [h,natI_nat]; exact hi)
    have hgen:∀y:List Int,y.length=v.length→∃fr:List Int,At K 241 (fun c' H'=>c'=(.tup [.d (.sl .int fr),.d (.bool (failOk v))]:C U)∧H'=[]) t241_3
      (s241_3 v (intN (lenL v)) ((i+1:Nat):Int) ((Ns (Tr.starts 0 st)).take (st.length - n) ++ [((Tr.sizes (st.take (st.length - n)):Nat):Int)]) y):=by
     intro y hy'
     obtain ⟨fr,h1⟩:=ih _ y hsucc hy'
     rw [starts_put hnl,Ns_append,←Ns_take,Ns_one] at h1
     exact ⟨fr,h1⟩
    have hy1:(setL y10 (natI (i:Int)) (i:Int)).length=v.length:=by simp [setL,hy]
    have hin1:natI (i:Int)<(setL y10 (natI (i:Int)) (i:Int)).length:=by rw [hy1,natI_nat]; exact hi
    by_cases h0:0<n
    ·have hk:st.length - n<st.length:=by omega
     obtain ⟨fr,h1⟩:=hgen (setL (setL y10 (natI (i:Int)) (i:Int)) (natI (i:Int)) ((Tr.sizes (st.take (st.length - n)):Nat):Int)) (by simp [setL,hy])
     refine ⟨fr,l241_3 _ _ _ _ _ _ (ite_t (lt_len hi) (and_t (in_len hi) ?_))⟩
     rw [hrd]
     refine ⟨_,gives281 _,or_of (fun _=>rfl) (ite_f ?_ ?_)⟩
     ·rw [ho,hn,intN_eq,lenL_eq,hlen]
      show (false || decide ((st.length:Int)<n))=false
      rw [Bool.false_or,decide_eq_false_iff_not]; omega
     rw [hn]
     refine and_t (in1 _ hy) (and_t (lt1 _ hy) (ite_t (by simp [ltI]; omega) ?_))
     rw [hsub,natI_nat (st.length - n),rdN_some (Ns_get (start_at hk)),setL_get hin1]
     refine and_t (in_len (by omega)) (and_t (ltN_t (by rw [lenL_eq,hlen]; exact hk)) (and_t (in1 _ (by simp [lenL,setL,hy])) (and_t (lt1 _ (by simp [lenL,setL,hy])) (and_t (by rw [intN_eq,lenL_eq,hlen]; exact slice_ok' (by omega)) (and_t (in1 _ (by simp [lenL,setL,hy])) (and_t (lt1 _ (by simp [lenL,setL,hy])) (and_t ?_ ?_)))))))
     ·rw [andB_true]
      refine ⟨leN_t (by simp only [addN,lenL_eq,hlen]; omega),roomB_t ?_⟩
      simp only [addN,lenL_eq,List.length_singleton]; exact hroom _ (by omega)
     ·rw [add_one (by omega)]; exact h1
    ·have h00:n=0:=by omega
     subst h00
     obtain ⟨fr,h1⟩:=hgen (setL y10 (natI (i:Int)) (i:Int)) hy1
     refine ⟨fr,l241_3 _ _ _ _ _ _ (ite_t (lt_len hi) (and_t (in_len hi) ?_))⟩
     rw [hrd]
     refine ⟨_,gives281 _,or_of (fun _=>rfl) (ite_f ?_ ?_)⟩
     ·rw [ho,hn,intN_eq,lenL_eq,hlen]
      show (false || decide ((st.length:Int)<(0:Nat)))=false
      rw [Bool.false_or,decide_eq_false_iff_not]; omega
     rw [hn]
     refine and_t (in1 _ hy) (and_t (lt1 _ hy) (ite_f (by simp [ltI]) ?_))
     rw [hsub,natI_nat (st.length - 0),setL_get (by rw [hy,natI_nat]; exact hi)]
     refine and_t (by rw [intN_eq,lenL_eq,hlen]; exact slice_ok' (by omega)) (and_t (in1 _ (by simp [lenL,setL,hy])) (and_t (lt1 _ (by simp [lenL,setL,hy])) (and_t ?_ ?_)))
     ·rw [andB_true]
      refine ⟨leN_t (by simp only [addN,lenL_eq,hlen]; omega),roomB_t ?_⟩
      simp only [addN,lenL_eq,List.length_singleton]; exact hroom _ (by omega)
     ·rw [add_one (by omega)]
      simp only [Nat.sub_zero,List.take_length,hsz] at h1 ⊢
      exact h1
   ·obtain ⟨hf,hb⟩:=crack_bad hi hst hok
    rw [hf]
    refine ⟨[],l241_3 _ _ _ _ _ _ (ite_t (lt_len hi) (and_t (in_len hi) ?_))⟩
    rw [hrd]
    exact ⟨_,gives281 _,or_of (fun _=>rfl) (ite_t hb ⟨rfl,rfl⟩)⟩
 obtain ⟨fr,h1⟩:=loop 0 (Nat.zero_le _) [] (replL (intN (lenL v)) 0) rfl (by simp [replL,intN,lenL])
 refine ⟨fr,e241 _ _ (and_t ?_ h1)⟩
 rw [intN_eq,lenL_eq,andB_true,andB_true]
 refine ⟨decide_eq_true (by omega),decide_eq_true (by omega),decide_eq_true ?_⟩
 rw [room_eq]; omega
def failE (v:List api_Crack):Int:=if 1024<v.length then 3 else if failOk v then 0 else 5
theorem gives178 (v:List api_Crack):Gives 178 [.d (.sl .api_Crack v)] (.d (.int .i64 (failE v))):=by
 obtain ⟨ws,h1⟩:=gives241 v
 refine e178 _ _ (ite_w (fun h=>?_) (fun h=>?_))
 ·have h:=of_decide_eq_true h
  simp only [intN_eq,lenL_eq] at h
  have e:failE v=3:=if_pos (by omega)
  rw [e]; exact ⟨rfl,rfl⟩
 ·have h:=of_decide_eq_false h
  simp only [intN_eq,lenL_eq] at h
  have e:failE v=if failOk v then 0 else 5:=if_neg (by omega)
  rw [e]
  refine ⟨(ws,failOk v),h1,ite_w (fun h=>?_) (fun h=>?_)⟩
  ·have h:=notB_t.1 h
   dsimp only at h
   rw [h]; exact ⟨rfl,rfl⟩
  ·have h:=notB_f.1 h
   dsimp only at h
   rw [h]; exact ⟨rfl,rfl⟩
abbrev outC (o:api_Outcome):C U:=.agg [.d (.int .i64 o.gKind),.d (.sl .api_Atom o.gValue),.d (.sl .api_Crack o.gFail)]
theorem opKinds (k:Int):k=1∨k=2∨k=3∨k=4∨k=5∨k=6∨k=7∨k=8∨k=9∨k=10∨k=11∨k=12∨k=13∨k=14∨k=15∨k=16∨k=17∨k=18∨k=19∨(k<1∨19<k):=by omega
theorem sizes_succ {α:Type} {l:List (Tr α)} {j:Nat} (h:j<l.length):Tr.sizes (l.take (j+1))=Tr.sizes (l.take j)+l[j].size:=by
 rw [List.take_succ_eq_append_getElem h,Tr.sizes_append]; simp [Tr.sizes]
theorem sizes_take_le {α:Type} (l:List (Tr α)) (j:Nat):Tr.sizes (l.take j)≤Tr.sizes l:=by
 conv=>rhs; rw [←List.take_append_drop j l]
 rw [Tr.sizes_append]; omega
theorem rd_some {α:Type} {d:α} {l:List α} {i:Nat} {x:α} (h:l[i]?=some x):rd d l (i:Int)=x:=by
 obtain ⟨h1,h2⟩:=List.getElem?_eq_some_iff.1 h
 rw [rd_at h1,h2]
theorem inB_some {α:Type} {l:List α} {i:Nat} {x:α} (h:l[i]?=some x):inB (i:Int) (lenL l)=true:=in_len (List.getElem?_eq_some_iff.1 h).1
def cmpS (a b:ByteArray):Int:=Go.Lib.compareBytes a.data.toList b.data.toList
theorem f324_at:Tryz.prog.funcs[324]?=some Tryz.f324:=by kernel_rfl
theorem f324_ext:Extern.find Tryz.f324=some Extern.BytealgCompare.compare:=by kernel_rfl
theorem f324_next:(Extern.findNext Tryz.f324).isNone=true:=by kernel_rfl
theorem run324 (a b:ByteArray) (w:World):(callFunc 324 #[.string a,.string b]).run Tryz.prog w=.ok (.value (.int .i64 (cmpS a b))) w:=by
 have h1:Extern.findNext Tryz.f324=none:=by
  cases h:Extern.findNext Tryz.f324 with
  | none=>rfl
  | some _=>have:=f324_next; rw [h] at this; cases this
 have h2 : ¬ Tryz.f324.name = "runtime.NumGoroutine" := by decide
 have h3:Tryz.f324.body.isNone=true:=by kernel_rfl
 simp only [callFunc,Sem.run_bind,run_program,Result.andThen_ok,f324_at]
 simp [h2,h3,run_mark,h1,f324_ext,Sem.run_bind,Result.andThen_ok,Go.Lib.run_compareString,cmpS]
theorem val_in {P:Program} {n:Nat} {ops:Array Oper} {i d:Nat} {o:Oper} {is:List Nat} {a:Act} {w:World} {v:Value} {Q:Exit→Act→World→Prop} (ho:ops[i]?=some o) (hg:o.guard=none) (hd:o.dst=some d)
  (hv:(execOp a.eval o).run P w=.ok (.value v) w) (hn:wpOpsIn Fence.wide n P ops Q is (a.put (some d) v) w):wpOpsIn Fence.wide n P ops Q (i :: is) a w:=by
 simp only [wpOpsIn,ho]
 rw [if_pos (by simp [Region.wanted,hg])]
 refine ⟨fun _ _=>trivial,?_⟩
 show o.uponIn Fence.wide n P a _ Q ((execOp a.eval o).run P w)
 rw [hv,Oper.uponIn_value,hd]; exact hn
theorem exec324 {a b:ByteArray} {w:World} {o:Oper} {ρ:Operand→Value} (ho:o.op=.call { callee:=.value (.func 324),args:=#[.tmp 5,.tmp 6],argTypes:=#[9,9] }) (hf:ρ (.func 324)=.func (.func 324) #[] #[]) (h5:ρ (.tmp 5)=.string a) (h6:ρ (.tmp 6)=.string b):
  (execOp ρ o).run Tryz.prog w=.ok (.value (.int .i64 (cmpS a b))) w:=by
 simp only [execOp,ho,resolve,hf,Deferred.ofValue,Sem.run_bind,Sem.run_pure,Result.andThen_ok,invoke,Array.empty_append,Array.append_empty,List.map_toArray,List.map_cons,List.map_nil,h5,h6]
 exact run324 a b w
theorem val_to {P:Program} {n:Nat} {ops:Array Oper} {i d:Nat} {o:Oper} {is:List Nat} {a:Act} {w:World} (v:Value) {Q:Exit→Act→World→Prop} (ho:ops[i]?=some o) (hg:o.guard=none) (hd:o.dst=some d) (hs:d<a.tmps.size)
  (hv:(execOp a.eval o).run P w=.ok (.value v) w) (hn:∀a':Act,a'.defers=a.defers→a'.tmps.size=a.tmps.size→(∀t,t ≠ d→a'.tmps[t]?=a.tmps[t]?)→a'.tmps[d]?=some v→wpOpsIn Fence.wide n P ops Q is a' w):wpOpsIn Fence.wide n P ops Q (i :: is) a w:=
 val_in ho hg hd hv (hn _ rfl (by simp [Act.put]) (fun t ht=>put_other (by rintro e ⟨⟩; exact fun h=>ht h.symm)) (put_at hs))
theorem gives323 (a b:ByteArray):Gives 323 [.d (.str a),.d (.str b)] (.d (.int .i64 (cmpS a b))):=by
 intro w F pl vs hok M hr
 simp only [RepCs,RepC] at hr
 obtain ⟨v1,r1,rfl,h1,v2,r2,rfl,h2,rfl⟩:=hr
 have h1:v1=.string a:=(repC_str (ob:=obH ([]:List (O K.U))) (F:=F) (w:=w) (pl:=pl) |>.1 (by simp only [RepC]; exact h1)).1
 have h2:v2=.string b:=(repC_str (ob:=obH ([]:List (O K.U))) (F:=F) (w:=w) (pl:=pl) |>.1 (by simp only [RepC]; exact h2)).1
 subst h1; subst h2
 refine callsIn_wide.1 (callsIn_of_wp (fn:=Tryz.f323) (n:=0) (c:=Tryz.f323.body.getD .skip) (by kernel_rfl) (by kernel_rfl) trivial ?_)
 have t0:(#[Value.string a,Value.string b] ++ Array.replicate (Tryz.f323.ntmps - #[Value.string a,Value.string b].size) undef)[0]?=some (.string a):=rfl
 have t1:(#[Value.string a,Value.string b] ++ Array.replicate (Tryz.f323.ntmps - #[Value.string a,Value.string b].size) undef)[1]?=some (.string b):=rfl
 have sz:(#[Value.string a,Value.string b] ++ Array.replicate (Tryz.f323.ntmps - #[Value.string a,Value.string b].size) undef).size=8:=rfl
 show Code.wpIn _ _ _ _ _ ⟨#[Value.string a,Value.string b] ++ Array.replicate (Tryz.f323.ntmps - #[Value.string a,Value.string b].size) undef,[]⟩ w
 generalize (#[Value.string a,Value.string b] ++ Array.replicate (Tryz.f323.ntmps - #[Value.string a,Value.string b].size) undef)=tm at t0 t1 sz ⊢
 show (Code.seq (.region 0 _ _) (.seq (.region 1 _ _) .ret)).wpIn _ _ _ _ _ _
 refine wpIn_seq (wpIn_region ?_)
 refine val_to (d:=4) (.int .i64 0) rfl rfl rfl (by rw [sz]; decide) rfl fun a1 d1 s1 p1 q1=>?_
 show (Code.seq _ _).wpIn _ _ _ _ _ _
 refine wpIn_seq (wpIn_region ?_)
 have sz1:a1.tmps.size=8:=s1.trans sz
 refine val_to (d:=5) (a1.eval (.tmp 0)) rfl rfl rfl (by rw [sz1]; decide) rfl fun a2 d2 s2 p2 q2=>?_
 refine val_to (d:=6) (a2.eval (.tmp 1)) rfl rfl rfl (by rw [s2,sz1]; decide) rfl fun a3 d3 s3 p3 q3=>?_
 have e5:a3.eval (.tmp 5)=.string a:=by
  refine (getD_some ((p3 5 (by decide)).trans q2)).trans ?_
  exact getD_some ((p1 0 (by decide)).trans t0)
 have e6:a3.eval (.tmp 6)=.string b:=by
  refine (getD_some q3).trans ?_
  exact getD_some ((p2 1 (by decide)).trans ((p1 1 (by decide)).trans t1))
 refine val_to (d:=7) (.int .i64 (cmpS a b)) rfl rfl rfl (by rw [s3,s2,sz1]; decide) (exec324 rfl rfl e5 e6) fun a4 d4 s4 p4 q4=>?_
 refine val_to (d:=4) (a4.eval (.tmp 7)) rfl rfl rfl (by rw [s4,s3,s2,sz1]; decide) rfl fun a5 d5 s5 p5 q5=>?_
 show (Code.ret).wpIn _ _ _ _ _ _
 have er:a5.tmps.getD 4 undef=.int .i64 (cmpS a b):=(getD_some q5).trans (getD_some q4)
 have hres:(results Tryz.f323 a5.tmps).run K.P w=.ok (.int .i64 (cmpS a b)) w:=by
  rw [←er]
  exact results_run (vs:=[a5.tmps.getD 4 undef]) rfl
 refine wpIn_ret ⟨by rw [d5,d4,d3,d2,d1],_,hres,_,rfl,_,_,F,pl,[],⟨rfl,rfl⟩,⟨rfl,repC_int.2 rfl⟩,M,fin_refl,List.nodup_nil,hok,fun _ h=>by cases h⟩
theorem gives318 (a b:ByteArray):Gives 318 [.d (.str a),.d (.str b)] (.d (.int .i64 (cmpS a b))):=e318 _ _ _ ⟨_,gives323 a b,rfl,rfl⟩
theorem drop_setA {α:Type} {y E:List α} {j:Nat} {e:α} (hj:j<y.length) (hd:y.drop (j+1)=E.drop (j+1)) (he:E[j]?=some e):(setL y j e).drop j=E.drop j:=by
 obtain ⟨h1,h2⟩:=List.getElem?_eq_some_iff.1 he
 unfold setL
 rw [List.drop_eq_getElem_cons (by simpa using hj),List.drop_eq_getElem_cons h1,h2]
 congr 1
 ·simp
 ·rw [←hd,List.drop_set,if_pos (by omega)]
structure ValTr (t:Tr api_Atom):Prop where
 good:t.good atomB (·.gN)
 deep:t.deep≤32
 size:t.size≤1024
theorem ValTr.room {t:Tr api_Atom} (h:ValTr t):t.size * 40≤140737488355328:=by have:=h.size; omega
theorem valOk_tree {v:List api_Atom} (h:valOk v=true) (hl:v.length≤1024):∃t,v=t.post∧ValTr t:=by
 unfold valOk valD at h
 split at h
 ·rename_i d hd
  split at hd
  ·rename_i t ht
   cases hd
   obtain ⟨h1,h2⟩:=Tr.read_one ht
   have h3:=of_decide_eq_true h
   exact ⟨t,h1,h2,by omega,by rw [←Tr.post_length,←h1]; exact hl⟩
  ·cases hd
 ·cases h
section
variable {t:Tr api_Atom} {a:api_Atom} {l:List (Tr api_Atom)}
theorem ValTr.read (h:ValTr t):valT t.post=some [t]:=Tr.read_post (st:=[]) h.good
theorem ValTr.ok (h:ValTr t):valOk t.post=true:=by
 have:=h.deep
 simp only [valOk,valD,h.read]
 exact decide_eq_true (by omega)
theorem ValTr.kid (h:ValTr (.nd a l)) {k:Tr api_Atom} (hk:k∈l):ValTr k:=by
 have h1:=h.good
 simp only [Tr.good] at h1
 have h2:=Tr.le_deeps hk
 have h3:=Tr.le_sizes hk
 have h4:=h.deep
 have h5:=h.size
 simp only [Tr.deep,Tr.size] at h4 h5
 exact ⟨Tr.goods_mem h1.2 hk,by omega,by omega⟩
theorem ValTr.ar (h:ValTr (.nd a l)):a.gN=(l.length:Int):=by
 have h1:=h.good
 simp only [Tr.good] at h1
 exact h1.1.2
theorem ValTr.atom (h:ValTr (.nd a l)):atomB a=true:=by
 have h1:=h.good
 simp only [Tr.good] at h1
 exact h1.1.1
theorem post_last:(Tr.nd a l).post[Tr.sizes l]?=some a:=by
 rw [Tr.post,List.getElem?_append_right (by rw [Tr.posts_length]; exact Nat.le_refl _),Tr.posts_length]; simp
theorem gives309 (hs:(Tr.nd a l).size * 40≤140737488355328):Gives 309 [.d (.sl .api_Atom (Tr.nd a l).post)] (atomC a):=by
 simp only [Tr.size] at hs
 have e:subW .i64 (intN (lenL (Tr.nd a l).post)) 1=((Tr.sizes l:Nat):Int):=by
  rw [intN_eq,lenL_eq,Tr.post_length,Tr.size,subW_id (by omega) (by omega)]; omega
 refine e309 _ _ ?_
 rw [e]
 refine and_t (inB_some post_last) ?_
 rw [rd_some post_last]; exact ⟨rfl,rfl⟩
theorem kid_cut {j:Nat} (hj:j<l.length):dropL (Tr.sizes (l.take j)) (takeL (Tr.sizes (l.take (j+1))) (Tr.nd a l).post)=l[j].post:=by
 have h1:(Tr.nd a l).post=Tr.posts (l.take (j+1)) ++ (Tr.posts (l.drop (j+1)) ++ [a]):=by
  rw [←List.append_assoc,←Tr.posts_append,List.take_append_drop]; rfl
 have h2:Tr.posts (l.take (j+1))=Tr.posts (l.take j) ++ l[j].post:=by
  rw [List.take_succ_eq_append_getElem hj,Tr.posts_append]; simp [Tr.posts]
 have e1:(Tr.nd a l).post.take (Tr.sizes (l.take (j+1)))=Tr.posts (l.take (j+1)):=by rw [h1]; exact List.take_left' (Tr.posts_length _)
 have e2:(Tr.posts (l.take j) ++ l[j].post).drop (Tr.sizes (l.take j))=l[j].post:=List.drop_left' (Tr.posts_length _)
 show List.drop _ (List.take _ _)=_
 rw [e1,h2,e2]
theorem front_get:∀{p:Nat} {l:List (Tr api_Atom)} {j:Nat} (hj:j<l.length),(Tr.frontss p l)[Tr.sizes (l.take (j+1)) - 1]?=some (p+Tr.sizes (l.take j))
 | p,t :: l,0,_=>by
  have hp:=Tr.size_pos t
  obtain ⟨a,m⟩:=t
  simp only [List.take_succ_cons,List.take_zero,Tr.sizes,Nat.add_zero,Tr.frontss]
  rw [List.getElem?_append_left (by rw [Tr.fronts_length]; omega),Tr.fronts]
  simp only [Tr.size,Nat.add_sub_cancel]
  rw [List.getElem?_append_right (by rw [Tr.frontss_length]; exact Nat.le_refl _),Tr.frontss_length]; simp
 | p,t :: l,j+1,hj=>by
  have hj':j<l.length:=by simpa using hj
  have hp:=sizes_succ hj'
  have hq:=Tr.size_pos l[j]
  simp only [List.take_succ_cons,Tr.sizes,Tr.frontss]
  rw [List.getElem?_append_right (by rw [Tr.fronts_length]; omega),Tr.fronts_length]
  have:=front_get (p:=p+t.size) hj'
  have e:t.size+Tr.sizes (l.take (j+1)) - 1 - t.size=Tr.sizes (l.take (j+1)) - 1:=by omega
  rw [e,this,Nat.add_assoc]
theorem gives310 (h:ValTr (.nd a l)):Gives 310 [.d (.sl .api_Atom (Tr.nd a l).post)] (.osl .sl_api_Atom (l.map Tr.post)):=by
 have hs:=h.size
 have ha:=h.ar
 have hll:=Tr.length_le_sizes l
 obtain ⟨ws,h1,h2⟩:=gives240 (Tr.nd a l).post
 have hpl:(Tr.nd a l).post.length=Tr.sizes l+1:=by rw [Tr.post_length,Tr.size]
 simp only [Tr.size] at hs
 have hw:=h2 (by omega) h.ok _ h.read
 have hf1:Tr.frontss 0 [Tr.nd a l]=Tr.frontss 0 l ++ [0]:=by simp [Tr.frontss,Tr.fronts]
 rw [hf1] at hw
 have loop:∀(j:Nat) (y:List (List api_Atom)),j≤l.length→y.length=l.length→y.drop j=(l.map Tr.post).drop j→
   At K 310 (fun c' H'=>c'=(.osl .sl_api_Atom (l.map Tr.post):C U)∧H'=[]) t310_5 (s310_5 (Tr.nd a l).post ws ((Tr.sizes (l.take j):Nat):Int) ((j:Int) - 1) y):=by
  intro j
  induction j with
  | zero=>
   intro y _ hy hd
   refine l310_5 _ _ _ _ _ _ (ite_f (by simp [leI]) ⟨?_,rfl⟩)
   rw [List.drop_zero,List.drop_zero] at hd
   rw [hd]; rfl
  | succ j ih=>
   intro y hj hy hd
   have hj':j<l.length:=by omega
   have e:((j+1:Nat):Int) - 1=(j:Int):=by omega
   have hss:=sizes_succ hj'
   have hst:=sizes_take_le l (j+1)
   have hp:=Tr.size_pos l[j]
   have hfr:(Tr.frontss 0 l ++ [0])[Tr.sizes (l.take (j+1)) - 1]?=some (0+Tr.sizes (l.take j)):=by
    rw [List.getElem?_append_left (by rw [Tr.frontss_length]; omega)]; exact front_get hj'
   rw [Nat.zero_add] at hfr
   have hg:(ws.map (fun w=>w.gFrom))[Tr.sizes (l.take (j+1)) - 1]?=some ((Tr.sizes (l.take j):Nat):Int):=by rw [hw]; exact Ns_get hfr
   rw [List.getElem?_map,Option.map_eq_some_iff] at hg
   obtain ⟨wv,hg,hwv⟩:=hg
   have es:subW .i64 ((Tr.sizes (l.take (j+1)):Nat):Int) 1=((Tr.sizes (l.take (j+1)) - 1:Nat):Int):=by
    rw [subW_id (by omega) (by omega)]; omega
   rw [e]
   refine l310_5 _ _ _ _ _ _ (ite_t (by simp [leI]) ?_)
   rw [es]
   refine and_t (inB_some hg) ?_
   rw [rd_some hg]
   have hwv:wv.1=((Tr.sizes (l.take j):Nat):Int):=hwv
   rw [hwv]
   refine and_t ?_ (and_t (in_len (by omega)) (and_t (ltN_t (by rw [natI_nat,lenL_eq]; omega)) ?_))
   ·rw [andB_true,andB_true,andB_true,intN_eq,lenL_eq,hpl]
    exact ⟨eqI_t.2 rfl,decide_eq_true (by omega),decide_eq_true (by omega),decide_eq_true (by omega)⟩
   ·rw [natI_nat,natI_nat,natI_nat,kid_cut hj',subW_id (by omega) (by omega)]
    exact ih _ (by omega) (by simp [setL,hy]) (drop_setA (by omega) hd (by rw [List.getElem?_map,List.getElem?_eq_getElem hj']; rfl))
 refine e310 _ _ ⟨(ws,valOk (Tr.nd a l).post),h1,a,gives309 h.room,?_⟩
 have e1:lenL (replL a.2 (nilL api_Atom))=l.length:=by
  show lenL (replL a.gN (nilL api_Atom))=_
  rw [ha]; simp [replL,lenL]
 have e2:subW .i64 (intN (lenL (Tr.nd a l).post)) 1=((Tr.sizes l:Nat):Int):=by
  rw [intN_eq,lenL_eq,hpl,subW_id (by omega) (by omega)]; omega
 have e3:subW .i64 (intN l.length) 1=(l.length:Int) - 1:=by rw [intN_eq,subW_id (by omega) (by omega)]
 rw [e1,e2,e3]
 have e4:(a.2:Int)=(l.length:Int):=ha
 refine and_t ?_ ?_
 ·rw [e4,andB_true,andB_true]
  exact ⟨decide_eq_true (by omega),decide_eq_true (by omega),decide_eq_true (by rw [room_eq]; omega)⟩
 ·have lp:=loop l.length (replL a.2 (nilL api_Atom)) (Nat.le_refl _) e1 (by
   rw [List.drop_eq_nil_of_le (by rw [←lenL_eq,e1]; exact Nat.le_refl _),List.drop_eq_nil_of_le (by simp)])
  rw [List.take_length] at lp
  exact lp
end
abbrev ValL:=List api_Atom
theorem atomB_bounds {a:api_Atom} (h:atomB a=true):-9007199254740992≤a.gInt∧a.gInt≤9007199254740992∧(a.gKind=1∨a.gKind=2∧a.gText.size≤4096∨a.gKind=3):=by
 unfold atomB at h
 split at h
 ·rename_i hk
  simp only [Bool.and_eq_true] at h
  exact ⟨of_decide_eq_true h.1.2,of_decide_eq_true h.2,.inl hk⟩
 ·split at h
  ·rename_i hk
   simp only [Bool.and_eq_true,eqI_t] at h
   have:=of_decide_eq_true h.2
   simp only [intN,strLen] at this
   exact ⟨by omega,by omega,.inr (.inl ⟨hk,by omega⟩)⟩
  ·split at h
   ·rename_i hk
    simp only [Bool.and_eq_true,eqI_t] at h
    exact ⟨by omega,by omega,.inr (.inr hk)⟩
   ·cases h
mutual
theorem good_all:∀{t:Tr api_Atom},t.good atomB (·.gN)→∀x∈t.post,atomB x=true
 | .nd a l,h=>by
  simp only [Tr.good] at h
  intro x hx
  rw [Tr.post,List.mem_append,List.mem_singleton] at hx
  rcases hx with hx|rfl
  ·exact goods_all h.2 x hx
  ·exact h.1.1
theorem goods_all:∀{l:List (Tr api_Atom)},Tr.goods atomB (·.gN) l→∀x∈Tr.posts l,atomB x=true
 | [],_=>by intro x hx; simp [Tr.posts] at hx
 | t :: l,h=>by
  simp only [Tr.goods] at h
  intro x hx
  rw [Tr.posts,List.mem_append] at hx
  rcases hx with hx|hx
  ·exact good_all h.1 x hx
  ·exact goods_all h.2 x hx
end
theorem gives309' {v:ValL} {a:api_Atom} {l:List (Tr api_Atom)} (e:v=(Tr.nd a l).post) (hs:(Tr.nd a l).size * 40≤140737488355328):Gives 309 [.d (.sl .api_Atom v)] (atomC a):=by subst e; exact gives309 hs
theorem gives310' {v:ValL} {a:api_Atom} {l:List (Tr api_Atom)} (e:v=(Tr.nd a l).post) (h:ValTr (.nd a l)):Gives 310 [.d (.sl .api_Atom v)] (.osl .sl_api_Atom (l.map Tr.post)):=by subst e; exact gives310 h
def cmpI (a b:Int):Int:=if ltI a b=true then -1 else if ltI b a=true then 1 else 0
theorem gives317 (a b:Int):Gives 317 [.d (.int .i64 a),.d (.int .i64 b)] (.d (.int .i64 (cmpI a b))):=by
 have n:∀x:Int,Gives 322 [.d (.int .i64 x)] (.d (.bool false)):=fun x=>e322 _ _ (by rw [eqI_t.2 rfl]; exact ⟨rfl,rfl⟩)
 refine e317 _ _ _ ⟨_,n a,_,n b,ite_f rfl (ite_f rfl (ite_w (fun h=>?_) (fun h=>ite_w (fun h'=>?_) (fun h'=>?_))))⟩
 ·rw [cmpI,if_pos h]; exact ⟨rfl,rfl⟩
 ·rw [cmpI,if_neg (by rw [h]; exact Bool.false_ne_true),if_pos h']; exact ⟨rfl,rfl⟩
 ·rw [cmpI,if_neg (by rw [h]; exact Bool.false_ne_true),if_neg (by rw [h']; exact Bool.false_ne_true)]; exact ⟨rfl,rfl⟩
def cmpLs (f:ValL→ValL→Int):List ValL→List ValL→Int
 | [],[]=>0
 | [],_ :: _=>-1
 | _ :: _,[]=>1
 | x :: A,y :: B=>if eqI (f x y) 0=true then cmpLs f A B else f x y
mutual
def cmpT:Tr api_Atom→Tr api_Atom→Int
 | .nd a l,.nd b m=>if a.gKind ≠ b.gKind then cmpI a.gKind b.gKind else if a.gKind=1 then cmpI a.gInt b.gInt else if a.gKind=2 then cmpS a.gText b.gText else cmpTs l m
def cmpTs:List (Tr api_Atom)→List (Tr api_Atom)→Int
 | [],[]=>0
 | [],_ :: _=>-1
 | _ :: _,[]=>1
 | s :: l,t :: m=>if eqI (cmpT s t) 0=true then cmpTs l m else cmpT s t
end
def cmpV (a b:ValL):Int:=match valT a,valT b with
 | some [s],some [t]=>cmpT s t
 | _,_=>0
theorem cmpV_post {s t:Tr api_Atom} (hs:ValTr s) (ht:ValTr t):cmpV s.post t.post=cmpT s t:=by
 unfold cmpV; rw [hs.read,ht.read]
theorem cmpLs_posts:∀{l m:List (Tr api_Atom)},(∀t∈l,ValTr t)→(∀t∈m,ValTr t)→cmpLs cmpV (l.map Tr.post) (m.map Tr.post)=cmpTs l m
 | [],[],_,_=>rfl
 | [],_ :: _,_,_=>rfl
 | _ :: _,[],_,_=>rfl
 | s :: l,t :: m,hl,hm=>by
  simp only [List.map_cons,cmpLs,cmpTs]
  rw [cmpV_post (hl s (List.mem_cons_self ..)) (hm t (List.mem_cons_self ..)),cmpLs_posts (fun t h=>hl t (List.mem_cons_of_mem _ h)) (fun t h=>hm t (List.mem_cons_of_mem _ h))]
theorem gives319 {A B:List ValL} {f:ValL→ValL→Int} (hc:∀x∈A,∀y∈B,Gives 312 [.d (.sl .api_Atom x),.d (.sl .api_Atom y)] (.d (.int .i64 (f x y)))) (hA:A.length<4611686018427387904):
  Gives 319 [.d (.sl .sl_api_Atom A),.d (.sl .sl_api_Atom B),.fp 312 [] []] (.d (.int .i64 (cmpLs f A B))):=by
 have loop:∀i,i≤A.length→i≤B.length→At K 319 (fun c' H'=>c'=(.d (.int .i64 (cmpLs f (A.drop i) (B.drop i))):C U)∧H'=[]) t319_2 (s319_2 A B 312 [] [] A (intN (lenL A)) i []):=by
  refine upto ?_ fun i hi ih=>?_
  ·intro hB
   rw [List.drop_length]
   cases hd:B.drop A.length with
   | nil=>
    have hb:ltI (intN (lenL A)) (intN (lenL B))=false:=decide_eq_false (by
     have:=congrArg List.length hd
     rw [List.length_drop,List.length_nil] at this
     rw [intN_eq,intN_eq,lenL_eq,lenL_eq]; omega)
    exact l319_2 _ _ _ _ _ _ _ _ _ _ (ite_f (lt_len_f (Nat.le_refl _)) (ite_f hb ⟨rfl,rfl⟩))
   | cons b B'=>
    have hb:ltI (intN (lenL A)) (intN (lenL B))=true:=decide_eq_true (by
     have:=congrArg List.length hd
     rw [List.length_drop,List.length_cons] at this
     rw [intN_eq,intN_eq,lenL_eq,lenL_eq]; omega)
    exact l319_2 _ _ _ _ _ _ _ _ _ _ (ite_f (lt_len_f (Nat.le_refl _)) (ite_t hb ⟨rfl,rfl⟩))
  ·intro hB'
   rw [List.drop_eq_getElem_cons hi]
   by_cases hB:i<B.length
   ·have h0:=hc (rd [] A (i:Int)) (by rw [rd_at hi]; exact List.getElem_mem hi) (rd [] B (i:Int)) (by rw [rd_at hB]; exact List.getElem_mem hB)
    have nb:leI (intN (lenL B)) (i:Int)=false:=decide_eq_false (by rw [intN_eq,lenL_eq]; omega)
    rw [List.drop_eq_getElem_cons hB,cmpLs]
    have ih:=ih (by omega)
    refine l319_2 _ _ _ _ _ _ _ _ _ _ (ite_t (lt_len hi) (and_t (in_len hi) (ite_f nb (and_t (in_len hB) ⟨_,(),h0,?_⟩))))
    rw [rd_at hi,rd_at hB]
    by_cases hr:eqI (f A[i] B[i]) 0=true
    ·rw [if_pos hr,hr]; exact ite_f rfl (by rw [add_one (by omega)]; exact ih)
    ·rw [if_neg hr]
     have hr:eqI (f A[i] B[i]) 0=false:=by simpa using hr
     rw [hr]; exact ite_t rfl ⟨rfl,rfl⟩
   ·have hd:B.drop i=[]:=List.drop_eq_nil_of_le (by omega)
    rw [hd,cmpLs]
    refine l319_2 _ _ _ _ _ _ _ _ _ _ (ite_t (lt_len hi) (and_t (in_len hi) (ite_t ?_ ⟨rfl,rfl⟩)))
    exact decide_eq_true (by rw [intN_eq,lenL_eq]; omega)
 exact e319 _ _ _ _ _ _ _ (loop 0 (Nat.zero_le _) (Nat.zero_le _))
theorem gives312:∀(n:Nat) {s t:Tr api_Atom},s.size≤n→ValTr s→ValTr t→Gives 312 [.d (.sl .api_Atom s.post),.d (.sl .api_Atom t.post)] (.d (.int .i64 (cmpT s t))):=by
 intro n
 induction n with
 | zero=>intro s t hn _ _; have:=Tr.size_pos s; omega
 | succ n ih=>
  intro s t hn hs ht
  obtain ⟨a,l⟩:=s
  obtain ⟨b,m⟩:=t
  rw [cmpT]
  by_cases h0:a.gKind=b.gKind
  case neg=>rw [if_pos h0]; exact e312 _ _ _ ⟨a,gives309 hs.room,b,gives309 ht.room,ite_t (notB_t.2 (eqI_f.2 h0)) ⟨_,gives317 _ _,rfl,rfl⟩⟩
  have h0':notB (eqI a.gKind b.gKind)=false:=by rw [notB_f,eqI_t]; exact h0
  rw [if_neg (by omega)]
  by_cases h1:a.gKind=1
  ·rw [if_pos h1]; exact e312 _ _ _ ⟨a,gives309 hs.room,b,gives309 ht.room,ite_f h0' (ite_t (eqI_t.2 h1) ⟨_,gives317 _ _,rfl,rfl⟩)⟩
  rw [if_neg h1]
  by_cases h2:a.gKind=2
  ·rw [if_pos h2]; exact e312 _ _ _ ⟨a,gives309 hs.room,b,gives309 ht.room,ite_f h0' (ite_f (eqI_f.2 h1) (ite_t (eqI_t.2 h2) ⟨_,gives318 _ _,rfl,rfl⟩))⟩
  rw [if_neg h2]
  have hll:=Tr.length_le_sizes l
  have hz:=hs.size
  simp only [Tr.size] at hn hz
  have hr:=gives319 (A:=l.map Tr.post) (B:=m.map Tr.post) (f:=cmpV) (fun x hx y hy=>by
   obtain ⟨x',hx',rfl⟩:=List.mem_map.1 hx
   obtain ⟨y',hy',rfl⟩:=List.mem_map.1 hy
   have:=Tr.le_sizes hx'
   rw [cmpV_post (hs.kid hx') (ht.kid hy')]
   exact ih (by omega) (hs.kid hx') (ht.kid hy')) (by rw [List.length_map]; omega)
  rw [cmpLs_posts (fun t h=>hs.kid h) (fun t h=>ht.kid h)] at hr
  exact e312 _ _ _ ⟨a,gives309 hs.room,b,gives309 ht.room,ite_f h0' (ite_f (eqI_f.2 h1) (ite_f (eqI_f.2 h2) ⟨_,gives310 hs,_,gives310 ht,_,(),hr,rfl,rfl⟩))⟩
def numV (n:Int):Option ValL:=if (ltI n (Int.negSucc 9007199254740991) || ltI 9007199254740992 n)=true then none else some [⟨1,0,n,bs []⟩]
theorem gives316 (n:Int):Gives 316 [.d (.int .i64 n)] (.tup [.d (.sl .api_Atom ((numV n).getD [])),.d (.int .i64 (if (numV n).isSome then 0 else 1))]):=by
 refine e316 _ _ (or_of (fun _=>rfl) (ite_w (fun hb=>?_) (fun hb=>?_)))
 ·have e:numV n=none:=if_pos hb
  rw [e]; exact ⟨rfl,rfl⟩
 ·have e:numV n=some [⟨1,0,n,bs []⟩]:=if_neg (by rw [hb]; exact Bool.false_ne_true)
  rw [e]; exact ⟨rfl,rfl⟩
abbrev AnsC (v:ValL) (ok:Bool):C U:=.tup [.d (.sl .api_Atom v),.d (.bool ok)]
def Does (f:Nat) (args:List (C U)) (o:Option ValL):Prop:=∃(v:ValL) (ok:Bool),Gives f args (AnsC v ok)∧o=if ok=true then some v else none
theorem does307 (n:Int):Does 307 [.d (.int .i64 n)] (numV n):=by
 refine ⟨(numV n).getD [],(numV n).isSome,e307 _ _ ⟨((numV n).getD [],if (numV n).isSome then 0 else 1),gives316 n,?_,rfl⟩,?_⟩
 ·cases numV n <;> rfl
 ·cases numV n <;> rfl
theorem does311 (b:Bool):Does 311 [.d (.bool b)] (numV (if b=true then 1 else 0)):=by
 cases b with
 | true=>obtain ⟨v,ok,h1,h2⟩:=does307 1; exact ⟨v,ok,e311 _ _ (ite_t rfl ⟨(v,ok),h1,rfl,rfl⟩),h2⟩
 | false=>obtain ⟨v,ok,h1,h2⟩:=does307 0; exact ⟨v,ok,e311 _ _ (ite_f rfl ⟨(v,ok),h1,rfl,rfl⟩),h2⟩
structure ArgsOk (L:List ValL):Prop where
 len:L.length * 24≤140737488355328
 val:∀v∈L,∃t,v=t.post∧ValTr t
section
variable {L:List ValL}
theorem ArgsOk.at (h:ArgsOk L) {i:Nat} (hi:i<L.length):∃a l,rd [] L (i:Int)=(Tr.nd a l).post∧ValTr (.nd a l):=by
 obtain ⟨t,h1,h2⟩:=h.val _ (List.getElem_mem hi)
 obtain ⟨a,l⟩:=t
 exact ⟨a,l,by rw [rd_at hi,h1],h2⟩
def lastAt (v:ValL):api_Atom:=rd (api_Atom.mk 0 0 0 (bs [])) v ((v.length - 1:Nat):Int)
theorem lastAt_post {a:api_Atom} {l:List (Tr api_Atom)}:lastAt (Tr.nd a l).post=a:=by
 unfold lastAt
 have e:(Tr.nd a l).post.length - 1=Tr.sizes l:=by rw [Tr.post_length,Tr.size]; omega
 rw [e]; exact rd_some post_last
def isInt (v:ValL):Bool:=eqI (lastAt v).gKind 1
theorem gives321 (h:ArgsOk L):∃n,Gives 321 [.d (.sl .sl_api_Atom L),.fp 315 [] []] (.d (.int .i64 n))∧leI 0 n=L.any fun v=>notB (isInt v):=by
 have hl:=h.len
 have loop:∀i,i≤L.length→∃n,At K 321 (fun c' H'=>c'=(.d (.int .i64 n):C U)∧H'=[]) t321_2 (s321_2 L 315 [] [] (intN (lenL L)) i [])∧leI 0 n=(L.drop i).any fun v=>notB (isInt v):=by
  refine upto ?_ fun i hi ih=>?_
  ·exact ⟨-1,l321_2 _ _ _ _ _ _ _ _ (ite_f (lt_len_f (Nat.le_refl _)) ⟨rfl,rfl⟩),by rw [List.drop_length]; rfl⟩
  ·obtain ⟨a,l,e,hv⟩:=h.at hi
   have h217:Gives 315 [.d (.sl .api_Atom (rd [] L (i:Int)))] (.d (.bool (notB (isInt (rd [] L (i:Int)))))):=by
    have e2:isInt (rd [] L (i:Int))=eqI a.gKind 1:=by unfold isInt; rw [e,lastAt_post]
    rw [e2]
    exact e315 _ _ ⟨a,gives309' e hv.room,rfl,rfl⟩
   rw [drop_any hi]
   cases hb:notB (isInt (rd [] L (i:Int))) with
   | true=>
    rw [hb] at h217
    rw [rd_at hi] at hb
    rw [hb]
    exact ⟨i,l321_2 _ _ _ _ _ _ _ _ (ite_t (lt_len hi) (and_t (in_len hi) ⟨_,(),h217,ite_t rfl ⟨rfl,rfl⟩⟩)),by simp [leI]⟩
   | false=>
    rw [hb] at h217
    rw [rd_at hi] at hb
    rw [hb]
    obtain ⟨n,h1,h2⟩:=ih
    exact ⟨n,l321_2 _ _ _ _ _ _ _ _ (ite_t (lt_len hi) (and_t (in_len hi) ⟨_,(),h217,ite_f rfl (by rw [add_one (by omega)]; exact h1)⟩)),by rw [h2]; rfl⟩
 obtain ⟨n,h1,h2⟩:=loop 0 (Nat.zero_le _)
 exact ⟨n,e321 _ _ _ _ _ _ h1,h2⟩
def intsV (L:List ValL):Bool:=notB (L.any fun v=>notB (isInt v))
theorem gives306 (h:ArgsOk L):Gives 306 [.d (.sl .sl_api_Atom L)] (.d (.bool (intsV L))):=by
 obtain ⟨n,h1,h2⟩:=gives321 h
 refine e306 _ _ ⟨leI 0 n,(),e314 _ _ _ _ _ _ ⟨n,(),h1,rfl,rfl⟩,?_,rfl⟩
 rw [h2]; rfl
def madeV (L:List ValL):Option ValL:=
 if 1024≤L.flatten.length then none
 else if valE (L.flatten ++ [⟨3,(L.length:Int),0,bs []⟩])=0 then some (L.flatten ++ [⟨3,(L.length:Int),0,bs []⟩]) else none
theorem flat_take {L:List ValL} {i:Nat} (hi:i<L.length):(L.take (i+1)).flatten=(L.take i).flatten ++ L[i]:=by
 rw [List.take_succ_eq_append_getElem hi,List.flatten_append]; simp
theorem flat_le (L:List ValL) (i:Nat):(L.take i).flatten.length≤L.flatten.length:=by
 conv=>rhs; rw [←List.take_append_drop i L]
 rw [List.flatten_append,List.length_append]; omega
theorem does305 (hl:L.length * 24≤140737488355328) (hb:∀v∈L,v.length * 40≤140737488355328):Does 305 [.d (.sl .sl_api_Atom L)] (madeV L):=by
 have loop:∀i,i≤L.length→(L.take i).flatten.length<1024→∃(v:ValL) (ok:Bool),At K 305 (fun c' H'=>c'=AnsC v ok∧H'=[]) t305_3 (s305_3 L L (intN (lenL L)) i (L.take i).flatten)∧madeV L=if ok=true then some v else none:=by
  refine upto ?_ fun i hi ih=>?_
  ·intro hy
   rw [List.take_length] at hy ⊢
   refine ⟨L.flatten ++ [⟨3,intN (lenL L),0,bs []⟩],_,l305_3 _ _ _ _ _ _ (ite_f (lt_len_f (Nat.le_refl _)) (and_t (roomB_t ?_) ⟨_,gives177 _,rfl,rfl⟩)),?_⟩
   ·simp only [addN,lenL_eq,List.length_singleton]; omega
   ·unfold madeV
    rw [if_neg (by omega)]
    have e:∀v:ValL,eqI (valE v) 0=true↔valE v=0:=fun v=>eqI_t
    show _=if eqI (valE (L.flatten ++ [⟨3,(L.length:Int),0,bs []⟩])) 0=true then _ else _
    by_cases h:valE (L.flatten ++ [⟨3,(L.length:Int),0,bs []⟩])=0
    ·rw [if_pos h,if_pos ((e _).2 h)]; rfl
    ·rw [if_neg h,if_neg fun h'=>h ((e _).1 h')]
  ·intro hy
   have hv:=hb _ (List.getElem_mem hi)
   have hf:=flat_take hi
   have hfl:(L.take (i+1)).flatten.length=(L.take i).flatten.length+L[i].length:=by rw [hf,List.length_append]
   have es:addW .i64 (intN (lenL (L.take i).flatten)) (intN (lenL L[i]))=(((L.take i).flatten.length+L[i].length:Nat):Int):=by
    rw [intN_eq,intN_eq,lenL_eq,lenL_eq,addW_id (by omega) (by omega)]; omega
   by_cases hle:1024≤(L.take i).flatten.length+L[i].length
   ·refine ⟨[],false,l305_3 _ _ _ _ _ _ (ite_t (lt_len hi) (and_t (in_len hi) ?_)),?_⟩
    ·rw [rd_at hi,es]
     exact ite_t (by simp only [leI,decide_eq_true_eq]; omega) ⟨rfl,rfl⟩
    ·have:=flat_le L (i+1)
     unfold madeV
     rw [if_pos (by omega)]; rfl
   ·obtain ⟨v,ok,h1,h2⟩:=ih (by omega)
    refine ⟨v,ok,l305_3 _ _ _ _ _ _ (ite_t (lt_len hi) (and_t (in_len hi) ?_)),h2⟩
    rw [rd_at hi,es]
    refine ite_f (by simp only [leI,decide_eq_false_iff_not]; omega) (and_t (roomB_t ?_) ?_)
    ·simp only [addN,lenL_eq]; omega
    ·rw [add_one (by omega)]
     rw [hf] at h1; exact h1
 obtain ⟨v,ok,h1,h2⟩:=loop 0 (Nat.zero_le _) (by simp)
 exact ⟨v,ok,e305 _ _ h1,h2⟩
theorem posts_bound {l:List (Tr api_Atom)} (hs:Tr.sizes l * 40≤140737488355328):∀v∈l.map Tr.post,v.length * 40≤140737488355328:=by
 intro v hv
 obtain ⟨t,ht,rfl⟩:=List.mem_map.1 hv
 have:=Tr.le_sizes ht
 rw [Tr.post_length]; omega
def memV (v:ValL):List ValL:=match valT v with
 | some [t]=>t.kids.map Tr.post
 | _=>[]
theorem memV_post {a:api_Atom} {l:List (Tr api_Atom)} (h:ValTr (.nd a l)):memV (Tr.nd a l).post=l.map Tr.post:=by
 unfold memV; rw [h.read]; rfl
def joinV (x y:ValL):Option ValL:=
 if (notB (eqI (lastAt x).gKind (lastAt y).gKind) || eqI (lastAt x).gKind 1)=true then none
 else if (lastAt x).gKind=2 then (if 4096<(lastAt x).gText.size+(lastAt y).gText.size then none else some [⟨2,0,0,strAdd (lastAt x).gText (lastAt y).gText⟩])
 else madeV (memV x ++ memV y)
def itemV (x y:ValL):Option ValL:=
 if (((notB (eqI (lastAt x).gKind 3) || notB (eqI (lastAt y).gKind 1)) || ltI (lastAt y).gInt 0) || leI (lastAt x).gN (lastAt y).gInt)=true then none else (memV x)[(lastAt y).gInt.toNat]?
def sizeV (x:ValL):Option ValL:=if (lastAt x).gKind=2 then numV ((lastAt x).gText.size:Int) else if (lastAt x).gKind=3 then numV (lastAt x).gN else none
def opV (k:Int) (L:List ValL):Option ValL:=
 if k=5 then madeV L
 else if k=6 then (if intsV L=true then numV ((lastAt (rd [] L 0)).gInt+(lastAt (rd [] L 1)).gInt) else none)
 else if k=7 then (if intsV L=true then numV ((lastAt (rd [] L 0)).gInt - (lastAt (rd [] L 1)).gInt) else none)
 else if k=8 then (if intsV L=true then numV ((lastAt (rd [] L 0)).gInt * (lastAt (rd [] L 1)).gInt) else none)
 else if k=9 then joinV (rd [] L 0) (rd [] L 1)
 else if k=10 then itemV (rd [] L 0) (rd [] L 1)
 else if k=11 then sizeV (rd [] L 0)
 else if k=12 then numV (if ltI (cmpV (rd [] L 0) (rd [] L 1)) 0=true then 1 else 0)
 else if k=13 then numV (if eqI (cmpV (rd [] L 0) (rd [] L 1)) 0=true then 1 else 0)
 else none
theorem does288 (h:ArgsOk L):Does 288 [.d (.sl .sl_api_Atom L)] (opV 5 L):=by
 obtain ⟨v,ok,h1,h2⟩:=does305 h.len fun v hv=>by
  obtain ⟨t,rfl,ht⟩:=h.val v hv
  have:=ht.size
  rw [Tr.post_length]; omega
 exact ⟨v,ok,e288 _ _ ⟨(v,ok),h1,rfl,rfl⟩,h2⟩
theorem first_in {a:api_Atom} {l:List (Tr api_Atom)}:inB 0 (lenL (Tr.nd a l).post)=true:=in_len (i:=0) (by rw [Tr.post_length]; exact Tr.size_pos _)
theorem int_first {a:api_Atom} {l:List (Tr api_Atom)} (h:ValTr (.nd a l)) (hk:a.gKind=1):rd (api_Atom.mk 0 0 0 (bs [])) (Tr.nd a l).post 0=a:=by
 have h1:=h.ar
 have h2:=h.atom
 have h3:a.gN=0:=by
  unfold atomB at h2
  rw [if_pos hk] at h2
  simp only [Bool.and_eq_true,eqI_t] at h2
  exact h2.1.1.1
 have hl:l=[]:=List.eq_nil_of_length_eq_zero (by omega)
 subst hl; rfl
theorem ints_kind {i:Nat} {a:api_Atom} {l:List (Tr api_Atom)} (hb:intsV L=true) (hi:i<L.length) (e:rd [] L (i:Int)=(Tr.nd a l).post):a.gKind=1:=by
 unfold intsV at hb
 rw [notB_t,List.any_eq_false] at hb
 have:=hb _ (List.getElem_mem hi)
 rw [←rd_at (d:=[]) hi,e] at this
 have h1:isInt (Tr.nd a l).post=true:=by
  cases hq:isInt (Tr.nd a l).post with
  | true=>rfl
  | false=>rw [hq] at this; exact absurd rfl this
 unfold isInt at h1
 rw [lastAt_post] at h1
 exact eqI_t.1 h1
theorem does289 (h:ArgsOk L) (hn:L.length=2):Does 289 [.d (.sl .sl_api_Atom L)] (opV 6 L):=by
 have hb:=gives306 h
 have e:opV 6 L=if intsV L=true then numV ((lastAt (rd [] L 0)).gInt+(lastAt (rd [] L 1)).gInt) else none:=rfl
 obtain ⟨a,l,e0,h0⟩:=h.at (i:=0) (by omega)
 obtain ⟨a',l',e1,h1⟩:=h.at (i:=1) (by omega)
 have e0:rd [] L 0=(Tr.nd a l).post:=e0
 have e1:rd [] L 1=(Tr.nd a' l').post:=e1
 rw [e]
 by_cases hi:intsV L=true
 case neg=>
  rw [if_neg hi]
  have hi:intsV L=false:=by simpa using hi
  rw [hi] at hb
  exact ⟨[],false,e289 _ _ ⟨_,hb,ite_t rfl ⟨rfl,rfl⟩⟩,rfl⟩
 rw [if_pos hi,e0,e1,lastAt_post,lastAt_post]
 have k0:=ints_kind (i:=0) hi (by omega) e0
 have k1:=ints_kind (i:=1) hi (by omega) e1
 have b0:=atomB_bounds h0.atom
 have b1:=atomB_bounds h1.atom
 rw [hi] at hb
 obtain ⟨v,ok,g1,g2⟩:=does307 (addW .i64 (rd (api_Atom.mk 0 0 0 (bs [])) (rd [] L 0) 0).3 (rd (api_Atom.mk 0 0 0 (bs [])) (rd [] L 1) 0).3)
 refine ⟨v,ok,e289 _ _ ⟨_,hb,ite_f rfl (and_t (in_len (i:=0) (by omega)) (and_t ?_ (and_t (in_len (i:=1) (by omega)) (and_t ?_ ⟨(v,ok),g1,rfl,rfl⟩))))⟩,?_⟩
 ·rw [e0]; exact first_in
 ·rw [e1]; exact first_in
 ·rw [←g2,e0,e1,int_first h0 k0,int_first h1 k1]
  have:addW .i64 a.3 a'.3=a.gInt+a'.gInt:=addW_id (by show _≤a.gInt+a'.gInt; omega) (by show a.gInt+a'.gInt<_; omega)
  rw [this]
theorem does290 (h:ArgsOk L) (hn:L.length=2):Does 290 [.d (.sl .sl_api_Atom L)] (opV 7 L):=by
 have hb:=gives306 h
 have e:opV 7 L=if intsV L=true then numV ((lastAt (rd [] L 0)).gInt - (lastAt (rd [] L 1)).gInt) else none:=rfl
 obtain ⟨a,l,e0,h0⟩:=h.at (i:=0) (by omega)
 obtain ⟨a',l',e1,h1⟩:=h.at (i:=1) (by omega)
 have e0:rd [] L 0=(Tr.nd a l).post:=e0
 have e1:rd [] L 1=(Tr.nd a' l').post:=e1
 rw [e]
 by_cases hi:intsV L=true
 case neg=>
  rw [if_neg hi]
  have hi:intsV L=false:=by simpa using hi
  rw [hi] at hb
  exact ⟨[],false,e290 _ _ ⟨_,hb,ite_t rfl ⟨rfl,rfl⟩⟩,rfl⟩
 rw [if_pos hi,e0,e1,lastAt_post,lastAt_post]
 have k0:=ints_kind (i:=0) hi (by omega) e0
 have k1:=ints_kind (i:=1) hi (by omega) e1
 have b0:=atomB_bounds h0.atom
 have b1:=atomB_bounds h1.atom
 rw [hi] at hb
 obtain ⟨v,ok,g1,g2⟩:=does307 (subW .i64 (rd (api_Atom.mk 0 0 0 (bs [])) (rd [] L 0) 0).3 (rd (api_Atom.mk 0 0 0 (bs [])) (rd [] L 1) 0).3)
 refine ⟨v,ok,e290 _ _ ⟨_,hb,ite_f rfl (and_t (in_len (i:=0) (by omega)) (and_t ?_ (and_t (in_len (i:=1) (by omega)) (and_t ?_ ⟨(v,ok),g1,rfl,rfl⟩))))⟩,?_⟩
 ·rw [e0]; exact first_in
 ·rw [e1]; exact first_in
 ·rw [←g2,e0,e1,int_first h0 k0,int_first h1 k1]
  have:subW .i64 a.3 a'.3=a.gInt - a'.gInt:=subW_id (by show _≤a.gInt - a'.gInt; omega) (by show a.gInt - a'.gInt<_; omega)
  rw [this]
end
section
variable {L:List ValL}
theorem size_eq {n:Int} (h:-9007199254740992≤n∧n≤9007199254740992):maxI n (negW .i64 n)=(n.natAbs:Int):=by
 have e:negW .i64 n=0 - n:=wrap_id (by omega) (by omega)
 rw [e]
 unfold maxI
 split <;> omega
theorem numV_none {n:Int} (h:9007199254740992<n.natAbs):numV n=none:=by
 refine if_pos ?_
 rw [Bool.or_eq_true]
 by_cases h0:n<0
 ·exact .inl (decide_eq_true (by omega))
 ·exact .inr (decide_eq_true (by omega))
theorem mul_test {x y:Int} (hx:x ≠ 0) (bx:-9007199254740992≤x∧x≤9007199254740992) (by':-9007199254740992≤y∧y≤9007199254740992):
  ltI (quoW .i64 9007199254740992 (maxI x (negW .i64 x))) (maxI y (negW .i64 y))=decide (9007199254740992<(x * y).natAbs):=by
 rw [size_eq bx,size_eq by']
 have hp:0<x.natAbs:=by omega
 have e:quoW .i64 9007199254740992 (x.natAbs:Int)=((9007199254740992 / x.natAbs:Nat):Int):=by
  have h1:Int.tdiv 9007199254740992 (x.natAbs:Int)=((9007199254740992 / x.natAbs:Nat):Int):=by
   show Int.tdiv ((9007199254740992:Nat):Int) (x.natAbs:Int)=_
   rw [←Int.ofNat_tdiv]
  have h2:9007199254740992 / x.natAbs≤9007199254740992:=Nat.div_le_self _ _
  unfold quoW
  rw [h1]
  generalize 9007199254740992 / x.natAbs=q at h2 ⊢
  exact wrap_id (by omega) (by omega)
 rw [e,Int.natAbs_mul]
 have:9007199254740992 / x.natAbs<y.natAbs↔9007199254740992<x.natAbs * y.natAbs:=by
  rw [Nat.div_lt_iff_lt_mul hp,Nat.mul_comm]
 unfold ltI
 rw [Bool.eq_iff_iff,decide_eq_true_iff,decide_eq_true_iff,←this]
 omega
theorem does291 (h:ArgsOk L) (hn:L.length=2):Does 291 [.d (.sl .sl_api_Atom L)] (opV 8 L):=by
 have hb:=gives306 h
 have e:opV 8 L=if intsV L=true then numV ((lastAt (rd [] L 0)).gInt * (lastAt (rd [] L 1)).gInt) else none:=rfl
 obtain ⟨a,l,e0,h0⟩:=h.at (i:=0) (by omega)
 obtain ⟨a',l',e1,h1⟩:=h.at (i:=1) (by omega)
 have e0:rd [] L 0=(Tr.nd a l).post:=e0
 have e1:rd [] L 1=(Tr.nd a' l').post:=e1
 rw [e]
 by_cases hi:intsV L=true
 case neg=>
  rw [if_neg hi]
  have hi:intsV L=false:=by simpa using hi
  rw [hi] at hb
  exact ⟨[],false,e291 _ _ ⟨_,hb,ite_t rfl ⟨rfl,rfl⟩⟩,rfl⟩
 rw [if_pos hi,e0,e1,lastAt_post,lastAt_post]
 have k0:=ints_kind (i:=0) hi (by omega) e0
 have k1:=ints_kind (i:=1) hi (by omega) e1
 have b0:=atomB_bounds h0.atom
 have b1:=atomB_bounds h1.atom
 rw [hi] at hb
 have i0:inB 0 (lenL (rd [] L 0))=true:=by rw [e0]; exact first_in
 have i1:inB 0 (lenL (rd [] L 1))=true:=by rw [e1]; exact first_in
 have sz:∀n:Int,Gives 308 [.d (.int .i64 n)] (.d (.int .i64 (maxI n (negW .i64 n)))):=fun n=>e308 _ _ ⟨rfl,rfl⟩
 have q0:(rd (api_Atom.mk 0 0 0 (bs [])) (rd [] L 0) 0).3=a.gInt:=by rw [e0,int_first h0 k0]
 have q1:(rd (api_Atom.mk 0 0 0 (bs [])) (rd [] L 1) 0).3=a'.gInt:=by rw [e1,int_first h1 k1]
 obtain ⟨v,ok,g1,g2⟩:=does307 (mulW .i64 (rd (api_Atom.mk 0 0 0 (bs [])) (rd [] L 0) 0).3 (rd (api_Atom.mk 0 0 0 (bs [])) (rd [] L 1) 0).3)
 rw [q0,q1] at g2
 by_cases hz:a.gInt=0
 ·refine ⟨v,ok,e291 _ _ ⟨_,hb,ite_f rfl (and_t (in_len (i:=0) (by omega)) (and_t i0 (and_t (in_len (i:=1) (by omega)) (and_t i1 ⟨false,?_,ite_f rfl ⟨(v,ok),g1,rfl,rfl⟩⟩))))⟩,?_⟩
  ·exact ite_f (by rw [q0,hz]; rfl) rfl
  ·rw [←g2,hz,Int.zero_mul]
   have:mulW .i64 0 a'.gInt=0:=by unfold mulW; rw [Int.zero_mul]; rfl
   rw [this]
 ·have ht:=mul_test hz ⟨b0.1,b0.2.1⟩ ⟨b1.1,b1.2.1⟩
  have hne:notB (eqI (maxI a.gInt (negW .i64 a.gInt)) 0)=true:=by
   rw [size_eq ⟨b0.1,b0.2.1⟩,notB_t,eqI_f]; omega
  have hnz:notB (eqI (rd (api_Atom.mk 0 0 0 (bs [])) (rd [] L 0) 0).3 0)=true:=by rw [q0,notB_t,eqI_f]; exact hz
  by_cases hg:9007199254740992<(a.gInt * a'.gInt).natAbs
  ·refine ⟨[],false,e291 _ _ ⟨_,hb,ite_f rfl (and_t (in_len (i:=0) (by omega)) (and_t i0 (and_t (in_len (i:=1) (by omega)) (and_t i1 ⟨true,?_,ite_t rfl ⟨rfl,rfl⟩⟩))))⟩,?_⟩
   ·refine ite_t hnz ⟨_,sz _,_,sz _,and_t (by rw [q0]; exact hne) ?_⟩
    rw [q0,q1,ht]; exact decide_eq_true hg
   ·rw [numV_none hg]; rfl
  ·refine ⟨v,ok,e291 _ _ ⟨_,hb,ite_f rfl (and_t (in_len (i:=0) (by omega)) (and_t i0 (and_t (in_len (i:=1) (by omega)) (and_t i1 ⟨false,?_,ite_f rfl ⟨(v,ok),g1,rfl,rfl⟩⟩))))⟩,?_⟩
   ·refine ite_t hnz ⟨_,sz _,_,sz _,and_t (by rw [q0]; exact hne) ?_⟩
    rw [q0,q1,ht]; exact decide_eq_false hg
   ·have:mulW .i64 a.gInt a'.gInt=a.gInt * a'.gInt:=wrap_id (by omega) (by omega)
    rw [←g2,this]
theorem does292 (h:ArgsOk L) (hn:L.length=2):Does 292 [.d (.sl .sl_api_Atom L)] (opV 9 L):=by
 have e:opV 9 L=joinV (rd [] L 0) (rd [] L 1):=rfl
 obtain ⟨a,l,e0,h0⟩:=h.at (i:=0) (by omega)
 obtain ⟨b,m,e1,h1⟩:=h.at (i:=1) (by omega)
 have t0:=gives309' (v:=rd [] L 0) e0 h0.room
 have t1:=gives309' (v:=rd [] L 1) e1 h1.room
 have j0:inB 0 (lenL L)=true:=in_len (i:=0) (by omega)
 have j1:inB 1 (lenL L)=true:=in_len (i:=1) (by omega)
 have f0:rd [] L 0=(Tr.nd a l).post:=e0
 have f1:rd [] L 1=(Tr.nd b m).post:=e1
 rw [e]
 unfold joinV
 rw [f0,f1,lastAt_post,lastAt_post]
 cases hk:(notB (eqI a.gKind b.gKind) || eqI a.gKind 1) with
 | true=>exact ⟨[],false,e292 _ _ (and_t j0 ⟨a,t0,and_t j1 ⟨b,t1,or_of (fun _=>rfl) (by rw [hk]; exact ite_t rfl ⟨rfl,rfl⟩)⟩⟩),rfl⟩
 | false=>
  rw [if_neg Bool.false_ne_true]
  have hab:a.gKind=b.gKind:=by
   rw [Bool.or_eq_false_iff] at hk
   exact eqI_t.1 (notB_f.1 hk.1)
  have ba:=atomB_bounds h0.atom
  have bb:=atomB_bounds h1.atom
  by_cases h2:a.gKind=2
  ·rw [if_pos h2]
   have sa:a.gText.size≤4096:=by rcases ba.2.2 with h|h|h <;> omega
   have sb:b.gText.size≤4096:=by rcases bb.2.2 with h|h|h <;> omega
   have es:addW .i64 (intN (strLen a.4)) (intN (strLen b.4))=((a.gText.size+b.gText.size:Nat):Int):=by
    have:addW .i64 (intN (strLen a.4)) (intN (strLen b.4))=intN (strLen a.4)+intN (strLen b.4):=addW_id (by simp only [intN,strLen]; omega) (by simp only [intN,strLen]; omega)
    rw [this]; simp only [intN,strLen]; omega
   by_cases hl:4096<a.gText.size+b.gText.size
   ·rw [if_pos hl]
    exact ⟨[],false,e292 _ _ (and_t j0 ⟨a,t0,and_t j1 ⟨b,t1,or_of (fun _=>rfl) (by rw [hk,es]; exact ite_f rfl (ite_t (eqI_t.2 h2) (ite_t (decide_eq_true (by omega)) ⟨rfl,rfl⟩)))⟩⟩),rfl⟩
   ·rw [if_neg hl]
    have hroom:strRoom a.4 b.4=true:=decide_eq_true (by rw [maxStr_eq]; omega)
    exact ⟨[⟨2,0,0,strAdd a.4 b.4⟩],true,e292 _ _ (and_t j0 ⟨a,t0,and_t j1 ⟨b,t1,or_of (fun _=>rfl) (by rw [hk,es]; exact ite_f rfl (ite_t (eqI_t.2 h2) (ite_f (decide_eq_false (by omega)) (and_t hroom ⟨rfl,rfl⟩))))⟩⟩),rfl⟩
  ·rw [if_neg h2,memV_post h0,memV_post h1]
   have s0:=h0.size
   have s1:=h1.size
   simp only [Tr.size] at s0 s1
   have l0:=Tr.length_le_sizes l
   have l1:=Tr.length_le_sizes m
   obtain ⟨v,ok,k1,k2⟩:=does305 (L:=l.map Tr.post ++ m.map Tr.post) (by rw [List.length_append,List.length_map,List.length_map]; omega) (fun v hv=>by
    rcases List.mem_append.1 hv with hv|hv
    ·exact posts_bound (by omega) v hv
    ·exact posts_bound (by omega) v hv)
   have hroom:roomB (addN (lenL (l.map Tr.post)) (lenL (m.map Tr.post))) 24=true:=roomB_t (by simp only [addN,lenL_eq,List.length_map]; omega)
   exact ⟨v,ok,e292 _ _ (and_t j0 ⟨a,t0,and_t j1 ⟨b,t1,or_of (fun _=>rfl) (by rw [hk]; exact ite_f rfl (ite_f (eqI_f.2 h2) (and_t j0 ⟨_,gives310' e0 h0,and_t j1 ⟨_,gives310' e1 h1,and_t hroom ⟨(v,ok),k1,rfl,rfl⟩⟩⟩)))⟩⟩),k2⟩
theorem gives85 {v:ValL} (hv:v ≠ []) (hl:v.length * 40≤140737488355328):Gives 85 [.d (.sl .api_Atom v)] (.d (.sl .api_Atom v)):=by
 refine e85 _ _ ⟨and_t (roomB_t (by simpa [addN,lenL,nilL] using hl)) ⟨rfl,rfl⟩,ite_w (fun h=>?_) (fun _=>trivial)⟩
 cases v with
 | nil=>exact absurd rfl hv
 | cons _ _=>cases h
theorem post_ne (t:Tr api_Atom):t.post ≠ []:=by
 intro h
 have h1:=Tr.post_length t
 rw [h,List.length_nil] at h1
 have:=Tr.size_pos t
 omega
theorem does293 (h:ArgsOk L) (hn:L.length=2):Does 293 [.d (.sl .sl_api_Atom L)] (opV 10 L):=by
 have e:opV 10 L=itemV (rd [] L 0) (rd [] L 1):=rfl
 obtain ⟨a,l,e0,h0⟩:=h.at (i:=0) (by omega)
 obtain ⟨b,m,e1,h1⟩:=h.at (i:=1) (by omega)
 have t0:=gives309' (v:=rd [] L 0) e0 h0.room
 have t1:=gives309' (v:=rd [] L 1) e1 h1.room
 have j0:inB 0 (lenL L)=true:=in_len (i:=0) (by omega)
 have j1:inB 1 (lenL L)=true:=in_len (i:=1) (by omega)
 have f0:rd [] L 0=(Tr.nd a l).post:=e0
 have f1:rd [] L 1=(Tr.nd b m).post:=e1
 rw [e]
 unfold itemV
 rw [f0,f1,lastAt_post,lastAt_post]
 cases hk:(((notB (eqI a.gKind 3) || notB (eqI b.gKind 1)) || ltI b.gInt 0) || leI a.gN b.gInt) with
 | true=>exact ⟨[],false,e293 _ _ (and_t j0 ⟨a,t0,and_t j1 ⟨b,t1,or_of (fun _=>rfl) (or_of (fun _=>rfl) (or_of (fun _=>rfl) (by rw [hk]; exact ite_t rfl ⟨rfl,rfl⟩)))⟩⟩),rfl⟩
 | false=>
  rw [if_neg Bool.false_ne_true,memV_post h0]
  have hk':=hk
  simp only [Bool.or_eq_false_iff] at hk'
  have c1:=of_decide_eq_false hk'.1.2
  have c2:=of_decide_eq_false hk'.2
  have ha:=h0.ar
  obtain ⟨i,hi⟩:∃i:Nat,b.gInt=(i:Int):=⟨b.gInt.toNat,by omega⟩
  have hil:i<l.length:=by omega
  have hm:(l.map Tr.post)[i]?=some l[i].post:=by rw [List.getElem?_map,List.getElem?_eq_getElem hil]; rfl
  have hz:=Tr.le_sizes (List.getElem_mem hil)
  have s0:=h0.size
  simp only [Tr.size] at s0
  have hi':b.3=(i:Int):=hi
  have rest:andP (inB b.3 (lenL (l.map Tr.post))) (andP (ltN (natI b.3) (lenL (l.map Tr.post))) (∃(x_2:List api_Atom),(Gives 85 [C.d (D.sl Ty.api_Atom (rdN [] (l.map Tr.post) (natI b.3)))] (C.d (D.sl Ty.api_Atom x_2)))∧AnsC x_2 true=AnsC l[i].post true∧([]:List (O U))=[])):=by
   rw [hi',natI_nat]
   have hr:rdN [] (l.map Tr.post) i=l[i].post:=rdN_some hm
   refine and_t (inB_some hm) (and_t (ltN_t (by rw [lenL_eq,List.length_map]; exact hil)) ⟨_,gives85 (v:=rdN [] (l.map Tr.post) i) (by rw [hr]; exact post_ne _) (by rw [hr,Tr.post_length]; omega),by rw [hr],rfl⟩)
  refine ⟨l[i].post,true,e293 _ _ (and_t j0 ⟨a,t0,and_t j1 ⟨b,t1,or_of (fun _=>rfl) (or_of (fun _=>rfl) (or_of (fun _=>rfl) (by rw [hk]; exact ite_f rfl (and_t j0 ⟨_,gives310' e0 h0,rest⟩))))⟩⟩),?_⟩
  rw [hi,Int.toNat_natCast,hm]; rfl
theorem does294 (h:ArgsOk L) (hn:L.length=1):Does 294 [.d (.sl .sl_api_Atom L)] (opV 11 L):=by
 have e:opV 11 L=sizeV (rd [] L 0):=rfl
 obtain ⟨a,l,e0,h0⟩:=h.at (i:=0) (by omega)
 have t0:=gives309' (v:=rd [] L 0) e0 h0.room
 have j0:inB 0 (lenL L)=true:=in_len (i:=0) (by omega)
 have f0:rd [] L 0=(Tr.nd a l).post:=e0
 rw [e]
 unfold sizeV
 rw [f0,lastAt_post]
 by_cases h2:a.gKind=2
 ·rw [if_pos h2]
  obtain ⟨v,ok,k1,k2⟩:=does307 (intN (strLen a.4))
  exact ⟨v,ok,e294 _ _ (and_t j0 ⟨a,t0,ite_t (eqI_t.2 h2) ⟨(v,ok),k1,rfl,rfl⟩⟩),k2⟩
 rw [if_neg h2]
 by_cases h3:a.gKind=3
 ·rw [if_pos h3]
  obtain ⟨v,ok,k1,k2⟩:=does307 a.gN
  exact ⟨v,ok,e294 _ _ (and_t j0 ⟨a,t0,ite_f (eqI_f.2 h2) (ite_t (eqI_t.2 h3) ⟨(v,ok),k1,rfl,rfl⟩)⟩),k2⟩
 rw [if_neg h3]
 exact ⟨[],false,e294 _ _ (and_t j0 ⟨a,t0,ite_f (eqI_f.2 h2) (ite_f (eqI_f.2 h3) ⟨rfl,rfl⟩)⟩),rfl⟩
theorem gives312' {u v:ValL} {s t:Tr api_Atom} (hu:u=s.post) (hv:v=t.post) (hs:ValTr s) (ht:ValTr t):Gives 312 [.d (.sl .api_Atom u),.d (.sl .api_Atom v)] (.d (.int .i64 (cmpV u v))):=by
 subst hu; subst hv; rw [cmpV_post hs ht]; exact gives312 _ (Nat.le_refl _) hs ht
theorem does295 (h:ArgsOk L) (hn:L.length=2):Does 295 [.d (.sl .sl_api_Atom L)] (opV 12 L):=by
 obtain ⟨a,l,e0,h0⟩:=h.at (i:=0) (by omega)
 obtain ⟨b,m,e1,h1⟩:=h.at (i:=1) (by omega)
 have hr:=gives312' (u:=rd [] L 0) (v:=rd [] L 1) e0 e1 h0 h1
 obtain ⟨v,ok,k1,k2⟩:=does311 (ltI (cmpV (rd [] L 0) (rd [] L 1)) 0)
 exact ⟨v,ok,e295 _ _ (and_t (in_len (i:=0) (by omega)) (and_t (in_len (i:=1) (by omega)) ⟨_,hr,(v,ok),k1,rfl,rfl⟩)),k2⟩
theorem does296 (h:ArgsOk L) (hn:L.length=2):Does 296 [.d (.sl .sl_api_Atom L)] (opV 13 L):=by
 obtain ⟨a,l,e0,h0⟩:=h.at (i:=0) (by omega)
 obtain ⟨b,m,e1,h1⟩:=h.at (i:=1) (by omega)
 have hr:=gives312' (u:=rd [] L 0) (v:=rd [] L 1) e0 e1 h0 h1
 obtain ⟨v,ok,k1,k2⟩:=does311 (eqI (cmpV (rd [] L 0) (rd [] L 1)) 0)
 exact ⟨v,ok,e296 _ _ (and_t (in_len (i:=0) (by omega)) (and_t (in_len (i:=1) (by omega)) ⟨_,hr,(v,ok),k1,rfl,rfl⟩)),k2⟩
def firstE (L:List ValL):Int:=match L.find? fun v=>notB (eqI (valE v) 0) with
 | some v=>valE v
 | none=>0
theorem firstE_zero {L:List ValL}:firstE L=0↔∀v∈L,valE v=0:=by
 unfold firstE
 cases hf:L.find? fun v=>notB (eqI (valE v) 0) with
 | none=>
  rw [List.find?_eq_none] at hf
  refine ⟨fun _ v hv=>?_,fun _=>rfl⟩
  have:=hf v hv
  rw [notB_t] at this
  exact eqI_t.1 (by simpa using this)
 | some v=>
  have h1:=List.find?_some hf
  have h2:=List.mem_of_find?_eq_some hf
  exact ⟨fun h=>absurd h (eqI_f.1 (notB_t.1 h1)),fun h=>h v h2⟩
theorem gives263 (hl:L.length<4611686018427387904):Gives 263 [.d (.sl .sl_api_Atom L)] (.d (.int .i64 (firstE L))):=by
 have loop:∀i,i≤L.length→At K 263 (fun c' H'=>c'=(.d (.int .i64 (firstE (L.drop i))):C U)∧H'=[]) t263_2 (s263_2 L (intN (lenL L)) i):=by
  refine upto ?_ fun i hi ih=>?_
  ·rw [List.drop_length]
   exact l263_2 _ _ _ _ (ite_f (lt_len_f (Nat.le_refl _)) ⟨rfl,rfl⟩)
  ·have g:=gives177 (rd [] L (i:Int))
   rw [List.drop_eq_getElem_cons hi]
   cases hz:notB (eqI (valE L[i]) 0) with
   | true=>
    have e:firstE (L[i] :: L.drop (i+1))=valE L[i]:=by simp only [firstE,List.find?_cons,hz]
    rw [e]
    refine l263_2 _ _ _ _ (ite_t (lt_len hi) (and_t (in_len hi) ⟨_,g,?_⟩))
    rw [rd_at hi]; exact ite_t hz ⟨rfl,rfl⟩
   | false=>
    have e:firstE (L[i] :: L.drop (i+1))=firstE (L.drop (i+1)):=by simp only [firstE,List.find?_cons,hz]
    rw [e]
    refine l263_2 _ _ _ _ (ite_t (lt_len hi) (and_t (in_len hi) ⟨_,g,?_⟩))
    rw [rd_at hi]
    exact ite_f hz (by rw [add_one (by omega)]; exact ih)
 exact e263 _ _ (loop 0 (Nat.zero_le _))
theorem valE_tree {t:Tr api_Atom} (h:ValTr t):valE t.post=0:=by
 unfold valE
 rw [Tr.post_length,if_neg (by have:=h.size; omega),h.ok]; rfl
theorem args_of (h:∀v∈L,valE v=0) (hl:L.length≤4096):ArgsOk L:=by
 refine ⟨by omega,fun v hv=>?_⟩
 have hv:=h v hv
 unfold valE at hv
 split at hv
 ·cases hv
 ·split at hv
  ·exact valOk_tree (by assumption) (by omega)
  ·cases hv
def cntV (k:Int):Int:=if k=5 then -1 else if k=11 then 1 else 2
def doV (k:Int) (L:List ValL):Option ValL:=
 if 4096<L.length then none
 else if (leI 0 (cntV k) && notB (eqI (L.length:Int) (cntV k)))=true then none
 else if firstE L ≠ 0 then none
 else opV k L
theorem do_of {k:Int} {g:Nat} (h182:Gives 262 [.d (.int .i64 k)] (.tup [.d (.int .i64 (cntV k)),.fp g [] []])) (hdo:∀L,ArgsOk L→(0≤cntV k→(L.length:Int)=cntV k)→Does g [.d (.sl .sl_api_Atom L)] (opV k L)) (L:List ValL):
  ∃(v:ValL) (ok:Bool) (e:Int),Gives 212 [.d (.int .i64 k),.d (.sl .sl_api_Atom L)] (.tup [.d (.sl .api_Atom v),.d (.bool ok),.d (.int .i64 e)])∧doV k L=(if ok=true then some v else none)∧(ok=true→e=0):=by
 unfold doV
 by_cases h1:4096<L.length
 ·rw [if_pos h1]
  exact ⟨[],false,3,e212 _ _ _ ⟨(cntV k,g),(),h182,ite_t (decide_eq_true (by rw [intN_eq,lenL_eq]; omega)) ⟨rfl,rfl⟩⟩,rfl,fun h=>by cases h⟩
 rw [if_neg h1]
 have h1':ltI 4096 (intN (lenL L))=false:=decide_eq_false (by rw [intN_eq,lenL_eq]; omega)
 cases h2:(leI 0 (cntV k) && notB (eqI (L.length:Int) (cntV k))) with
 | true=>
  have h2':(leI 0 (cntV k) && notB (eqI (intN (lenL L)) (cntV k)))=true:=h2
  exact ⟨[],false,5,e212 _ _ _ ⟨(cntV k,g),(),h182,ite_f h1' (and_of (fun _=>rfl) (by rw [h2']; exact ite_t rfl ⟨rfl,rfl⟩))⟩,rfl,fun h=>by cases h⟩
 | false=>
  have h2':(leI 0 (cntV k) && notB (eqI (intN (lenL L)) (cntV k)))=false:=h2
  rw [if_neg Bool.false_ne_true]
  have g1:=gives263 (L:=L) (by omega)
  by_cases h3:firstE L=0
  case neg=>
   rw [if_pos h3]
   exact ⟨[],false,firstE L,e212 _ _ _ ⟨(cntV k,g),(),h182,ite_f h1' (and_of (fun _=>rfl) (by rw [h2']; exact ite_f rfl ⟨_,g1,ite_t (notB_t.2 (eqI_f.2 h3)) ⟨rfl,rfl⟩⟩))⟩,rfl,fun h=>by cases h⟩
  rw [if_neg (by omega)]
  have h3':notB (eqI (firstE L) 0)=false:=notB_f.2 (eqI_t.2 h3)
  have ha:=args_of (firstE_zero.1 h3) (by omega)
  obtain ⟨v,ok,d1,d2⟩:=hdo L ha fun h0=>by
   cases hb:notB (eqI (L.length:Int) (cntV k)) with
   | true=>
    have:leI 0 (cntV k)=true:=decide_eq_true h0
    rw [hb,this] at h2; cases h2
   | false=>exact eqI_t.1 (notB_f.1 hb)
  cases ok with
  | false=>exact ⟨[],false,0,e212 _ _ _ ⟨(cntV k,g),(),h182,ite_f h1' (and_of (fun _=>rfl) (by rw [h2']; exact ite_f rfl ⟨_,g1,ite_f h3' ⟨(v,false),(),d1,ite_t rfl ⟨rfl,rfl⟩⟩⟩))⟩,d2,fun h=>by cases h⟩
  | true=>exact ⟨v,true,0,e212 _ _ _ ⟨(cntV k,g),(),h182,ite_f h1' (and_of (fun _=>rfl) (by rw [h2']; exact ite_f rfl ⟨_,g1,ite_f h3' ⟨(v,true),(),d1,ite_f rfl ⟨rfl,rfl⟩⟩⟩))⟩,d2,fun _=>rfl⟩
theorem gives212 {k:Int} (h1:5≤k) (h2:k≤13) (L:List ValL):∃(v:ValL) (ok:Bool) (e:Int),Gives 212 [.d (.int .i64 k),.d (.sl .sl_api_Atom L)] (.tup [.d (.sl .api_Atom v),.d (.bool ok),.d (.int .i64 e)])∧doV k L=(if ok=true then some v else none)∧(ok=true→e=0):=by
 obtain rfl|rfl|rfl|rfl|rfl|rfl|rfl|rfl|rfl:k=5∨k=6∨k=7∨k=8∨k=9∨k=10∨k=11∨k=12∨k=13:=by omega
 ·exact do_of (g:=288) (e262 _ _ _ (ite_t rfl ⟨rfl,rfl⟩)) (fun L h _=>does288 h) L
 ·exact do_of (g:=289) (e262 _ _ _ (ite_f rfl (ite_t rfl ⟨rfl,rfl⟩))) (fun L h hn=>does289 h (by have:=hn (by decide); rw [show cntV 6=2 from rfl] at this; omega)) L
 ·exact do_of (g:=290) (e262 _ _ _ (ite_f rfl (ite_f rfl (ite_t rfl ⟨rfl,rfl⟩)))) (fun L h hn=>does290 h (by have:=hn (by decide); rw [show cntV 7=2 from rfl] at this; omega)) L
 ·exact do_of (g:=291) (e262 _ _ _ (ite_f rfl (ite_f rfl (ite_f rfl (ite_t rfl ⟨rfl,rfl⟩))))) (fun L h hn=>does291 h (by have:=hn (by decide); rw [show cntV 8=2 from rfl] at this; omega)) L
 ·exact do_of (g:=292) (e262 _ _ _ (ite_f rfl (ite_f rfl (ite_f rfl (ite_f rfl (ite_t rfl ⟨rfl,rfl⟩)))))) (fun L h hn=>does292 h (by have:=hn (by decide); rw [show cntV 9=2 from rfl] at this; omega)) L
 ·exact do_of (g:=293) (e262 _ _ _ (ite_f rfl (ite_f rfl (ite_f rfl (ite_f rfl (ite_f rfl (ite_t rfl ⟨rfl,rfl⟩))))))) (fun L h hn=>does293 h (by have:=hn (by decide); rw [show cntV 10=2 from rfl] at this; omega)) L
 ·exact do_of (g:=294) (e262 _ _ _ (ite_f rfl (ite_f rfl (ite_f rfl (ite_f rfl (ite_f rfl (ite_f rfl (ite_t rfl ⟨rfl,rfl⟩)))))))) (fun L h hn=>does294 h (by have:=hn (by decide); rw [show cntV 11=1 from rfl] at this; omega)) L
 ·exact do_of (g:=295) (e262 _ _ _ (ite_f rfl (ite_f rfl (ite_f rfl (ite_f rfl (ite_f rfl (ite_f rfl (ite_f rfl (ite_t rfl ⟨rfl,rfl⟩))))))))) (fun L h hn=>does295 h (by have:=hn (by decide); rw [show cntV 12=2 from rfl] at this; omega)) L
 ·exact do_of (g:=296) (e262 _ _ _ (ite_f rfl (ite_f rfl (ite_f rfl (ite_f rfl (ite_f rfl (ite_f rfl (ite_f rfl (ite_f rfl (ite_t rfl ⟨rfl,rfl⟩)))))))))) (fun L h hn=>does296 h (by have:=hn (by decide); rw [show cntV 13=2 from rfl] at this; omega)) L
end
theorem gives224 (k:Int):∃t,Gives 224 [.d (.int .i64 k)] (.d (.str t)):=by
 have fin:∀{t:ByteArray} {p:Prop},p→p:=fun h=>h
 rcases opKinds k with rfl|rfl|rfl|rfl|rfl|rfl|rfl|rfl|rfl|rfl|rfl|rfl|rfl|rfl|rfl|rfl|rfl|rfl|rfl|h
 iterate 19 (exact ⟨_,e224 _ _ (by simp only [eqI,Int.reduceBEq,iteP]; exact ⟨rfl,rfl⟩)⟩)
 exact ⟨_,e224 _ _ (by
  simp only [eqI_f.2 (show k ≠ 5 by omega),eqI_f.2 (show k ≠ 6 by omega),eqI_f.2 (show k ≠ 7 by omega),eqI_f.2 (show k ≠ 8 by omega),eqI_f.2 (show k ≠ 9 by omega),eqI_f.2 (show k ≠ 10 by omega),eqI_f.2 (show k ≠ 11 by omega),eqI_f.2 (show k ≠ 12 by omega),eqI_f.2 (show k ≠ 13 by omega),eqI_f.2 (show k ≠ 14 by omega),eqI_f.2 (show k ≠ 16 by omega),eqI_f.2 (show k ≠ 17 by omega),iteP]
  exact ⟨rfl,rfl⟩)⟩
noncomputable def wordF (k:Int):ByteArray:=Classical.choose (gives224 k)
theorem gives224' (k:Int):Gives 224 [.d (.int .i64 k)] (.d (.str (wordF k))):=Classical.choose_spec (gives224 k)
theorem numV_ok {n:Int} {v:ValL} (h:numV n=some v):valE v=0:=by
 unfold numV at h
 split at h
 ·cases h
 ·rename_i hn
  cases h
  rw [Bool.or_eq_true,not_or] at hn
  have h1:=of_decide_eq_false (Bool.eq_false_iff.2 hn.1)
  have h2:=of_decide_eq_false (Bool.eq_false_iff.2 hn.2)
  have ha:atomB ⟨1,0,n,bs []⟩=true:=by
   show (((eqI 0 0 && strEq (bs []) (bs [])) && leI (-9007199254740992) n) && leI n 9007199254740992)=true
   have e1:leI (-9007199254740992) n=true:=decide_eq_true (by omega)
   have e2:leI n 9007199254740992=true:=decide_eq_true (by omega)
   rw [e1,e2,strEq_self]; rfl
  exact valE_tree (t:=.nd ⟨1,0,n,bs []⟩ []) ⟨by simp only [Tr.good,Tr.goods]; exact ⟨⟨ha,rfl⟩,trivial⟩,by simp [Tr.deep,Tr.deeps],by simp [Tr.size,Tr.sizes]⟩
theorem madeV_ok {L:List ValL} {v:ValL} (h:madeV L=some v):valE v=0:=by
 unfold madeV at h
 split at h
 ·cases h
 ·split at h
  ·rename_i h1; cases h; exact h1
  ·cases h
theorem opV_ok {k:Int} {L:List ValL} (hL:ArgsOk L) (hn:0≤cntV k→(L.length:Int)=cntV k) {v:ValL} (h:opV k L=some v):valE v=0:=by
 unfold opV at h
 have two:∀{k':Int},k=k'→k' ≠ 5→k' ≠ 11→L.length=2:=fun e h5 h11=>by
  have e2:cntV k=2:=by unfold cntV; rw [if_neg (by omega),if_neg (by omega)]
  have:=hn (by omega); omega
 split at h
 ·exact madeV_ok h
 split at h
 ·split at h
  ·exact numV_ok h
  ·cases h
 split at h
 ·split at h
  ·exact numV_ok h
  ·cases h
 split at h
 ·split at h
  ·exact numV_ok h
  ·cases h
 split at h
 ·rename_i hk
  have h2:=two hk (by decide) (by decide)
  obtain ⟨a,l,e0,h0⟩:=hL.at (i:=0) (by omega)
  obtain ⟨b,m,e1,h1⟩:=hL.at (i:=1) (by omega)
  have f0:rd [] L 0=(Tr.nd a l).post:=e0
  have f1:rd [] L 1=(Tr.nd b m).post:=e1
  unfold joinV at h
  split at h
  ·cases h
  ·split at h
   ·split at h
    ·cases h
    ·rename_i hl
     cases h
     have ha:atomB ⟨2,0,0,strAdd (lastAt (rd [] L 0)).gText (lastAt (rd [] L 1)).gText⟩=true:=by
      show ((eqI 0 0 && eqI 0 0) && leI (intN (strLen (strAdd (lastAt (rd [] L 0)).gText (lastAt (rd [] L 1)).gText))) 4096)=true
      have e:strLen (strAdd (lastAt (rd [] L 0)).gText (lastAt (rd [] L 1)).gText)=(lastAt (rd [] L 0)).gText.size+(lastAt (rd [] L 1)).gText.size:=by
       unfold strLen strAdd; exact ByteArray.size_append
      rw [e]
      have:leI (intN ((lastAt (rd [] L 0)).gText.size+(lastAt (rd [] L 1)).gText.size)) 4096=true:=decide_eq_true (by rw [intN_eq]; omega)
      rw [this]; rfl
     exact valE_tree (t:=.nd ⟨2,0,0,strAdd (lastAt (rd [] L 0)).gText (lastAt (rd [] L 1)).gText⟩ []) ⟨by simp only [Tr.good,Tr.goods]; exact ⟨⟨ha,rfl⟩,trivial⟩,by simp [Tr.deep,Tr.deeps],by simp [Tr.size,Tr.sizes]⟩
   ·exact madeV_ok h
 split at h
 ·rename_i hk
  have h2:=two hk (by decide) (by decide)
  obtain ⟨a,l,e0,h0⟩:=hL.at (i:=0) (by omega)
  have f0:rd [] L 0=(Tr.nd a l).post:=e0
  unfold itemV at h
  split at h
  ·cases h
  ·rw [f0,memV_post h0,List.getElem?_map,Option.map_eq_some_iff] at h
   obtain ⟨t,ht,rfl⟩:=h
   exact valE_tree (h0.kid (List.mem_of_getElem? ht))
 split at h
 ·unfold sizeV at h
  split at h
  ·exact numV_ok h
  ·split at h
   ·exact numV_ok h
   ·cases h
 split at h
 ·exact numV_ok h
 split at h
 ·exact numV_ok h
 ·cases h
theorem doV_ok {k:Int} {L:List ValL} {v:ValL} (h:doV k L=some v):valE v=0:=by
 unfold doV at h
 split at h
 ·cases h
 split at h
 ·cases h
 rename_i h1 h2
 split at h
 ·cases h
 rename_i h3
 refine opV_ok (args_of (firstE_zero.1 (by omega)) (by omega)) (fun h0=>?_) h
 cases hb:notB (eqI (L.length:Int) (cntV k)) with
 | true=>
  have:leI 0 (cntV k)=true:=decide_eq_true h0
  rw [hb,this] at h2; exact absurd rfl h2
 | false=>exact eqI_t.1 (notB_f.1 hb)
theorem valE_ne {v:ValL} (h:valE v=0):v ≠ []:=by
 intro e; subst e; revert h; decide
end Go.Proofs.YtopifagbbmhgfaaGreatDoor.V
