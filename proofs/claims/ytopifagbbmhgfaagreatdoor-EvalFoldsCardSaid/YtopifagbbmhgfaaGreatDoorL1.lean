/- LEMMAS: what functions answer, and what is true of it. Conditions: none. -/
import Derived.Test.YtopifagbbmhgfaaGreatDoorW1
import Derived.Test.YtopifagbbmhgfaaGreatDoorA32
import Derived.Test.YtopifagbbmhgfaaGreatDoorA33
import Derived.Test.YtopifagbbmhgfaaGreatDoorW2
import Derived.Test.YtopifagbbmhgfaaGreatDoorA38
import Derived.Lib.Bytealg
import Derived.Test.YtopifagbbmhgfaaGreatDoorC0
set_option maxRecDepth 4000
set_option linter.unusedSectionVars false
namespace Go.Proofs.YtopifagbbmhgfaaGreatDoor.V
set_option linter.unusedVariables false
set_option linter.unusedSimpArgs false
open Go Go.Abs
theorem room_eq:room=140737488355328:=rfl
theorem maxStr_eq:maxStr=4611686018427387904:=rfl
theorem known_str {s:ByteArray} (h:C.Known K (.d (.str s):C U)):s.size≤4611686018427387904:=h.d.str
theorem known_strs {l:List ByteArray} (h:C.Known K (.d (.sl (U:=U) .str l))):l.length * 16≤140737488355328:=h.d.sl.1
theorem known_atoms {l:List api_Atom} (h:C.Known K (.d (.sl (U:=U) .api_Atom l))):l.length * 40≤140737488355328:=h.d.sl.1
theorem known_cracks {l:List api_Crack} (h:C.Known K (.d (.sl (U:=U) .api_Crack l))):l.length * 32≤140737488355328:=h.d.sl.1
def inB' (l:List ByteArray) (s:ByteArray):Bool:=l.any fun x=>strEq x s
theorem gives108 (l:List ByteArray) (s:ByteArray):Gives 108 [.d (.sl .str l),.d (.str s)] (.d (.bool (inB' l s))):=by
 refine Runs.known fun hk _=>?_
 have hl:=known_strs (hk _ (List.mem_cons_self ..))
 refine e108 l s _ ?_
 have loop:∀i,i≤l.length→At K 108 (fun c' H'=>c'=(.d (.bool (inB' (l.drop i) s)):C U)∧H'=[]) t108_2 (s108_2 l s i):=by
  refine upto ?_ fun i hi ih=>?_
  ·exact l108_2 _ _ _ _ (ite_f (lt_len_f (Nat.le_refl _)) ⟨by rw [List.drop_length]; rfl,rfl⟩)
  ·refine l108_2 _ _ _ _ (ite_t (lt_len hi) (and_t (in_len hi) ?_))
   rw [rd_at hi]
   have e:inB' (l.drop i) s=(strEq l[i] s || inB' (l.drop (i+1)) s):=drop_any hi
   rw [e]
   refine ite_w (fun h=>?_) (fun h=>?_)
   ·rw [h]; exact ⟨rfl,rfl⟩
   ·rw [h,add_one (by omega)]; exact ih
 exact loop 0 (Nat.zero_le _)
theorem gives152 (l:List ByteArray) (s:ByteArray):∃n,Gives 152 [.d (.sl .str l),.d (.str s)] (.d (.int .i64 n))∧(l.length * 16≤140737488355328→leI 0 n=inB' l s):=by
 by_cases hl:l.length * 16≤140737488355328
 case neg=>exact ⟨0,Runs.known fun hk _=>absurd (known_strs (hk _ (List.mem_cons_self ..))) hl,fun h=>absurd h hl⟩
 have loop:∀i,i≤l.length→∃n,At K 152 (fun c' H'=>c'=(.d (.int .i64 n):C U)∧H'=[]) t152_2 (s152_2 l s (intN (lenL l)) i)∧leI 0 n=inB' (l.drop i) s:=by
  refine upto ?_ fun i hi ih=>?_
  ·exact ⟨_,l152_2 _ _ _ _ _ (ite_f (lt_len_f (Nat.le_refl _)) ⟨rfl,rfl⟩),by simp [inB',leI]⟩
  ·obtain ⟨n,h1,h2⟩:=ih
   have e:inB' (l.drop i) s=(strEq l[i] s || inB' (l.drop (i+1)) s):=drop_any hi
   rw [e]
   cases hb:strEq l[i] s with
   | true=>exact ⟨i,l152_2 _ _ _ _ _ (ite_t (lt_len hi) (and_t (in_len hi) (by rw [rd_at hi,strEq_comm]; exact ite_t hb ⟨rfl,rfl⟩))),by simp [leI]⟩
   | false=>exact ⟨n,l152_2 _ _ _ _ _ (ite_t (lt_len hi) (and_t (in_len hi) (by rw [rd_at hi,strEq_comm,add_one (by omega)]; exact ite_f hb h1))),by simpa using h2⟩
 obtain ⟨n,h1,h2⟩:=loop 0 (Nat.zero_le _)
 exact ⟨n,e152 _ _ _ h1,fun _=>h2⟩
theorem gives80 (l:List ByteArray) (s:ByteArray):Gives 80 [.d (.sl .str l),.d (.str s)] (.d (.bool (inB' l s))):=by
 refine Runs.known fun hk _=>?_
 have hl:=known_strs (hk _ (List.mem_cons_self ..))
 obtain ⟨n,h1,h2⟩:=gives152 l s
 exact e80 _ _ _ ⟨n,h1,by rw [h2 hl],rfl⟩
def keyL:List ByteArray:=[bs [99,101,108,108],bs [97,103,97,105,110],bs [116,114,105,101,115],bs [98,97,115,101],bs [102,97,99,116,111,114],bs [99,97,112],bs [99,108,111,115,101],bs [102,105,110,101],bs [102,97,105,108],bs [112,97,110,105,99],bs [105,102],bs [116,104,101,110],bs [101,108,115,101],bs [116,114,121],bs [119,97,105,116],bs [108,101,116],bs [105,110],bs [105,116,101,109],bs [115,105,122,101]]
def wordL:List ByteArray:=[bs [108,105,115,116],bs [97,100,100],bs [115,117,98],bs [109,117,108],bs [106,111,105,110],bs [105,116,101,109],bs [115,105,122,101],bs [105,102],bs [102,97,105,108],bs [112,97,110,105,99]]
theorem gives220 (s:ByteArray):Gives 220 [.d (.str s)] (.d (.bool (inB' keyL s))):=e220 _ _ ⟨_,gives80 keyL s,rfl,rfl⟩
def letB (c:Int):Bool:=leI 97 c && leI c 122
def digB (c:Int):Bool:=leI 48 c && leI c 57
def wcB (c:Int):Bool:=(letB c || digB c) || eqI c 95
theorem gives265 (c:Int):Gives 265 [.d (.int .u8 c)] (.d (.bool (letB c))):=e265 _ _ (and_of (fun _=>rfl) ⟨rfl,rfl⟩)
theorem gives266 (c:Int):Gives 266 [.d (.int .u8 c)] (.d (.bool (digB c))):=e266 _ _ (and_of (fun _=>rfl) ⟨rfl,rfl⟩)
def byL (s:ByteArray):List Int:=s.data.toList.map fun b=>(b.toNat:Int)
theorem byL_length (s:ByteArray):(byL s).length=s.size:=by simp [byL]
theorem byteAt_byL {s:ByteArray} {i:Nat} (h:i<s.size):byteAt s (i:Int)=(byL s)[i]'(by rw [byL_length]; exact h):=by
 rw [byteAt_nat h]; simp [byL]
def wordB (s:ByteArray):Bool:=(byL s).head?.any letB && (byL s).all wcB
theorem gives219 (s:ByteArray):∃n,Gives 219 [.d (.str s),.d (.int .i64 0)] (.d (.int .i64 n))∧(s.size≤4611686018427387904→s.size ≠ 0→eqI n (intN (strLen s))=wordB s):=by
 by_cases hs:s.size≤4611686018427387904
 case neg=>exact ⟨0,Runs.known fun hk _=>absurd (known_str (hk _ (List.mem_cons_self ..))) hs,fun h=>absurd h hs⟩
 have hlen:=byL_length s
 have loop:∀i,i≤s.size→∃n,At K 219 (fun c' H'=>c'=(.d (.int .i64 n):C U)∧H'=[]) t219_3 (s219_3 s i)∧eqI n (intN (strLen s))=((byL s).drop i).all wcB:=by
  refine upto ?_ fun i hi ih=>?_
  ·refine ⟨_,l219_3 _ _ _ ⟨false,ite_f (lt_str_f (Nat.le_refl _)) rfl,rfl,rfl⟩,?_⟩
   rw [List.drop_of_length_le (by omega)]; simp [eqI,intN,strLen]
  ·obtain ⟨n,h1,h2⟩:=ih
   have hb:byteAt s (i:Int)=(byL s)[i]'(by omega):=byteAt_byL hi
   rw [drop_all (by omega)]
   have body:∀{k:Bool→Prop},k (wcB (byL s)[i])→∃v,iteP (ltI (i:Int) (intN (strLen s))) (andP (inB (i:Int) (strLen s)) (∃x:Bool,(Gives 265 [.d (.int .u8 (byteAt s i))] (.d (.bool x)))∧
     ∃v_1:Bool,iteP x (true=v_1) (andP (inB (i:Int) (strLen s)) (∃x:Bool,(Gives 266 [.d (.int .u8 (byteAt s i))] (.d (.bool x)))∧x=v_1))∧
     ∃v_2:Bool,iteP v_1 (true=v_2) (andP (inB (i:Int) (strLen s)) (eqI (byteAt s i) 95=v_2))∧v_2=v)) (false=v)∧k v:=by
    intro k hk
    rw [hb]
    refine ⟨wcB (byL s)[i],ite_t (lt_str hi) (and_t (in_str hi) ⟨_,gives265 _,or_of (fun _=>and_t (in_str hi) ⟨_,gives266 _,rfl⟩) (or_of (fun _=>and_t (in_str hi) rfl) rfl)⟩),hk⟩
   cases hw:wcB (byL s)[i] with
   | true=>refine ⟨n,l219_3 _ _ _ (body ?_),by simpa using h2⟩; rw [hw,add_one (by omega)]; exact h1
   | false=>
    refine ⟨i,l219_3 _ _ _ (body ?_),?_⟩
    ·rw [hw]; exact ⟨rfl,rfl⟩
    ·simp [eqI,intN,strLen]; omega
 by_cases h0:s.size=0
 ·refine ⟨0,e219 _ _ _ ⟨true,ite_t (by simp [leI,intN,strLen,h0]) rfl,rfl,rfl⟩,fun _ h=>absurd h0 h⟩
 ·have hpos:0<s.size:=by omega
  have hhd:(byL s).head?=some ((byL s)[0]'(by omega)):=by rw [List.head?_eq_getElem?,List.getElem?_eq_getElem]
  have hb:byteAt s (0:Int)=(byL s)[0]'(by omega):=byteAt_byL hpos
  have hnl:leI (intN (strLen s)) 0=false:=by
   show decide ((s.size:Int)≤0)=false
   rw [decide_eq_false_iff_not]; omega
  cases hl:letB (byL s)[0] with
  | false=>
   refine ⟨0,e219 _ _ _ ⟨true,ite_f hnl (and_t (in_str (i:=0) hpos) ⟨_,gives265 _,by rw [hb,hl]; rfl⟩),rfl,rfl⟩,fun _ _=>?_⟩
   simp only [wordB,hhd,Option.any_some,hl,Bool.false_and]
   simp [eqI,intN,strLen]; omega
  | true=>
   obtain ⟨n,h1,h2⟩:=loop 0 (Nat.zero_le _)
   refine ⟨n,e219 _ _ _ ⟨false,ite_f hnl (and_t (in_str (i:=0) hpos) ⟨_,gives265 _,by rw [hb,hl]; rfl⟩),h1⟩,fun _ _=>?_⟩
   rw [h2]
   simp [wordB,hhd,hl]
def nameB (s:ByteArray):Bool:=((notB (strEq s (bs [])) && leI (intN (strLen s)) 24) && wordB s) && notB (inB' keyL s)
theorem strEq_nil {s:ByteArray}:strEq s (bs [])=true↔s.size=0:=by
 rw [strEq_iff']
 constructor
 ·rintro rfl; rfl
 ·intro h
  have:s.data.toList=[]:=List.eq_nil_of_length_eq_zero (by simpa using h)
  cases s with
  | mk d=>simp only [bs,List.map_nil,ByteArray.mk.injEq]; exact Array.ext' this
theorem gives153 (s:ByteArray):Gives 153 [.d (.str s)] (.d (.bool (nameB s))):=by
 obtain ⟨n,h1,h2⟩:=gives219 s
 refine Runs.known fun hk _=>?_
 have hl:=known_str (hk _ (List.mem_cons_self ..))
 refine e153 _ _ (and_of (fun _=>rfl) (and_of (b:=wordB s) (fun h=>⟨n,h1,?_⟩) (and_of (fun _=>⟨_,gives220 s,rfl⟩) ⟨rfl,rfl⟩)))
 refine h2 hl fun h0=>?_
 simp only [Bool.and_eq_true,notB_t] at h
 have:=strEq_nil.2 h0
 rw [h.1] at this; cases this
def Ns (l:List Nat):List Int:=l.map fun n:Nat=>(n:Int)
theorem Ns_length (l:List Nat):(Ns l).length=l.length:=by simp [Ns]
theorem Ns_append (l m:List Nat):Ns (l ++ m)=Ns l ++ Ns m:=by simp [Ns]
theorem Ns_take (l:List Nat) (k:Nat):(Ns l).take k=Ns (l.take k):=by simp [Ns,List.map_take]
theorem Ns_get {l:List Nat} {k n:Nat} (h:l[k]?=some n):(Ns l)[k]?=some (n:Int):=by simp [Ns,h]
theorem Ns_one (n:Nat):Ns [n]=[(n:Int)]:=rfl
theorem natI_nat (n:Nat):natI (n:Int)=n:=rfl
theorem lenL_eq {α:Type} (l:List α):lenL l=l.length:=rfl
theorem intN_eq (n:Nat):intN n=(n:Int):=rfl
theorem rdN_some {α:Type} {d:α} {l:List α} {i:Nat} {x:α} (h:l[i]?=some x):rdN d l i=x:=by simp [rdN,List.getD_eq_getElem?_getD,h]
theorem roomB_t {n b:Nat} (h:n * b≤140737488355328):roomB n b=true:=by rw [roomB_iff]; exact h
def atomB (a:api_Atom):Bool:=
 if a.gKind=1 then ((eqI a.gN 0 && strEq a.gText (bs [])) && leI (-9007199254740992) a.gInt) && leI a.gInt 9007199254740992
 else if a.gKind=2 then (eqI a.gN 0 && eqI a.gInt 0) && leI (intN (strLen a.gText)) 4096
 else if a.gKind=3 then (leI 0 a.gN && eqI a.gInt 0) && strEq a.gText (bs [])
 else false
theorem eqI_t {a b:Int}:eqI a b=true↔a=b:=eqI_iff
theorem eqI_f {a b:Int}:eqI a b=false↔a ≠ b:=by rw [←Bool.not_eq_true,eqI_iff]
theorem sw {k:Int} {n:Int} {p q:Prop} (hp:k=n→p) (hq:k ≠ n→q):iteP (eqI k n) p q:=ite_w (fun h=>hp (eqI_t.1 h)) (fun h=>hq (eqI_f.1 h))
abbrev atomC (a:api_Atom):C U:=.agg [.d (.int .i64 a.gKind),.d (.int .i64 a.gN),.d (.int .i64 a.gInt),.d (.str a.gText)]
theorem atom_of {a:api_Atom} {post:C U→List (O U)→Prop} (h:post (.d (.bool (atomB a))) []):iteP (eqI a.1 1) (∃(v:Bool),iteP (eqI a.2 0) (strEq a.4 (bs [])=v) (false=v)∧∃(v_1:Bool),iteP v (leI (Int.negSucc 9007199254740991) a.3=v_1) (false=v_1)∧∃(v:Bool),iteP v_1 (leI a.3 9007199254740992=v) (false=v)∧post (C.d (D.bool v)) [])
  (iteP (eqI a.1 2) (∃(v:Bool),iteP (eqI a.2 0) (eqI a.3 0=v) (false=v)∧∃(v_1:Bool),iteP v (leI (intN (strLen a.4)) 4096=v_1) (false=v_1)∧post (C.d (D.bool v_1)) [])
  (iteP (eqI a.1 3) (∃(v:Bool),iteP (leI 0 a.2) (eqI a.3 0=v) (false=v)∧∃(v_1:Bool),iteP v (strEq a.4 (bs [])=v_1) (false=v_1)∧post (C.d (D.bool v_1)) []) (post (C.d (D.bool false)) []))):=by
 refine sw (fun h1=>?_) (fun h1=>sw (fun h2=>?_) (fun h2=>sw (fun h3=>?_) (fun h3=>?_)))
 ·refine and_of (fun _=>rfl) (and_of (fun _=>rfl) (and_of (fun _=>rfl) ?_))
  simp only [atomB,if_pos h1] at h; exact h
 ·refine and_of (fun _=>rfl) (and_of (fun _=>rfl) ?_)
  simp only [atomB,if_neg h1,if_pos h2] at h; exact h
 ·refine and_of (fun _=>rfl) (and_of (fun _=>rfl) ?_)
  simp only [atomB,if_neg h1,if_neg h2,if_pos h3] at h; exact h
 ·simp only [atomB,if_neg h1,if_neg h2,if_neg h3] at h; exact h
theorem gives280 (a:api_Atom):Gives 280 [atomC a] (.d (.bool (atomB a))):=e280 a _ (atom_of (a:=a) (post:=fun c' H'=>c'=(.d (.bool (atomB a)):C U)∧H'=[]) ⟨rfl,rfl⟩)
theorem gives282 (a:api_Atom):Gives 282 [atomC a] (.d (.bool (atomB a))):=e282 a _ (atom_of (a:=a) (post:=fun c' H'=>c'=(.d (.bool (atomB a)):C U)∧H'=[]) ⟨rfl,rfl⟩)
theorem atomB_pos {a:api_Atom} (h:atomB a=true):0≤a.gN:=by
 unfold atomB at h
 split at h
 ·simp only [Bool.and_eq_true,eqI_t] at h; omega
 ·split at h
  ·simp only [Bool.and_eq_true,eqI_t] at h; omega
  ·split at h
   ·simp only [Bool.and_eq_true] at h
    have:=of_decide_eq_true h.1.1
    exact this
   ·cases h
abbrev valT (v:List api_Atom):Option (List (Tr api_Atom)):=Tr.read atomB (·.gN) [] v
def valD (v:List api_Atom):Option Nat:=match valT v with
 | some [t]=>some t.deep
 | _=>none
def valOk (v:List api_Atom):Bool:=match valD v with
 | some d=>decide (d≤32)
 | none=>false
theorem maxI_nat (a b:Nat):maxI (a:Int) (b:Int)=((max a b:Nat):Int):=by
 unfold maxI; split <;> omega
section
variable {α:Type} {ok:α→Bool} {ar:α→Int}
theorem starts_put {st:List (Tr α)} {a:α} {n:Nat} (hn:n≤st.length):Tr.starts 0 (st.take (st.length - n) ++ [Tr.nd a (st.drop (st.length - n))])=(Tr.starts 0 st).take (st.length - n) ++ [Tr.sizes (st.take (st.length - n))]:=by
 rw [Tr.starts_append,Tr.starts_take]; simp [Tr.starts]
theorem deeps_put {st:List (Tr α)} {a:α} {n:Nat} (hn:n≤st.length):(st.take (st.length - n) ++ [Tr.nd a (st.drop (st.length - n))]).map Tr.deep=(st.map Tr.deep).take (st.length - n) ++ [Tr.deeps (st.drop (st.length - n))+1]:=by
 simp [List.map_take,Tr.deep]
theorem start_at {st:List (Tr α)} {k:Nat} (h:k<st.length):(Tr.starts 0 st)[k]?=some (Tr.sizes (st.take k)):=by
 rw [Tr.starts_get h]; simp
end
theorem gives242 (v:List api_Atom):∃(fr:List Int) (d:Int),Gives 242 [.d (.sl .api_Atom v)] (.tup [.d (.sl .int fr),.d (.int .i64 d),.d (.bool (valD v).isSome)])∧(v.length * 40≤140737488355328→∀k,valD v=some k→d=k):=by
 by_cases hl:v.length * 40≤140737488355328
 case neg=>exact ⟨[],0,Runs.known fun hk _=>absurd (known_atoms (hk _ (List.mem_cons_self ..))) hl,fun h=>absurd h hl⟩
 let P:Nat→Prop:=fun i=>∀(st:List (Tr api_Atom)) (y5:List Int),valT (v.take i)=some st→y5.length=i→∃(fr:List Int) (d:Int),
  At K 242 (fun c' H'=>c'=(.tup [.d (.sl .int fr),.d (.int .i64 d),.d (.bool (valD v).isSome)]:C U)∧H'=[]) t242_5 (s242_5 v i y5 (Ns (Tr.starts 0 st)) (Ns (st.map Tr.deep)))∧∀k,valD v=some k→d=k
 have loop:∀i,i≤v.length→P i:=by
  refine upto ?_ fun i hi ih=>?_
  ·intro st y5 hst hy
   rw [List.take_length] at hst
   have hlen:(Ns (Tr.starts 0 st)).length=st.length:=by rw [Ns_length,Tr.starts_length]
   have hlen':(Ns (st.map Tr.deep)).length=st.length:=by rw [Ns_length,List.length_map]
   by_cases h1:st.length=1
   ·obtain ⟨t,rfl⟩:=List.length_eq_one_iff.1 h1
    have hd:valD v=some t.deep:=by simp only [valD,hst]
    rw [hd]
    refine ⟨y5,t.deep,l242_5 _ _ _ _ _ _ (ite_f (lt_len_f (Nat.le_refl _)) (ite_f (by rw [notB_f,eqI_t,intN_eq,lenL_eq,hlen,h1]; rfl) (and_t (in_len (i:=0) (by rw [hlen']; exact Nat.zero_lt_one)) (and_t (by show decide (0<(Ns ([t].map Tr.deep)).length)=true; rw [decide_eq_true_eq,hlen']; exact Nat.zero_lt_one) ⟨rfl,rfl⟩)))),fun k hk=>?_⟩
    cases hk; rfl
   ·have hd:valD v=none:=by
     simp only [valD,hst]
     split
     ·rename_i t e; cases e; simp at h1
     ·rfl
    rw [hd]
    refine ⟨[],0,l242_5 _ _ _ _ _ _ (ite_f (lt_len_f (Nat.le_refl _)) (ite_t ?_ ⟨rfl,rfl⟩)),fun k hk=>by cases hk⟩
    rw [notB_t,eqI_f,intN_eq,lenL_eq,hlen]; omega
  ·intro st y5 hst hy
   have hlen:(Ns (Tr.starts 0 st)).length=st.length:=by rw [Ns_length,Tr.starts_length]
   have hlen':(Ns (st.map Tr.deep)).length=st.length:=by rw [Ns_length,List.length_map]
   have hsz:Tr.sizes st=i:=by rw [Tr.read_sizes hst]; simp; omega
   have hle:=Tr.length_le_sizes st
   have hsucc:=Tr.read_take_succ (ok:=atomB) (ar:=(·.gN)) hi hst
   have hrd:rd (api_Atom.mk 0 0 0 (bs [])) v (i:Int)=v[i]:=rd_at hi
   by_cases hok:atomB v[i]=true∧v[i].gN≤st.length
   ·obtain ⟨ho,hN⟩:=hok
    have hp:=atomB_pos ho
    obtain ⟨n,hn⟩:∃n:Nat,v[i].gN=(n:Int):=⟨v[i].gN.toNat,by omega⟩
    have hnl:n≤st.length:=by omega
    rw [Tr.put_of ho hn hnl] at hsucc
    have hsub:subW .i64 (intN (lenL (Ns (Tr.starts 0 st)))) (n:Int)=((st.length - n:Nat):Int):=by
     rw [intN_eq,lenL_eq,hlen,subW_id (by omega) (by omega)]; omega
    have hsub':subW .i64 (intN (lenL (Ns (st.map Tr.deep)))) (n:Int)=((st.length - n:Nat):Int):=by
     rw [intN_eq,lenL_eq,hlen',subW_id (by omega) (by omega)]; omega
    obtain ⟨fr,d,h1,h2⟩:=ih _ (y5 ++ [((Tr.sizes (st.take (st.length - n)):Nat):Int)]) hsucc (by simp [hy])
    rw [starts_put hnl,deeps_put hnl,Ns_append,Ns_append,←Ns_take,←Ns_take,Ns_one,Ns_one] at h1
    refine ⟨fr,d,l242_5 _ _ _ _ _ _ (ite_t (lt_len hi) (and_t (in_len hi) (and_t (in_len hi) ?_))),h2⟩
    rw [hrd]
    refine ⟨_,gives282 _,or_of (fun _=>rfl) (ite_f ?_ ?_)⟩
    ·rw [ho,hn,intN_eq,lenL_eq,hlen]
     show (false || decide ((st.length:Int)<n))=false
     rw [Bool.false_or,decide_eq_false_iff_not]; omega
    rw [hn]
    by_cases h0:0<n
    ·refine ite_t (by simp [ltI]; omega) ?_
     have hk:st.length - n<st.length:=by omega
     have hg:=Ns_get (start_at hk)
     have hroom:∀m,m≤v.length→(m+1) * 8≤140737488355328:=fun m hm=>by omega
     rw [hsub,natI_nat,rdN_some hg]
     refine and_t (in_len (by omega)) (and_t (by simp only [ltN,lenL_eq,hlen,decide_eq_true_eq]; exact hk) ?_)
     have inner:∀k,k≤n→At K 242 (fun c' H'=>c'=(.tup [.d (.sl .int fr),.d (.int .i64 d),.d (.bool (valD v).isSome)]:C U)∧H'=[]) t242_15
       (s242_15 v i n (Tr.sizes (st.take (st.length - n)):Nat) (Tr.deeps (st.drop (st.length - k)):Nat) k y5 (Ns (Tr.starts 0 st)) (Ns (st.map Tr.deep))):=by
      refine upto ?_ fun k hk ih=>?_
      ·refine l242_15 _ _ _ _ _ _ _ _ _ _ (ite_f (by simp [ltI]) ?_)
       have c1:∀L:List Int,L.length=st.length→(andB (leI 0 0) (andB (leI 0 (subW .i64 (intN (lenL L)) (n:Int))) (andB (leI (subW .i64 (intN (lenL L)) (n:Int)) (intN (lenL L))) true)))=true:=by
        intro L hL
        rw [intN_eq,lenL_eq,hL,subW_id (by omega) (by omega)]
        simp [andB,leI]; omega
       have c2:∀(L:List Int) (x:Int),L.length=st.length→(andB (leN (addN 0 (natI (subW .i64 (intN (lenL L)) (n:Int)))) (lenL L)) (roomB (addN (natI (subW .i64 (intN (lenL L)) (n:Int))) (lenL [x])) 8))=true:=by
        intro L x hL
        rw [intN_eq,lenL_eq,hL,subW_id (by omega) (by omega)]
        have e:((st.length:Int) - n)=((st.length - n:Nat):Int):=by omega
        rw [e,natI_nat,andB_true]
        refine ⟨by simp [leN,addN],roomB_t ?_⟩
        simp only [addN,lenL_eq,List.length_singleton]
        exact hroom _ (by omega)
       refine and_t (c1 _ hlen) (and_t (c1 _ hlen') (and_t (c2 _ _ hlen) (and_t (c2 _ _ hlen') (and_t (roomB_t ?_) ?_))))
       ·simp only [addN,lenL_eq,List.length_singleton,hy]; exact hroom _ (by omega)
       ·rw [hsub,hsub',natI_nat,add_one (by omega),addW_small (by omega) ?_]
        ·exact h1
        ·have:=Tr.deeps_drop_le st (st.length - n)
         have h3:=Tr.deeps_le_sizes st
         omega
      ·refine l242_15 _ _ _ _ _ _ _ _ _ _ (ite_t (by simp [ltI]; omega) ?_)
       have e:subW .i64 (subW .i64 (intN (lenL (Ns (st.map Tr.deep)))) 1) (k:Int)=((st.length - (k+1):Nat):Int):=by
        have e1:subW .i64 (st.length:Int) 1=(st.length:Int) - 1:=subW_id (by omega) (by omega)
        rw [intN_eq,lenL_eq,hlen',e1,subW_id (by omega) (by omega)]; omega
       have hk':st.length - (k+1)<st.length:=by omega
       rw [e,natI_nat]
       have hg':(Ns (st.map Tr.deep))[st.length - (k+1)]?=some ((st[st.length - (k+1)].deep:Nat):Int):=Ns_get (by simp [hk'])
       rw [rdN_some hg',maxI_nat,add_one (by omega)]
       refine and_t (in_len (by omega)) (and_t (by simp only [ltN,lenL_eq,hlen',decide_eq_true_eq]; exact hk') ?_)
       have e2:=Tr.deeps_drop hk'
       have e3:st.length - (k+1)+1=st.length - k:=by omega
       rw [e3] at e2
       rw [Nat.max_comm,←e2]; exact ih
     have:=inner 0 (Nat.zero_le _)
     rw [Nat.sub_zero,List.drop_length,Tr.deeps_nil] at this
     exact this
    ·have h00:n=0:=by omega
     subst h00
     refine ite_f (by simp [ltI]) ?_
     simp only [Nat.sub_zero,List.take_length,hsz] at h1
     rw [List.take_of_length_le (Nat.le_of_eq hlen),List.take_of_length_le (Nat.le_of_eq hlen'),List.drop_length,Tr.deeps_nil] at h1
     have hroom:∀m,m≤v.length→(m+1) * 8≤140737488355328:=fun m hm=>by omega
     refine and_t (roomB_t ?_) (and_t (roomB_t ?_) (and_t (roomB_t ?_) ?_))
     ·simp only [addN,lenL_eq,List.length_singleton,hlen]; exact hroom _ (by omega)
     ·simp only [addN,lenL_eq,List.length_singleton,hlen']; exact hroom _ (by omega)
     ·simp only [addN,lenL_eq,List.length_singleton,hy]; exact hroom _ (by omega)
     ·rw [add_one (by omega)]; exact h1
   ·have hnone:valT v=none:=by
     refine Tr.read_take_none (i:=i+1) ?_
     rw [hsucc]
     exact Tr.put_none fun h=>hok ⟨h.1,h.2.2⟩
    have hd:valD v=none:=by simp only [valD,hnone]
    rw [hd]
    refine ⟨[],0,l242_5 _ _ _ _ _ _ (ite_t (lt_len hi) (and_t (in_len hi) (and_t (in_len hi) ?_))),fun k hk=>by cases hk⟩
    rw [hrd]
    refine ⟨_,gives282 _,or_of (fun _=>rfl) (ite_t ?_ ⟨rfl,rfl⟩)⟩
    rw [intN_eq,lenL_eq,hlen]
    cases hb:atomB v[i] with
    | false=>rfl
    | true=>
     have:¬v[i].gN≤st.length:=fun h=>hok ⟨hb,h⟩
     simp [notB,ltI]; omega
 obtain ⟨fr,d,h1,h2⟩:=loop 0 (Nat.zero_le _) [] [] rfl rfl
 exact ⟨fr,d,e242 _ _ h1,fun _=>h2⟩
def valE (v:List api_Atom):Int:=if 1024<v.length then 3 else if valOk v then 0 else 5
theorem gives179 (v:List api_Atom):Gives 179 [.d (.sl .api_Atom v)] (.d (.int .i64 (valE v))):=by
 obtain ⟨fr,d,h1,h2⟩:=gives242 v
 refine e179 _ _ (ite_w (fun h=>?_) (fun h=>?_))
 ·have h:=of_decide_eq_true h
  simp only [intN_eq,lenL_eq] at h
  have e:valE v=3:=if_pos (by omega)
  rw [e]; exact ⟨rfl,rfl⟩
 ·have h:=of_decide_eq_false h
  simp only [intN_eq,lenL_eq] at h
  have h2:=h2 (by omega)
  refine ⟨(fr,d,_),h1,or_of (fun _=>rfl) ?_⟩
  have e:valE v=if valOk v then 0 else 5:=if_neg (by omega)
  rw [e]
  cases hd:valD v with
  | none=>
   have:valOk v=false:=by simp [valOk,hd]
   rw [this]
   exact ite_t rfl ⟨rfl,rfl⟩
  | some k=>
   have hk:=h2 k hd
   have:valOk v=decide (k≤32):=by simp [valOk,hd]
   rw [this]
   refine ite_w (fun h=>?_) (fun h=>?_)
   ·have h:ltI 32 d=true:=h
    have h:=of_decide_eq_true h
    have:decide (k≤32)=false:=by rw [decide_eq_false_iff_not]; omega
    rw [this]; exact ⟨rfl,rfl⟩
   ·have h:ltI 32 d=false:=h
    have h:=of_decide_eq_false h
    have:decide (k≤32)=true:=by rw [decide_eq_true_eq]; omega
    rw [this]; exact ⟨rfl,rfl⟩
def whl (p:Nat):List (Tr api_Atom)→List value_whole
 | []=>[]
 | t :: l=>⟨(p:Nat),(t.deep:Nat)⟩ :: whl (p+t.size) l
theorem whl_length:∀(p:Nat) (l:List (Tr api_Atom)),(whl p l).length=l.length
 | _,[]=>rfl
 | p,t :: l=>by simp [whl,whl_length _ l]
theorem whl_append:∀(p:Nat) (l m:List (Tr api_Atom)),whl p (l ++ m)=whl p l ++ whl (p+Tr.sizes l) m
 | p,[],m=>by simp [whl,Tr.sizes]
 | p,t :: l,m=>by simp [whl,Tr.sizes,whl_append _ l m,Nat.add_assoc]
theorem whl_take:∀(p k:Nat) (l:List (Tr api_Atom)),(whl p l).take k=whl p (l.take k)
 | _,0,_=>by simp [whl]
 | _,_+1,[]=>by simp [whl]
 | p,k+1,t :: l=>by simp [whl,whl_take _ k l]
theorem whl_get:∀{p k:Nat} {l:List (Tr api_Atom)} (h:k<l.length),(whl p l)[k]?=some ⟨((p+Tr.sizes (l.take k):Nat):Int),((l[k].deep:Nat):Int)⟩
 | p,0,t :: l,_=>by simp [whl,Tr.sizes]
 | p,k+1,t :: l,h=>by
  have:=whl_get (p:=p+t.size) (k:=k) (l:=l) (by simpa using h)
  simp [whl,Tr.sizes,this,Nat.add_assoc]
theorem slice_ok {n k:Nat} (h:k≤n):(andB (leI 0 (k:Int)) (andB (leI (k:Int) (n:Int)) (andB (leI (n:Int) (n:Int)) true)))=true:=by
 simp [andB,leI]; omega
theorem slice_ok' {n k:Nat} (h:k≤n):(andB (leI 0 0) (andB (leI 0 (k:Int)) (andB (leI (k:Int) (n:Int)) true)))=true:=by
 simp [andB,leI]; omega
theorem fronts_put {α:Type} {st:List (Tr α)} {a:α} {n:Nat} (hn:n≤st.length):Tr.frontss 0 (st.take (st.length - n) ++ [Tr.nd a (st.drop (st.length - n))])=Tr.frontss 0 st ++ [Tr.sizes (st.take (st.length - n))]:=by
 rw [Tr.frontss_append]
 simp only [Tr.frontss,Tr.fronts,List.append_nil,Nat.zero_add]
 rw [←List.append_assoc]
 congr 1
 conv=>rhs; rw [←List.take_append_drop (st.length - n) st]
 rw [Tr.frontss_append,Nat.zero_add]
def WOk (v:List api_Atom) (ws:List value_whole):Prop:=valOk v=true→∀st,valT v=some st→ws.map (fun w=>w.gFrom)=Ns (Tr.frontss 0 st)
theorem gives240 (v:List api_Atom):∃ws:List value_whole,Gives 240 [.d (.sl .api_Atom v)] (.tup [.d (.sl .value_whole ws),.d (.bool (valOk v))])∧(v.length * 40≤140737488355328→WOk v ws):=by
 by_cases hl:v.length * 40≤140737488355328
 case neg=>exact ⟨[],Runs.known fun hk _=>absurd (known_atoms (hk _ (List.mem_cons_self ..))) hl,fun h=>absurd h hl⟩
 let P:Nat→Prop:=fun i=>∀(st:List (Tr api_Atom)) (y14:List value_whole),valT (v.take i)=some st→Tr.deeps st≤32→y14.length=v.length→(y14.take i).map (fun w=>w.gFrom)=Ns (Tr.frontss 0 st)→∃ws,WOk v ws∧
  At K 240 (fun c' H'=>c'=(.tup [.d (.sl .value_whole ws),.d (.bool (valOk v))]:C U)∧H'=[]) t240_3 (s240_3 v (intN (lenL v)) i (whl 0 st) y14)
 have bad:∀(i:Nat),valT (v.take (i+1))=none→valOk v=false:=by
  intro i h
  have:=Tr.read_take_none (ok:=atomB) (ar:=(·.gN)) h
  simp only [valOk,valD,this]
 have deepB:∀(i:Nat) st,valT (v.take i)=some st→32<Tr.deeps st→valOk v=false:=by
  intro i st h h'
  cases hv:valT v with
  | none=>simp only [valOk,valD,hv]
  | some q=>
   have:=Tr.read_take_deeps h hv
   simp only [valOk,valD,hv]
   split
   ·rename_i d hd
    split at hd
    ·rename_i t e
     cases e; cases hd
     rw [Tr.deeps_one] at this
     rw [decide_eq_false_iff_not]; omega
    ·cases hd
   ·rfl
 have loop:∀i,i≤v.length→P i:=by
  refine upto ?_ fun i hi ih=>?_
  ·intro st y14 hst hd hy hyt
   rw [List.take_length] at hst
   rw [←hy,List.take_length] at hyt
   refine ⟨y14,fun _ st' h'=>(by rw [hst] at h'; cases h'; exact hyt),l240_3 _ _ _ _ _ _ (ite_f (lt_len_f (Nat.le_refl _)) ⟨?_,rfl⟩)⟩
   have:valOk v=eqI (intN (lenL (whl 0 st))) 1:=by
    rw [intN_eq,lenL_eq,whl_length]
    by_cases h1:st.length=1
    ·obtain ⟨t,rfl⟩:=List.length_eq_one_iff.1 h1
     rw [Tr.deeps_one] at hd
     simp only [valOk,valD,hst,hd]
     rfl
    ·have hn:valD v=none:=by
      simp only [valD,hst]
      split
      ·rename_i t e; cases e; simp at h1
      ·rfl
     simp only [valOk,hn]
     rw [eq_comm,eqI_f]; omega
   rw [this]
  ·intro st y14 hst hd hy hyt
   have hlen:(whl 0 st).length=st.length:=whl_length _ _
   have hsz:Tr.sizes st=i:=by rw [Tr.read_sizes hst]; simp; omega
   have hle:=Tr.length_le_sizes st
   have hsucc:=Tr.read_take_succ (ok:=atomB) (ar:=(·.gN)) hi hst
   have hrd:rd (api_Atom.mk 0 0 0 (bs [])) v (i:Int)=v[i]:=rd_at hi
   by_cases hok:atomB v[i]=true∧v[i].gN≤st.length
   ·obtain ⟨ho,hN⟩:=hok
    have hp:=atomB_pos ho
    obtain ⟨n,hn⟩:∃n:Nat,v[i].gN=(n:Int):=⟨v[i].gN.toNat,by omega⟩
    have hnl:n≤st.length:=by omega
    rw [Tr.put_of ho hn hnl] at hsucc
    have hsub:subW .i64 (intN (lenL (whl 0 st))) (n:Int)=((st.length - n:Nat):Int):=by
     rw [intN_eq,lenL_eq,hlen,subW_id (by omega) (by omega)]; omega
    have hw:whl 0 (st.take (st.length - n) ++ [Tr.nd v[i] (st.drop (st.length - n))])=(whl 0 st).take (st.length - n) ++ [⟨((Tr.sizes (st.take (st.length - n)):Nat):Int),((Tr.deeps (st.drop (st.length - n))+1:Nat):Int)⟩]:=by
     rw [whl_append,whl_take]; simp [whl,Tr.deep]
    have hds:Tr.deeps (st.take (st.length - n) ++ [Tr.nd v[i] (st.drop (st.length - n))])=max (Tr.deeps (st.take (st.length - n))) (Tr.deeps (st.drop (st.length - n))+1):=by
     rw [Tr.deeps_append,Tr.deeps_one]; simp only [Tr.deep]
    have htk:=Tr.deeps_take_le st (st.length - n)
    have inner:∃ws,WOk v ws∧∀k,k≤n→At K 240 (fun c' H'=>c'=(.tup [.d (.sl .value_whole ws),.d (.bool (valOk v))]:C U)∧H'=[]) t240_10
      (s240_10 i ((st.length - n:Nat):Int) v (intN (lenL v)) i (st.length - n) n (n:Int) k (whl 0 st) (if k=0 then (i:Int) else ((Tr.sizes (st.take (st.length - n)):Nat):Int)) ((Tr.deeps ((st.drop (st.length - n)).take k)+1:Nat):Int) y14):=by
     have last:∃ws,WOk v ws∧At K 240 (fun c' H'=>c'=(.tup [.d (.sl .value_whole ws),.d (.bool (valOk v))]:C U)∧H'=[]) t240_10
      (s240_10 i ((st.length - n:Nat):Int) v (intN (lenL v)) i (st.length - n) n (n:Int) n (whl 0 st) (if n=0 then (i:Int) else ((Tr.sizes (st.take (st.length - n)):Nat):Int)) ((Tr.deeps ((st.drop (st.length - n)).take n)+1:Nat):Int) y14):=by
      have e1:(st.drop (st.length - n)).take n=st.drop (st.length - n):=List.take_of_length_le (by simp; omega)
      have e2:(if n=0 then (i:Int) else ((Tr.sizes (st.take (st.length - n)):Nat):Int))=((Tr.sizes (st.take (st.length - n)):Nat):Int):=by
       split
       ·rename_i h0; subst h0; simp [hsz]
       ·rfl
      rw [e1,e2]
      by_cases hdd:Tr.deeps (st.drop (st.length - n))+1≤32
      ·obtain ⟨ws,hW,h1⟩:=ih _ (y14.set i ⟨((Tr.sizes (st.take (st.length - n)):Nat):Int),((Tr.deeps (st.drop (st.length - n))+1:Nat):Int)⟩) hsucc (by rw [hds]; omega) (by simp [hy]) (by
        rw [List.take_succ_eq_append_getElem (by simp; omega),List.take_set,List.set_eq_of_length_le (by simp; omega),List.map_append,hyt,fronts_put hnl,Ns_append,Ns_one]
        simp)
       rw [hw] at h1
       refine ⟨ws,hW,l240_10 _ _ _ _ _ _ _ _ _ _ _ _ _ _ (ite_f (by simp [ltI]) (ite_f ?_ (and_t (in_len (by omega)) (and_t ?_ (and_t (by rw [intN_eq,lenL_eq,hlen]; exact slice_ok' (by omega)) (and_t ?_ ?_))))))⟩
       ·show decide _=false
        rw [decide_eq_false_iff_not]; omega
       ·show decide _=true
        rw [decide_eq_true_eq,natI_nat,lenL_eq]; omega
       ·rw [natI_nat,andB_true]
        refine ⟨by simp [leN,addN,lenL_eq,hlen],roomB_t ?_⟩
        simp only [addN,lenL_eq,List.length_singleton]; omega
       ·rw [natI_nat,natI_nat,add_one (by omega)]; exact h1
      ·have hnot:=deepB _ _ hsucc (by rw [hds]; omega)
       refine ⟨[],fun h=>(by rw [hnot] at h; cases h),l240_10 _ _ _ _ _ _ _ _ _ _ _ _ _ _ (ite_f (by simp [ltI]) (ite_t ?_ ⟨?_,rfl⟩))⟩
       ·show decide _=true
        rw [decide_eq_true_eq]; omega
       ·rw [hnot]
     obtain ⟨ws,hW,h1⟩:=last
     refine ⟨ws,hW,upto h1 fun k hk ih=>?_⟩
     refine l240_10 _ _ _ _ _ _ _ _ _ _ _ _ _ _ (ite_t (by simp [ltI]; omega) ?_)
     have hkk:st.length - n+k<st.length:=by omega
     have hg:=whl_get (p:=0) hkk
     have hb:(andB (inB (k:Int) n) (leN (addN (st.length - n) n) (lenL (whl 0 st))))=true:=by
      rw [andB_true,inB_iff]
      refine ⟨by omega,?_⟩
      show decide _=true
      rw [decide_eq_true_eq,lenL_eq,hlen]; simp only [addN]; omega
     have hb':ltN (addN (st.length - n) (natI (k:Int))) (lenL (whl 0 st))=true:=by
      show decide _=true
      rw [decide_eq_true_eq,lenL_eq,hlen,natI_nat]; exact hkk
     have e3:rdN (value_whole.mk 0 0) (whl 0 st) (addN (st.length - n) (natI (k:Int)))=⟨((0+Tr.sizes (st.take (st.length - n+k)):Nat):Int),((st[st.length - n+k].deep:Nat):Int)⟩:=rdN_some hg
     have e4:(st.drop (st.length - n)).take (k+1)=(st.drop (st.length - n)).take k ++ [st[st.length - n+k]]:=by
      rw [List.take_succ_eq_append_getElem (by simp; omega)]; simp
     have hdp:st[st.length - n+k].deep≤Tr.deeps st:=Tr.le_deeps (List.getElem_mem _)
     have e5:maxI ((Tr.deeps ((st.drop (st.length - n)).take k)+1:Nat):Int) (addW .i64 ((st[st.length - n+k].deep:Nat):Int) 1)=((Tr.deeps ((st.drop (st.length - n)).take (k+1))+1:Nat):Int):=by
      rw [add_one (by omega),maxI_nat,e4,Tr.deeps_append,Tr.deeps_one]
      congr 1; omega
     refine and_t hb (and_t hb' ?_)
     rw [e3]
     dsimp only
     rw [e5,add_one (by omega)]
     refine ite_w (fun h0=>?_) (fun h0=>?_)
     ·have h0:k=0:=by have:=eqI_t.1 h0; omega
      subst h0
      simpa using ih
     ·have h0:k ≠ 0:=fun e=>by subst e; exact Bool.noConfusion (h0.symm.trans (by rfl:eqI 0 0=true))
      rw [if_neg h0]
      rw [if_neg (by omega)] at ih
      exact ih
    obtain ⟨ws,hW,h1⟩:=inner
    refine ⟨ws,hW,l240_3 _ _ _ _ _ _ (ite_t (lt_len hi) (and_t (in_len hi) ?_))⟩
    rw [hrd]
    refine ⟨_,gives280 _,or_of (fun _=>rfl) (ite_f ?_ ?_)⟩
    ·rw [ho,hn,intN_eq,lenL_eq,hlen]
     show (false || decide ((st.length:Int)<n))=false
     rw [Bool.false_or,decide_eq_false_iff_not]; omega
    ·rw [hn,hsub]
     refine and_t (by rw [intN_eq,lenL_eq,hlen]; exact slice_ok (by omega)) ?_
     have:=h1 0 (Nat.zero_le _)
     simp only [List.take_zero,Tr.deeps_nil,if_true] at this
     have e1:addN 0 (natI ((st.length - n:Nat):Int))=st.length - n:=by simp [addN,natI]
     have e2:subN (natI (intN (lenL (whl 0 st)))) (natI ((st.length - n:Nat):Int))=n:=by
      simp only [intN_eq,lenL_eq,hlen,natI_nat,subN]; omega
     rw [e1,e2]
     exact this
   ·have hf:=bad i (hsucc.trans (Tr.put_none fun h=>hok ⟨h.1,h.2.2⟩))
    rw [hf]
    refine ⟨[],fun h=>(by rw [hf] at h; cases h),l240_3 _ _ _ _ _ _ (ite_t (lt_len hi) (and_t (in_len hi) ?_))⟩
    rw [hrd]
    refine ⟨_,gives280 _,or_of (fun _=>rfl) (ite_t ?_ ⟨rfl,rfl⟩)⟩
    rw [intN_eq,lenL_eq,hlen]
    cases hb:atomB v[i] with
    | false=>rfl
    | true=>
     have:¬v[i].gN≤st.length:=fun h=>hok ⟨hb,h⟩
     simp [notB,ltI]; omega
 obtain ⟨ws,hW,h1⟩:=loop 0 (Nat.zero_le _) [] (replL (intN (lenL v)) (value_whole.mk 0 0)) rfl (by simp [Tr.deeps]) (by simp [replL,intN,lenL]) (by simp [Tr.frontss,Ns])
 refine ⟨ws,e240 _ _ (and_t ?_ h1),fun _=>hW⟩
 rw [intN_eq,lenL_eq]
 rw [andB_true,andB_true]
 refine ⟨decide_eq_true (by omega),decide_eq_true (by omega),decide_eq_true ?_⟩
 rw [room_eq]; omega
theorem gives177 (v:List api_Atom):Gives 177 [.d (.sl .api_Atom v)] (.d (.int .i64 (valE v))):=by
 obtain ⟨ws,h1,_⟩:=gives240 v
 refine e177 _ _ (ite_w (fun h=>?_) (fun h=>?_))
 ·have h:=of_decide_eq_true h
  simp only [intN_eq,lenL_eq] at h
  have e:valE v=3:=if_pos (by omega)
  rw [e]; exact ⟨rfl,rfl⟩
 ·have h:=of_decide_eq_false h
  simp only [intN_eq,lenL_eq] at h
  have e:valE v=if valOk v then 0 else 5:=if_neg (by omega)
  rw [e]
  refine ⟨(ws,valOk v),h1,ite_w (fun h=>?_) (fun h=>?_)⟩
  ·have h:=notB_t.1 h
   dsimp only at h
   rw [h]; exact ⟨rfl,rfl⟩
  ·have h:=notB_f.1 h
   dsimp only at h
   rw [h]; exact ⟨rfl,rfl⟩
def sortN (k:Int):Int:=if (ltI k 0 || leI 12 k)=true then 0 else rd 0 [0,1,1,1,1,1,1,1,2,3,4,1] k
theorem gives301 (k:Int):Gives 301 [.d (.int .i64 k)] (.d (.int .i64 (sortN k))):=by
 refine e301 _ _ (or_of (fun _=>rfl) (ite_w (fun h=>?_) (fun h=>?_)))
 ·have:sortN k=0:=if_pos h
  rw [this]; exact ⟨rfl,rfl⟩
 ·have e:sortN k=rd 0 [0,1,1,1,1,1,1,1,2,3,4,1] k:=if_neg (by rw [h]; simp)
  rw [e]
  rw [Bool.or_eq_false_iff] at h
  have h1:=of_decide_eq_false h.1
  have h2:=of_decide_eq_false h.2
  exact and_t (inB_iff.2 ⟨by omega,by omega⟩) ⟨rfl,rfl⟩
def fitB (k:Int) (t:ByteArray):Bool:=
 if k=1∨k=2∨k=8 then true else if k=3 then inB' wordL t else if k=4∨k=5∨k=9 then nameB t else strEq t (bs [])
theorem kinds (k:Int):k=1∨k=2∨k=3∨k=4∨k=5∨k=6∨k=7∨k=8∨k=9∨k=10∨k=11∨(k ≠ 1∧k ≠ 2∧k ≠ 3∧k ≠ 4∧k ≠ 5∧k ≠ 6∧k ≠ 7∧k ≠ 8∧k ≠ 9∧k ≠ 10∧k ≠ 11):=by omega
theorem gives302 (k:Int) (t:ByteArray):Gives 302 [.d (.int .i64 k),.d (.str t)] (.d (.bool (fitB k t))):=by
 refine e302 _ _ _ ?_
 rcases kinds k with rfl|rfl|rfl|rfl|rfl|rfl|rfl|rfl|rfl|rfl|rfl|⟨h1,h2,h3,h4,h5,h6,h7,h8,h9,h10,h11⟩
 ·simp only [eqI,Int.reduceBEq,iteP]; exact ⟨rfl,rfl⟩
 ·simp only [eqI,Int.reduceBEq,iteP]; exact ⟨rfl,rfl⟩
 ·simp only [eqI,Int.reduceBEq,iteP]; exact ⟨_,gives80 wordL t,rfl,rfl⟩
 ·simp only [eqI,Int.reduceBEq,iteP]; exact ⟨_,gives153 t,rfl,rfl⟩
 ·simp only [eqI,Int.reduceBEq,iteP]; exact ⟨_,gives153 t,rfl,rfl⟩
 ·simp only [eqI,Int.reduceBEq,iteP]; exact ⟨rfl,rfl⟩
 ·simp only [eqI,Int.reduceBEq,iteP]; exact ⟨rfl,rfl⟩
 ·simp only [eqI,Int.reduceBEq,iteP]; exact ⟨rfl,rfl⟩
 ·simp only [eqI,Int.reduceBEq,iteP]; exact ⟨_,gives153 t,rfl,rfl⟩
 ·simp only [eqI,Int.reduceBEq,iteP]; exact ⟨rfl,rfl⟩
 ·simp only [eqI,Int.reduceBEq,iteP]; exact ⟨rfl,rfl⟩
 ·have e:fitB k t=strEq t (bs []):=by
   unfold fitB
   rw [if_neg (by omega),if_neg h3,if_neg (by omega)]
  rw [e]
  simp only [eqI_f.2 h1,eqI_f.2 h2,eqI_f.2 h3,eqI_f.2 h4,eqI_f.2 h5,eqI_f.2 h8,eqI_f.2 h9,iteP]
  exact ⟨rfl,rfl⟩
def crackB (c:api_Crack):Bool:=
 if sortN c.gKind=1 then (eqI c.gN 0 && leI (intN (strLen c.gText)) 4096) && fitB c.gKind c.gText
 else if sortN c.gKind=2 then ((eqI c.gN 0 || eqI c.gN 1) && leI (intN (strLen c.gText)) 4096) && fitB c.gKind c.gText
 else if sortN c.gKind=3 then (eqI c.gN 1 && leI (intN (strLen c.gText)) 4096) && fitB c.gKind c.gText
 else if sortN c.gKind=4 then (leI 1 c.gN && leI (intN (strLen c.gText)) 4096) && fitB c.gKind c.gText
 else false
abbrev crackC (a:api_Crack):C U:=.agg [.d (.int .i64 a.gKind),.d (.int .i64 a.gN),.d (.str a.gText)]
theorem gives281 (c:api_Crack):Gives 281 [crackC c] (.d (.bool (crackB c))):=by
 refine e281 _ _ ⟨_,gives301 _,sw (fun h1=>?_) (fun h1=>sw (fun h2=>?_) (fun h2=>sw (fun h3=>?_) (fun h3=>sw (fun h4=>?_) (fun h4=>?_))))⟩
 ·simp only [crackB,if_pos h1]
  exact and_of (fun _=>rfl) (and_of (fun _=>⟨_,gives302 _ _,rfl⟩) ⟨rfl,rfl⟩)
 ·simp only [crackB,if_neg h1,if_pos h2]
  exact or_of (fun _=>rfl) (and_of (fun _=>rfl) (and_of (fun _=>⟨_,gives302 _ _,rfl⟩) ⟨rfl,rfl⟩))
 ·simp only [crackB,if_neg h1,if_neg h2,if_pos h3]
  exact and_of (fun _=>rfl) (and_of (fun _=>⟨_,gives302 _ _,rfl⟩) ⟨rfl,rfl⟩)
 ·simp only [crackB,if_neg h1,if_neg h2,if_neg h3,if_pos h4]
  exact and_of (fun _=>rfl) (and_of (fun _=>⟨_,gives302 _ _,rfl⟩) ⟨rfl,rfl⟩)
 ·simp only [crackB,if_neg h1,if_neg h2,if_neg h3,if_neg h4]
  exact ⟨false,rfl,and_of (b:=true) (fun h=>by cases h) ⟨rfl,rfl⟩⟩
theorem crackB_pos {a:api_Crack} (h:crackB a=true):0≤a.gN:=by
 unfold crackB at h
 split at h
 ·simp only [Bool.and_eq_true,eqI_t] at h; omega
 ·split at h
  ·simp only [Bool.and_eq_true,Bool.or_eq_true,eqI_t] at h; omega
  ·split at h
   ·simp only [Bool.and_eq_true,eqI_t] at h; omega
   ·split at h
    ·simp only [Bool.and_eq_true] at h
     have:=of_decide_eq_true h.1.1
     omega
    ·cases h
abbrev failT (v:List api_Crack):Option (List (Tr api_Crack)):=Tr.read crackB (·.gN) [] v
def failOk (v:List api_Crack):Bool:=match failT v with
 | some [_]=>true
 | _=>false
theorem failOk_one {v:List api_Crack} {st:List (Tr api_Crack)} (h:failT v=some st):failOk v=eqI (st.length:Int) 1:=by
 simp only [failOk,h]
 split
 ·rename_i t e; cases e; rfl
 ·rename_i hn
  rw [eq_comm,eqI_f]
  intro h1
  obtain ⟨t,rfl⟩:=List.length_eq_one_iff.1 (by omega:st.length=1)
  exact hn t rfl
theorem failOk_none {v:List api_Crack} (h:failT v=none):failOk v=false:=by simp only [failOk,h]
theorem setL_get {α:Type} {d:α} {l:List α} {i:Nat} {x:α} (h:i<l.length):rdN d (setL l i x) i=x:=by
 refine rdN_some ?_
 simp [setL,h]
theorem ltN_t {a b:Nat} (h:a<b):ltN a b=true:=decide_eq_true h
theorem leN_t {a b:Nat} (h:a≤b):leN a b=true:=decide_eq_true h
section
variable {v:List api_Crack} {i:Nat} {st:List (Tr api_Crack)}
theorem crack_bad (hi:i<v.length) (hst:failT (v.take i)=some st) (hok:¬(crackB v[i]=true∧v[i].gN≤st.length)):failOk v=false∧(notB (crackB v[i]) || ltI (intN (lenL (Ns (Tr.starts 0 st)))) v[i].gN)=true:=by
 refine ⟨failOk_none (Tr.read_take_none (i:=i+1) ((Tr.read_take_succ hi hst).trans (Tr.put_none fun h=>hok ⟨h.1,h.2.2⟩))),?_⟩
 rw [intN_eq,lenL_eq,Ns_length,Tr.starts_length]
 cases hb:crackB v[i] with
 | false=>rfl
 | true=>
  have:¬v[i].gN≤st.length:=fun h=>hok ⟨hb,h⟩
  simp [notB,ltI]; omega
end
theorem gives241 (v:List api_Crack):∃fr,Gives 241 [.d (.sl .api_Crack v)] (.tup [.d (.sl .int fr),.d (.bool (failOk v))]):=by
 by_cases hl:v.length * 32≤140737488355328
 case neg=>exact ⟨[],Runs.known fun hk _=>absurd (known_cracks (hk _ (List.mem_cons_self ..))) hl⟩
 let P:Nat→Prop:=fun i=>∀(st:List (Tr api_Crack)) (y10:List Int),failT (v.take i)=some st→y10.length=v.length→∃fr:List Int,
  At K 241 (fun c' H'=>c'=(.tup [.d (.sl .int fr),.d (.bool (failOk v))]:C U)∧H'=[]) t241_3 (s241_3 v (intN (lenL v)) i (Ns (Tr.starts 0 st)) y10)
 have loop:∀i,i≤v.length→P i:=by
  refine upto ?_ fun i hi ih=>?_
  ·intro st y10 hst hy
   rw [List.take_length] at hst
   refine ⟨y10,l241_3 _ _ _ _ _ _ (ite_f (lt_len_f (Nat.le_refl _)) ⟨?_,rfl⟩)⟩
   rw [failOk_one hst,intN_eq,lenL_eq,Ns_length,Tr.starts_length]
  ·intro st y10 hst hy
   have hlen:(Ns (Tr.starts 0 st)).length=st.length:=by rw [Ns_length,Tr.starts_length]
   have hsz:Tr.sizes st=i:=by rw [Tr.read_sizes hst]; simp; omega
   have hle:=Tr.length_le_sizes st
   have hrd:rd (api_Crack.mk 0 0 (bs [])) v (i:Int)=v[i]:=rd_at hi
   have hroom:∀m,m≤v.length→(m+1) * 8≤140737488355328:=fun m hm=>by omega
   by_cases hok:crackB v[i]=true∧v[i].gN≤st.length
   ·obtain ⟨ho,hN⟩:=hok
    have hp:=crackB_pos ho
    obtain ⟨n,hn⟩:∃n:Nat,v[i].gN=(n:Int):=⟨v[i].gN.toNat,by omega⟩
    have hnl:n≤st.length:=by omega
    have hsucc:=(Tr.read_take_succ (ok:=crackB) (ar:=(·.gN)) hi hst).trans (Tr.put_of ho hn hnl)
    have hsub:subW .i64 (intN (lenL (Ns (Tr.starts 0 st)))) (n:Int)=((st.length - n:Nat):Int):=by
     rw [intN_eq,lenL_eq,hlen,subW_id (by omega) (by omega)]; omega
    have in1:∀L:List Int,lenL L=v.length→inB (i:Int) (lenL L)=true:=fun L h=>by rw [inB_iff,h]; omega
    have lt1:∀L:List Int,lenL L=v.length→ltN (natI (i:Int)) (lenL L)=true:=fun L h=>ltN_t (by rw [h,natI_nat]; exact hi)
    have hgen:∀y:List Int,y.length=v.length→∃fr:List Int,At K 241 (fun c' H'=>c'=(.tup [.d (.sl .int fr),.d (.bool (failOk v))]:C U)∧H'=[]) t241_3
      (s241_3 v (intN (lenL v)) ((i+1:Nat):Int) ((Ns (Tr.starts 0 st)).take (st.length - n) ++ [((Tr.sizes (st.take (st.length - n)):Nat):Int)]) y):=by
     intro y hy'
     obtain ⟨fr,h1⟩:=ih _ y hsucc hy'
     rw [starts_put hnl,Ns_append,←Ns_take,Ns_one] at h1
     exact ⟨fr,h1⟩
    have hy1:(setL y10 (natI (i:Int)) (i:Int)).length=v.length:=by simp [setL,hy]
    have hin1:natI (i:Int)<(setL y10 (natI (i:Int)) (i:Int)).length:=by rw [hy1,natI_nat]; exact hi
    by_cases h0:0<n
    ·have hk:st.length - n<st.length:=by omega
     obtain ⟨fr,h1⟩:=hgen (setL (setL y10 (natI (i:Int)) (i:Int)) (natI (i:Int)) ((Tr.sizes (st.take (st.length - n)):Nat):Int)) (by simp [setL,hy])
     refine ⟨fr,l241_3 _ _ _ _ _ _ (ite_t (lt_len hi) (and_t (in_len hi) ?_))⟩
     rw [hrd]
     refine ⟨_,gives281 _,or_of (fun _=>rfl) (ite_f ?_ ?_)⟩
     ·rw [ho,hn,intN_eq,lenL_eq,hlen]
      show (false || decide ((st.length:Int)<n))=false
      rw [Bool.false_or,decide_eq_false_iff_not]; omega
     rw [hn]
     refine and_t (in1 _ hy) (and_t (lt1 _ hy) (ite_t (by simp [ltI]; omega) ?_))
     rw [hsub,natI_nat (st.length - n),rdN_some (Ns_get (start_at hk)),setL_get hin1]
     refine and_t (in_len (by omega)) (and_t (ltN_t (by rw [lenL_eq,hlen]; exact hk)) (and_t (in1 _ (by simp [lenL,setL,hy])) (and_t (lt1 _ (by simp [lenL,setL,hy])) (and_t (by rw [intN_eq,lenL_eq,hlen]; exact slice_ok' (by omega)) (and_t (in1 _ (by simp [lenL,setL,hy])) (and_t (lt1 _ (by simp [lenL,setL,hy])) (and_t ?_ ?_)))))))
     ·rw [andB_true]
      refine ⟨leN_t (by simp only [addN,lenL_eq,hlen]; omega),roomB_t ?_⟩
      simp only [addN,lenL_eq,List.length_singleton]; exact hroom _ (by omega)
     ·rw [add_one (by omega)]; exact h1
    ·have h00:n=0:=by omega
     subst h00
     obtain ⟨fr,h1⟩:=hgen (setL y10 (natI (i:Int)) (i:Int)) hy1
     refine ⟨fr,l241_3 _ _ _ _ _ _ (ite_t (lt_len hi) (and_t (in_len hi) ?_))⟩
     rw [hrd]
     refine ⟨_,gives281 _,or_of (fun _=>rfl) (ite_f ?_ ?_)⟩
     ·rw [ho,hn,intN_eq,lenL_eq,hlen]
      show (false || decide ((st.length:Int)<(0:Nat)))=false
      rw [Bool.false_or,decide_eq_false_iff_not]; omega
     rw [hn]
     refine and_t (in1 _ hy) (and_t (lt1 _ hy) (ite_f (by simp [ltI]) ?_))
     rw [hsub,natI_nat (st.length - 0),setL_get (by rw [hy,natI_nat]; exact hi)]
     refine and_t (by rw [intN_eq,lenL_eq,hlen]; exact slice_ok' (by omega)) (and_t (in1 _ (by simp [lenL,setL,hy])) (and_t (lt1 _ (by simp [lenL,setL,hy])) (and_t ?_ ?_)))
     ·rw [andB_true]
      refine ⟨leN_t (by simp only [addN,lenL_eq,hlen]; omega),roomB_t ?_⟩
      simp only [addN,lenL_eq,List.length_singleton]; exact hroom _ (by omega)
     ·rw [add_one (by omega)]
      simp only [Nat.sub_zero,List.take_length,hsz] at h1 ⊢
      exact h1
   ·obtain ⟨hf,hb⟩:=crack_bad hi hst hok
    rw [hf]
    refine ⟨[],l241_3 _ _ _ _ _ _ (ite_t (lt_len hi) (and_t (in_len hi) ?_))⟩
    rw [hrd]
    exact ⟨_,gives281 _,or_of (fun _=>rfl) (ite_t hb ⟨rfl,rfl⟩)⟩
 obtain ⟨fr,h1⟩:=loop 0 (Nat.zero_le _) [] (replL (intN (lenL v)) 0) rfl (by simp [replL,intN,lenL])
 refine ⟨fr,e241 _ _ (and_t ?_ h1)⟩
 rw [intN_eq,lenL_eq,andB_true,andB_true]
 refine ⟨decide_eq_true (by omega),decide_eq_true (by omega),decide_eq_true ?_⟩
 rw [room_eq]; omega
def failE (v:List api_Crack):Int:=if 1024<v.length then 3 else if failOk v then 0 else 5
theorem failE_small {v:List api_Crack} (h:failE v=0):failOk v=true:=by
 unfold failE at h
 by_cases h1:1024<v.length
 ·rw [if_pos h1] at h; omega
 ·rw [if_neg h1] at h
  cases hf:failOk v with
  | true=>rfl
  | false=>rw [hf] at h; simp at h
theorem failOk_pos {v:List api_Crack} (h:failOk v=true):0<v.length:=by
 cases v with
 | nil=>rw [failOk_one (v:=[]) (st:=[]) rfl] at h; cases h
 | cons a r=>simp
theorem gives178 (v:List api_Crack):Gives 178 [.d (.sl .api_Crack v)] (.d (.int .i64 (failE v))):=by
 obtain ⟨ws,h1⟩:=gives241 v
 refine e178 _ _ (ite_w (fun h=>?_) (fun h=>?_))
 ·have h:=of_decide_eq_true h
  simp only [intN_eq,lenL_eq] at h
  have e:failE v=3:=if_pos (by omega)
  rw [e]; exact ⟨rfl,rfl⟩
 ·have h:=of_decide_eq_false h
  simp only [intN_eq,lenL_eq] at h
  have e:failE v=if failOk v then 0 else 5:=if_neg (by omega)
  rw [e]
  refine ⟨(ws,failOk v),h1,ite_w (fun h=>?_) (fun h=>?_)⟩
  ·have h:=notB_t.1 h
   dsimp only at h
   rw [h]; exact ⟨rfl,rfl⟩
  ·have h:=notB_f.1 h
   dsimp only at h
   rw [h]; exact ⟨rfl,rfl⟩
abbrev outC (o:api_Outcome):C U:=.agg [.d (.int .i64 o.gKind),.d (.sl .api_Atom o.gValue),.d (.sl .api_Crack o.gFail)]
def lastK (v:List api_Crack):Int:=(rd (api_Crack.mk 0 0 (bs [])) v (subW .i64 (intN (lenL v)) 1)).gKind
theorem lastK_in {v:List api_Crack} (h:eqI (failE v) 0=true) (hl:v.length<4611686018427387904):inB (subW .i64 (intN (lenL v)) 1) (lenL v)=true:=by
 have:=failOk_pos (failE_small (eqI_t.1 h))
 rw [intN_eq,lenL_eq,subW_id (by omega) (by omega)]
 have e:(v.length:Int) - 1=((v.length - 1:Nat):Int):=by omega
 rw [e]; exact in_len (by omega)
def outR (o:api_Outcome):Bool:=
 if eqI o.gKind 1 then eqI (intN (lenL o.gFail)) 0 && eqI (valE o.gValue) 0
 else if eqI o.gKind 2 then eqI (intN (lenL o.gValue)) 0 && eqI (failE o.gFail) 0
 else if eqI o.gKind 3 then (eqI (intN (lenL o.gValue)) 0 && eqI (failE o.gFail) 0) && eqI (lastK o.gFail) 2
 else false
abbrev opC (o:api_Op):C U:=.agg [.d (.int .i64 o.gKind),.d (.int .i64 o.gN),.d (.int .i64 o.gInt),.d (.str o.gText)]
theorem known_ops {l:List api_Op} (h:C.Known K (.d (.sl (U:=U) .api_Op l))):l.length * 40≤140737488355328:=h.d.sl.1
def arN (o:api_Op):Int:=
 if o.gKind=1∨o.gKind=2∨o.gKind=3∨o.gKind=4 then 0
 else if o.gKind=11∨o.gKind=16∨o.gKind=17∨o.gKind=18 then 1
 else if o.gKind=6∨o.gKind=7∨o.gKind=8∨o.gKind=9∨o.gKind=10∨o.gKind=12∨o.gKind=13∨o.gKind=15∨o.gKind=19 then 2
 else if o.gKind=14 then 3
 else if o.gKind=5 then o.gN
 else -1
theorem opKinds (k:Int):k=1∨k=2∨k=3∨k=4∨k=5∨k=6∨k=7∨k=8∨k=9∨k=10∨k=11∨k=12∨k=13∨k=14∨k=15∨k=16∨k=17∨k=18∨k=19∨(k<1∨19<k):=by omega
theorem gives218 (o:api_Op):Gives 218 [opC o] (.d (.int .i64 (arN o))):=by
 obtain ⟨k,n,i,t⟩:=o
 refine e218 _ _ ?_
 rcases opKinds k with rfl|rfl|rfl|rfl|rfl|rfl|rfl|rfl|rfl|rfl|rfl|rfl|rfl|rfl|rfl|rfl|rfl|rfl|rfl|h
 ·simp only [eqI,Int.reduceBEq,iteP]; exact ⟨rfl,rfl⟩
 ·simp only [eqI,Int.reduceBEq,iteP]; exact ⟨rfl,rfl⟩
 ·simp only [eqI,Int.reduceBEq,iteP]; exact ⟨rfl,rfl⟩
 ·simp only [eqI,Int.reduceBEq,iteP]; exact ⟨rfl,rfl⟩
 ·simp only [eqI,Int.reduceBEq,iteP]; exact ⟨rfl,rfl⟩
 ·simp only [eqI,Int.reduceBEq,iteP]; exact ⟨rfl,rfl⟩
 ·simp only [eqI,Int.reduceBEq,iteP]; exact ⟨rfl,rfl⟩
 ·simp only [eqI,Int.reduceBEq,iteP]; exact ⟨rfl,rfl⟩
 ·simp only [eqI,Int.reduceBEq,iteP]; exact ⟨rfl,rfl⟩
 ·simp only [eqI,Int.reduceBEq,iteP]; exact ⟨rfl,rfl⟩
 ·simp only [eqI,Int.reduceBEq,iteP]; exact ⟨rfl,rfl⟩
 ·simp only [eqI,Int.reduceBEq,iteP]; exact ⟨rfl,rfl⟩
 ·simp only [eqI,Int.reduceBEq,iteP]; exact ⟨rfl,rfl⟩
 ·simp only [eqI,Int.reduceBEq,iteP]; exact ⟨rfl,rfl⟩
 ·simp only [eqI,Int.reduceBEq,iteP]; exact ⟨rfl,rfl⟩
 ·simp only [eqI,Int.reduceBEq,iteP]; exact ⟨rfl,rfl⟩
 ·simp only [eqI,Int.reduceBEq,iteP]; exact ⟨rfl,rfl⟩
 ·simp only [eqI,Int.reduceBEq,iteP]; exact ⟨rfl,rfl⟩
 ·simp only [eqI,Int.reduceBEq,iteP]; exact ⟨rfl,rfl⟩
 ·have e:arN ⟨k,n,i,t⟩=-1:=by
   unfold arN
   dsimp only
   rw [if_neg (by omega),if_neg (by omega),if_neg (by omega),if_neg (by omega),if_neg (by omega)]
  rw [e]
  simp only [eqI_f.2 (show k ≠ 1 by omega),eqI_f.2 (show k ≠ 2 by omega),eqI_f.2 (show k ≠ 3 by omega),eqI_f.2 (show k ≠ 4 by omega),eqI_f.2 (show k ≠ 5 by omega),eqI_f.2 (show k ≠ 6 by omega),eqI_f.2 (show k ≠ 7 by omega),eqI_f.2 (show k ≠ 8 by omega),eqI_f.2 (show k ≠ 9 by omega),eqI_f.2 (show k ≠ 10 by omega),eqI_f.2 (show k ≠ 11 by omega),eqI_f.2 (show k ≠ 12 by omega),eqI_f.2 (show k ≠ 13 by omega),eqI_f.2 (show k ≠ 14 by omega),eqI_f.2 (show k ≠ 15 by omega),eqI_f.2 (show k ≠ 16 by omega),eqI_f.2 (show k ≠ 17 by omega),eqI_f.2 (show k ≠ 18 by omega),eqI_f.2 (show k ≠ 19 by omega),iteP]
  exact ⟨rfl,rfl⟩
def opB (o:api_Op):Bool:=
  notB (ltI (arN o) 0 || notB (eqI (arN o) o.gN)) &&
    (if o.gKind=1 then (leI (Int.negSucc 9007199254740991) o.gInt && leI o.gInt 9007199254740992) && strEq o.gText (bs [])
     else if o.gKind=2 then eqI o.gInt 0
     else if o.gKind=3∨o.gKind=4∨o.gKind=18∨o.gKind=19 then eqI o.gInt 0 && nameB o.gText
     else eqI o.gInt 0 && strEq o.gText (bs []))
theorem gives149 (o:api_Op):Gives 149 [opC o] (.d (.bool (opB o))):=by
 refine e149 _ _ ⟨_,gives218 o,or_of (fun _=>rfl) (ite_w (fun h=>?_) (fun h=>?_))⟩
 ·rw [opB,h]; exact ⟨rfl,rfl⟩
 rw [opB,h]
 have nm:∀{p:Bool→Prop},p (eqI o.gInt 0 && nameB o.gText)→∃(v:Bool),iteP (eqI o.3 0) (∃(x:Bool),(Gives 153 [C.d (D.str o.4)] (C.d (D.bool x)))∧x=v) (false=v)∧p v:=fun hp=>and_of (fun _=>⟨_,gives153 _,rfl⟩) hp
 refine sw (fun h1=>?_) (fun h1=>sw (fun h2=>?_) (fun h2=>sw (fun h3=>ite_t (eqI_t.2 h3) (nm ?_)) (fun h3=>sw (fun h4=>ite_t (eqI_t.2 h4) (nm ?_)) (fun h4=>sw (fun h5=>ite_t (eqI_t.2 h5) (nm ?_)) (fun h5=>sw (fun h6=>nm ?_) (fun h6=>?_))))))
 ·rw [if_pos h1]; exact and_of (fun _=>rfl) (and_of (fun _=>rfl) ⟨rfl,rfl⟩)
 ·rw [if_neg h1,if_pos h2]; exact ⟨rfl,rfl⟩
 ·rw [if_neg h1,if_neg h2,if_pos (by omega)]; exact ⟨rfl,rfl⟩
 ·rw [if_neg h1,if_neg h2,if_pos (by omega)]; exact ⟨rfl,rfl⟩
 ·rw [if_neg h1,if_neg h2,if_pos (by omega)]; exact ⟨rfl,rfl⟩
 ·rw [if_neg h1,if_neg h2,if_pos (by omega)]; exact ⟨rfl,rfl⟩
 ·rw [if_neg h1,if_neg h2,if_neg (by omega)]; exact and_of (fun _=>rfl) ⟨rfl,rfl⟩
theorem opB_ar {o:api_Op} (h:opB o=true):arN o=o.gN∧0≤o.gN:=by
 simp only [opB,Bool.and_eq_true,notB_t,Bool.or_eq_false_iff,notB_f] at h
 have h1:=h.1.1
 have h2:=eqI_t.1 h.1.2
 simp only [ltI,decide_eq_false_iff_not] at h1
 omega
theorem opB_pos {o:api_Op} (h:opB o=true):0≤o.gN:=(opB_ar h).2
abbrev exprT (v:List api_Op):Option (List (Tr api_Op)):=Tr.read opB (·.gN) [] v
def exprOk (v:List api_Op):Bool:=match exprT v with
 | some [_]=>true
 | _=>false
theorem exprOk_one {v:List api_Op} {st:List (Tr api_Op)} (h:exprT v=some st):exprOk v=eqI (st.length:Int) 1:=by
 simp only [exprOk,h]
 match st with
 | []=>rfl
 | [_]=>rfl
 | _ :: _ :: l=>exact (eqI_f.2 (by simp only [List.length_cons]; omega)).symm
theorem exprOk_tree {v:List api_Op} (h:exprOk v=true):∃t,exprT v=some [t]:=by
 unfold exprOk at h
 split at h
 ·exact ⟨_,by assumption⟩
 ·cases h
theorem op_bad {v:List api_Op} {i:Nat} {st:List (Tr api_Op)} (hi:i<v.length) (hst:exprT (v.take i)=some st) (hok:¬(opB v[i]=true∧v[i].gN≤st.length)):
  exprOk v=false∧(notB (opB v[i]) || ltI (intN (lenL (Ns (Tr.starts 0 st)))) v[i].gN)=true∧exprT v=none:=by
 have hn:exprT v=none:=Tr.read_take_none (i:=i+1) ((Tr.read_take_succ hi hst).trans (Tr.put_none fun h=>hok ⟨h.1,h.2.2⟩))
 refine ⟨by simp only [exprOk,hn],?_,hn⟩
 rw [intN_eq,lenL_eq,Ns_length,Tr.starts_length]
 cases hb:opB v[i] with
 | false=>rfl
 | true=>
  have:¬v[i].gN≤st.length:=fun h=>hok ⟨hb,h⟩
  simp [notB,ltI]; omega
theorem take_set1 {y:List Int} {i:Nat} {a:Int} (hi:i<y.length):(setL y i a).take (i+1)=y.take i ++ [a]:=by
 unfold setL
 rw [List.take_succ_eq_append_getElem (by simpa using hi),List.take_set,List.set_eq_of_length_le (by simp; omega)]
 simp
theorem take_set2 {y:List Int} {i:Nat} {a b:Int} (hi:i<y.length):(setL (setL y i a) i b).take (i+1)=y.take i ++ [b]:=by
 rw [take_set1 (by simp [setL]; exact hi)]
 unfold setL
 rw [List.take_set,List.set_eq_of_length_le (by simp; omega)]
theorem gives77 (v:List api_Op):∃fr,Gives 77 [.d (.sl .api_Op v)] (.tup [.d (.sl .int fr),.d (.bool (exprOk v))])∧(v.length * 40≤140737488355328→∀st,exprT v=some st→fr=Ns (Tr.frontss 0 st)):=by
 by_cases hl:v.length * 40≤140737488355328
 case neg=>exact ⟨[],Runs.known fun hk _=>absurd (known_ops (hk _ (List.mem_cons_self ..))) hl,fun h=>absurd h hl⟩
 let P:Nat→Prop:=fun i=>∀(st:List (Tr api_Op)) (y11:List Int),exprT (v.take i)=some st→y11.length=v.length→y11.take i=Ns (Tr.frontss 0 st)→∃fr:List Int,
  At K 77 (fun c' H'=>c'=(.tup [.d (.sl .int fr),.d (.bool (exprOk v))]:C U)∧H'=[]) t77_3 (s77_3 v (intN (lenL v)) i (Ns (Tr.starts 0 st)) y11)∧∀st',exprT v=some st'→fr=Ns (Tr.frontss 0 st')
 have loop:∀i,i≤v.length→P i:=by
  refine upto ?_ fun i hi ih=>?_
  ·intro st y11 hst hy hyt
   rw [List.take_length] at hst
   rw [←hy,List.take_length] at hyt
   refine ⟨y11,l77_3 _ _ _ _ _ _ (ite_f (lt_len_f (Nat.le_refl _)) ⟨?_,rfl⟩),fun st' h'=>by rw [hst] at h'; cases h'; exact hyt⟩
   rw [exprOk_one hst,intN_eq,lenL_eq,Ns_length,Tr.starts_length]
  ·intro st y11 hst hy hyt
   have hlen:(Ns (Tr.starts 0 st)).length=st.length:=by rw [Ns_length,Tr.starts_length]
   have hsz:Tr.sizes st=i:=by rw [Tr.read_sizes hst]; simp; omega
   have hle:=Tr.length_le_sizes st
   have hrd:rd (api_Op.mk 0 0 0 (bs [])) v (i:Int)=v[i]:=rd_at hi
   have hroom:∀m,m≤v.length→(m+1) * 8≤140737488355328:=fun m hm=>by omega
   by_cases hok:opB v[i]=true∧v[i].gN≤st.length
   ·obtain ⟨ho,hN⟩:=hok
    have hp:=opB_pos ho
    obtain ⟨n,hn⟩:∃n:Nat,v[i].gN=(n:Int):=⟨v[i].gN.toNat,by omega⟩
    have hnl:n≤st.length:=by omega
    have hsucc:=(Tr.read_take_succ (ok:=opB) (ar:=(·.gN)) hi hst).trans (Tr.put_of ho hn hnl)
    have hsub:subW .i64 (intN (lenL (Ns (Tr.starts 0 st)))) (n:Int)=((st.length - n:Nat):Int):=by
     rw [intN_eq,lenL_eq,hlen,subW_id (by omega) (by omega)]; omega
    have in1:∀L:List Int,lenL L=v.length→inB (i:Int) (lenL L)=true:=fun L h=>by rw [inB_iff,h]; omega
    have lt1:∀L:List Int,lenL L=v.length→ltN (natI (i:Int)) (lenL L)=true:=fun L h=>ltN_t (by rw [h,natI_nat]; exact hi)
    have hgen:∀y:List Int,y.length=v.length→y.take (i+1)=y11.take i ++ [((Tr.sizes (st.take (st.length - n)):Nat):Int)]→∃fr:List Int,At K 77 (fun c' H'=>c'=(.tup [.d (.sl .int fr),.d (.bool (exprOk v))]:C U)∧H'=[]) t77_3
      (s77_3 v (intN (lenL v)) ((i+1:Nat):Int) ((Ns (Tr.starts 0 st)).take (st.length - n) ++ [((Tr.sizes (st.take (st.length - n)):Nat):Int)]) y)∧∀st',exprT v=some st'→fr=Ns (Tr.frontss 0 st'):=by
     intro y hy' hyt'
     obtain ⟨fr,h1,h2⟩:=ih _ y hsucc hy' (by rw [fronts_put hnl,Ns_append,←hyt,hyt',Ns_one])
     rw [starts_put hnl,Ns_append,←Ns_take,Ns_one] at h1
     exact ⟨fr,h1,h2⟩
    have hy1:(setL y11 (natI (i:Int)) (i:Int)).length=v.length:=by simp [setL,hy]
    have hin1:natI (i:Int)<(setL y11 (natI (i:Int)) (i:Int)).length:=by rw [hy1,natI_nat]; exact hi
    by_cases h0:0<n
    ·have hk:st.length - n<st.length:=by omega
     obtain ⟨fr,h1,h2⟩:=hgen (setL (setL y11 (natI (i:Int)) (i:Int)) (natI (i:Int)) ((Tr.sizes (st.take (st.length - n)):Nat):Int)) (by simp [setL,hy]) (by rw [natI_nat,take_set2 (by rw [hy]; exact hi)])
     refine ⟨fr,l77_3 _ _ _ _ _ _ (ite_t (lt_len hi) (and_t (in_len hi) ?_)),h2⟩
     rw [hrd]
     refine ⟨_,gives149 _,or_of (fun _=>rfl) (ite_f ?_ ?_)⟩
     ·rw [ho,hn,intN_eq,lenL_eq,hlen]
      show (false || decide ((st.length:Int)<n))=false
      rw [Bool.false_or,decide_eq_false_iff_not]; omega
     rw [hn]
     refine and_t (in1 _ hy) (and_t (lt1 _ hy) (ite_t (by simp [ltI]; omega) ?_))
     rw [hsub,natI_nat (st.length - n),rdN_some (Ns_get (start_at hk)),setL_get hin1]
     refine and_t (in_len (by omega)) (and_t (ltN_t (by rw [lenL_eq,hlen]; exact hk)) (and_t (in1 _ (by simp [lenL,setL,hy])) (and_t (lt1 _ (by simp [lenL,setL,hy])) (and_t (by rw [intN_eq,lenL_eq,hlen]; exact slice_ok' (by omega)) (and_t (in1 _ (by simp [lenL,setL,hy])) (and_t (lt1 _ (by simp [lenL,setL,hy])) (and_t ?_ ?_)))))))
     ·rw [andB_true]
      refine ⟨leN_t (by simp only [addN,lenL_eq,hlen]; omega),roomB_t ?_⟩
      simp only [addN,lenL_eq,List.length_singleton]; exact hroom _ (by omega)
     ·rw [add_one (by omega)]; exact h1
    ·have h00:n=0:=by omega
     subst h00
     obtain ⟨fr,h1,h2⟩:=hgen (setL y11 (natI (i:Int)) (i:Int)) hy1 (by rw [natI_nat,take_set1 (by rw [hy]; exact hi),Nat.sub_zero,List.take_length,hsz])
     refine ⟨fr,l77_3 _ _ _ _ _ _ (ite_t (lt_len hi) (and_t (in_len hi) ?_)),h2⟩
     rw [hrd]
     refine ⟨_,gives149 _,or_of (fun _=>rfl) (ite_f ?_ ?_)⟩
     ·rw [ho,hn,intN_eq,lenL_eq,hlen]
      show (false || decide ((st.length:Int)<(0:Nat)))=false
      rw [Bool.false_or,decide_eq_false_iff_not]; omega
     rw [hn]
     refine and_t (in1 _ hy) (and_t (lt1 _ hy) (ite_f (by simp [ltI]) ?_))
     rw [hsub,natI_nat (st.length - 0),setL_get (by rw [hy,natI_nat]; exact hi)]
     refine and_t (by rw [intN_eq,lenL_eq,hlen]; exact slice_ok' (by omega)) (and_t (in1 _ (by simp [lenL,setL,hy])) (and_t (lt1 _ (by simp [lenL,setL,hy])) (and_t ?_ ?_)))
     ·rw [andB_true]
      refine ⟨leN_t (by simp only [addN,lenL_eq,hlen]; omega),roomB_t ?_⟩
      simp only [addN,lenL_eq,List.length_singleton]; exact hroom _ (by omega)
     ·rw [add_one (by omega)]
      simp only [Nat.sub_zero,List.take_length,hsz] at h1 ⊢
      exact h1
   ·obtain ⟨hf,hb,hno⟩:=op_bad hi hst hok
    rw [hf]
    refine ⟨[],l77_3 _ _ _ _ _ _ (ite_t (lt_len hi) (and_t (in_len hi) ?_)),fun st' h'=>by rw [hno] at h'; cases h'⟩
    rw [hrd]
    exact ⟨_,gives149 _,or_of (fun _=>rfl) (ite_t hb ⟨rfl,rfl⟩)⟩
 obtain ⟨fr,h1,h2⟩:=loop 0 (Nat.zero_le _) [] (replL (intN (lenL v)) 0) rfl (by simp [replL,intN,lenL]) (by simp [Tr.frontss,Ns])
 refine ⟨fr,e77 _ _ (and_t ?_ h1),fun _=>h2⟩
 rw [intN_eq,lenL_eq,andB_true,andB_true]
 refine ⟨decide_eq_true (by omega),decide_eq_true (by omega),decide_eq_true ?_⟩
 rw [room_eq]; omega
theorem sizes_succ {α:Type} {l:List (Tr α)} {j:Nat} (h:j<l.length):Tr.sizes (l.take (j+1))=Tr.sizes (l.take j)+l[j].size:=by
 rw [List.take_succ_eq_append_getElem h,Tr.sizes_append]; simp [Tr.sizes]
theorem sizes_take_le {α:Type} (l:List (Tr α)) (j:Nat):Tr.sizes (l.take j)≤Tr.sizes l:=by
 conv=>rhs; rw [←List.take_append_drop j l]
 rw [Tr.sizes_append]; omega
theorem ends_get {α:Type}:∀{p j:Nat} {l:List (Tr α)},j<l.length→(Tr.ends p l)[j]?=some (p+Tr.sizes (l.take (j+1)) - 1)
 | p,0,t :: l,_=>by simp [Tr.ends,Tr.sizes]
 | p,j+1,t :: l,h=>by
  have:=ends_get (p:=p+t.size) (j:=j) (l:=l) (by simpa using h)
  simp [Tr.ends,Tr.sizes,this,Nat.add_assoc]
structure InT (x:List api_Op) (fr:List Nat) (p:Nat) (t:Tr api_Op):Prop where
 ops:∀i,i<t.size→x[p+i]?=t.post[i]?
 frs:∀i,i<t.size→fr[p+i]?=(t.fronts p)[i]?
theorem InT.whole (t:Tr api_Op):InT t.post (t.fronts 0) 0 t:=⟨fun i _=>by rw [Nat.zero_add],fun i _=>by rw [Nat.zero_add]⟩
section
variable {x:List api_Op} {fr:List Nat} {p:Nat} {a:api_Op} {l:List (Tr api_Op)} {t:Tr api_Op}
theorem InT.le (h:InT x fr p t):p+t.size≤x.length:=by
 have hp:=Tr.size_pos t
 have:=h.ops (t.size - 1) (by omega)
 rw [List.getElem?_eq_getElem (l:=t.post) (by rw [Tr.post_length]; omega)] at this
 have:=(List.getElem?_eq_some_iff.1 this).1
 omega
theorem InT.top (h:InT x fr p (.nd a l)):x[p+Tr.sizes l]?=some a:=by
 rw [h.ops _ (by simp [Tr.size]),Tr.post,List.getElem?_append_right (by rw [Tr.posts_length]; exact Nat.le_refl _),Tr.posts_length]
 simp
theorem InT.front (h:InT x fr p t):fr[p+t.size - 1]?=some p:=by
 obtain ⟨a,l⟩:=t
 have:=h.frs (Tr.sizes l) (by simp [Tr.size])
 have e:p+(Tr.nd a l).size - 1=p+Tr.sizes l:=by simp only [Tr.size]; omega
 rw [e,this,Tr.fronts,List.getElem?_append_right (by rw [Tr.frontss_length]; exact Nat.le_refl _),Tr.frontss_length]
 simp
theorem InT.kid (h:InT x fr p (.nd a l)) {j:Nat} (hj:j<l.length):InT x fr (p+Tr.sizes (l.take j)) l[j]:=by
 have hs:=sizes_succ hj
 have hle:=sizes_take_le l (j+1)
 have ep:Tr.posts l=Tr.posts (l.take j) ++ (l[j].post ++ Tr.posts (l.drop (j+1))):=by
  conv=>lhs; rw [←List.take_append_drop j l,List.drop_eq_getElem_cons hj]
  rw [Tr.posts_append,Tr.posts]
 have ef:Tr.frontss p l=Tr.frontss p (l.take j) ++ (l[j].fronts (p+Tr.sizes (l.take j)) ++ Tr.frontss (p+Tr.sizes (l.take j)+l[j].size) (l.drop (j+1))):=by
  conv=>lhs; rw [←List.take_append_drop j l,List.drop_eq_getElem_cons hj]
  rw [Tr.frontss_append,Tr.frontss]
 refine ⟨fun i hi=>?_,fun i hi=>?_⟩
 ·rw [Nat.add_assoc,h.ops _ (by simp only [Tr.size]; omega),Tr.post,List.getElem?_append_left (by rw [Tr.posts_length]; omega),ep,
   List.getElem?_append_right (by rw [Tr.posts_length]; omega),Tr.posts_length,List.getElem?_append_left (by rw [Tr.post_length]; omega)]
  congr 1; omega
 ·rw [Nat.add_assoc,h.frs _ (by simp only [Tr.size]; omega),Tr.fronts,List.getElem?_append_left (by rw [Tr.frontss_length]; omega),ef,
   List.getElem?_append_right (by rw [Tr.frontss_length]; omega),Tr.frontss_length,List.getElem?_append_left (by rw [Tr.fronts_length]; omega)]
  congr 1; omega
theorem rd_some {α:Type} {d:α} {l:List α} {i:Nat} {x:α} (h:l[i]?=some x):rd d l (i:Int)=x:=by
 obtain ⟨h1,h2⟩:=List.getElem?_eq_some_iff.1 h
 rw [rd_at h1,h2]
theorem inB_some {α:Type} {l:List α} {i:Nat} {x:α} (h:l[i]?=some x):inB (i:Int) (lenL l)=true:=in_len (List.getElem?_eq_some_iff.1 h).1
theorem drop_set {y:List Int} {E:List Int} {j:Nat} {e:Int} (hj:j<y.length) (hd:y.drop (j+1)=E.drop (j+1)) (he:E[j]?=some e):(setL y j e).drop j=E.drop j:=by
 obtain ⟨h1,h2⟩:=List.getElem?_eq_some_iff.1 he
 unfold setL
 rw [List.drop_eq_getElem_cons (by simpa using hj),List.drop_eq_getElem_cons h1,h2]
 congr 1
 ·simp
 ·rw [←hd,List.drop_set,if_pos (by omega)]
theorem gives150 (h:InT x fr p (.nd a l)) (ha:a.gN=(l.length:Int)) (hx:x.length * 40≤140737488355328):
  Gives 150 [.d (.sl .api_Op x),.d (.sl .int (Ns fr)),.d (.int .i64 ((p+Tr.sizes l:Nat):Int))] (.d (.sl .int (Ns (Tr.ends p l)))):=by
 have hle:=h.le
 simp only [Tr.size] at hle
 have hll:=Tr.length_le_sizes l
 have loop:∀(j:Nat) (y:List Int),j≤l.length→y.length=l.length→y.drop j=(Ns (Tr.ends p l)).drop j→
   At K 150 (fun c' H'=>c'=(.d (.sl .int (Ns (Tr.ends p l))):C U)∧H'=[]) t150_4 (s150_4 (Ns fr) ((p+Tr.sizes (l.take j):Nat):Int) ((j:Int) - 1) y):=by
  intro j
  induction j with
  | zero=>
   intro y _ hy hd
   refine l150_4 _ _ _ _ _ (ite_f (by simp [leI]) ⟨?_,rfl⟩)
   rw [List.drop_zero,List.drop_zero] at hd
   rw [hd]
  | succ j ih=>
   intro y hj hy hd
   have e:((j+1:Nat):Int) - 1=(j:Int):=by omega
   have hs:=sizes_succ (l:=l) (j:=j) (by omega)
   have hst:=sizes_take_le l (j+1)
   have hp:=Tr.size_pos (l[j]'(by omega))
   have hk:=(h.kid (j:=j) (by omega)).front
   have ek:p+Tr.sizes (l.take j)+(l[j]'(by omega)).size - 1=p+Tr.sizes (l.take (j+1)) - 1:=by omega
   rw [ek] at hk
   have es:subW .i64 ((p+Tr.sizes (l.take (j+1)):Nat):Int) 1=((p+Tr.sizes (l.take (j+1)) - 1:Nat):Int):=by
    rw [subW_id (by omega) (by omega)]; omega
   rw [e]
   refine l150_4 _ _ _ _ _ (ite_t (by simp [leI]) (and_t (in_len (by omega)) (and_t (ltN_t (by rw [natI_nat,lenL_eq]; omega)) ?_)))
   rw [es]
   refine and_t (inB_some (Ns_get hk)) ?_
   rw [rd_some (Ns_get hk),subW_id (by omega) (by omega),natI_nat]
   refine ih _ (by omega) (by simp [setL,hy]) (drop_set (by omega) hd (Ns_get (ends_get (by omega))))
 have h0:=h.top
 have lp:=loop l.length (replL a.gN (0:Int)) (Nat.le_refl _) (by rw [ha]; simp [replL]) (by
  rw [List.drop_eq_nil_of_le (by rw [ha]; simp [replL]),List.drop_eq_nil_of_le (by rw [Ns_length,Tr.ends_length]; exact Nat.le_refl _)])
 rw [List.take_length] at lp
 refine e150 _ _ _ _ (and_t (inB_some h0) ?_)
 rw [rd_some h0]
 refine and_t ?_ ?_
 ·rw [andB_true,andB_true,ha]
  refine ⟨decide_eq_true (by omega),decide_eq_true (by omega),decide_eq_true ?_⟩
  rw [room_eq]; omega
 ·have el:subW .i64 (intN (lenL (replL a.gN (0:Int)))) 1=(l.length:Int) - 1:=by
   have e1:lenL (replL a.gN (0:Int))=l.length:=by rw [ha]; simp [replL,lenL]
   rw [e1,intN_eq,subW_id (by omega) (by omega)]
  rw [el]
  exact lp
theorem gives157 (h:InT x fr p (.nd a l)) (ha:a.gN=(l.length:Int)) (hx:x.length * 40≤140737488355328):
  Gives 157 [.d (.sl .api_Op x),.d (.sl .int (Ns fr)),.d (.int .i64 ((p+Tr.sizes l:Nat):Int))] (.d (.sl .int (Ns (Tr.ends p l)))):=by
 have hle:=h.le
 simp only [Tr.size] at hle
 have hll:=Tr.length_le_sizes l
 have loop:∀(j:Nat) (y:List Int),j≤l.length→y.length=l.length→y.drop j=(Ns (Tr.ends p l)).drop j→
   At K 157 (fun c' H'=>c'=(.d (.sl .int (Ns (Tr.ends p l))):C U)∧H'=[]) t157_4 (s157_4 (Ns fr) (((p+Tr.sizes (l.take j):Nat):Int) - 1) ((j:Int) - 1) y):=by
  intro j
  induction j with
  | zero=>
   intro y _ hy hd
   refine l157_4 _ _ _ _ _ (ite_f (by simp [leI]) ⟨?_,rfl⟩)
   rw [List.drop_zero,List.drop_zero] at hd
   rw [hd]
  | succ j ih=>
   intro y hj hy hd
   have e:((j+1:Nat):Int) - 1=(j:Int):=by omega
   have hs:=sizes_succ (l:=l) (j:=j) (by omega)
   have hst:=sizes_take_le l (j+1)
   have hp:=Tr.size_pos (l[j]'(by omega))
   have hk:=(h.kid (j:=j) (by omega)).front
   have ek:p+Tr.sizes (l.take j)+(l[j]'(by omega)).size - 1=p+Tr.sizes (l.take (j+1)) - 1:=by omega
   rw [ek] at hk
   have es:((p+Tr.sizes (l.take (j+1)):Nat):Int) - 1=((p+Tr.sizes (l.take (j+1)) - 1:Nat):Int):=by omega
   rw [e,es]
   refine l157_4 _ _ _ _ _ (ite_t (by simp [leI]) (and_t (in_len (by omega)) (and_t (ltN_t (by rw [natI_nat,lenL_eq]; omega)) (and_t (inB_some (Ns_get hk)) ?_))))
   rw [rd_some (Ns_get hk),subW_id (by omega) (by omega),subW_id (by omega) (by omega),natI_nat]
   refine ih _ (by omega) (by simp [setL,hy]) (drop_set (by omega) hd (Ns_get (ends_get (by omega))))
 have h0:=h.top
 have lp:=loop l.length (replL a.gN (0:Int)) (Nat.le_refl _) (by rw [ha]; simp [replL]) (by
  rw [List.drop_eq_nil_of_le (by rw [ha]; simp [replL]),List.drop_eq_nil_of_le (by rw [Ns_length,Tr.ends_length]; exact Nat.le_refl _)])
 rw [List.take_length] at lp
 refine e157 _ _ _ _ (and_t (inB_some h0) ?_)
 rw [rd_some h0]
 refine and_t ?_ ?_
 ·rw [andB_true,andB_true,ha]
  refine ⟨decide_eq_true (by omega),decide_eq_true (by omega),decide_eq_true ?_⟩
  rw [room_eq]; omega
 ·have el:subW .i64 (intN (lenL (replL a.gN (0:Int)))) 1=(l.length:Int) - 1:=by
   have e1:lenL (replL a.gN (0:Int))=l.length:=by rw [ha]; simp [replL,lenL]
   rw [e1,intN_eq,subW_id (by omega) (by omega)]
  rw [el,subW_id (by omega) (by omega)]
  exact lp
end
theorem gives81 {x:List api_Op} {t:Tr api_Op} (h:exprT x=some [t]) (hx:x.length * 40≤140737488355328):Gives 81 [.d (.sl .api_Op x)] (.d (.int .i64 ((t.deep:Nat):Int))):=by
 have loop:∀i,i≤x.length→∀st:List (Tr api_Op),exprT (x.take i)=some st→
   At K 81 (fun c' H'=>c'=(.d (.int .i64 ((t.deep:Nat):Int)):C U)∧H'=[]) t81_3 (s81_3 x (intN (lenL x)) i (Ns (st.map Tr.deep))):=by
  refine upto ?_ fun i hi ih=>?_
  ·intro st hst
   rw [List.take_length,h] at hst
   cases hst
   refine l81_3 _ _ _ _ _ (ite_f (lt_len_f (Nat.le_refl _)) (and_t (in_len (i:=0) (by simp [Ns])) (and_t (ltN_t (by simp [Ns,natI,lenL])) ⟨rfl,rfl⟩)))
  ·intro st hst
   have hsucc:=Tr.read_take_succ (ok:=opB) (ar:=(·.gN)) hi hst
   cases hp:Tr.put opB (·.gN) st x[i] with
   | none=>
    rw [hp] at hsucc
    have hn:exprT x=none:=Tr.read_take_none hsucc
    rw [hn] at h; cases h
   | some st'=>
    rw [hp] at hsucc
    obtain ⟨ho,n,hn,hnl,hst'⟩:=Tr.put_some hp
    have hsz:Tr.sizes st=i:=by rw [Tr.read_sizes hst]; simp; omega
    have hll:=Tr.length_le_sizes st
    have hlen:(Ns (st.map Tr.deep)).length=st.length:=by rw [Ns_length,List.length_map]
    have hdl:∀k j,Tr.deeps ((st.drop k).take j)≤i:=fun k j=>by
     have h1:=Tr.deeps_take_le (st.drop k) j
     have h2:=Tr.deeps_drop_le st k
     have h3:=Tr.deeps_le_sizes st
     omega
    have hsub:subW .i64 (intN (lenL (Ns (st.map Tr.deep)))) (n:Int)=((st.length - n:Nat):Int):=by
     rw [intN_eq,lenL_eq,hlen,subW_id (by omega) (by omega)]; omega
    have inner:∀j,j≤n→At K 81 (fun c' H'=>c'=(.d (.int .i64 ((t.deep:Nat):Int)):C U)∧H'=[]) t81_7
      (s81_7 ((st.length - n:Nat):Int) ((Tr.deeps ((st.drop (st.length - n)).take j):Nat):Int) x (intN (lenL x)) i (st.length - n) n (intN n) j (Ns (st.map Tr.deep))):=by
     refine upto ?_ fun j hj ihj=>?_
     ·refine l81_7 _ _ _ _ _ _ _ _ _ _ _ (ite_f (by simp [ltI,intN]) (and_t (by rw [intN_eq,lenL_eq,hlen]; exact slice_ok' (by omega)) (and_t ?_ ?_)))
      ·rw [andB_true]
       refine ⟨leN_t (by simp only [addN,lenL_eq,hlen,natI_nat]; omega),roomB_t ?_⟩
       simp only [addN,lenL_eq,List.length_singleton,natI_nat]; omega
      ·have hd:=hdl (st.length - n) n
       rw [add_one (by omega),natI_nat]
       have e1:(st.drop (st.length - n)).take n=st.drop (st.length - n):=List.take_of_length_le (by rw [List.length_drop]; omega)
       rw [e1] at hd ⊢
       have e2:addW .i64 ((Tr.deeps (st.drop (st.length - n)):Nat):Int) 1=((Tr.deeps (st.drop (st.length - n))+1:Nat):Int):=by
        rw [add_one (by omega)]
       have:=ih st' hsucc
       rw [hst',deeps_put hnl,Ns_append,←Ns_take,Ns_one] at this
       rw [e2]
       exact this
     ·have hk:st.length - n+j<st.length:=by omega
      have hg:(Ns (st.map Tr.deep))[st.length - n+j]?=some (((st[st.length - n+j]).deep:Nat):Int):=Ns_get (by rw [List.getElem?_map,List.getElem?_eq_getElem hk]; rfl)
      refine l81_7 _ _ _ _ _ _ _ _ _ _ _ (ite_t (by simp [ltI,intN]; omega) (and_t ?_ (and_t (ltN_t (by simp only [addN,natI_nat,lenL_eq,hlen]; exact hk)) ?_)))
      ·rw [andB_true]
       exact ⟨by rw [inB_iff]; omega,leN_t (by simp only [addN,lenL_eq,hlen]; omega)⟩
      ·simp only [addN,natI_nat]
       rw [rdN_some hg,maxI_nat,add_one (by omega)]
       have e:max (Tr.deeps ((st.drop (st.length - n)).take j)) (st[st.length - n+j]).deep=Tr.deeps ((st.drop (st.length - n)).take (j+1)):=by
        rw [Tr.deeps_take (by rw [List.length_drop]; omega),List.getElem_drop]
       rw [e]
       exact ihj
    refine l81_3 _ _ _ _ _ (ite_t (lt_len hi) (and_t (in_len hi) ?_))
    have hrd:rd (api_Op.mk 0 0 0 (bs [])) x (i:Int)=x[i]:=rd_at hi
    rw [hrd,hn,hsub]
    refine and_t (by rw [intN_eq,lenL_eq,hlen]; exact slice_ok (by omega)) ?_
    have i0:=inner 0 (Nat.zero_le _)
    rw [List.take_zero,Tr.deeps_nil] at i0
    have e1:addN 0 (natI ((st.length - n:Nat):Int))=st.length - n:=by simp [addN,natI_nat]
    have e2:subN (natI (intN (lenL (Ns (st.map Tr.deep))))) (natI ((st.length - n:Nat):Int))=n:=by
     simp only [subN,natI_nat,intN_eq,lenL_eq,hlen]; omega
    rw [e1,e2]
    exact i0
 exact e81 _ _ (loop 0 (Nat.zero_le _) [] rfl)
mutual
def bndB (loc:List ByteArray):Tr api_Op→Bool
 | .nd a l=>(notB (eqI a.gKind 4) || inB' loc a.gText) && bndsB loc a 0 l
def bndsB (loc:List ByteArray) (a:api_Op) (i:Nat):List (Tr api_Op)→Bool
 | []=>true
 | t :: r=>bndB (if (eqI a.gKind 19 && eqI (i:Int) 1)=true then loc ++ [a.gText] else loc) t && bndsB loc a (i+1) r
end
section
variable {x:List api_Op} {H:List (O U)} {q:Nat}
theorem gives79 (hH:obj H q=some (.cells [.d (.sl .api_Op x)])) {i:Nat} {a:api_Op} (hi:x[i]?=some a) (loc:List ByteArray):
  GivesM 79 [.d (.int .i64 (i:Int)),.d (.sl .str loc),.ptr (.g q) 0] H (.d (.bool (notB (eqI a.gKind 4) || inB' loc a.gText))) H:=by
 refine e79 _ _ _ _ _ ⟨x,hH,and_t (inB_some hi) ?_⟩
 rw [rd_some hi]
 exact or_of (fun _=>⟨x,hH,and_t (inB_some hi) (by rw [rd_some hi]; exact ⟨_,gives80 _ _,rfl⟩)⟩) ⟨rfl,rfl⟩
theorem gives151 (l:List ByteArray) (hl:l.length * 16≤140737488355328):Gives 151 [.d (.sl .str l)] (.osl .str l):=by
 refine e151 _ _ ⟨and_t (roomB_t (by simpa [addN,lenL,nilL] using hl)) ⟨rfl,rfl⟩,ite_w (fun h=>?_) (fun _=>trivial)⟩
 cases l with
 | nil=>exact ⟨rfl,rfl⟩
 | cons _ _=>cases h
theorem gives78 {fr:List Nat} (hH:obj H q=some (.cells [.d (.sl .api_Op x)])) (hx:x.length * 40≤140737488355328):∀(n:Nat) {p:Nat} {t:Tr api_Op} {loc:List ByteArray},t.size≤n→InT x fr p t→t.good opB (·.gN)→loc.length+t.size≤x.length→
  GivesM 78 [.d (.sl .api_Op x),.d (.sl .int (Ns fr)),.d (.int .i64 ((p+t.size - 1:Nat):Int)),.d (.sl .str loc),.fp 79 [] [.ptr (.g q) 0]] H (.d (.bool (bndB loc t))) H:=by
 intro n
 induction n with
 | zero=>intro p t loc hn _ _ _; have:=Tr.size_pos t; omega
 | succ n ih=>
  intro p t loc hn hT hg hloc
  obtain ⟨a,l⟩:=t
  simp only [Tr.good] at hg
  obtain ⟨⟨ho,ha⟩,hgs⟩:=hg
  have hle:=hT.le
  have htop:=hT.top
  have hll:=Tr.length_le_sizes l
  simp only [Tr.size] at hn hloc hle
  have epl:p+(Tr.nd a l).size - 1=p+Tr.sizes l:=by simp only [Tr.size]; omega
  rw [epl]
  have loop:∀j,j≤l.length→bndB loc (.nd a l)=bndsB loc a j (l.drop j)→
    At K 78 (fun c' H'=>c'=(.d (.bool (bndB loc (.nd a l))):C U)∧H'=H) t78_4 (s78_4 x (Ns fr) ((p+Tr.sizes l:Nat):Int) loc q (Ns (Tr.ends p l)) (intN l.length) j H):=by
   refine upto ?_ fun j hj ihj=>?_
   ·intro hb
    refine l78_4 _ _ _ _ _ _ _ _ _ _ (ite_f (by simp [ltI,intN]) ⟨?_,rfl⟩)
    rw [hb,List.drop_length]; rfl
   ·intro hb
    have hend:(Ns (Tr.ends p l))[j]?=some ((p+Tr.sizes (l.take j)+l[j].size - 1:Nat):Int):=by
     rw [Ns_get (ends_get hj),sizes_succ hj,Nat.add_assoc]
    have hk:=hT.kid hj
    have hgk:l[j].good opB (·.gN):=Tr.goods_mem hgs (List.getElem_mem hj)
    have hsz:l[j].size≤Tr.sizes l:=Tr.le_sizes (List.getElem_mem hj)
    rw [List.drop_eq_getElem_cons hj] at hb
    simp only [bndsB] at hb
    refine l78_4 _ _ _ _ _ _ _ _ _ _ (ite_t (by simp [ltI,intN]; omega) (and_t (inB_some hend) (and_t (inB_some htop) ?_)))
    rw [rd_some htop,rd_some hend]
    have next:bndB loc (.nd a l)=bndsB loc a (j+1) (l.drop (j+1))→At K 78 (fun c' H'=>c'=(.d (.bool (bndB loc (.nd a l))):C U)∧H'=H) t78_4 (s78_4 x (Ns fr) ((p+Tr.sizes l:Nat):Int) loc q (Ns (Tr.ends p l)) (intN l.length) (addW .i64 j 1) H):=by
     rw [add_one (by omega)]; exact ihj
    refine and_of (fun _=>rfl) (ite_w (fun h=>?_) (fun h=>?_))
    ·rw [if_pos h] at hb
     refine ⟨loc,gives151 loc (by omega),and_t (inB_some htop) (and_t (roomB_t (by simp only [addN,lenL_eq,List.length_singleton]; omega)) ?_)⟩
     have hl1:(loc ++ [a.gText]).length=loc.length+1:=by simp
     refine ⟨_,(),ih (loc:=loc ++ [a.gText]) (by omega) hk hgk (by omega),ite_w (fun h'=>⟨?_,rfl⟩) (fun h'=>next ?_)⟩
     ·rw [hb,show bndB (loc ++ [a.gText]) l[j]=false from notB_t.1 h']; rfl
     ·rw [hb,show bndB (loc ++ [a.gText]) l[j]=true from notB_f.1 h']; rfl
    ·rw [if_neg (by rw [h]; exact Bool.false_ne_true)] at hb
     refine ⟨_,(),ih (by omega) hk hgk (by omega),ite_w (fun h'=>⟨?_,rfl⟩) (fun h'=>next ?_)⟩
     ·rw [hb,notB_t.1 h']; rfl
     ·rw [hb,notB_f.1 h']; rfl
  refine e78 _ _ _ _ _ _ _ ⟨_,(),gives79 hH htop loc,ite_w (fun h=>⟨?_,rfl⟩) (fun h=>⟨_,gives150 hT ha hx,?_⟩)⟩
  ·rw [bndB,notB_t.1 h]; rfl
  ·have lp:=loop 0 (Nat.zero_le _) (by rw [bndB,notB_f.1 h]; rfl)
   have e:intN (lenL (Ns (Tr.ends p l)))=intN l.length:=by rw [lenL_eq,Ns_length,Tr.ends_length]
   rw [e]
   exact lp
end
def restE (x:List api_Op) (d:Nat):Int:=if (x.any fun o=>ltI 4096 (intN (strLen o.gText)))=true then 3 else if ltI 32 (d:Int)=true then 3 else 0
def exprE (x:List api_Op):Int:=
 if 256<x.length then 3
 else match exprT x with
  | some [t]=>if bndB [] t=true then restE x t.deep else 5
  | _=>5
theorem gives19 (x:List api_Op):Gives 19 [.d (.sl .api_Op x)] (.d (.int .i64 (exprE x))):=by
 refine Runs.known fun hk _=>?_
 have hx:=known_ops (hk _ (List.mem_cons_self ..))
 refine e19 _ _ (ite_w (fun h=>?_) (fun h=>?_))
 ·have h:=of_decide_eq_true h
  simp only [intN_eq,lenL_eq] at h
  have e:exprE x=3:=if_pos (by omega)
  rw [e]; exact ⟨rfl,rfl⟩
 have h:=of_decide_eq_false h
 simp only [intN_eq,lenL_eq] at h
 have e0:exprE x=match exprT x with
  | some [t]=>if bndB [] t=true then restE x t.deep else 5
  | _=>5:=if_neg (by omega)
 obtain ⟨fr,h1,h2⟩:=gives77 x
 refine ⟨(fr,exprOk x),h1,ite_w (fun hb=>?_) (fun hb=>?_)⟩
 ·have hb:=notB_t.1 hb
  dsimp only at hb
  have e:exprE x=5:=by
   rw [e0]
   split
   ·rename_i t ht
    rw [exprOk_one ht] at hb; cases hb
   ·rfl
  rw [e]; exact ⟨rfl,rfl⟩
 ·have hb:=notB_f.1 hb
  dsimp only at hb
  obtain ⟨t,ht⟩:=exprOk_tree hb
  obtain ⟨hxt,hg⟩:=Tr.read_one ht
  have e1:exprE x=if bndB [] t=true then restE x t.deep else 5:=by rw [e0,ht]
  have hf1:Tr.frontss 0 [t]=t.fronts 0:=by simp [Tr.frontss]
  have hfr:fr=Ns (t.fronts 0):=by rw [h2 hx _ ht,hf1]
  have hsz:t.size=x.length:=by rw [hxt,Tr.post_length]
  have hp:=Tr.size_pos t
  have hT:InT x (t.fronts 0) 0 t:=by rw [hxt]; exact InT.whole t
  have hw:=gives78 (H:=([O.cells [C.d (D.sl Ty.api_Op x)]]:List (O U))) (q:=0) rfl hx t.size (loc:=[]) (Nat.le_refl _) hT hg (by simp [hsz])
  dsimp only
  have ep:subW .i64 (intN (lenL x)) 1=((0+t.size - 1:Nat):Int):=by
   rw [intN_eq,lenL_eq,subW_id (by omega) (by omega),hsz]; omega
  rw [hfr,ep]
  refine ⟨_,(),hw,ite_w (fun hn=>?_) (fun hn=>?_)⟩
  ·rw [e1,notB_t.1 hn]; exact ⟨rfl,rfl⟩
  ·have hn:=notB_f.1 hn
   rw [e1,if_pos hn]
   have loop:∀i,i≤x.length→restE x t.deep=restE (x.drop i) t.deep→At K 19 (fun c' H'=>c'=(.d (.int .i64 (restE x t.deep)):C U)∧H'=[]) t19_10 (s19_10 x (intN (lenL x)) i x):=by
    refine upto ?_ fun i hi ih=>?_
    ·intro hr
     rw [List.drop_length] at hr
     have hr:restE x t.deep=if ltI 32 (t.deep:Int)=true then 3 else 0:=hr
     refine l19_10 _ _ _ _ _ (ite_f (lt_len_f (Nat.le_refl _)) ⟨_,gives81 ht hx,ite_w (fun h'=>?_) (fun h'=>?_)⟩)
     ·rw [hr,if_pos h']; exact ⟨rfl,rfl⟩
     ·rw [hr,if_neg (by rw [h']; exact Bool.false_ne_true)]; exact ⟨rfl,rfl⟩
    ·intro hr
     refine l19_10 _ _ _ _ _ (ite_t (lt_len hi) (and_t (in_len hi) ?_))
     rw [rd_at hi]
     rw [List.drop_eq_getElem_cons hi] at hr
     refine ite_w (fun h'=>?_) (fun h'=>?_)
     ·have:restE (x[i] :: x.drop (i+1)) t.deep=3:=if_pos (by rw [List.any_cons,h']; rfl)
      rw [hr,this]; exact ⟨rfl,rfl⟩
     ·rw [add_one (by omega)]
      refine ih ?_
      rw [hr]
      simp only [restE,List.any_cons,h',Bool.false_or]
   exact loop 0 (Nat.zero_le _) rfl
def cmpS (a b:ByteArray):Int:=Go.Lib.compareBytes a.data.toList b.data.toList
theorem f324_at:Tryz.prog.funcs[324]?=some Tryz.f324:=by kernel_rfl
theorem f324_ext:Extern.find Tryz.f324=some Extern.BytealgCompare.compare:=by kernel_rfl
theorem f324_next:(Extern.findNext Tryz.f324).isNone=true:=by kernel_rfl
theorem run324 (a b:ByteArray) (w:World):(callFunc 324 #[.string a,.string b]).run Tryz.prog w=.ok (.value (.int .i64 (cmpS a b))) w:=by
 have h1:Extern.findNext Tryz.f324=none:=by
  cases h:Extern.findNext Tryz.f324 with
  | none=>rfl
  | some _=>have:=f324_next; rw [h] at this; cases this
 have h2 : ¬ Tryz.f324.name = "runtime.NumGoroutine" := by decide
 have h3:Tryz.f324.body.isNone=true:=by kernel_rfl
 simp only [callFunc,Sem.run_bind,run_program,Result.andThen_ok,f324_at]
 simp [h2,h3,run_mark,h1,f324_ext,Sem.run_bind,Result.andThen_ok,Go.Lib.run_compareString,cmpS]
theorem val_in {P:Program} {n:Nat} {ops:Array Oper} {i d:Nat} {o:Oper} {is:List Nat} {a:Act} {w:World} {v:Value} {Q:Exit→Act→World→Prop} (ho:ops[i]?=some o) (hg:o.guard=none) (hd:o.dst=some d)
  (hv:(execOp a.eval o).run P w=.ok (.value v) w) (hn:wpOpsIn Fence.wide n P ops Q is (a.put (some d) v) w):wpOpsIn Fence.wide n P ops Q (i :: is) a w:=by
 simp only [wpOpsIn,ho]
 rw [if_pos (by simp [Region.wanted,hg])]
 refine ⟨fun _ _=>trivial,?_⟩
 show o.uponIn Fence.wide n P a _ Q ((execOp a.eval o).run P w)
 rw [hv,Oper.uponIn_value,hd]; exact hn
theorem exec324 {a b:ByteArray} {w:World} {o:Oper} {ρ:Operand→Value} (ho:o.op=.call { callee:=.value (.func 324),args:=#[.tmp 5,.tmp 6],argTypes:=#[9,9] }) (hf:ρ (.func 324)=.func (.func 324) #[] #[]) (h5:ρ (.tmp 5)=.string a) (h6:ρ (.tmp 6)=.string b):
  (execOp ρ o).run Tryz.prog w=.ok (.value (.int .i64 (cmpS a b))) w:=by
 simp only [execOp,ho,resolve,hf,Deferred.ofValue,Sem.run_bind,Sem.run_pure,Result.andThen_ok,invoke,Array.empty_append,Array.append_empty,List.map_toArray,List.map_cons,List.map_nil,h5,h6]
 exact run324 a b w
theorem val_to {P:Program} {n:Nat} {ops:Array Oper} {i d:Nat} {o:Oper} {is:List Nat} {a:Act} {w:World} (v:Value) {Q:Exit→Act→World→Prop} (ho:ops[i]?=some o) (hg:o.guard=none) (hd:o.dst=some d) (hs:d<a.tmps.size)
  (hv:(execOp a.eval o).run P w=.ok (.value v) w) (hn:∀a':Act,a'.defers=a.defers→a'.tmps.size=a.tmps.size→(∀t,t ≠ d→a'.tmps[t]?=a.tmps[t]?)→a'.tmps[d]?=some v→wpOpsIn Fence.wide n P ops Q is a' w):wpOpsIn Fence.wide n P ops Q (i :: is) a w:=
 val_in ho hg hd hv (hn _ rfl (by simp [Act.put]) (fun t ht=>put_other (by rintro e ⟨⟩; exact fun h=>ht h.symm)) (put_at hs))
theorem gives323 (a b:ByteArray):Gives 323 [.d (.str a),.d (.str b)] (.d (.int .i64 (cmpS a b))):=by
 intro w F pl vs hok M hr
 simp only [RepCs,RepC] at hr
 obtain ⟨v1,r1,rfl,h1,v2,r2,rfl,h2,rfl⟩:=hr
 have h1:v1=.string a:=(repC_str (ob:=obH ([]:List (O K.U))) (F:=F) (w:=w) (pl:=pl) |>.1 (by simp only [RepC]; exact h1)).1
 have h2:v2=.string b:=(repC_str (ob:=obH ([]:List (O K.U))) (F:=F) (w:=w) (pl:=pl) |>.1 (by simp only [RepC]; exact h2)).1
 subst h1; subst h2
 refine callsIn_wide.1 (callsIn_of_wp (fn:=Tryz.f323) (n:=0) (c:=Tryz.f323.body.getD .skip) (by kernel_rfl) (by kernel_rfl) trivial ?_)
 have t0:(#[Value.string a,Value.string b] ++ Array.replicate (Tryz.f323.ntmps - #[Value.string a,Value.string b].size) undef)[0]?=some (.string a):=rfl
 have t1:(#[Value.string a,Value.string b] ++ Array.replicate (Tryz.f323.ntmps - #[Value.string a,Value.string b].size) undef)[1]?=some (.string b):=rfl
 have sz:(#[Value.string a,Value.string b] ++ Array.replicate (Tryz.f323.ntmps - #[Value.string a,Value.string b].size) undef).size=8:=rfl
 show Code.wpIn _ _ _ _ _ ⟨#[Value.string a,Value.string b] ++ Array.replicate (Tryz.f323.ntmps - #[Value.string a,Value.string b].size) undef,[]⟩ w
 generalize (#[Value.string a,Value.string b] ++ Array.replicate (Tryz.f323.ntmps - #[Value.string a,Value.string b].size) undef)=tm at t0 t1 sz ⊢
 show (Code.seq (.region 0 _ _) (.seq (.region 1 _ _) .ret)).wpIn _ _ _ _ _ _
 refine wpIn_seq (wpIn_region ?_)
 refine val_to (d:=4) (.int .i64 0) rfl rfl rfl (by rw [sz]; decide) rfl fun a1 d1 s1 p1 q1=>?_
 show (Code.seq _ _).wpIn _ _ _ _ _ _
 refine wpIn_seq (wpIn_region ?_)
 have sz1:a1.tmps.size=8:=s1.trans sz
 refine val_to (d:=5) (a1.eval (.tmp 0)) rfl rfl rfl (by rw [sz1]; decide) rfl fun a2 d2 s2 p2 q2=>?_
 refine val_to (d:=6) (a2.eval (.tmp 1)) rfl rfl rfl (by rw [s2,sz1]; decide) rfl fun a3 d3 s3 p3 q3=>?_
 have e5:a3.eval (.tmp 5)=.string a:=by
  refine (getD_some ((p3 5 (by decide)).trans q2)).trans ?_
  exact getD_some ((p1 0 (by decide)).trans t0)
 have e6:a3.eval (.tmp 6)=.string b:=by
  refine (getD_some q3).trans ?_
  exact getD_some ((p2 1 (by decide)).trans ((p1 1 (by decide)).trans t1))
 refine val_to (d:=7) (.int .i64 (cmpS a b)) rfl rfl rfl (by rw [s3,s2,sz1]; decide) (exec324 rfl rfl e5 e6) fun a4 d4 s4 p4 q4=>?_
 refine val_to (d:=4) (a4.eval (.tmp 7)) rfl rfl rfl (by rw [s4,s3,s2,sz1]; decide) rfl fun a5 d5 s5 p5 q5=>?_
 show (Code.ret).wpIn _ _ _ _ _ _
 have er:a5.tmps.getD 4 undef=.int .i64 (cmpS a b):=(getD_some q5).trans (getD_some q4)
 have hres:(results Tryz.f323 a5.tmps).run K.P w=.ok (.int .i64 (cmpS a b)) w:=by
  rw [←er]
  exact results_run (vs:=[a5.tmps.getD 4 undef]) rfl
 refine wpIn_ret ⟨by rw [d5,d4,d3,d2,d1],_,hres,_,rfl,_,_,F,pl,[],⟨rfl,rfl⟩,⟨rfl,repC_int.2 rfl⟩,M,fin_refl,List.nodup_nil,hok,fun _ h=>by cases h⟩
theorem gives318 (a b:ByteArray):Gives 318 [.d (.str a),.d (.str b)] (.d (.int .i64 (cmpS a b))):=e318 _ _ _ ⟨_,gives323 a b,rfl,rfl⟩
theorem drop_setA {α:Type} {y E:List α} {j:Nat} {e:α} (hj:j<y.length) (hd:y.drop (j+1)=E.drop (j+1)) (he:E[j]?=some e):(setL y j e).drop j=E.drop j:=by
 obtain ⟨h1,h2⟩:=List.getElem?_eq_some_iff.1 he
 unfold setL
 rw [List.drop_eq_getElem_cons (by simpa using hj),List.drop_eq_getElem_cons h1,h2]
 congr 1
 ·simp
 ·rw [←hd,List.drop_set,if_pos (by omega)]
structure ValTr (t:Tr api_Atom):Prop where
 good:t.good atomB (·.gN)
 deep:t.deep≤32
 size:t.size≤1024
theorem ValTr.room {t:Tr api_Atom} (h:ValTr t):t.size * 40≤140737488355328:=by have:=h.size; omega
theorem valOk_tree {v:List api_Atom} (h:valOk v=true) (hl:v.length≤1024):∃t,v=t.post∧ValTr t:=by
 unfold valOk valD at h
 split at h
 ·rename_i d hd
  split at hd
  ·rename_i t ht
   cases hd
   obtain ⟨h1,h2⟩:=Tr.read_one ht
   have h3:=of_decide_eq_true h
   exact ⟨t,h1,h2,by omega,by rw [←Tr.post_length,←h1]; exact hl⟩
  ·cases hd
 ·cases h
section
variable {t:Tr api_Atom} {a:api_Atom} {l:List (Tr api_Atom)}
theorem ValTr.read (h:ValTr t):valT t.post=some [t]:=Tr.read_post (st:=[]) h.good
theorem ValTr.ok (h:ValTr t):valOk t.post=true:=by
 have:=h.deep
 simp only [valOk,valD,h.read]
 exact decide_eq_true (by omega)
theorem ValTr.kid (h:ValTr (.nd a l)) {k:Tr api_Atom} (hk:k∈l):ValTr k:=by
 have h1:=h.good
 simp only [Tr.good] at h1
 have h2:=Tr.le_deeps hk
 have h3:=Tr.le_sizes hk
 have h4:=h.deep
 have h5:=h.size
 simp only [Tr.deep,Tr.size] at h4 h5
 exact ⟨Tr.goods_mem h1.2 hk,by omega,by omega⟩
theorem ValTr.ar (h:ValTr (.nd a l)):a.gN=(l.length:Int):=by
 have h1:=h.good
 simp only [Tr.good] at h1
 exact h1.1.2
theorem ValTr.atom (h:ValTr (.nd a l)):atomB a=true:=by
 have h1:=h.good
 simp only [Tr.good] at h1
 exact h1.1.1
theorem post_last:(Tr.nd a l).post[Tr.sizes l]?=some a:=by
 rw [Tr.post,List.getElem?_append_right (by rw [Tr.posts_length]; exact Nat.le_refl _),Tr.posts_length]; simp
theorem gives309 (hs:(Tr.nd a l).size * 40≤140737488355328):Gives 309 [.d (.sl .api_Atom (Tr.nd a l).post)] (atomC a):=by
 simp only [Tr.size] at hs
 have e:subW .i64 (intN (lenL (Tr.nd a l).post)) 1=((Tr.sizes l:Nat):Int):=by
  rw [intN_eq,lenL_eq,Tr.post_length,Tr.size,subW_id (by omega) (by omega)]; omega
 refine e309 _ _ ?_
 rw [e]
 refine and_t (inB_some post_last) ?_
 rw [rd_some post_last]; exact ⟨rfl,rfl⟩
theorem kid_cut {j:Nat} (hj:j<l.length):dropL (Tr.sizes (l.take j)) (takeL (Tr.sizes (l.take (j+1))) (Tr.nd a l).post)=l[j].post:=by
 have h1:(Tr.nd a l).post=Tr.posts (l.take (j+1)) ++ (Tr.posts (l.drop (j+1)) ++ [a]):=by
  rw [←List.append_assoc,←Tr.posts_append,List.take_append_drop]; rfl
 have h2:Tr.posts (l.take (j+1))=Tr.posts (l.take j) ++ l[j].post:=by
  rw [List.take_succ_eq_append_getElem hj,Tr.posts_append]; simp [Tr.posts]
 have e1:(Tr.nd a l).post.take (Tr.sizes (l.take (j+1)))=Tr.posts (l.take (j+1)):=by rw [h1]; exact List.take_left' (Tr.posts_length _)
 have e2:(Tr.posts (l.take j) ++ l[j].post).drop (Tr.sizes (l.take j))=l[j].post:=List.drop_left' (Tr.posts_length _)
 show List.drop _ (List.take _ _)=_
 rw [e1,h2,e2]
theorem front_get:∀{p:Nat} {l:List (Tr api_Atom)} {j:Nat} (hj:j<l.length),(Tr.frontss p l)[Tr.sizes (l.take (j+1)) - 1]?=some (p+Tr.sizes (l.take j))
 | p,t :: l,0,_=>by
  have hp:=Tr.size_pos t
  obtain ⟨a,m⟩:=t
  simp only [List.take_succ_cons,List.take_zero,Tr.sizes,Nat.add_zero,Tr.frontss]
  rw [List.getElem?_append_left (by rw [Tr.fronts_length]; omega),Tr.fronts]
  simp only [Tr.size,Nat.add_sub_cancel]
  rw [List.getElem?_append_right (by rw [Tr.frontss_length]; exact Nat.le_refl _),Tr.frontss_length]; simp
 | p,t :: l,j+1,hj=>by
  have hj':j<l.length:=by simpa using hj
  have hp:=sizes_succ hj'
  have hq:=Tr.size_pos l[j]
  simp only [List.take_succ_cons,Tr.sizes,Tr.frontss]
  rw [List.getElem?_append_right (by rw [Tr.fronts_length]; omega),Tr.fronts_length]
  have:=front_get (p:=p+t.size) hj'
  have e:t.size+Tr.sizes (l.take (j+1)) - 1 - t.size=Tr.sizes (l.take (j+1)) - 1:=by omega
  rw [e,this,Nat.add_assoc]
theorem gives310 (h:ValTr (.nd a l)):Gives 310 [.d (.sl .api_Atom (Tr.nd a l).post)] (.osl .sl_api_Atom (l.map Tr.post)):=by
 have hs:=h.size
 have ha:=h.ar
 have hll:=Tr.length_le_sizes l
 obtain ⟨ws,h1,h2⟩:=gives240 (Tr.nd a l).post
 have hpl:(Tr.nd a l).post.length=Tr.sizes l+1:=by rw [Tr.post_length,Tr.size]
 simp only [Tr.size] at hs
 have hw:=h2 (by omega) h.ok _ h.read
 have hf1:Tr.frontss 0 [Tr.nd a l]=Tr.frontss 0 l ++ [0]:=by simp [Tr.frontss,Tr.fronts]
 rw [hf1] at hw
 have loop:∀(j:Nat) (y:List (List api_Atom)),j≤l.length→y.length=l.length→y.drop j=(l.map Tr.post).drop j→
   At K 310 (fun c' H'=>c'=(.osl .sl_api_Atom (l.map Tr.post):C U)∧H'=[]) t310_5 (s310_5 (Tr.nd a l).post ws ((Tr.sizes (l.take j):Nat):Int) ((j:Int) - 1) y):=by
  intro j
  induction j with
  | zero=>
   intro y _ hy hd
   refine l310_5 _ _ _ _ _ _ (ite_f (by simp [leI]) ⟨?_,rfl⟩)
   rw [List.drop_zero,List.drop_zero] at hd
   rw [hd]; rfl
  | succ j ih=>
   intro y hj hy hd
   have hj':j<l.length:=by omega
   have e:((j+1:Nat):Int) - 1=(j:Int):=by omega
   have hss:=sizes_succ hj'
   have hst:=sizes_take_le l (j+1)
   have hp:=Tr.size_pos l[j]
   have hfr:(Tr.frontss 0 l ++ [0])[Tr.sizes (l.take (j+1)) - 1]?=some (0+Tr.sizes (l.take j)):=by
    rw [List.getElem?_append_left (by rw [Tr.frontss_length]; omega)]; exact front_get hj'
   rw [Nat.zero_add] at hfr
   have hg:(ws.map (fun w=>w.gFrom))[Tr.sizes (l.take (j+1)) - 1]?=some ((Tr.sizes (l.take j):Nat):Int):=by rw [hw]; exact Ns_get hfr
   rw [List.getElem?_map,Option.map_eq_some_iff] at hg
   obtain ⟨wv,hg,hwv⟩:=hg
   have es:subW .i64 ((Tr.sizes (l.take (j+1)):Nat):Int) 1=((Tr.sizes (l.take (j+1)) - 1:Nat):Int):=by
    rw [subW_id (by omega) (by omega)]; omega
   rw [e]
   refine l310_5 _ _ _ _ _ _ (ite_t (by simp [leI]) ?_)
   rw [es]
   refine and_t (inB_some hg) ?_
   rw [rd_some hg]
   have hwv:wv.1=((Tr.sizes (l.take j):Nat):Int):=hwv
   rw [hwv]
   refine and_t ?_ (and_t (in_len (by omega)) (and_t (ltN_t (by rw [natI_nat,lenL_eq]; omega)) ?_))
   ·rw [andB_true,andB_true,andB_true,intN_eq,lenL_eq,hpl]
    exact ⟨eqI_t.2 rfl,decide_eq_true (by omega),decide_eq_true (by omega),decide_eq_true (by omega)⟩
   ·rw [natI_nat,natI_nat,natI_nat,kid_cut hj',subW_id (by omega) (by omega)]
    exact ih _ (by omega) (by simp [setL,hy]) (drop_setA (by omega) hd (by rw [List.getElem?_map,List.getElem?_eq_getElem hj']; rfl))
 refine e310 _ _ ⟨(ws,valOk (Tr.nd a l).post),h1,a,gives309 h.room,?_⟩
 have e1:lenL (replL a.2 (nilL api_Atom))=l.length:=by
  show lenL (replL a.gN (nilL api_Atom))=_
  rw [ha]; simp [replL,lenL]
 have e2:subW .i64 (intN (lenL (Tr.nd a l).post)) 1=((Tr.sizes l:Nat):Int):=by
  rw [intN_eq,lenL_eq,hpl,subW_id (by omega) (by omega)]; omega
 have e3:subW .i64 (intN l.length) 1=(l.length:Int) - 1:=by rw [intN_eq,subW_id (by omega) (by omega)]
 rw [e1,e2,e3]
 have e4:(a.2:Int)=(l.length:Int):=ha
 refine and_t ?_ ?_
 ·rw [e4,andB_true,andB_true]
  exact ⟨decide_eq_true (by omega),decide_eq_true (by omega),decide_eq_true (by rw [room_eq]; omega)⟩
 ·have lp:=loop l.length (replL a.2 (nilL api_Atom)) (Nat.le_refl _) e1 (by
   rw [List.drop_eq_nil_of_le (by rw [←lenL_eq,e1]; exact Nat.le_refl _),List.drop_eq_nil_of_le (by simp)])
  rw [List.take_length] at lp
  exact lp
end
abbrev ValL:=List api_Atom
theorem atomB_bounds {a:api_Atom} (h:atomB a=true):-9007199254740992≤a.gInt∧a.gInt≤9007199254740992∧(a.gKind=1∨a.gKind=2∧a.gText.size≤4096∨a.gKind=3):=by
 unfold atomB at h
 split at h
 ·rename_i hk
  simp only [Bool.and_eq_true] at h
  exact ⟨of_decide_eq_true h.1.2,of_decide_eq_true h.2,.inl hk⟩
 ·split at h
  ·rename_i hk
   simp only [Bool.and_eq_true,eqI_t] at h
   have:=of_decide_eq_true h.2
   simp only [intN,strLen] at this
   exact ⟨by omega,by omega,.inr (.inl ⟨hk,by omega⟩)⟩
  ·split at h
   ·rename_i hk
    simp only [Bool.and_eq_true,eqI_t] at h
    exact ⟨by omega,by omega,.inr (.inr hk)⟩
   ·cases h
mutual
theorem good_all:∀{t:Tr api_Atom},t.good atomB (·.gN)→∀x∈t.post,atomB x=true
 | .nd a l,h=>by
  simp only [Tr.good] at h
  intro x hx
  rw [Tr.post,List.mem_append,List.mem_singleton] at hx
  rcases hx with hx|rfl
  ·exact goods_all h.2 x hx
  ·exact h.1.1
theorem goods_all:∀{l:List (Tr api_Atom)},Tr.goods atomB (·.gN) l→∀x∈Tr.posts l,atomB x=true
 | [],_=>by intro x hx; simp [Tr.posts] at hx
 | t :: l,h=>by
  simp only [Tr.goods] at h
  intro x hx
  rw [Tr.posts,List.mem_append] at hx
  rcases hx with hx|hx
  ·exact good_all h.1 x hx
  ·exact goods_all h.2 x hx
end
theorem gives309' {v:ValL} {a:api_Atom} {l:List (Tr api_Atom)} (e:v=(Tr.nd a l).post) (hs:(Tr.nd a l).size * 40≤140737488355328):Gives 309 [.d (.sl .api_Atom v)] (atomC a):=by subst e; exact gives309 hs
theorem gives310' {v:ValL} {a:api_Atom} {l:List (Tr api_Atom)} (e:v=(Tr.nd a l).post) (h:ValTr (.nd a l)):Gives 310 [.d (.sl .api_Atom v)] (.osl .sl_api_Atom (l.map Tr.post)):=by subst e; exact gives310 h
def cmpI (a b:Int):Int:=if ltI a b=true then -1 else if ltI b a=true then 1 else 0
theorem gives317 (a b:Int):Gives 317 [.d (.int .i64 a),.d (.int .i64 b)] (.d (.int .i64 (cmpI a b))):=by
 have n:∀x:Int,Gives 322 [.d (.int .i64 x)] (.d (.bool false)):=fun x=>e322 _ _ (by rw [eqI_t.2 rfl]; exact ⟨rfl,rfl⟩)
 refine e317 _ _ _ ⟨_,n a,_,n b,ite_f rfl (ite_f rfl (ite_w (fun h=>?_) (fun h=>ite_w (fun h'=>?_) (fun h'=>?_))))⟩
 ·rw [cmpI,if_pos h]; exact ⟨rfl,rfl⟩
 ·rw [cmpI,if_neg (by rw [h]; exact Bool.false_ne_true),if_pos h']; exact ⟨rfl,rfl⟩
 ·rw [cmpI,if_neg (by rw [h]; exact Bool.false_ne_true),if_neg (by rw [h']; exact Bool.false_ne_true)]; exact ⟨rfl,rfl⟩
def cmpLs (f:ValL→ValL→Int):List ValL→List ValL→Int
 | [],[]=>0
 | [],_ :: _=>-1
 | _ :: _,[]=>1
 | x :: A,y :: B=>if eqI (f x y) 0=true then cmpLs f A B else f x y
mutual
def cmpT:Tr api_Atom→Tr api_Atom→Int
 | .nd a l,.nd b m=>if a.gKind ≠ b.gKind then cmpI a.gKind b.gKind else if a.gKind=1 then cmpI a.gInt b.gInt else if a.gKind=2 then cmpS a.gText b.gText else cmpTs l m
def cmpTs:List (Tr api_Atom)→List (Tr api_Atom)→Int
 | [],[]=>0
 | [],_ :: _=>-1
 | _ :: _,[]=>1
 | s :: l,t :: m=>if eqI (cmpT s t) 0=true then cmpTs l m else cmpT s t
end
def cmpV (a b:ValL):Int:=match valT a,valT b with
 | some [s],some [t]=>cmpT s t
 | _,_=>0
theorem cmpV_post {s t:Tr api_Atom} (hs:ValTr s) (ht:ValTr t):cmpV s.post t.post=cmpT s t:=by
 unfold cmpV; rw [hs.read,ht.read]
theorem cmpLs_posts:∀{l m:List (Tr api_Atom)},(∀t∈l,ValTr t)→(∀t∈m,ValTr t)→cmpLs cmpV (l.map Tr.post) (m.map Tr.post)=cmpTs l m
 | [],[],_,_=>rfl
 | [],_ :: _,_,_=>rfl
 | _ :: _,[],_,_=>rfl
 | s :: l,t :: m,hl,hm=>by
  simp only [List.map_cons,cmpLs,cmpTs]
  rw [cmpV_post (hl s (List.mem_cons_self ..)) (hm t (List.mem_cons_self ..)),cmpLs_posts (fun t h=>hl t (List.mem_cons_of_mem _ h)) (fun t h=>hm t (List.mem_cons_of_mem _ h))]
theorem gives319 {A B:List ValL} {f:ValL→ValL→Int} (hc:∀x∈A,∀y∈B,Gives 312 [.d (.sl .api_Atom x),.d (.sl .api_Atom y)] (.d (.int .i64 (f x y)))) (hA:A.length<4611686018427387904):
  Gives 319 [.d (.sl .sl_api_Atom A),.d (.sl .sl_api_Atom B),.fp 312 [] []] (.d (.int .i64 (cmpLs f A B))):=by
 have loop:∀i,i≤A.length→i≤B.length→At K 319 (fun c' H'=>c'=(.d (.int .i64 (cmpLs f (A.drop i) (B.drop i))):C U)∧H'=[]) t319_2 (s319_2 A B 312 [] [] A (intN (lenL A)) i []):=by
  refine upto ?_ fun i hi ih=>?_
  ·intro hB
   rw [List.drop_length]
   cases hd:B.drop A.length with
   | nil=>
    have hb:ltI (intN (lenL A)) (intN (lenL B))=false:=decide_eq_false (by
     have:=congrArg List.length hd
     rw [List.length_drop,List.length_nil] at this
     rw [intN_eq,intN_eq,lenL_eq,lenL_eq]; omega)
    exact l319_2 _ _ _ _ _ _ _ _ _ _ (ite_f (lt_len_f (Nat.le_refl _)) (ite_f hb ⟨rfl,rfl⟩))
   | cons b B'=>
    have hb:ltI (intN (lenL A)) (intN (lenL B))=true:=decide_eq_true (by
     have:=congrArg List.length hd
     rw [List.length_drop,List.length_cons] at this
     rw [intN_eq,intN_eq,lenL_eq,lenL_eq]; omega)
    exact l319_2 _ _ _ _ _ _ _ _ _ _ (ite_f (lt_len_f (Nat.le_refl _)) (ite_t hb ⟨rfl,rfl⟩))
  ·intro hB'
   rw [List.drop_eq_getElem_cons hi]
   by_cases hB:i<B.length
   ·have h0:=hc (rd [] A (i:Int)) (by rw [rd_at hi]; exact List.getElem_mem hi) (rd [] B (i:Int)) (by rw [rd_at hB]; exact List.getElem_mem hB)
    have nb:leI (intN (lenL B)) (i:Int)=false:=decide_eq_false (by rw [intN_eq,lenL_eq]; omega)
    rw [List.drop_eq_getElem_cons hB,cmpLs]
    have ih:=ih (by omega)
    refine l319_2 _ _ _ _ _ _ _ _ _ _ (ite_t (lt_len hi) (and_t (in_len hi) (ite_f nb (and_t (in_len hB) ⟨_,(),h0,?_⟩))))
    rw [rd_at hi,rd_at hB]
    by_cases hr:eqI (f A[i] B[i]) 0=true
    ·rw [if_pos hr,hr]; exact ite_f rfl (by rw [add_one (by omega)]; exact ih)
    ·rw [if_neg hr]
     have hr:eqI (f A[i] B[i]) 0=false:=by simpa using hr
     rw [hr]; exact ite_t rfl ⟨rfl,rfl⟩
   ·have hd:B.drop i=[]:=List.drop_eq_nil_of_le (by omega)
    rw [hd,cmpLs]
    refine l319_2 _ _ _ _ _ _ _ _ _ _ (ite_t (lt_len hi) (and_t (in_len hi) (ite_t ?_ ⟨rfl,rfl⟩)))
    exact decide_eq_true (by rw [intN_eq,lenL_eq]; omega)
 exact e319 _ _ _ _ _ _ _ (loop 0 (Nat.zero_le _) (Nat.zero_le _))
theorem gives312:∀(n:Nat) {s t:Tr api_Atom},s.size≤n→ValTr s→ValTr t→Gives 312 [.d (.sl .api_Atom s.post),.d (.sl .api_Atom t.post)] (.d (.int .i64 (cmpT s t))):=by
 intro n
 induction n with
 | zero=>intro s t hn _ _; have:=Tr.size_pos s; omega
 | succ n ih=>
  intro s t hn hs ht
  obtain ⟨a,l⟩:=s
  obtain ⟨b,m⟩:=t
  rw [cmpT]
  by_cases h0:a.gKind=b.gKind
  case neg=>rw [if_pos h0]; exact e312 _ _ _ ⟨a,gives309 hs.room,b,gives309 ht.room,ite_t (notB_t.2 (eqI_f.2 h0)) ⟨_,gives317 _ _,rfl,rfl⟩⟩
  have h0':notB (eqI a.gKind b.gKind)=false:=by rw [notB_f,eqI_t]; exact h0
  rw [if_neg (by omega)]
  by_cases h1:a.gKind=1
  ·rw [if_pos h1]; exact e312 _ _ _ ⟨a,gives309 hs.room,b,gives309 ht.room,ite_f h0' (ite_t (eqI_t.2 h1) ⟨_,gives317 _ _,rfl,rfl⟩)⟩
  rw [if_neg h1]
  by_cases h2:a.gKind=2
  ·rw [if_pos h2]; exact e312 _ _ _ ⟨a,gives309 hs.room,b,gives309 ht.room,ite_f h0' (ite_f (eqI_f.2 h1) (ite_t (eqI_t.2 h2) ⟨_,gives318 _ _,rfl,rfl⟩))⟩
  rw [if_neg h2]
  have hll:=Tr.length_le_sizes l
  have hz:=hs.size
  simp only [Tr.size] at hn hz
  have hr:=gives319 (A:=l.map Tr.post) (B:=m.map Tr.post) (f:=cmpV) (fun x hx y hy=>by
   obtain ⟨x',hx',rfl⟩:=List.mem_map.1 hx
   obtain ⟨y',hy',rfl⟩:=List.mem_map.1 hy
   have:=Tr.le_sizes hx'
   rw [cmpV_post (hs.kid hx') (ht.kid hy')]
   exact ih (by omega) (hs.kid hx') (ht.kid hy')) (by rw [List.length_map]; omega)
  rw [cmpLs_posts (fun t h=>hs.kid h) (fun t h=>ht.kid h)] at hr
  exact e312 _ _ _ ⟨a,gives309 hs.room,b,gives309 ht.room,ite_f h0' (ite_f (eqI_f.2 h1) (ite_f (eqI_f.2 h2) ⟨_,gives310 hs,_,gives310 ht,_,(),hr,rfl,rfl⟩))⟩
def numV (n:Int):Option ValL:=if (ltI n (Int.negSucc 9007199254740991) || ltI 9007199254740992 n)=true then none else some [⟨1,0,n,bs []⟩]
theorem gives316 (n:Int):Gives 316 [.d (.int .i64 n)] (.tup [.d (.sl .api_Atom ((numV n).getD [])),.d (.int .i64 (if (numV n).isSome then 0 else 1))]):=by
 refine e316 _ _ (or_of (fun _=>rfl) (ite_w (fun hb=>?_) (fun hb=>?_)))
 ·have e:numV n=none:=if_pos hb
  rw [e]; exact ⟨rfl,rfl⟩
 ·have e:numV n=some [⟨1,0,n,bs []⟩]:=if_neg (by rw [hb]; exact Bool.false_ne_true)
  rw [e]; exact ⟨rfl,rfl⟩
abbrev AnsC (v:ValL) (ok:Bool):C U:=.tup [.d (.sl .api_Atom v),.d (.bool ok)]
def Does (f:Nat) (args:List (C U)) (o:Option ValL):Prop:=∃(v:ValL) (ok:Bool),Gives f args (AnsC v ok)∧o=if ok=true then some v else none
theorem does307 (n:Int):Does 307 [.d (.int .i64 n)] (numV n):=by
 refine ⟨(numV n).getD [],(numV n).isSome,e307 _ _ ⟨((numV n).getD [],if (numV n).isSome then 0 else 1),gives316 n,?_,rfl⟩,?_⟩
 ·cases numV n <;> rfl
 ·cases numV n <;> rfl
theorem does311 (b:Bool):Does 311 [.d (.bool b)] (numV (if b=true then 1 else 0)):=by
 cases b with
 | true=>obtain ⟨v,ok,h1,h2⟩:=does307 1; exact ⟨v,ok,e311 _ _ (ite_t rfl ⟨(v,ok),h1,rfl,rfl⟩),h2⟩
 | false=>obtain ⟨v,ok,h1,h2⟩:=does307 0; exact ⟨v,ok,e311 _ _ (ite_f rfl ⟨(v,ok),h1,rfl,rfl⟩),h2⟩
structure ArgsOk (L:List ValL):Prop where
 len:L.length * 24≤140737488355328
 val:∀v∈L,∃t,v=t.post∧ValTr t
section
variable {L:List ValL}
theorem ArgsOk.at (h:ArgsOk L) {i:Nat} (hi:i<L.length):∃a l,rd [] L (i:Int)=(Tr.nd a l).post∧ValTr (.nd a l):=by
 obtain ⟨t,h1,h2⟩:=h.val _ (List.getElem_mem hi)
 obtain ⟨a,l⟩:=t
 exact ⟨a,l,by rw [rd_at hi,h1],h2⟩
def lastAt (v:ValL):api_Atom:=rd (api_Atom.mk 0 0 0 (bs [])) v ((v.length - 1:Nat):Int)
theorem lastAt_post {a:api_Atom} {l:List (Tr api_Atom)}:lastAt (Tr.nd a l).post=a:=by
 unfold lastAt
 have e:(Tr.nd a l).post.length - 1=Tr.sizes l:=by rw [Tr.post_length,Tr.size]; omega
 rw [e]; exact rd_some post_last
def isInt (v:ValL):Bool:=eqI (lastAt v).gKind 1
theorem gives321 (h:ArgsOk L):∃n,Gives 321 [.d (.sl .sl_api_Atom L),.fp 315 [] []] (.d (.int .i64 n))∧leI 0 n=L.any fun v=>notB (isInt v):=by
 have hl:=h.len
 have loop:∀i,i≤L.length→∃n,At K 321 (fun c' H'=>c'=(.d (.int .i64 n):C U)∧H'=[]) t321_2 (s321_2 L 315 [] [] (intN (lenL L)) i [])∧leI 0 n=(L.drop i).any fun v=>notB (isInt v):=by
  refine upto ?_ fun i hi ih=>?_
  ·exact ⟨-1,l321_2 _ _ _ _ _ _ _ _ (ite_f (lt_len_f (Nat.le_refl _)) ⟨rfl,rfl⟩),by rw [List.drop_length]; rfl⟩
  ·obtain ⟨a,l,e,hv⟩:=h.at hi
   have h217:Gives 315 [.d (.sl .api_Atom (rd [] L (i:Int)))] (.d (.bool (notB (isInt (rd [] L (i:Int)))))):=by
    have e2:isInt (rd [] L (i:Int))=eqI a.gKind 1:=by unfold isInt; rw [e,lastAt_post]
    rw [e2]
    exact e315 _ _ ⟨a,gives309' e hv.room,rfl,rfl⟩
   rw [drop_any hi]
   cases hb:notB (isInt (rd [] L (i:Int))) with
   | true=>
    rw [hb] at h217
    rw [rd_at hi] at hb
    rw [hb]
    exact ⟨i,l321_2 _ _ _ _ _ _ _ _ (ite_t (lt_len hi) (and_t (in_len hi) ⟨_,(),h217,ite_t rfl ⟨rfl,rfl⟩⟩)),by simp [leI]⟩
   | false=>
    rw [hb] at h217
    rw [rd_at hi] at hb
    rw [hb]
    obtain ⟨n,h1,h2⟩:=ih
    exact ⟨n,l321_2 _ _ _ _ _ _ _ _ (ite_t (lt_len hi) (and_t (in_len hi) ⟨_,(),h217,ite_f rfl (by rw [add_one (by omega)]; exact h1)⟩)),by rw [h2]; rfl⟩
 obtain ⟨n,h1,h2⟩:=loop 0 (Nat.zero_le _)
 exact ⟨n,e321 _ _ _ _ _ _ h1,h2⟩
def intsV (L:List ValL):Bool:=notB (L.any fun v=>notB (isInt v))
theorem gives306 (h:ArgsOk L):Gives 306 [.d (.sl .sl_api_Atom L)] (.d (.bool (intsV L))):=by
 obtain ⟨n,h1,h2⟩:=gives321 h
 refine e306 _ _ ⟨leI 0 n,(),e314 _ _ _ _ _ _ ⟨n,(),h1,rfl,rfl⟩,?_,rfl⟩
 rw [h2]; rfl
def madeV (L:List ValL):Option ValL:=
 if 1024≤L.flatten.length then none
 else if valE (L.flatten ++ [⟨3,(L.length:Int),0,bs []⟩])=0 then some (L.flatten ++ [⟨3,(L.length:Int),0,bs []⟩]) else none
theorem flat_take {L:List ValL} {i:Nat} (hi:i<L.length):(L.take (i+1)).flatten=(L.take i).flatten ++ L[i]:=by
 rw [List.take_succ_eq_append_getElem hi,List.flatten_append]; simp
theorem flat_le (L:List ValL) (i:Nat):(L.take i).flatten.length≤L.flatten.length:=by
 conv=>rhs; rw [←List.take_append_drop i L]
 rw [List.flatten_append,List.length_append]; omega
theorem does305 (hl:L.length * 24≤140737488355328) (hb:∀v∈L,v.length * 40≤140737488355328):Does 305 [.d (.sl .sl_api_Atom L)] (madeV L):=by
 have loop:∀i,i≤L.length→(L.take i).flatten.length<1024→∃(v:ValL) (ok:Bool),At K 305 (fun c' H'=>c'=AnsC v ok∧H'=[]) t305_3 (s305_3 L L (intN (lenL L)) i (L.take i).flatten)∧madeV L=if ok=true then some v else none:=by
  refine upto ?_ fun i hi ih=>?_
  ·intro hy
   rw [List.take_length] at hy ⊢
   refine ⟨L.flatten ++ [⟨3,intN (lenL L),0,bs []⟩],_,l305_3 _ _ _ _ _ _ (ite_f (lt_len_f (Nat.le_refl _)) (and_t (roomB_t ?_) ⟨_,gives177 _,rfl,rfl⟩)),?_⟩
   ·simp only [addN,lenL_eq,List.length_singleton]; omega
   ·unfold madeV
    rw [if_neg (by omega)]
    have e:∀v:ValL,eqI (valE v) 0=true↔valE v=0:=fun v=>eqI_t
    show _=if eqI (valE (L.flatten ++ [⟨3,(L.length:Int),0,bs []⟩])) 0=true then _ else _
    by_cases h:valE (L.flatten ++ [⟨3,(L.length:Int),0,bs []⟩])=0
    ·rw [if_pos h,if_pos ((e _).2 h)]; rfl
    ·rw [if_neg h,if_neg fun h'=>h ((e _).1 h')]
  ·intro hy
   have hv:=hb _ (List.getElem_mem hi)
   have hf:=flat_take hi
   have hfl:(L.take (i+1)).flatten.length=(L.take i).flatten.length+L[i].length:=by rw [hf,List.length_append]
   have es:addW .i64 (intN (lenL (L.take i).flatten)) (intN (lenL L[i]))=(((L.take i).flatten.length+L[i].length:Nat):Int):=by
    rw [intN_eq,intN_eq,lenL_eq,lenL_eq,addW_id (by omega) (by omega)]; omega
   by_cases hle:1024≤(L.take i).flatten.length+L[i].length
   ·refine ⟨[],false,l305_3 _ _ _ _ _ _ (ite_t (lt_len hi) (and_t (in_len hi) ?_)),?_⟩
    ·rw [rd_at hi,es]
     exact ite_t (by simp only [leI,decide_eq_true_eq]; omega) ⟨rfl,rfl⟩
    ·have:=flat_le L (i+1)
     unfold madeV
     rw [if_pos (by omega)]; rfl
   ·obtain ⟨v,ok,h1,h2⟩:=ih (by omega)
    refine ⟨v,ok,l305_3 _ _ _ _ _ _ (ite_t (lt_len hi) (and_t (in_len hi) ?_)),h2⟩
    rw [rd_at hi,es]
    refine ite_f (by simp only [leI,decide_eq_false_iff_not]; omega) (and_t (roomB_t ?_) ?_)
    ·simp only [addN,lenL_eq]; omega
    ·rw [add_one (by omega)]
     rw [hf] at h1; exact h1
 obtain ⟨v,ok,h1,h2⟩:=loop 0 (Nat.zero_le _) (by simp)
 exact ⟨v,ok,e305 _ _ h1,h2⟩
theorem posts_bound {l:List (Tr api_Atom)} (hs:Tr.sizes l * 40≤140737488355328):∀v∈l.map Tr.post,v.length * 40≤140737488355328:=by
 intro v hv
 obtain ⟨t,ht,rfl⟩:=List.mem_map.1 hv
 have:=Tr.le_sizes ht
 rw [Tr.post_length]; omega
def memV (v:ValL):List ValL:=match valT v with
 | some [t]=>t.kids.map Tr.post
 | _=>[]
theorem memV_post {a:api_Atom} {l:List (Tr api_Atom)} (h:ValTr (.nd a l)):memV (Tr.nd a l).post=l.map Tr.post:=by
 unfold memV; rw [h.read]; rfl
def joinV (x y:ValL):Option ValL:=
 if (notB (eqI (lastAt x).gKind (lastAt y).gKind) || eqI (lastAt x).gKind 1)=true then none
 else if (lastAt x).gKind=2 then (if 4096<(lastAt x).gText.size+(lastAt y).gText.size then none else some [⟨2,0,0,strAdd (lastAt x).gText (lastAt y).gText⟩])
 else madeV (memV x ++ memV y)
def itemV (x y:ValL):Option ValL:=
 if (((notB (eqI (lastAt x).gKind 3) || notB (eqI (lastAt y).gKind 1)) || ltI (lastAt y).gInt 0) || leI (lastAt x).gN (lastAt y).gInt)=true then none else (memV x)[(lastAt y).gInt.toNat]?
def sizeV (x:ValL):Option ValL:=if (lastAt x).gKind=2 then numV ((lastAt x).gText.size:Int) else if (lastAt x).gKind=3 then numV (lastAt x).gN else none
def opV (k:Int) (L:List ValL):Option ValL:=
 if k=5 then madeV L
 else if k=6 then (if intsV L=true then numV ((lastAt (rd [] L 0)).gInt+(lastAt (rd [] L 1)).gInt) else none)
 else if k=7 then (if intsV L=true then numV ((lastAt (rd [] L 0)).gInt - (lastAt (rd [] L 1)).gInt) else none)
 else if k=8 then (if intsV L=true then numV ((lastAt (rd [] L 0)).gInt * (lastAt (rd [] L 1)).gInt) else none)
 else if k=9 then joinV (rd [] L 0) (rd [] L 1)
 else if k=10 then itemV (rd [] L 0) (rd [] L 1)
 else if k=11 then sizeV (rd [] L 0)
 else if k=12 then numV (if ltI (cmpV (rd [] L 0) (rd [] L 1)) 0=true then 1 else 0)
 else if k=13 then numV (if eqI (cmpV (rd [] L 0) (rd [] L 1)) 0=true then 1 else 0)
 else none
theorem does288 (h:ArgsOk L):Does 288 [.d (.sl .sl_api_Atom L)] (opV 5 L):=by
 obtain ⟨v,ok,h1,h2⟩:=does305 h.len fun v hv=>by
  obtain ⟨t,rfl,ht⟩:=h.val v hv
  have:=ht.size
  rw [Tr.post_length]; omega
 exact ⟨v,ok,e288 _ _ ⟨(v,ok),h1,rfl,rfl⟩,h2⟩
theorem first_in {a:api_Atom} {l:List (Tr api_Atom)}:inB 0 (lenL (Tr.nd a l).post)=true:=in_len (i:=0) (by rw [Tr.post_length]; exact Tr.size_pos _)
theorem int_first {a:api_Atom} {l:List (Tr api_Atom)} (h:ValTr (.nd a l)) (hk:a.gKind=1):rd (api_Atom.mk 0 0 0 (bs [])) (Tr.nd a l).post 0=a:=by
 have h1:=h.ar
 have h2:=h.atom
 have h3:a.gN=0:=by
  unfold atomB at h2
  rw [if_pos hk] at h2
  simp only [Bool.and_eq_true,eqI_t] at h2
  exact h2.1.1.1
 have hl:l=[]:=List.eq_nil_of_length_eq_zero (by omega)
 subst hl; rfl
theorem ints_kind {i:Nat} {a:api_Atom} {l:List (Tr api_Atom)} (hb:intsV L=true) (hi:i<L.length) (e:rd [] L (i:Int)=(Tr.nd a l).post):a.gKind=1:=by
 unfold intsV at hb
 rw [notB_t,List.any_eq_false] at hb
 have:=hb _ (List.getElem_mem hi)
 rw [←rd_at (d:=[]) hi,e] at this
 have h1:isInt (Tr.nd a l).post=true:=by
  cases hq:isInt (Tr.nd a l).post with
  | true=>rfl
  | false=>rw [hq] at this; exact absurd rfl this
 unfold isInt at h1
 rw [lastAt_post] at h1
 exact eqI_t.1 h1
theorem does289 (h:ArgsOk L) (hn:L.length=2):Does 289 [.d (.sl .sl_api_Atom L)] (opV 6 L):=by
 have hb:=gives306 h
 have e:opV 6 L=if intsV L=true then numV ((lastAt (rd [] L 0)).gInt+(lastAt (rd [] L 1)).gInt) else none:=rfl
 obtain ⟨a,l,e0,h0⟩:=h.at (i:=0) (by omega)
 obtain ⟨a',l',e1,h1⟩:=h.at (i:=1) (by omega)
 have e0:rd [] L 0=(Tr.nd a l).post:=e0
 have e1:rd [] L 1=(Tr.nd a' l').post:=e1
 rw [e]
 by_cases hi:intsV L=true
 case neg=>
  rw [if_neg hi]
  have hi:intsV L=false:=by simpa using hi
  rw [hi] at hb
  exact ⟨[],false,e289 _ _ ⟨_,hb,ite_t rfl ⟨rfl,rfl⟩⟩,rfl⟩
 rw [if_pos hi,e0,e1,lastAt_post,lastAt_post]
 have k0:=ints_kind (i:=0) hi (by omega) e0
 have k1:=ints_kind (i:=1) hi (by omega) e1
 have b0:=atomB_bounds h0.atom
 have b1:=atomB_bounds h1.atom
 rw [hi] at hb
 obtain ⟨v,ok,g1,g2⟩:=does307 (addW .i64 (rd (api_Atom.mk 0 0 0 (bs [])) (rd [] L 0) 0).3 (rd (api_Atom.mk 0 0 0 (bs [])) (rd [] L 1) 0).3)
 refine ⟨v,ok,e289 _ _ ⟨_,hb,ite_f rfl (and_t (in_len (i:=0) (by omega)) (and_t ?_ (and_t (in_len (i:=1) (by omega)) (and_t ?_ ⟨(v,ok),g1,rfl,rfl⟩))))⟩,?_⟩
 ·rw [e0]; exact first_in
 ·rw [e1]; exact first_in
 ·rw [←g2,e0,e1,int_first h0 k0,int_first h1 k1]
  have:addW .i64 a.3 a'.3=a.gInt+a'.gInt:=addW_id (by show _≤a.gInt+a'.gInt; omega) (by show a.gInt+a'.gInt<_; omega)
  rw [this]
theorem does290 (h:ArgsOk L) (hn:L.length=2):Does 290 [.d (.sl .sl_api_Atom L)] (opV 7 L):=by
 have hb:=gives306 h
 have e:opV 7 L=if intsV L=true then numV ((lastAt (rd [] L 0)).gInt - (lastAt (rd [] L 1)).gInt) else none:=rfl
 obtain ⟨a,l,e0,h0⟩:=h.at (i:=0) (by omega)
 obtain ⟨a',l',e1,h1⟩:=h.at (i:=1) (by omega)
 have e0:rd [] L 0=(Tr.nd a l).post:=e0
 have e1:rd [] L 1=(Tr.nd a' l').post:=e1
 rw [e]
 by_cases hi:intsV L=true
 case neg=>
  rw [if_neg hi]
  have hi:intsV L=false:=by simpa using hi
  rw [hi] at hb
  exact ⟨[],false,e290 _ _ ⟨_,hb,ite_t rfl ⟨rfl,rfl⟩⟩,rfl⟩
 rw [if_pos hi,e0,e1,lastAt_post,lastAt_post]
 have k0:=ints_kind (i:=0) hi (by omega) e0
 have k1:=ints_kind (i:=1) hi (by omega) e1
 have b0:=atomB_bounds h0.atom
 have b1:=atomB_bounds h1.atom
 rw [hi] at hb
 obtain ⟨v,ok,g1,g2⟩:=does307 (subW .i64 (rd (api_Atom.mk 0 0 0 (bs [])) (rd [] L 0) 0).3 (rd (api_Atom.mk 0 0 0 (bs [])) (rd [] L 1) 0).3)
 refine ⟨v,ok,e290 _ _ ⟨_,hb,ite_f rfl (and_t (in_len (i:=0) (by omega)) (and_t ?_ (and_t (in_len (i:=1) (by omega)) (and_t ?_ ⟨(v,ok),g1,rfl,rfl⟩))))⟩,?_⟩
 ·rw [e0]; exact first_in
 ·rw [e1]; exact first_in
 ·rw [←g2,e0,e1,int_first h0 k0,int_first h1 k1]
  have:subW .i64 a.3 a'.3=a.gInt - a'.gInt:=subW_id (by show _≤a.gInt - a'.gInt; omega) (by show a.gInt - a'.gInt<_; omega)
  rw [this]
end
section
variable {L:List ValL}
theorem size_eq {n:Int} (h:-9007199254740992≤n∧n≤9007199254740992):maxI n (negW .i64 n)=(n.natAbs:Int):=by
 have e:negW .i64 n=0 - n:=wrap_id (by omega) (by omega)
 rw [e]
 unfold maxI
 split <;> omega
theorem numV_none {n:Int} (h:9007199254740992<n.natAbs):numV n=none:=by
 refine if_pos ?_
 rw [Bool.or_eq_true]
 by_cases h0:n<0
 ·exact .inl (decide_eq_true (by omega))
 ·exact .inr (decide_eq_true (by omega))
theorem mul_test {x y:Int} (hx:x ≠ 0) (bx:-9007199254740992≤x∧x≤9007199254740992) (by':-9007199254740992≤y∧y≤9007199254740992):
  ltI (quoW .i64 9007199254740992 (maxI x (negW .i64 x))) (maxI y (negW .i64 y))=decide (9007199254740992<(x * y).natAbs):=by
 rw [size_eq bx,size_eq by']
 have hp:0<x.natAbs:=by omega
 have e:quoW .i64 9007199254740992 (x.natAbs:Int)=((9007199254740992 / x.natAbs:Nat):Int):=by
  have h1:Int.tdiv 9007199254740992 (x.natAbs:Int)=((9007199254740992 / x.natAbs:Nat):Int):=by
   show Int.tdiv ((9007199254740992:Nat):Int) (x.natAbs:Int)=_
   rw [←Int.ofNat_tdiv]
  have h2:9007199254740992 / x.natAbs≤9007199254740992:=Nat.div_le_self _ _
  unfold quoW
  rw [h1]
  generalize 9007199254740992 / x.natAbs=q at h2 ⊢
  exact wrap_id (by omega) (by omega)
 rw [e,Int.natAbs_mul]
 have:9007199254740992 / x.natAbs<y.natAbs↔9007199254740992<x.natAbs * y.natAbs:=by
  rw [Nat.div_lt_iff_lt_mul hp,Nat.mul_comm]
 unfold ltI
 rw [Bool.eq_iff_iff,decide_eq_true_iff,decide_eq_true_iff,←this]
 omega
theorem does291 (h:ArgsOk L) (hn:L.length=2):Does 291 [.d (.sl .sl_api_Atom L)] (opV 8 L):=by
 have hb:=gives306 h
 have e:opV 8 L=if intsV L=true then numV ((lastAt (rd [] L 0)).gInt * (lastAt (rd [] L 1)).gInt) else none:=rfl
 obtain ⟨a,l,e0,h0⟩:=h.at (i:=0) (by omega)
 obtain ⟨a',l',e1,h1⟩:=h.at (i:=1) (by omega)
 have e0:rd [] L 0=(Tr.nd a l).post:=e0
 have e1:rd [] L 1=(Tr.nd a' l').post:=e1
 rw [e]
 by_cases hi:intsV L=true
 case neg=>
  rw [if_neg hi]
  have hi:intsV L=false:=by simpa using hi
  rw [hi] at hb
  exact ⟨[],false,e291 _ _ ⟨_,hb,ite_t rfl ⟨rfl,rfl⟩⟩,rfl⟩
 rw [if_pos hi,e0,e1,lastAt_post,lastAt_post]
 have k0:=ints_kind (i:=0) hi (by omega) e0
 have k1:=ints_kind (i:=1) hi (by omega) e1
 have b0:=atomB_bounds h0.atom
 have b1:=atomB_bounds h1.atom
 rw [hi] at hb
 have i0:inB 0 (lenL (rd [] L 0))=true:=by rw [e0]; exact first_in
 have i1:inB 0 (lenL (rd [] L 1))=true:=by rw [e1]; exact first_in
 have sz:∀n:Int,Gives 308 [.d (.int .i64 n)] (.d (.int .i64 (maxI n (negW .i64 n)))):=fun n=>e308 _ _ ⟨rfl,rfl⟩
 have q0:(rd (api_Atom.mk 0 0 0 (bs [])) (rd [] L 0) 0).3=a.gInt:=by rw [e0,int_first h0 k0]
 have q1:(rd (api_Atom.mk 0 0 0 (bs [])) (rd [] L 1) 0).3=a'.gInt:=by rw [e1,int_first h1 k1]
 obtain ⟨v,ok,g1,g2⟩:=does307 (mulW .i64 (rd (api_Atom.mk 0 0 0 (bs [])) (rd [] L 0) 0).3 (rd (api_Atom.mk 0 0 0 (bs [])) (rd [] L 1) 0).3)
 rw [q0,q1] at g2
 by_cases hz:a.gInt=0
 ·refine ⟨v,ok,e291 _ _ ⟨_,hb,ite_f rfl (and_t (in_len (i:=0) (by omega)) (and_t i0 (and_t (in_len (i:=1) (by omega)) (and_t i1 ⟨false,?_,ite_f rfl ⟨(v,ok),g1,rfl,rfl⟩⟩))))⟩,?_⟩
  ·exact ite_f (by rw [q0,hz]; rfl) rfl
  ·rw [←g2,hz,Int.zero_mul]
   have:mulW .i64 0 a'.gInt=0:=by unfold mulW; rw [Int.zero_mul]; rfl
   rw [this]
 ·have ht:=mul_test hz ⟨b0.1,b0.2.1⟩ ⟨b1.1,b1.2.1⟩
  have hne:notB (eqI (maxI a.gInt (negW .i64 a.gInt)) 0)=true:=by
   rw [size_eq ⟨b0.1,b0.2.1⟩,notB_t,eqI_f]; omega
  have hnz:notB (eqI (rd (api_Atom.mk 0 0 0 (bs [])) (rd [] L 0) 0).3 0)=true:=by rw [q0,notB_t,eqI_f]; exact hz
  by_cases hg:9007199254740992<(a.gInt * a'.gInt).natAbs
  ·refine ⟨[],false,e291 _ _ ⟨_,hb,ite_f rfl (and_t (in_len (i:=0) (by omega)) (and_t i0 (and_t (in_len (i:=1) (by omega)) (and_t i1 ⟨true,?_,ite_t rfl ⟨rfl,rfl⟩⟩))))⟩,?_⟩
   ·refine ite_t hnz ⟨_,sz _,_,sz _,and_t (by rw [q0]; exact hne) ?_⟩
    rw [q0,q1,ht]; exact decide_eq_true hg
   ·rw [numV_none hg]; rfl
  ·refine ⟨v,ok,e291 _ _ ⟨_,hb,ite_f rfl (and_t (in_len (i:=0) (by omega)) (and_t i0 (and_t (in_len (i:=1) (by omega)) (and_t i1 ⟨false,?_,ite_f rfl ⟨(v,ok),g1,rfl,rfl⟩⟩))))⟩,?_⟩
   ·refine ite_t hnz ⟨_,sz _,_,sz _,and_t (by rw [q0]; exact hne) ?_⟩
    rw [q0,q1,ht]; exact decide_eq_false hg
   ·have:mulW .i64 a.gInt a'.gInt=a.gInt * a'.gInt:=wrap_id (by omega) (by omega)
    rw [←g2,this]
theorem does292 (h:ArgsOk L) (hn:L.length=2):Does 292 [.d (.sl .sl_api_Atom L)] (opV 9 L):=by
 have e:opV 9 L=joinV (rd [] L 0) (rd [] L 1):=rfl
 obtain ⟨a,l,e0,h0⟩:=h.at (i:=0) (by omega)
 obtain ⟨b,m,e1,h1⟩:=h.at (i:=1) (by omega)
 have t0:=gives309' (v:=rd [] L 0) e0 h0.room
 have t1:=gives309' (v:=rd [] L 1) e1 h1.room
 have j0:inB 0 (lenL L)=true:=in_len (i:=0) (by omega)
 have j1:inB 1 (lenL L)=true:=in_len (i:=1) (by omega)
 have f0:rd [] L 0=(Tr.nd a l).post:=e0
 have f1:rd [] L 1=(Tr.nd b m).post:=e1
 rw [e]
 unfold joinV
 rw [f0,f1,lastAt_post,lastAt_post]
 cases hk:(notB (eqI a.gKind b.gKind) || eqI a.gKind 1) with
 | true=>exact ⟨[],false,e292 _ _ (and_t j0 ⟨a,t0,and_t j1 ⟨b,t1,or_of (fun _=>rfl) (by rw [hk]; exact ite_t rfl ⟨rfl,rfl⟩)⟩⟩),rfl⟩
 | false=>
  rw [if_neg Bool.false_ne_true]
  have hab:a.gKind=b.gKind:=by
   rw [Bool.or_eq_false_iff] at hk
   exact eqI_t.1 (notB_f.1 hk.1)
  have ba:=atomB_bounds h0.atom
  have bb:=atomB_bounds h1.atom
  by_cases h2:a.gKind=2
  ·rw [if_pos h2]
   have sa:a.gText.size≤4096:=by rcases ba.2.2 with h|h|h <;> omega
   have sb:b.gText.size≤4096:=by rcases bb.2.2 with h|h|h <;> omega
   have es:addW .i64 (intN (strLen a.4)) (intN (strLen b.4))=((a.gText.size+b.gText.size:Nat):Int):=by
    have:addW .i64 (intN (strLen a.4)) (intN (strLen b.4))=intN (strLen a.4)+intN (strLen b.4):=addW_id (by simp only [intN,strLen]; omega) (by simp only [intN,strLen]; omega)
    rw [this]; simp only [intN,strLen]; omega
   by_cases hl:4096<a.gText.size+b.gText.size
   ·rw [if_pos hl]
    exact ⟨[],false,e292 _ _ (and_t j0 ⟨a,t0,and_t j1 ⟨b,t1,or_of (fun _=>rfl) (by rw [hk,es]; exact ite_f rfl (ite_t (eqI_t.2 h2) (ite_t (decide_eq_true (by omega)) ⟨rfl,rfl⟩)))⟩⟩),rfl⟩
   ·rw [if_neg hl]
    have hroom:strRoom a.4 b.4=true:=decide_eq_true (by rw [maxStr_eq]; omega)
    exact ⟨[⟨2,0,0,strAdd a.4 b.4⟩],true,e292 _ _ (and_t j0 ⟨a,t0,and_t j1 ⟨b,t1,or_of (fun _=>rfl) (by rw [hk,es]; exact ite_f rfl (ite_t (eqI_t.2 h2) (ite_f (decide_eq_false (by omega)) (and_t hroom ⟨rfl,rfl⟩))))⟩⟩),rfl⟩
  ·rw [if_neg h2,memV_post h0,memV_post h1]
   have s0:=h0.size
   have s1:=h1.size
   simp only [Tr.size] at s0 s1
   have l0:=Tr.length_le_sizes l
   have l1:=Tr.length_le_sizes m
   obtain ⟨v,ok,k1,k2⟩:=does305 (L:=l.map Tr.post ++ m.map Tr.post) (by rw [List.length_append,List.length_map,List.length_map]; omega) (fun v hv=>by
    rcases List.mem_append.1 hv with hv|hv
    ·exact posts_bound (by omega) v hv
    ·exact posts_bound (by omega) v hv)
   have hroom:roomB (addN (lenL (l.map Tr.post)) (lenL (m.map Tr.post))) 24=true:=roomB_t (by simp only [addN,lenL_eq,List.length_map]; omega)
   exact ⟨v,ok,e292 _ _ (and_t j0 ⟨a,t0,and_t j1 ⟨b,t1,or_of (fun _=>rfl) (by rw [hk]; exact ite_f rfl (ite_f (eqI_f.2 h2) (and_t j0 ⟨_,gives310' e0 h0,and_t j1 ⟨_,gives310' e1 h1,and_t hroom ⟨(v,ok),k1,rfl,rfl⟩⟩⟩)))⟩⟩),k2⟩
theorem gives85 {v:ValL} (hv:v ≠ []) (hl:v.length * 40≤140737488355328):Gives 85 [.d (.sl .api_Atom v)] (.d (.sl .api_Atom v)):=by
 refine e85 _ _ ⟨and_t (roomB_t (by simpa [addN,lenL,nilL] using hl)) ⟨rfl,rfl⟩,ite_w (fun h=>?_) (fun _=>trivial)⟩
 cases v with
 | nil=>exact absurd rfl hv
 | cons _ _=>cases h
theorem post_ne (t:Tr api_Atom):t.post ≠ []:=by
 intro h
 have h1:=Tr.post_length t
 rw [h,List.length_nil] at h1
 have:=Tr.size_pos t
 omega
theorem does293 (h:ArgsOk L) (hn:L.length=2):Does 293 [.d (.sl .sl_api_Atom L)] (opV 10 L):=by
 have e:opV 10 L=itemV (rd [] L 0) (rd [] L 1):=rfl
 obtain ⟨a,l,e0,h0⟩:=h.at (i:=0) (by omega)
 obtain ⟨b,m,e1,h1⟩:=h.at (i:=1) (by omega)
 have t0:=gives309' (v:=rd [] L 0) e0 h0.room
 have t1:=gives309' (v:=rd [] L 1) e1 h1.room
 have j0:inB 0 (lenL L)=true:=in_len (i:=0) (by omega)
 have j1:inB 1 (lenL L)=true:=in_len (i:=1) (by omega)
 have f0:rd [] L 0=(Tr.nd a l).post:=e0
 have f1:rd [] L 1=(Tr.nd b m).post:=e1
 rw [e]
 unfold itemV
 rw [f0,f1,lastAt_post,lastAt_post]
 cases hk:(((notB (eqI a.gKind 3) || notB (eqI b.gKind 1)) || ltI b.gInt 0) || leI a.gN b.gInt) with
 | true=>exact ⟨[],false,e293 _ _ (and_t j0 ⟨a,t0,and_t j1 ⟨b,t1,or_of (fun _=>rfl) (or_of (fun _=>rfl) (or_of (fun _=>rfl) (by rw [hk]; exact ite_t rfl ⟨rfl,rfl⟩)))⟩⟩),rfl⟩
 | false=>
  rw [if_neg Bool.false_ne_true,memV_post h0]
  have hk':=hk
  simp only [Bool.or_eq_false_iff] at hk'
  have c1:=of_decide_eq_false hk'.1.2
  have c2:=of_decide_eq_false hk'.2
  have ha:=h0.ar
  obtain ⟨i,hi⟩:∃i:Nat,b.gInt=(i:Int):=⟨b.gInt.toNat,by omega⟩
  have hil:i<l.length:=by omega
  have hm:(l.map Tr.post)[i]?=some l[i].post:=by rw [List.getElem?_map,List.getElem?_eq_getElem hil]; rfl
  have hz:=Tr.le_sizes (List.getElem_mem hil)
  have s0:=h0.size
  simp only [Tr.size] at s0
  have hi':b.3=(i:Int):=hi
  have rest:andP (inB b.3 (lenL (l.map Tr.post))) (andP (ltN (natI b.3) (lenL (l.map Tr.post))) (∃(x_2:List api_Atom),(Gives 85 [C.d (D.sl Ty.api_Atom (rdN [] (l.map Tr.post) (natI b.3)))] (C.d (D.sl Ty.api_Atom x_2)))∧AnsC x_2 true=AnsC l[i].post true∧([]:List (O U))=[])):=by
   rw [hi',natI_nat]
   have hr:rdN [] (l.map Tr.post) i=l[i].post:=rdN_some hm
   refine and_t (inB_some hm) (and_t (ltN_t (by rw [lenL_eq,List.length_map]; exact hil)) ⟨_,gives85 (v:=rdN [] (l.map Tr.post) i) (by rw [hr]; exact post_ne _) (by rw [hr,Tr.post_length]; omega),by rw [hr],rfl⟩)
  refine ⟨l[i].post,true,e293 _ _ (and_t j0 ⟨a,t0,and_t j1 ⟨b,t1,or_of (fun _=>rfl) (or_of (fun _=>rfl) (or_of (fun _=>rfl) (by rw [hk]; exact ite_f rfl (and_t j0 ⟨_,gives310' e0 h0,rest⟩))))⟩⟩),?_⟩
  rw [hi,Int.toNat_natCast,hm]; rfl
theorem does294 (h:ArgsOk L) (hn:L.length=1):Does 294 [.d (.sl .sl_api_Atom L)] (opV 11 L):=by
 have e:opV 11 L=sizeV (rd [] L 0):=rfl
 obtain ⟨a,l,e0,h0⟩:=h.at (i:=0) (by omega)
 have t0:=gives309' (v:=rd [] L 0) e0 h0.room
 have j0:inB 0 (lenL L)=true:=in_len (i:=0) (by omega)
 have f0:rd [] L 0=(Tr.nd a l).post:=e0
 rw [e]
 unfold sizeV
 rw [f0,lastAt_post]
 by_cases h2:a.gKind=2
 ·rw [if_pos h2]
  obtain ⟨v,ok,k1,k2⟩:=does307 (intN (strLen a.4))
  exact ⟨v,ok,e294 _ _ (and_t j0 ⟨a,t0,ite_t (eqI_t.2 h2) ⟨(v,ok),k1,rfl,rfl⟩⟩),k2⟩
 rw [if_neg h2]
 by_cases h3:a.gKind=3
 ·rw [if_pos h3]
  obtain ⟨v,ok,k1,k2⟩:=does307 a.gN
  exact ⟨v,ok,e294 _ _ (and_t j0 ⟨a,t0,ite_f (eqI_f.2 h2) (ite_t (eqI_t.2 h3) ⟨(v,ok),k1,rfl,rfl⟩)⟩),k2⟩
 rw [if_neg h3]
 exact ⟨[],false,e294 _ _ (and_t j0 ⟨a,t0,ite_f (eqI_f.2 h2) (ite_f (eqI_f.2 h3) ⟨rfl,rfl⟩)⟩),rfl⟩
theorem gives312' {u v:ValL} {s t:Tr api_Atom} (hu:u=s.post) (hv:v=t.post) (hs:ValTr s) (ht:ValTr t):Gives 312 [.d (.sl .api_Atom u),.d (.sl .api_Atom v)] (.d (.int .i64 (cmpV u v))):=by
 subst hu; subst hv; rw [cmpV_post hs ht]; exact gives312 _ (Nat.le_refl _) hs ht
theorem does295 (h:ArgsOk L) (hn:L.length=2):Does 295 [.d (.sl .sl_api_Atom L)] (opV 12 L):=by
 obtain ⟨a,l,e0,h0⟩:=h.at (i:=0) (by omega)
 obtain ⟨b,m,e1,h1⟩:=h.at (i:=1) (by omega)
 have hr:=gives312' (u:=rd [] L 0) (v:=rd [] L 1) e0 e1 h0 h1
 obtain ⟨v,ok,k1,k2⟩:=does311 (ltI (cmpV (rd [] L 0) (rd [] L 1)) 0)
 exact ⟨v,ok,e295 _ _ (and_t (in_len (i:=0) (by omega)) (and_t (in_len (i:=1) (by omega)) ⟨_,hr,(v,ok),k1,rfl,rfl⟩)),k2⟩
theorem does296 (h:ArgsOk L) (hn:L.length=2):Does 296 [.d (.sl .sl_api_Atom L)] (opV 13 L):=by
 obtain ⟨a,l,e0,h0⟩:=h.at (i:=0) (by omega)
 obtain ⟨b,m,e1,h1⟩:=h.at (i:=1) (by omega)
 have hr:=gives312' (u:=rd [] L 0) (v:=rd [] L 1) e0 e1 h0 h1
 obtain ⟨v,ok,k1,k2⟩:=does311 (eqI (cmpV (rd [] L 0) (rd [] L 1)) 0)
 exact ⟨v,ok,e296 _ _ (and_t (in_len (i:=0) (by omega)) (and_t (in_len (i:=1) (by omega)) ⟨_,hr,(v,ok),k1,rfl,rfl⟩)),k2⟩
def firstE (L:List ValL):Int:=match L.find? fun v=>notB (eqI (valE v) 0) with
 | some v=>valE v
 | none=>0
theorem firstE_zero {L:List ValL}:firstE L=0↔∀v∈L,valE v=0:=by
 unfold firstE
 cases hf:L.find? fun v=>notB (eqI (valE v) 0) with
 | none=>
  rw [List.find?_eq_none] at hf
  refine ⟨fun _ v hv=>?_,fun _=>rfl⟩
  have:=hf v hv
  rw [notB_t] at this
  exact eqI_t.1 (by simpa using this)
 | some v=>
  have h1:=List.find?_some hf
  have h2:=List.mem_of_find?_eq_some hf
  exact ⟨fun h=>absurd h (eqI_f.1 (notB_t.1 h1)),fun h=>h v h2⟩
theorem gives263 (hl:L.length<4611686018427387904):Gives 263 [.d (.sl .sl_api_Atom L)] (.d (.int .i64 (firstE L))):=by
 have loop:∀i,i≤L.length→At K 263 (fun c' H'=>c'=(.d (.int .i64 (firstE (L.drop i))):C U)∧H'=[]) t263_2 (s263_2 L (intN (lenL L)) i):=by
  refine upto ?_ fun i hi ih=>?_
  ·rw [List.drop_length]
   exact l263_2 _ _ _ _ (ite_f (lt_len_f (Nat.le_refl _)) ⟨rfl,rfl⟩)
  ·have g:=gives177 (rd [] L (i:Int))
   rw [List.drop_eq_getElem_cons hi]
   cases hz:notB (eqI (valE L[i]) 0) with
   | true=>
    have e:firstE (L[i] :: L.drop (i+1))=valE L[i]:=by simp only [firstE,List.find?_cons,hz]
    rw [e]
    refine l263_2 _ _ _ _ (ite_t (lt_len hi) (and_t (in_len hi) ⟨_,g,?_⟩))
    rw [rd_at hi]; exact ite_t hz ⟨rfl,rfl⟩
   | false=>
    have e:firstE (L[i] :: L.drop (i+1))=firstE (L.drop (i+1)):=by simp only [firstE,List.find?_cons,hz]
    rw [e]
    refine l263_2 _ _ _ _ (ite_t (lt_len hi) (and_t (in_len hi) ⟨_,g,?_⟩))
    rw [rd_at hi]
    exact ite_f hz (by rw [add_one (by omega)]; exact ih)
 exact e263 _ _ (loop 0 (Nat.zero_le _))
theorem valE_tree {t:Tr api_Atom} (h:ValTr t):valE t.post=0:=by
 unfold valE
 rw [Tr.post_length,if_neg (by have:=h.size; omega),h.ok]; rfl
theorem args_of (h:∀v∈L,valE v=0) (hl:L.length≤4096):ArgsOk L:=by
 refine ⟨by omega,fun v hv=>?_⟩
 have hv:=h v hv
 unfold valE at hv
 split at hv
 ·cases hv
 ·split at hv
  ·exact valOk_tree (by assumption) (by omega)
  ·cases hv
def cntV (k:Int):Int:=if k=5 then -1 else if k=11 then 1 else 2
def doV (k:Int) (L:List ValL):Option ValL:=
 if 4096<L.length then none
 else if (leI 0 (cntV k) && notB (eqI (L.length:Int) (cntV k)))=true then none
 else if firstE L ≠ 0 then none
 else opV k L
theorem do_of {k:Int} {g:Nat} (h182:Gives 262 [.d (.int .i64 k)] (.tup [.d (.int .i64 (cntV k)),.fp g [] []])) (hdo:∀L,ArgsOk L→(0≤cntV k→(L.length:Int)=cntV k)→Does g [.d (.sl .sl_api_Atom L)] (opV k L)) (L:List ValL):
  ∃(v:ValL) (ok:Bool) (e:Int),Gives 212 [.d (.int .i64 k),.d (.sl .sl_api_Atom L)] (.tup [.d (.sl .api_Atom v),.d (.bool ok),.d (.int .i64 e)])∧doV k L=(if ok=true then some v else none)∧(ok=true→e=0):=by
 unfold doV
 by_cases h1:4096<L.length
 ·rw [if_pos h1]
  exact ⟨[],false,3,e212 _ _ _ ⟨(cntV k,g),(),h182,ite_t (decide_eq_true (by rw [intN_eq,lenL_eq]; omega)) ⟨rfl,rfl⟩⟩,rfl,fun h=>by cases h⟩
 rw [if_neg h1]
 have h1':ltI 4096 (intN (lenL L))=false:=decide_eq_false (by rw [intN_eq,lenL_eq]; omega)
 cases h2:(leI 0 (cntV k) && notB (eqI (L.length:Int) (cntV k))) with
 | true=>
  have h2':(leI 0 (cntV k) && notB (eqI (intN (lenL L)) (cntV k)))=true:=h2
  exact ⟨[],false,5,e212 _ _ _ ⟨(cntV k,g),(),h182,ite_f h1' (and_of (fun _=>rfl) (by rw [h2']; exact ite_t rfl ⟨rfl,rfl⟩))⟩,rfl,fun h=>by cases h⟩
 | false=>
  have h2':(leI 0 (cntV k) && notB (eqI (intN (lenL L)) (cntV k)))=false:=h2
  rw [if_neg Bool.false_ne_true]
  have g1:=gives263 (L:=L) (by omega)
  by_cases h3:firstE L=0
  case neg=>
   rw [if_pos h3]
   exact ⟨[],false,firstE L,e212 _ _ _ ⟨(cntV k,g),(),h182,ite_f h1' (and_of (fun _=>rfl) (by rw [h2']; exact ite_f rfl ⟨_,g1,ite_t (notB_t.2 (eqI_f.2 h3)) ⟨rfl,rfl⟩⟩))⟩,rfl,fun h=>by cases h⟩
  rw [if_neg (by omega)]
  have h3':notB (eqI (firstE L) 0)=false:=notB_f.2 (eqI_t.2 h3)
  have ha:=args_of (firstE_zero.1 h3) (by omega)
  obtain ⟨v,ok,d1,d2⟩:=hdo L ha fun h0=>by
   cases hb:notB (eqI (L.length:Int) (cntV k)) with
   | true=>
    have:leI 0 (cntV k)=true:=decide_eq_true h0
    rw [hb,this] at h2; cases h2
   | false=>exact eqI_t.1 (notB_f.1 hb)
  cases ok with
  | false=>exact ⟨[],false,0,e212 _ _ _ ⟨(cntV k,g),(),h182,ite_f h1' (and_of (fun _=>rfl) (by rw [h2']; exact ite_f rfl ⟨_,g1,ite_f h3' ⟨(v,false),(),d1,ite_t rfl ⟨rfl,rfl⟩⟩⟩))⟩,d2,fun h=>by cases h⟩
  | true=>exact ⟨v,true,0,e212 _ _ _ ⟨(cntV k,g),(),h182,ite_f h1' (and_of (fun _=>rfl) (by rw [h2']; exact ite_f rfl ⟨_,g1,ite_f h3' ⟨(v,true),(),d1,ite_f rfl ⟨rfl,rfl⟩⟩⟩))⟩,d2,fun _=>rfl⟩
theorem gives212 {k:Int} (h1:5≤k) (h2:k≤13) (L:List ValL):∃(v:ValL) (ok:Bool) (e:Int),Gives 212 [.d (.int .i64 k),.d (.sl .sl_api_Atom L)] (.tup [.d (.sl .api_Atom v),.d (.bool ok),.d (.int .i64 e)])∧doV k L=(if ok=true then some v else none)∧(ok=true→e=0):=by
 obtain rfl|rfl|rfl|rfl|rfl|rfl|rfl|rfl|rfl:k=5∨k=6∨k=7∨k=8∨k=9∨k=10∨k=11∨k=12∨k=13:=by omega
 ·exact do_of (g:=288) (e262 _ _ _ (ite_t rfl ⟨rfl,rfl⟩)) (fun L h _=>does288 h) L
 ·exact do_of (g:=289) (e262 _ _ _ (ite_f rfl (ite_t rfl ⟨rfl,rfl⟩))) (fun L h hn=>does289 h (by have:=hn (by decide); rw [show cntV 6=2 from rfl] at this; omega)) L
 ·exact do_of (g:=290) (e262 _ _ _ (ite_f rfl (ite_f rfl (ite_t rfl ⟨rfl,rfl⟩)))) (fun L h hn=>does290 h (by have:=hn (by decide); rw [show cntV 7=2 from rfl] at this; omega)) L
 ·exact do_of (g:=291) (e262 _ _ _ (ite_f rfl (ite_f rfl (ite_f rfl (ite_t rfl ⟨rfl,rfl⟩))))) (fun L h hn=>does291 h (by have:=hn (by decide); rw [show cntV 8=2 from rfl] at this; omega)) L
 ·exact do_of (g:=292) (e262 _ _ _ (ite_f rfl (ite_f rfl (ite_f rfl (ite_f rfl (ite_t rfl ⟨rfl,rfl⟩)))))) (fun L h hn=>does292 h (by have:=hn (by decide); rw [show cntV 9=2 from rfl] at this; omega)) L
 ·exact do_of (g:=293) (e262 _ _ _ (ite_f rfl (ite_f rfl (ite_f rfl (ite_f rfl (ite_f rfl (ite_t rfl ⟨rfl,rfl⟩))))))) (fun L h hn=>does293 h (by have:=hn (by decide); rw [show cntV 10=2 from rfl] at this; omega)) L
 ·exact do_of (g:=294) (e262 _ _ _ (ite_f rfl (ite_f rfl (ite_f rfl (ite_f rfl (ite_f rfl (ite_f rfl (ite_t rfl ⟨rfl,rfl⟩)))))))) (fun L h hn=>does294 h (by have:=hn (by decide); rw [show cntV 11=1 from rfl] at this; omega)) L
 ·exact do_of (g:=295) (e262 _ _ _ (ite_f rfl (ite_f rfl (ite_f rfl (ite_f rfl (ite_f rfl (ite_f rfl (ite_f rfl (ite_t rfl ⟨rfl,rfl⟩))))))))) (fun L h hn=>does295 h (by have:=hn (by decide); rw [show cntV 12=2 from rfl] at this; omega)) L
 ·exact do_of (g:=296) (e262 _ _ _ (ite_f rfl (ite_f rfl (ite_f rfl (ite_f rfl (ite_f rfl (ite_f rfl (ite_f rfl (ite_f rfl (ite_t rfl ⟨rfl,rfl⟩)))))))))) (fun L h hn=>does296 h (by have:=hn (by decide); rw [show cntV 13=2 from rfl] at this; omega)) L
end
theorem gives221 (k:Int) (t:ByteArray):Gives 221 [.d (.int .i64 k),.d (.str t)] (outC ⟨2,[],[⟨k,0,t⟩]⟩):=e221 _ _ _ ⟨rfl,rfl⟩
theorem gives158 (v:ValL):Gives 158 [.d (.sl .api_Atom v)] (outC ⟨1,v,[]⟩):=e158 _ _ ⟨rfl,rfl⟩
theorem gives224 (k:Int):∃t,Gives 224 [.d (.int .i64 k)] (.d (.str t)):=by
 have fin:∀{t:ByteArray} {p:Prop},p→p:=fun h=>h
 rcases opKinds k with rfl|rfl|rfl|rfl|rfl|rfl|rfl|rfl|rfl|rfl|rfl|rfl|rfl|rfl|rfl|rfl|rfl|rfl|rfl|h
 iterate 19 (exact ⟨_,e224 _ _ (by simp only [eqI,Int.reduceBEq,iteP]; exact ⟨rfl,rfl⟩)⟩)
 exact ⟨_,e224 _ _ (by
  simp only [eqI_f.2 (show k ≠ 5 by omega),eqI_f.2 (show k ≠ 6 by omega),eqI_f.2 (show k ≠ 7 by omega),eqI_f.2 (show k ≠ 8 by omega),eqI_f.2 (show k ≠ 9 by omega),eqI_f.2 (show k ≠ 10 by omega),eqI_f.2 (show k ≠ 11 by omega),eqI_f.2 (show k ≠ 12 by omega),eqI_f.2 (show k ≠ 13 by omega),eqI_f.2 (show k ≠ 14 by omega),eqI_f.2 (show k ≠ 16 by omega),eqI_f.2 (show k ≠ 17 by omega),iteP]
  exact ⟨rfl,rfl⟩)⟩
noncomputable def wordF (k:Int):ByteArray:=Classical.choose (gives224 k)
theorem gives224' (k:Int):Gives 224 [.d (.int .i64 k)] (.d (.str (wordF k))):=Classical.choose_spec (gives224 k)
theorem numV_ok {n:Int} {v:ValL} (h:numV n=some v):valE v=0:=by
 unfold numV at h
 split at h
 ·cases h
 ·rename_i hn
  cases h
  rw [Bool.or_eq_true,not_or] at hn
  have h1:=of_decide_eq_false (Bool.eq_false_iff.2 hn.1)
  have h2:=of_decide_eq_false (Bool.eq_false_iff.2 hn.2)
  have ha:atomB ⟨1,0,n,bs []⟩=true:=by
   show (((eqI 0 0 && strEq (bs []) (bs [])) && leI (-9007199254740992) n) && leI n 9007199254740992)=true
   have e1:leI (-9007199254740992) n=true:=decide_eq_true (by omega)
   have e2:leI n 9007199254740992=true:=decide_eq_true (by omega)
   rw [e1,e2,strEq_self]; rfl
  exact valE_tree (t:=.nd ⟨1,0,n,bs []⟩ []) ⟨by simp only [Tr.good,Tr.goods]; exact ⟨⟨ha,rfl⟩,trivial⟩,by simp [Tr.deep,Tr.deeps],by simp [Tr.size,Tr.sizes]⟩
theorem madeV_ok {L:List ValL} {v:ValL} (h:madeV L=some v):valE v=0:=by
 unfold madeV at h
 split at h
 ·cases h
 ·split at h
  ·rename_i h1; cases h; exact h1
  ·cases h
theorem opV_ok {k:Int} {L:List ValL} (hL:ArgsOk L) (hn:0≤cntV k→(L.length:Int)=cntV k) {v:ValL} (h:opV k L=some v):valE v=0:=by
 unfold opV at h
 have two:∀{k':Int},k=k'→k' ≠ 5→k' ≠ 11→L.length=2:=fun e h5 h11=>by
  have e2:cntV k=2:=by unfold cntV; rw [if_neg (by omega),if_neg (by omega)]
  have:=hn (by omega); omega
 split at h
 ·exact madeV_ok h
 split at h
 ·split at h
  ·exact numV_ok h
  ·cases h
 split at h
 ·split at h
  ·exact numV_ok h
  ·cases h
 split at h
 ·split at h
  ·exact numV_ok h
  ·cases h
 split at h
 ·rename_i hk
  have h2:=two hk (by decide) (by decide)
  obtain ⟨a,l,e0,h0⟩:=hL.at (i:=0) (by omega)
  obtain ⟨b,m,e1,h1⟩:=hL.at (i:=1) (by omega)
  have f0:rd [] L 0=(Tr.nd a l).post:=e0
  have f1:rd [] L 1=(Tr.nd b m).post:=e1
  unfold joinV at h
  split at h
  ·cases h
  ·split at h
   ·split at h
    ·cases h
    ·rename_i hl
     cases h
     have ha:atomB ⟨2,0,0,strAdd (lastAt (rd [] L 0)).gText (lastAt (rd [] L 1)).gText⟩=true:=by
      show ((eqI 0 0 && eqI 0 0) && leI (intN (strLen (strAdd (lastAt (rd [] L 0)).gText (lastAt (rd [] L 1)).gText))) 4096)=true
      have e:strLen (strAdd (lastAt (rd [] L 0)).gText (lastAt (rd [] L 1)).gText)=(lastAt (rd [] L 0)).gText.size+(lastAt (rd [] L 1)).gText.size:=by
       unfold strLen strAdd; exact ByteArray.size_append
      rw [e]
      have:leI (intN ((lastAt (rd [] L 0)).gText.size+(lastAt (rd [] L 1)).gText.size)) 4096=true:=decide_eq_true (by rw [intN_eq]; omega)
      rw [this]; rfl
     exact valE_tree (t:=.nd ⟨2,0,0,strAdd (lastAt (rd [] L 0)).gText (lastAt (rd [] L 1)).gText⟩ []) ⟨by simp only [Tr.good,Tr.goods]; exact ⟨⟨ha,rfl⟩,trivial⟩,by simp [Tr.deep,Tr.deeps],by simp [Tr.size,Tr.sizes]⟩
   ·exact madeV_ok h
 split at h
 ·rename_i hk
  have h2:=two hk (by decide) (by decide)
  obtain ⟨a,l,e0,h0⟩:=hL.at (i:=0) (by omega)
  have f0:rd [] L 0=(Tr.nd a l).post:=e0
  unfold itemV at h
  split at h
  ·cases h
  ·rw [f0,memV_post h0,List.getElem?_map,Option.map_eq_some_iff] at h
   obtain ⟨t,ht,rfl⟩:=h
   exact valE_tree (h0.kid (List.mem_of_getElem? ht))
 split at h
 ·unfold sizeV at h
  split at h
  ·exact numV_ok h
  ·split at h
   ·exact numV_ok h
   ·cases h
 split at h
 ·exact numV_ok h
 split at h
 ·exact numV_ok h
 ·cases h
theorem doV_ok {k:Int} {L:List ValL} {v:ValL} (h:doV k L=some v):valE v=0:=by
 unfold doV at h
 split at h
 ·cases h
 split at h
 ·cases h
 rename_i h1 h2
 split at h
 ·cases h
 rename_i h3
 refine opV_ok (args_of (firstE_zero.1 (by omega)) (by omega)) (fun h0=>?_) h
 cases hb:notB (eqI (L.length:Int) (cntV k)) with
 | true=>
  have:leI 0 (cntV k)=true:=decide_eq_true h0
  rw [hb,this] at h2; exact absurd rfl h2
 | false=>exact eqI_t.1 (notB_f.1 hb)
theorem valE_ne {v:ValL} (h:valE v=0):v ≠ []:=by
 intro e; subst e; revert h; decide
noncomputable def doneF (k:Int) (L:List ValL):api_Outcome:=match doV k L with
 | some v=>⟨1,v,[]⟩
 | none=>⟨2,[],[⟨3,0,wordF k⟩]⟩
theorem gives162 {k:Int} (h1:5≤k) (h2:k≤13) (L:List ValL):Gives 162 [.d (.int .i64 k),.d (.sl .sl_api_Atom L)] (outC (doneF k L)):=by
 obtain ⟨v,ok,e,g1,g2,g3⟩:=gives212 h1 h2 L
 unfold doneF
 rw [g2]
 cases ok with
 | false=>exact e162 _ _ _ ⟨(v,false,e),g1,or_of (fun _=>rfl) (ite_t rfl ⟨_,gives224' k,⟨2,[],[⟨3,0,wordF k⟩]⟩,gives221 _ _,rfl,rfl⟩)⟩
 | true=>
  have he:=g3 rfl
  subst he
  exact e162 _ _ _ ⟨(v,true,0),g1,or_of (fun _=>rfl) (ite_f rfl ⟨⟨1,v,[]⟩,gives158 v,rfl,rfl⟩)⟩
theorem doneF_ok (k:Int) (L:List ValL):((doneF k L).gKind=1∧(doneF k L).gValue ≠ [])∨(doneF k L).gKind=2:=by
 unfold doneF
 cases h:doV k L with
 | none=>exact .inr rfl
 | some v=>exact .inl ⟨rfl,valE_ne (doV_ok h)⟩
theorem runs_frz {f:FuncId} {args:List (C U)} {H:List (O U)} {post:Post} (h:Runs K f args H fun c H'=>∃(cs:List (C K.U)) (n:Int) (cs':List (C K.U)) (wr:List (Rf×O K.U)),c=.tup [.agg cs,.d (.int .i64 n)]∧K.frz (fun _=>none) H' (.agg cs)=some (true,.agg cs',wr)∧
  (∀l:Go.Abs.Loc K.U,apL l wr=l)∧post (.tup [.agg cs',.d (.int .i64 n)]) (apH H' wr)):Runs K f args H post:=by
 intro w F pl vs hok M hr
 refine (h w F pl vs hok M hr).mono ?_
 rintro e w' ⟨v,rfl,c,H',F',pl',own,⟨cs,n,cs',wr,rfl,hf,hl,hp⟩,fin⟩
 obtain ⟨rep,mem,fr,nodup,hok',mine⟩:=fin
 simp only [RepR,RepRs,RepR1] at rep
 obtain ⟨vs',rfl,v1,r1,o1,o2,rfl,rfl,⟨rfl,h1⟩,v2,r2,o3,o4,rfl,rfl,⟨rfl,h2⟩,rfl,rfl⟩:=rep
 obtain ⟨W,V⟩:=frz_sound (loc:=fun _=>none) (H:=H') mem hf rfl h1
 obtain ⟨F1,M1,f1,G1,hk1,R1,_⟩:=frz_apply laws W mem fr hok'
 rw [hl] at M1 f1
 have h2:=repC_int.1 h2
 subst h2
 refine ⟨_,rfl,_,_,F1,pl',[],hp,⟨_,rfl,v1,_,[],[],rfl,rfl,⟨rfl,V F1 ⟨G1.hF,fun p hp=>⟨_,_,R1 p hp⟩⟩ _ _⟩,_,_,[],[],rfl,rfl,⟨rfl,repC_int.2 rfl⟩,rfl,rfl⟩,M1,f1,List.nodup_nil,hk1,fun b hb=>by cases hb⟩
theorem gives154 (o:api_Outcome):Gives 154 [outC o] (.d (.bool (outR o))):=by
 refine Runs.known fun hk _=>?_
 have hl:o.gFail.length * 32≤140737488355328:=(C.Known.agg (hk _ (List.mem_cons_self ..)) _ (List.mem_of_getElem? (i:=2) rfl)).d.sl.1
 unfold outR
 refine e154 _ _ (ite_w (fun h1=>?_) (fun h1=>ite_w (fun h2=>ite_t h2 ?_) (fun h2=>ite_w (fun h3=>?_) (fun h3=>?_))))
 ·simp only [h1,if_true]
  exact and_of (fun _=>⟨_,gives177 _,rfl⟩) ⟨rfl,rfl⟩
 ·simp only [h1,h2,if_true,if_false]
  refine and_of (fun _=>⟨_,gives178 _,rfl⟩) (and_of (b:=true) (fun _=>⟨true,ite_t rfl rfl,rfl⟩) ?_)
  rw [Bool.and_true]; exact ⟨rfl,rfl⟩
 ·simp only [h1,h2,h3,if_true,if_false]
  refine and_of (fun _=>⟨_,gives178 _,rfl⟩) (and_of (b:=eqI (lastK o.gFail) 2) (fun h=>?_) ⟨rfl,rfl⟩)
  rw [Bool.and_eq_true] at h
  exact ⟨_,ite_f rfl (and_t (lastK_in h.2 (by omega)) rfl),rfl⟩
 ·simp only [h1,h2,h3,if_false]
  exact ⟨rfl,rfl⟩
theorem gives83 {x:List api_Op} {t:Tr api_Op} (h:exprT x=some [t]) (hx:x.length * 40≤140737488355328):Gives 83 [.d (.sl .api_Op x)] (.d (.sl .int (Ns (t.fronts 0)))):=by
 have loop:∀i,i≤x.length→∀st:List (Tr api_Op),exprT (x.take i)=some st→
   At K 83 (fun c' H'=>c'=(.d (.sl .int (Ns (t.fronts 0))):C U)∧H'=[]) t83_3 (s83_3 x (intN (lenL x)) i (Ns (Tr.frontss 0 st)) (Ns (Tr.starts 0 st))):=by
  refine upto ?_ fun i hi ih=>?_
  ·intro st hst
   rw [List.take_length,h] at hst
   cases hst
   refine l83_3 _ _ _ _ _ _ (ite_f (lt_len_f (Nat.le_refl _)) ⟨?_,rfl⟩)
   have hf1:Tr.frontss 0 [t]=t.fronts 0:=by simp [Tr.frontss]
   rw [hf1]
  ·intro st hst
   have hsucc:=Tr.read_take_succ (ok:=opB) (ar:=(·.gN)) hi hst
   cases hp:Tr.put opB (·.gN) st x[i] with
   | none=>
    rw [hp] at hsucc
    have hn:exprT x=none:=Tr.read_take_none hsucc
    rw [hn] at h; cases h
   | some st'=>
    rw [hp] at hsucc
    obtain ⟨ho,n,hn,hnl,hst'⟩:=Tr.put_some hp
    have hsz:Tr.sizes st=i:=by rw [Tr.read_sizes hst]; simp; omega
    have hll:=Tr.length_le_sizes st
    have hlen:(Ns (Tr.starts 0 st)).length=st.length:=by rw [Ns_length,Tr.starts_length]
    have hfl:(Ns (Tr.frontss 0 st)).length=i:=by rw [Ns_length,Tr.frontss_length,hsz]
    have hsub:subW .i64 (intN (lenL (Ns (Tr.starts 0 st)))) (n:Int)=((st.length - n:Nat):Int):=by
     rw [intN_eq,lenL_eq,hlen,subW_id (by omega) (by omega)]; omega
    have nx:=ih st' hsucc
    rw [hst',fronts_put hnl,starts_put hnl,Ns_append,Ns_append,←Ns_take,Ns_one] at nx
    refine l83_3 _ _ _ _ _ _ (ite_t (lt_len hi) (and_t (in_len hi) ?_))
    have hrd:rd (api_Op.mk 0 0 0 (bs [])) x (i:Int)=x[i]:=rd_at hi
    rw [hrd,hn,hsub,natI_nat]
    have hs1:andB (leI 0 0) (andB (leI 0 ((st.length - n:Nat):Int)) (andB (leI ((st.length - n:Nat):Int) (intN (lenL (Ns (Tr.starts 0 st))))) true))=true:=by
     rw [intN_eq,lenL_eq,hlen]; exact slice_ok' (by omega)
    have hs2:∀z:Int,andB (leN (addN 0 (st.length - n)) (lenL (Ns (Tr.starts 0 st)))) (roomB (addN (st.length - n) (lenL [z])) 8)=true:=fun z=>by
     rw [andB_true]
     refine ⟨leN_t (by simp only [addN,lenL_eq,hlen]; omega),roomB_t ?_⟩
     simp only [addN,lenL_eq,List.length_singleton]; omega
    have hs3:∀z:Int,roomB (addN (lenL (Ns (Tr.frontss 0 st))) (lenL [z])) 8=true:=fun z=>roomB_t (by simp only [addN,lenL_eq,List.length_singleton,hfl]; omega)
    by_cases h0:0<n
    ·have hk:st.length - n<st.length:=by omega
     have hg:rdN (Int.ofNat 0) (Ns (Tr.starts 0 st)) (st.length - n)=((Tr.sizes (st.take (st.length - n)):Nat):Int):=rdN_some (Ns_get (start_at hk))
     refine ite_t (by simp [ltI]; omega) (and_t (in_len (by omega)) (and_t (ltN_t (by rw [lenL_eq,hlen]; exact hk)) (and_t hs1 ?_)))
     rw [hg]
     refine and_t (hs2 _) (and_t (hs3 _) ?_)
     rw [add_one (by omega)]; exact nx
    ·have h00:n=0:=by omega
     subst h00
     refine ite_f (by simp [ltI]) (and_t hs1 (and_t (hs2 _) (and_t (hs3 _) ?_)))
     rw [add_one (by omega)]
     simp only [Nat.sub_zero,List.take_length,hsz] at nx ⊢
     exact nx
 exact e83 _ _ (loop 0 (Nat.zero_le _) [] rfl)
abbrev Val:=List api_Atom
abbrev Loc':=List eval_local
structure Env where
 known:ByteArray→Option api_Outcome
 opn:ByteArray→Bool
 done:Int→List Val→api_Outcome
 word:Int→ByteArray
structure Sta where
 asked:List ByteArray
 gate:ByteArray
def nilO:api_Outcome:=⟨0,[],[]⟩
def comesO (v:Val):api_Outcome:=⟨1,v,[]⟩
def failO (k:Int) (t:ByteArray):api_Outcome:=⟨2,[],[⟨k,0,t⟩]⟩
def panicO (t:ByteArray):api_Outcome:=⟨3,[],[⟨2,0,t⟩]⟩
def lookL (loc:Loc') (n:ByteArray):Option Val:=(loc.reverse.find? fun x=>strEq x.gName n).map (·.gV)
def lastA (v:Val):api_Atom:=v.getLastD ⟨0,0,0,⟨#[]⟩⟩
mutual
def ev (E:Env):Tr api_Op→Loc'→Sta→api_Outcome×Sta
 | .nd o l,loc,s=>
  if o.gKind=1 then (comesO [⟨1,0,o.gInt,⟨#[]⟩⟩],s)
  else if o.gKind=2 then (comesO [⟨2,0,0,o.gText⟩],s)
  else if o.gKind=3 then ((E.known o.gText).getD (failO 4 o.gText),⟨s.asked ++ [o.gText],s.gate⟩)
  else if o.gKind=4 then (comesO ((lookL loc o.gText).getD []),s)
  else if o.gKind=18 then
   if E.opn o.gText then evn E l 0 loc s else (nilO,⟨s.asked,o.gText⟩)
  else if o.gKind=15 then
   if (evn E l 0 loc s).1.gKind=2 then evn E l 1 loc (evn E l 0 loc s).2 else evn E l 0 loc s
  else if o.gKind=14∨o.gKind=19∨o.gKind=16∨o.gKind=17 then
   if (evn E l 0 loc s).1.gKind=1 then
    if o.gKind=19 then evn E l 1 (loc ++ [⟨o.gText,(evn E l 0 loc s).1.gValue⟩]) (evn E l 0 loc s).2
    else if o.gKind=14∧(lastA (evn E l 0 loc s).1.gValue).gKind=1∧(lastA (evn E l 0 loc s).1.gValue).gInt ≠ 0 then evn E l 1 loc (evn E l 0 loc s).2
    else if o.gKind=14∧(lastA (evn E l 0 loc s).1.gValue).gKind=1 then evn E l 2 loc (evn E l 0 loc s).2
    else if o.gKind=16∧(lastA (evn E l 0 loc s).1.gValue).gKind=2 then (failO 1 (lastA (evn E l 0 loc s).1.gValue).gText,(evn E l 0 loc s).2)
    else if o.gKind=17∧(lastA (evn E l 0 loc s).1.gValue).gKind=2 then (panicO (lastA (evn E l 0 loc s).1.gValue).gText,(evn E l 0 loc s).2)
    else (failO 3 (E.word o.gKind),(evn E l 0 loc s).2)
   else evn E l 0 loc s
  else evl E l [] o.gKind loc s
def evn (E:Env):List (Tr api_Op)→Nat→Loc'→Sta→api_Outcome×Sta
 | [],_,_,s=>(failO 0 ⟨#[]⟩,s)
 | t :: _,0,loc,s=>ev E t loc s
 | _ :: l,n+1,loc,s=>evn E l n loc s
def evl (E:Env):List (Tr api_Op)→List Val→Int→Loc'→Sta→api_Outcome×Sta
 | [],args,kind,_,s=>(E.done kind args,s)
 | t :: l,args,kind,loc,s=>if (ev E t loc s).1.gKind=1 then evl E l (args ++ [(ev E t loc s).1.gValue]) kind loc (ev E t loc s).2 else ev E t loc s
end
def goOn (E:Env) (l:List (Tr api_Op)) (o:api_Op) (loc:Loc') (r:api_Outcome×Sta):api_Outcome×Sta:=
 if r.1.gKind=1 then
  if o.gKind=19 then evn E l 1 (loc ++ [⟨o.gText,r.1.gValue⟩]) r.2
  else if o.gKind=14∧(lastA r.1.gValue).gKind=1∧(lastA r.1.gValue).gInt ≠ 0 then evn E l 1 loc r.2
  else if o.gKind=14∧(lastA r.1.gValue).gKind=1 then evn E l 2 loc r.2
  else if o.gKind=16∧(lastA r.1.gValue).gKind=2 then (failO 1 (lastA r.1.gValue).gText,r.2)
  else if o.gKind=17∧(lastA r.1.gValue).gKind=2 then (panicO (lastA r.1.gValue).gText,r.2)
  else (failO 3 (E.word o.gKind),r.2)
 else r
def goTry (E:Env) (l:List (Tr api_Op)) (loc:Loc') (r:api_Outcome×Sta):api_Outcome×Sta:=if r.1.gKind=2 then evn E l 1 loc r.2 else r
section
variable {E:Env} {o:api_Op} {l:List (Tr api_Op)} {loc:Loc'} {s:Sta}
theorem ev_1 (h:o.gKind=1):ev E (.nd o l) loc s=(comesO [⟨1,0,o.gInt,⟨#[]⟩⟩],s):=by rw [ev,if_pos h]
theorem ev_2 (h:o.gKind=2):ev E (.nd o l) loc s=(comesO [⟨2,0,0,o.gText⟩],s):=by rw [ev,if_neg (by omega),if_pos h]
theorem ev_3 (h:o.gKind=3):ev E (.nd o l) loc s=((E.known o.gText).getD (failO 4 o.gText),⟨s.asked ++ [o.gText],s.gate⟩):=by rw [ev,if_neg (by omega),if_neg (by omega),if_pos h]
theorem ev_4 (h:o.gKind=4):ev E (.nd o l) loc s=(comesO ((lookL loc o.gText).getD []),s):=by rw [ev,if_neg (by omega),if_neg (by omega),if_neg (by omega),if_pos h]
theorem ev_18 (h:o.gKind=18):ev E (.nd o l) loc s=if E.opn o.gText then evn E l 0 loc s else (nilO,⟨s.asked,o.gText⟩):=by
 rw [ev,if_neg (by omega),if_neg (by omega),if_neg (by omega),if_neg (by omega),if_pos h]
theorem ev_15 (h:o.gKind=15):ev E (.nd o l) loc s=goTry E l loc (evn E l 0 loc s):=by
 rw [ev,if_neg (by omega),if_neg (by omega),if_neg (by omega),if_neg (by omega),if_neg (by omega),if_pos h]; rfl
theorem ev_g (h:o.gKind=14∨o.gKind=19∨o.gKind=16∨o.gKind=17):ev E (.nd o l) loc s=goOn E l o loc (evn E l 0 loc s):=by
 rw [ev,if_neg (by omega),if_neg (by omega),if_neg (by omega),if_neg (by omega),if_neg (by omega),if_neg (by omega),if_pos h]; rfl
theorem ev_r (h:¬(o.gKind=1∨o.gKind=2∨o.gKind=3∨o.gKind=4∨o.gKind=18∨o.gKind=15∨(o.gKind=14∨o.gKind=19∨o.gKind=16∨o.gKind=17))):ev E (.nd o l) loc s=evl E l [] o.gKind loc s:=by
 rw [ev,if_neg (by omega),if_neg (by omega),if_neg (by omega),if_neg (by omega),if_neg (by omega),if_neg (by omega),if_neg (by omega)]
end
theorem goOn_ind {E:Env} {l:List (Tr api_Op)} {o:api_Op} {loc:Loc'} {r:api_Outcome×Sta} {P:api_Outcome×Sta→Prop} (h0:r.1.gKind ≠ 1→P r) (h1:∀n loc',0<n→r.1.gKind=1→P (evn E l n loc' r.2)) (h2:∀x:api_Outcome,x.gKind=2∨x.gKind=3→P (x,r.2)):P (goOn E l o loc r):=by
 unfold goOn
 by_cases k1:r.1.gKind=1
 ·rw [if_pos k1]
  by_cases k2:o.gKind=19
  ·rw [if_pos k2]; exact h1 _ _ (by decide) k1
  rw [if_neg k2]
  by_cases k3:o.gKind=14∧(lastA r.1.gValue).gKind=1∧(lastA r.1.gValue).gInt ≠ 0
  ·rw [if_pos k3]; exact h1 _ _ (by decide) k1
  rw [if_neg k3]
  by_cases k4:o.gKind=14∧(lastA r.1.gValue).gKind=1
  ·rw [if_pos k4]; exact h1 _ _ (by decide) k1
  rw [if_neg k4]
  by_cases k5:o.gKind=16∧(lastA r.1.gValue).gKind=2
  ·rw [if_pos k5]; exact h2 _ (.inl rfl)
  rw [if_neg k5]
  by_cases k6:o.gKind=17∧(lastA r.1.gValue).gKind=2
  ·rw [if_pos k6]; exact h2 _ (.inr rfl)
  rw [if_neg k6]; exact h2 _ (.inl rfl)
 ·rw [if_neg k1]; exact h0 k1
mutual
theorem ev_asked (E:Env):∀(t:Tr api_Op) (loc:Loc') (s:Sta),s.asked <+: (ev E t loc s).2.asked∧(ev E t loc s).2.asked.length≤s.asked.length+t.size
 | .nd o l,loc,s=>by
  have h1:=fun n loc' s'=>evn_asked E l n loc' s'
  have h2:=evl_asked E l [] o.gKind loc s
  have hsz:Tr.sizes l=Tr.sizes (l.take 1)+Tr.sizes (l.drop 1):=by rw [←Tr.sizes_append,List.take_append_drop]
  simp only [Tr.size]
  by_cases c1:o.gKind=1
  ·rw [ev_1 c1]; exact ⟨List.prefix_rfl,by dsimp only; omega⟩
  by_cases c2:o.gKind=2
  ·rw [ev_2 c2]; exact ⟨List.prefix_rfl,by dsimp only; omega⟩
  by_cases c3:o.gKind=3
  ·rw [ev_3 c3]; exact ⟨List.prefix_append _ _,by simp only [List.length_append,List.length_singleton]; omega⟩
  by_cases c4:o.gKind=4
  ·rw [ev_4 c4]; exact ⟨List.prefix_rfl,by dsimp only; omega⟩
  by_cases c5:o.gKind=18
  ·rw [ev_18 c5]
   by_cases hb:E.opn o.gText=true
   ·rw [if_pos hb]; exact ⟨(h1 0 loc s).1,by have:=(h1 0 loc s).2.1; omega⟩
   ·rw [if_neg hb]; exact ⟨List.prefix_rfl,by dsimp only; omega⟩
  by_cases c6:o.gKind=15
  ·rw [ev_15 c6]
   unfold goTry
   by_cases hb:(evn E l 0 loc s).1.gKind=2
   ·rw [if_pos hb]
    refine ⟨(h1 0 loc s).1.trans (h1 1 loc _).1,?_⟩
    have a:=(h1 0 loc s).2.2.1 rfl
    have b:=(h1 1 loc (evn E l 0 loc s).2).2.2.2 (by decide)
    omega
   ·rw [if_neg hb]; exact ⟨(h1 0 loc s).1,by have:=(h1 0 loc s).2.1; omega⟩
  by_cases c7:o.gKind=14∨o.gKind=19∨o.gKind=16∨o.gKind=17
  ·rw [ev_g c7]
   have a:=(h1 0 loc s).2.2.1 rfl
   refine goOn_ind (P:=fun x=>s.asked <+: x.2.asked∧x.2.asked.length≤s.asked.length+(Tr.sizes l+1)) (fun _=>⟨(h1 0 loc s).1,by omega⟩) (fun n loc' hn _=>⟨(h1 0 loc s).1.trans (h1 n loc' _).1,?_⟩) (fun x _=>⟨(h1 0 loc s).1,by dsimp only; omega⟩)
   have b:=(h1 n loc' (evn E l 0 loc s).2).2.2.2 hn
   omega
  ·rw [ev_r (by omega)]
   exact ⟨h2.1,by have:=h2.2; omega⟩
theorem evn_asked (E:Env):∀(l:List (Tr api_Op)) (n:Nat) (loc:Loc') (s:Sta),s.asked <+: (evn E l n loc s).2.asked∧(evn E l n loc s).2.asked.length≤s.asked.length+Tr.sizes l∧(n=0→(evn E l n loc s).2.asked.length≤s.asked.length+Tr.sizes (l.take 1))∧(0<n→(evn E l n loc s).2.asked.length≤s.asked.length+Tr.sizes (l.drop 1))
 | [],_,_,s=>by rw [evn]; exact ⟨List.prefix_rfl,by dsimp only; omega,fun _=>by dsimp only; omega,fun _=>by dsimp only; omega⟩
 | t :: l,0,loc,s=>by
  rw [evn]
  have:=ev_asked E t loc s
  refine ⟨this.1,?_,fun _=>?_,fun h=>absurd h (by decide)⟩
  ·simp only [Tr.sizes]; omega
  ·simp only [List.take_succ_cons,List.take_zero,Tr.sizes]; omega
 | t :: l,n+1,loc,s=>by
  rw [evn]
  have:=evn_asked E l n loc s
  refine ⟨this.1,?_,fun h=>by omega,fun _=>?_⟩
  ·simp only [Tr.sizes]; omega
  ·simp only [List.drop_succ_cons,List.drop_zero]; exact this.2.1
theorem evl_asked (E:Env):∀(l:List (Tr api_Op)) (args:List Val) (k:Int) (loc:Loc') (s:Sta),s.asked <+: (evl E l args k loc s).2.asked∧(evl E l args k loc s).2.asked.length≤s.asked.length+Tr.sizes l
 | [],args,k,loc,s=>by rw [evl]; exact ⟨List.prefix_rfl,by dsimp only; omega⟩
 | t :: l,args,k,loc,s=>by
  have h:=ev_asked E t loc s
  have h':=evl_asked E l (args ++ [(ev E t loc s).1.gValue]) k loc (ev E t loc s).2
  rw [evl]
  simp only [Tr.sizes]
  by_cases hb:(ev E t loc s).1.gKind=1
  ·rw [if_pos hb]; exact ⟨h.1.trans h'.1,by omega⟩
  ·rw [if_neg hb]; exact ⟨h.1,by omega⟩
end
theorem obj_push_lt {H:List (O U)} {o:O U} {n:Nat} (h:n<lenO H):obj (pushO H o) n=obj H n:=by
 unfold obj pushO; exact List.getElem?_append_left h
theorem obj_push {H:List (O U)} {o:O U}:obj (pushO H o) (lenO H)=some o:=by
 unfold obj pushO lenO; simp
theorem obj_len {H:List (O U)} {n:Nat} {o:O U} (h:obj H n=some o):n<lenO H:=(List.getElem?_eq_some_iff.1 h).1
theorem obj_upd {H:List (O U)} {n:Nat} {o o':O U} (h:obj H n=some o'):obj (updO H n o) n=some o:=by
 unfold obj updO
 have:=obj_len h
 unfold lenO at this
 simp [this]
theorem obj_upd_ne {H:List (O U)} {n m:Nat} {o:O U} (h:m ≠ n):obj (updO H n o) m=obj H m:=by
 unfold obj updO
 rw [List.getElem?_set_ne (fun e=>h e.symm)]
theorem obj_keep {H:List (O U)} {n m:Nat} {o a b:O U} (h:obj H n=some a) (hm:obj H m=some b) (hne:a ≠ b):obj (updO H n o) m=some b:=by
 rw [obj_upd_ne (fun e=>by subst e; rw [h] at hm; exact hne (Option.some.inj hm))]; exact hm
def kS (x y:ByteArray):Bool:=andB (strEq x y) true
theorem kS_iff {x y:ByteArray}:kS x y=true↔x=y:=by simp only [kS,andB_true,strEq_iff',and_true]
abbrev mapK (es:List (ByteArray×api_Outcome)):O U:=.map (false,true) .str (.pure .api_Outcome) es
def scanK (es:List (ByteArray×api_Outcome)):List api_Known→Int×List (ByteArray×api_Outcome)
 | []=>(0,es)
 | k :: r=>if nameB k.gName=false then (2,[]) else if (findK kS k.gName es).isSome then (6,[]) else if outR k.gOutcome=false then (5,[]) else scanK (updK kS k.gName k.gOutcome es) r
def openE (op:List ByteArray):Int:=if 4096<op.length then 3 else if op.any (fun s=>notB (nameB s)) then 2 else 0
def givenE (kn:List api_Known) (op:List ByteArray):Int:=if 4096<kn.length then 3 else if (scanK [] kn).1=0 then openE op else (scanK [] kn).1
theorem gives155 (op:List ByteArray) (H:List (O U)) (hl:op.length≤4096):GivesM 155 [.d (.sl .str op),.fp 156 [] []] H (.d (.bool (op.any fun s=>notB (nameB s)))) H:=by
 have loop:∀i,i≤op.length→∃n,At K 189 (fun c' H'=>c'=(.d (.int .i64 n):C U)∧H'=H) t189_2 (s189_2 op 156 [] [] (intN (lenL op)) i H)∧leI 0 n=(op.drop i).any fun s=>notB (nameB s):=by
  refine upto ?_ fun i hi ih=>?_
  ·exact ⟨-1,l189_2 _ _ _ _ _ _ _ _ (ite_f (lt_len_f (Nat.le_refl _)) ⟨rfl,rfl⟩),by rw [List.drop_length]; rfl⟩
  ·have g:GivesM 156 [.d (.str (rd (bs []) op (i:Int)))] H (.d (.bool (notB (nameB (rd (bs []) op (i:Int)))))) H:=e156 _ _ _ ⟨_,gives153 _,rfl,rfl⟩
   cases hb:notB (nameB (rd (bs []) op (i:Int))) with
   | true=>
    rw [hb] at g
    refine ⟨i,l189_2 _ _ _ _ _ _ _ _ (ite_t (lt_len hi) (and_t (in_len hi) ⟨_,(),g,ite_t rfl ⟨rfl,rfl⟩⟩)),?_⟩
    rw [rd_at hi] at hb
    rw [List.drop_eq_getElem_cons hi,List.any_cons,hb]; simp [leI]
   | false=>
    rw [hb] at g
    obtain ⟨n,h1,h2⟩:=ih
    refine ⟨n,l189_2 _ _ _ _ _ _ _ _ (ite_t (lt_len hi) (and_t (in_len hi) ⟨_,(),g,ite_f rfl (by rw [add_one (by omega)]; exact h1)⟩)),?_⟩
    rw [rd_at hi] at hb
    rw [List.drop_eq_getElem_cons hi,List.any_cons,hb,h2]; rfl
 obtain ⟨n,h1,h2⟩:=loop 0 (Nat.zero_le _)
 exact e155 _ _ _ _ _ _ ⟨n,(),e189 _ _ _ _ _ _ h1,by rw [h2]; rfl,rfl⟩
def ansK (m:Nat) (e:Int):C U:=.tup [if e=0 then .mp (.g m) else .d .nilm,.d (.int .i64 e)]
def tailE (es:List (ByteArray×api_Outcome)) (r:List api_Known) (op:List ByteArray):Int:=if (scanK es r).1=0 then openE op else (scanK es r).1
theorem given_loop {kn:List api_Known} {op:List ByteArray} {m:Nat} (hkn:kn.length≤4096):∀i,i≤kn.length→∀(es:List (ByteArray×api_Outcome)) (H:List (O U)),obj H m=some (mapK es)→
  ∃H',At K 82 (fun c' H''=>c'=ansK m (tailE es (kn.drop i) op)∧H''=H') t82_5 (s82_5 op m kn (intN (lenL kn)) i H)∧(tailE es (kn.drop i) op=0→obj H' m=some (mapK (scanK es (kn.drop i)).2)):=by
 refine upto ?_ fun i hi ih=>?_
 ·intro es H hH
  rw [List.drop_length]
  have et:tailE es [] op=openE op:=if_pos rfl
  rw [et]
  refine ⟨H,l82_5 _ _ _ _ _ _ _ (ite_f (lt_len_f (Nat.le_refl _)) (ite_w (fun h=>⟨?_,rfl⟩) (fun h=>?_))),fun _=>hH⟩
  ·have h:=of_decide_eq_true h
   rw [intN_eq,lenL_eq] at h
   have e:openE op=3:=if_pos (by omega)
   rw [e]; rfl
  ·have h:=of_decide_eq_false h
   rw [intN_eq,lenL_eq] at h
   have e:openE op=if op.any (fun s=>notB (nameB s)) then 2 else 0:=if_neg (by omega)
   rw [e]
   refine ⟨_,(),gives155 op H (by omega),ite_w (fun h'=>⟨?_,rfl⟩) (fun h'=>⟨?_,rfl⟩)⟩
   ·rw [h']; rfl
   ·rw [h']; rfl
 ·intro es H hH
  have hd:kn.drop i=rd (api_Known.mk (bs []) (api_Outcome.mk 0 [] [])) kn (i:Int) :: kn.drop (i+1):=by rw [rd_at hi]; exact List.drop_eq_getElem_cons hi
  rw [hd]
  generalize hk:rd (api_Known.mk (bs []) (api_Outcome.mk 0 [] [])) kn (i:Int)=k
  have go:∀H',(iteP (notB (nameB k.1)) (C.tup [C.d D.nilm,C.d (D.int IntKind.i64 2)]=ansK m (tailE es (k :: kn.drop (i+1)) op)∧H=H') (iteP (someO (findK kS k.1 es)) (C.tup [C.d D.nilm,C.d (D.int IntKind.i64 6)]=ansK m (tailE es (k :: kn.drop (i+1)) op)∧H=H')
    (iteP (notB (outR k.2)) (C.tup [C.d D.nilm,C.d (D.int IntKind.i64 5)]=ansK m (tailE es (k :: kn.drop (i+1)) op)∧H=H')
     (At K 82 (fun c' H''=>c'=ansK m (tailE es (k :: kn.drop (i+1)) op)∧H''=H') t82_5 (s82_5 op m kn (intN (lenL kn)) (addW .i64 i 1) (updO H m (mapK (updK kS k.1 k.2 es))))))))→
    At K 82 (fun c' H''=>c'=ansK m (tailE es (k :: kn.drop (i+1)) op)∧H''=H') t82_5 (s82_5 op m kn (intN (lenL kn)) i H):=by
   intro H' h
   refine l82_5 _ _ _ _ _ _ _ (ite_t (lt_len hi) (and_t (in_len hi) ⟨es,hH,nameB k.1,?_,?_⟩))
   ·rw [hk]; exact gives153 _
   ·rw [hk]
    refine ite_w (fun h1=>?_) (fun h1=>ite_w (fun h2=>?_) (fun h2=>⟨outR k.2,gives154 _,ite_w (fun h3=>?_) (fun h3=>⟨es,hH,?_⟩)⟩))
    ·rw [h1] at h; exact h
    ·rw [h1] at h
     have h2:someO (findK kS k.1 es)=true:=h2
     rw [h2] at h; exact h
    ·rw [h1] at h
     have h2:someO (findK kS k.1 es)=false:=h2
     rw [h2,h3] at h; exact h
    ·rw [h1] at h
     have h2:someO (findK kS k.1 es)=false:=h2
     rw [h2,h3] at h; exact h
  cases h1:nameB k.gName with
  | false=>
   have et:scanK es (k :: kn.drop (i+1))=(2,[]):=by rw [scanK,if_pos h1]
   have e2:tailE es (k :: kn.drop (i+1)) op=2:=by unfold tailE; rw [et]; rfl
   refine ⟨H,go H (ite_t (by rw [h1]; rfl) ⟨by rw [e2]; rfl,rfl⟩),fun h=>by rw [e2] at h; cases h⟩
  | true=>
   cases h2:(findK kS k.gName es).isSome with
   | true=>
    have et:scanK es (k :: kn.drop (i+1))=(6,[]):=by rw [scanK,if_neg (by rw [h1]; exact Bool.noConfusion),if_pos h2]
    have e2:tailE es (k :: kn.drop (i+1)) op=6:=by unfold tailE; rw [et]; rfl
    refine ⟨H,go H (ite_f (by rw [h1]; rfl) (ite_t h2 ⟨by rw [e2]; rfl,rfl⟩)),fun h=>by rw [e2] at h; cases h⟩
   | false=>
    cases h3:outR k.gOutcome with
    | false=>
     have et:scanK es (k :: kn.drop (i+1))=(5,[]):=by rw [scanK,if_neg (by rw [h1]; exact Bool.noConfusion),if_neg (by rw [h2]; exact Bool.noConfusion),if_pos h3]
     have e2:tailE es (k :: kn.drop (i+1)) op=5:=by unfold tailE; rw [et]; rfl
     refine ⟨H,go H (ite_f (by rw [h1]; rfl) (ite_f h2 (ite_t (by rw [h3]; rfl) ⟨by rw [e2]; rfl,rfl⟩))),fun h=>by rw [e2] at h; cases h⟩
    | true=>
     have et:scanK es (k :: kn.drop (i+1))=scanK (updK kS k.gName k.gOutcome es) (kn.drop (i+1)):=by rw [scanK,if_neg (by rw [h1]; exact Bool.noConfusion),if_neg (by rw [h2]; exact Bool.noConfusion),if_neg (by rw [h3]; exact Bool.noConfusion)]
     have e2:tailE es (k :: kn.drop (i+1)) op=tailE (updK kS k.gName k.gOutcome es) (kn.drop (i+1)) op:=by unfold tailE; rw [et]
     obtain ⟨H',g1,g2⟩:=ih (updK kS k.gName k.gOutcome es) (updO H m (mapK (updK kS k.1 k.2 es))) (obj_upd hH)
     refine ⟨H',go H' (ite_f (by rw [h1]; rfl) (ite_f h2 (ite_f (by rw [h3]; rfl) ?_))),fun h=>?_⟩
     ·rw [e2,add_one (by omega)]; exact g1
     ·rw [et]; exact g2 (by rw [←e2]; exact h)
theorem gives82 (kn:List api_Known) (op:List ByteArray) (H:List (O U)):∃m H',GivesM 82 [.d (.sl .api_Known kn),.d (.sl .str op)] H (ansK m (givenE kn op)) H'∧(givenE kn op=0→obj H' m=some (mapK (scanK [] kn).2)):=by
 by_cases hl:4096<kn.length
 ·have e:givenE kn op=3:=if_pos hl
  rw [e]
  exact ⟨0,H,e82 _ _ _ _ (ite_t (decide_eq_true (by rw [intN_eq,lenL_eq]; omega)) ⟨rfl,rfl⟩),fun h=>by cases h⟩
 ·have e:givenE kn op=tailE [] kn op:=if_neg hl
  obtain ⟨H',g1,g2⟩:=given_loop (kn:=kn) (op:=op) (m:=lenO H) (by omega) 0 (Nat.zero_le _) [] (pushO H (mapK [])) obj_push
  rw [List.drop_zero] at g1 g2
  rw [e]
  exact ⟨lenO H,H',e82 _ _ _ _ (ite_f (decide_eq_false (by rw [intN_eq,lenL_eq]; omega)) g1),g2⟩
structure WayD where
 x:List api_Op
 fr:List Int
 m:Nat
 op:List ByteArray
 a:Nat
 w:Nat
 es:List (ByteArray×api_Outcome)
def wayO (d:WayD) (g:Nat) (gate:ByteArray):O U:=.cells [.d (.sl .api_Op d.x),.d (.sl .int d.fr),.mp (.g d.m),.d (.sl .str d.op),.asl (.g d.a) g none false,.d (.str gate)]
def arrS (g:Nat) (l:List ByteArray):O U:=.arr g (.pure .str) l
def MR (d:WayD) (H:List (O U)) (asked:List ByteArray) (gate:ByteArray):Prop:=∃g,obj H d.w=some (wayO d g gate)∧obj H d.a=some (arrS g asked)∧obj H d.m=some (mapK d.es)
section
variable {d:WayD} {H:List (O U)} {asked:List ByteArray} {gate:ByteArray}
theorem MR.push (h:MR d H asked gate) (o:O U):MR d (pushO H o) asked gate:=by
 obtain ⟨g,h1,h2,h3⟩:=h
 exact ⟨g,by rw [obj_push_lt (obj_len h1)]; exact h1,by rw [obj_push_lt (obj_len h2)]; exact h2,by rw [obj_push_lt (obj_len h3)]; exact h3⟩
theorem MR.stand (h:MR d H asked gate) (t:ByteArray):∃g,obj H d.w=some (wayO d g gate)∧MR d (updO H d.w (wayO d g t)) asked t:=by
 obtain ⟨g,h1,h2,h3⟩:=h
 exact ⟨g,h1,g,obj_upd h1,obj_keep h1 h2 (by simp [wayO,arrS]),obj_keep h1 h3 (by simp [wayO])⟩
def knownF (es:List (ByteArray×api_Outcome)) (n:ByteArray):Option api_Outcome:=findK kS n es
theorem gives159 (h:MR d H asked gate) (hl:asked.length<4096) (n:ByteArray):∃H',GivesM 159 [.ptr (.g d.w) 0,.d (.str n)] H (outC ((knownF d.es n).getD (failO 4 n))) H'∧MR d H' (asked ++ [n]) gate:=by
 obtain ⟨g,h1,h2,h3⟩:=h
 have k1:obj (updO H d.a (arrS (g+1) (asked ++ [n]))) d.w=some (wayO d g gate):=obj_keep h2 h1 (by simp [wayO,arrS])
 have k2:obj (updO H d.a (arrS (g+1) (asked ++ [n]))) d.a=some (arrS (g+1) (asked ++ [n])):=obj_upd h2
 have k3:obj (updO H d.a (arrS (g+1) (asked ++ [n]))) d.m=some (mapK d.es):=obj_keep h2 h3 (by simp [arrS])
 have j1:obj (updO (updO H d.a (arrS (g+1) (asked ++ [n]))) d.w (wayO d (g+1) gate)) d.w=some (wayO d (g+1) gate):=obj_upd k1
 have j2:obj (updO (updO H d.a (arrS (g+1) (asked ++ [n]))) d.w (wayO d (g+1) gate)) d.a=some (arrS (g+1) (asked ++ [n])):=obj_keep k1 k2 (by simp [wayO,arrS])
 have j3:obj (updO (updO H d.a (arrS (g+1) (asked ++ [n]))) d.w (wayO d (g+1) gate)) d.m=some (mapK d.es):=obj_keep k1 k3 (by simp [wayO])
 refine ⟨_,?_,g+1,j1,j2,j3⟩
 refine e159 _ _ _ _ ⟨⟨d.x,d.fr,d.m,d.op,d.a,g,none,gate⟩,h1,asked,h2,and_t rfl (and_t ?_ (and_t (roomB_t ?_) ⟨⟨d.x,d.fr,d.m,d.op,d.a,g,none,gate⟩,k1,⟨d.x,d.fr,d.m,d.op,d.a,g+1,none,gate⟩,j1,d.es,j3,?_⟩))⟩
 ·rfl
 ·show (asked.length+1) * 16≤_
  omega
 ·cases hk:knownF d.es n with
  | none=>
   have hk':someO (findK kS n d.es)=false:=by unfold knownF at hk; rw [hk]; rfl
   exact ite_t (notB_t.2 hk') ⟨failO 4 n,gives221 4 n,rfl,rfl⟩
  | some o=>
   have hk':findK kS n d.es=some o:=hk
   refine ite_f (notB_f.2 (show someO (findK kS n d.es)=true by rw [hk']; rfl)) ⟨?_,rfl⟩
   show outC (getO' _ (findK kS n d.es))=_
   rw [hk']; rfl
end
structure Like (E E':Env):Prop where
 opn:E.opn=E'.opn
 done:E.done=E'.done
 word:E.word=E'.word
theorem goOn_pre {E:Env} {l:List (Tr api_Op)} {o:api_Op} {loc:Loc'} {r:api_Outcome×Sta}:r.2.asked <+: (goOn E l o loc r).2.asked:=
 goOn_ind (P:=fun x=>r.2.asked <+: x.2.asked) (fun _=>List.prefix_rfl) (fun n loc' _ _=>(evn_asked E l n loc' r.2).1) (fun _ _=>List.prefix_rfl)
theorem goTry_pre {E:Env} {l:List (Tr api_Op)} {loc:Loc'} {r:api_Outcome×Sta}:r.2.asked <+: (goTry E l loc r).2.asked:=by
 unfold goTry
 by_cases h:r.1.gKind=2
 ·rw [if_pos h]; exact (evn_asked E l 1 loc r.2).1
 ·rw [if_neg h]; exact List.prefix_rfl
theorem goOn_like {E E':Env} (hw:E.word=E'.word) {l:List (Tr api_Op)} {o:api_Op} {loc:Loc'} {r:api_Outcome×Sta}
  (h1:∀n loc',(∀m∈(evn E l n loc' r.2).2.asked,E.known m=E'.known m)→evn E l n loc' r.2=evn E' l n loc' r.2) (h:∀m∈(goOn E l o loc r).2.asked,E.known m=E'.known m):goOn E l o loc r=goOn E' l o loc r:=by
 unfold goOn at h ⊢
 by_cases k1:r.1.gKind=1
 ·rw [if_pos k1] at h
  rw [if_pos k1,if_pos k1]
  by_cases k2:o.gKind=19
  ·rw [if_pos k2] at h
   rw [if_pos k2,if_pos k2]; exact h1 _ _ h
  rw [if_neg k2] at h
  rw [if_neg k2,if_neg k2]
  by_cases k3:o.gKind=14∧(lastA r.1.gValue).gKind=1∧(lastA r.1.gValue).gInt ≠ 0
  ·rw [if_pos k3] at h
   rw [if_pos k3,if_pos k3]; exact h1 _ _ h
  rw [if_neg k3] at h
  rw [if_neg k3,if_neg k3]
  by_cases k4:o.gKind=14∧(lastA r.1.gValue).gKind=1
  ·rw [if_pos k4] at h
   rw [if_pos k4,if_pos k4]; exact h1 _ _ h
  rw [if_neg k4,if_neg k4,hw]
 ·rw [if_neg k1,if_neg k1]
mutual
theorem ev_like {E E':Env} (L:Like E E'):∀(t:Tr api_Op) (loc:Loc') (s:Sta),(∀n∈(ev E t loc s).2.asked,E.known n=E'.known n)→ev E t loc s=ev E' t loc s
 | .nd o l,loc,s,h=>by
  have h1:=fun n loc' s'=>evn_like L l n loc' s'
  have h2:=evl_like L l [] o.gKind loc s
  by_cases c1:o.gKind=1
  ·rw [ev_1 c1,ev_1 c1]
  by_cases c2:o.gKind=2
  ·rw [ev_2 c2,ev_2 c2]
  by_cases c3:o.gKind=3
  ·rw [ev_3 c3] at h
   rw [ev_3 c3,ev_3 c3,h o.gText (by simp)]
  by_cases c4:o.gKind=4
  ·rw [ev_4 c4,ev_4 c4]
  by_cases c5:o.gKind=18
  ·rw [ev_18 c5] at h
   rw [ev_18 c5,ev_18 c5,←L.opn]
   by_cases hb:E.opn o.gText=true
   ·rw [if_pos hb] at h
    rw [if_pos hb,if_pos hb]; exact h1 _ _ _ h
   ·rw [if_neg hb,if_neg hb]
  by_cases c6:o.gKind=15
  ·rw [ev_15 c6] at h
   rw [ev_15 c6,ev_15 c6,←h1 0 loc s fun n hn=>h n (goTry_pre.subset hn)]
   unfold goTry at h ⊢
   by_cases hb:(evn E l 0 loc s).1.gKind=2
   ·rw [if_pos hb] at h
    rw [if_pos hb,if_pos hb]; exact h1 _ _ _ h
   ·rw [if_neg hb,if_neg hb]
  by_cases c7:o.gKind=14∨o.gKind=19∨o.gKind=16∨o.gKind=17
  ·rw [ev_g c7] at h
   rw [ev_g c7,ev_g c7,←h1 0 loc s fun n hn=>h n (goOn_pre.subset hn)]
   exact goOn_like L.word (fun n loc'=>h1 n loc' _) h
  ·rw [ev_r (by omega)] at h
   rw [ev_r (by omega),ev_r (by omega)]
   exact h2 h
theorem evn_like {E E':Env} (L:Like E E'):∀(l:List (Tr api_Op)) (n:Nat) (loc:Loc') (s:Sta),(∀m∈(evn E l n loc s).2.asked,E.known m=E'.known m)→evn E l n loc s=evn E' l n loc s
 | [],_,_,s,_=>by rw [evn,evn]
 | t :: _,0,loc,s,h=>by
  rw [evn] at h
  rw [evn,evn]; exact ev_like L t loc s h
 | _ :: l,n+1,loc,s,h=>by
  rw [evn] at h
  rw [evn,evn]; exact evn_like L l n loc s h
theorem evl_like {E E':Env} (L:Like E E'):∀(l:List (Tr api_Op)) (args:List Val) (k:Int) (loc:Loc') (s:Sta),(∀m∈(evl E l args k loc s).2.asked,E.known m=E'.known m)→evl E l args k loc s=evl E' l args k loc s
 | [],args,k,loc,s,_=>by rw [evl,evl,L.done]
 | t :: l,args,k,loc,s,h=>by
  have p1:=fun a s'=>(evl_asked E l a k loc s').1
  rw [evl] at h
  by_cases hb:(ev E t loc s).1.gKind=1
  ·rw [if_pos hb] at h
   have e0:=ev_like L t loc s fun n hn=>h n ((p1 _ _).subset hn)
   rw [evl,evl,←e0,if_pos hb,if_pos hb]
   exact evl_like L l _ k loc _ h
  ·rw [if_neg hb] at h
   have e0:=ev_like L t loc s h
   rw [evl,evl,←e0,if_neg hb,if_neg hb]
end
structure Wide (E E':Env):Prop where
 opn:∀n,E.opn n=true→E'.opn n=true
 known:E.known=E'.known
 done:E.done=E'.done
 word:E.word=E'.word
 some:∀n o,E.known n=some o→o.gKind ≠ 0
 does:∀k a,(E.done k a).gKind ≠ 0
def WideR (E E':Env) (s:Sta) (r r':api_Outcome×Sta):Prop:=
 (r.1.gKind ≠ 0→r'=r∧r.2.gate=s.gate)∧
 (r.1.gKind=0→r.1=nilO∧E.opn r.2.gate=false∧(E'.opn r.2.gate=false→r'=r)∧r.2.asked <+: r'.2.asked)
theorem WideR.same {E E':Env} {s:Sta} {r:api_Outcome×Sta} (h:r.1.gKind ≠ 0) (hg:r.2.gate=s.gate):WideR E E' s r r:=⟨fun _=>⟨rfl,hg⟩,fun e=>absurd e h⟩
theorem WideR.step {E E':Env} {s:Sta} {r r':api_Outcome×Sta} (h:WideR E E' s r r') {k k':api_Outcome×Sta→api_Outcome×Sta}
  (hk0:r.1.gKind=0→k r=r) (hp:r'.2.asked <+: (k' r').2.asked) (hk0':r'.1.gKind=0→k' r'=r')
  (hk:r.1.gKind ≠ 0→r'=r→WideR E E' r.2 (k r) (k' r)):WideR E E' s (k r) (k' r'):=by
 by_cases h0:r.1.gKind=0
 ·rw [hk0 h0]
  obtain ⟨a,b,c,d⟩:=h.2 h0
  refine ⟨fun hn=>absurd h0 hn,fun _=>⟨a,b,fun hc=>?_,d.trans hp⟩⟩
  have e:=c hc
  rw [hk0' (by rw [e]; exact h0)]; exact e
 ·obtain ⟨e,hg⟩:=h.1 h0
  have:=hk h0 e
  rw [e]
  exact ⟨fun hn=>⟨(this.1 hn).1,(this.1 hn).2.trans hg⟩,this.2⟩
theorem goOn_wide {E E':Env} (hw:E.word=E'.word) {l:List (Tr api_Op)} {o:api_Op} {loc:Loc'} {r:api_Outcome×Sta} (h1:∀n loc' s',WideR E E' s' (evn E l n loc' s') (evn E' l n loc' s')) (hn:r.1.gKind ≠ 0):WideR E E' r.2 (goOn E l o loc r) (goOn E' l o loc r):=by
 unfold goOn
 by_cases k1:r.1.gKind=1
 ·rw [if_pos k1,if_pos k1]
  by_cases k2:o.gKind=19
  ·rw [if_pos k2,if_pos k2]; exact h1 _ _ _
  rw [if_neg k2,if_neg k2]
  by_cases k3:o.gKind=14∧(lastA r.1.gValue).gKind=1∧(lastA r.1.gValue).gInt ≠ 0
  ·rw [if_pos k3,if_pos k3]; exact h1 _ _ _
  rw [if_neg k3,if_neg k3]
  by_cases k4:o.gKind=14∧(lastA r.1.gValue).gKind=1
  ·rw [if_pos k4,if_pos k4]; exact h1 _ _ _
  rw [if_neg k4,if_neg k4,←hw]
  by_cases k5:o.gKind=16∧(lastA r.1.gValue).gKind=2
  ·rw [if_pos k5]; exact .same (by simp [failO]) rfl
  rw [if_neg k5]
  by_cases k6:o.gKind=17∧(lastA r.1.gValue).gKind=2
  ·rw [if_pos k6]; exact .same (by simp [panicO]) rfl
  rw [if_neg k6]; exact .same (by simp [failO]) rfl
 ·rw [if_neg k1,if_neg k1]; exact .same hn rfl
theorem goOn_0 {E:Env} {l:List (Tr api_Op)} {o:api_Op} {loc:Loc'} {r:api_Outcome×Sta} (h:r.1.gKind=0):goOn E l o loc r=r:=by unfold goOn; rw [if_neg (by omega)]
theorem goTry_0 {E:Env} {l:List (Tr api_Op)} {loc:Loc'} {r:api_Outcome×Sta} (h:r.1.gKind=0):goTry E l loc r=r:=by unfold goTry; rw [if_neg (by omega)]
mutual
theorem ev_wide {E E':Env} (L:Wide E E'):∀(t:Tr api_Op) (loc:Loc') (s:Sta),WideR E E' s (ev E t loc s) (ev E' t loc s)
 | .nd o l,loc,s=>by
  have h1:=fun n loc' s'=>evn_wide L l n loc' s'
  have h2:=evl_wide L l [] o.gKind loc s
  by_cases c1:o.gKind=1
  ·rw [ev_1 c1,ev_1 c1]; exact .same (by simp [comesO]) rfl
  by_cases c2:o.gKind=2
  ·rw [ev_2 c2,ev_2 c2]; exact .same (by simp [comesO]) rfl
  by_cases c3:o.gKind=3
  ·rw [ev_3 c3,ev_3 c3,←L.known]
   refine .same ?_ rfl
   show ((E.known o.gText).getD (failO 4 o.gText)).gKind ≠ 0
   cases hk:E.known o.gText with
   | none=>simp [failO]
   | some x=>exact L.some _ _ hk
  by_cases c4:o.gKind=4
  ·rw [ev_4 c4,ev_4 c4]; exact .same (by simp [comesO]) rfl
  by_cases c5:o.gKind=18
  ·rw [ev_18 c5,ev_18 c5]
   by_cases he:E.opn o.gText=true
   ·rw [if_pos he,if_pos (L.opn _ he)]; exact h1 _ _ _
   ·rw [if_neg he]
    refine ⟨fun h=>absurd rfl h,fun _=>⟨rfl,by simpa using he,fun he'=>?_,?_⟩⟩
    ·dsimp only at he'
     rw [if_neg (by rw [he']; exact Bool.false_ne_true)]
    ·show s.asked <+: _
     by_cases hb:E'.opn o.gText=true
     ·rw [if_pos hb]; exact (evn_asked E' l 0 loc s).1
     ·rw [if_neg hb]; exact List.prefix_rfl
  by_cases c6:o.gKind=15
  ·rw [ev_15 c6,ev_15 c6]
   refine WideR.step (k:=goTry E l loc) (k':=goTry E' l loc) (h1 0 loc s) goTry_0 goTry_pre goTry_0 fun hn _=>?_
   unfold goTry
   by_cases hb:(evn E l 0 loc s).1.gKind=2
   ·rw [if_pos hb,if_pos hb]; exact h1 _ _ _
   ·rw [if_neg hb,if_neg hb]; exact .same hn rfl
  by_cases c7:o.gKind=14∨o.gKind=19∨o.gKind=16∨o.gKind=17
  ·rw [ev_g c7,ev_g c7]
   exact WideR.step (k:=goOn E l o loc) (k':=goOn E' l o loc) (h1 0 loc s) goOn_0 goOn_pre goOn_0 fun hn _=>goOn_wide L.word h1 hn
  ·rw [ev_r (by omega),ev_r (by omega)]; exact h2
theorem evn_wide {E E':Env} (L:Wide E E'):∀(l:List (Tr api_Op)) (n:Nat) (loc:Loc') (s:Sta),WideR E E' s (evn E l n loc s) (evn E' l n loc s)
 | [],_,_,s=>by rw [evn,evn]; exact .same (by simp [failO]) rfl
 | t :: _,0,loc,s=>by rw [evn,evn]; exact ev_wide L t loc s
 | _ :: l,n+1,loc,s=>by rw [evn,evn]; exact evn_wide L l n loc s
theorem evl_wide {E E':Env} (L:Wide E E'):∀(l:List (Tr api_Op)) (args:List Val) (k:Int) (loc:Loc') (s:Sta),WideR E E' s (evl E l args k loc s) (evl E' l args k loc s)
 | [],args,k,loc,s=>by rw [evl,evl,←L.done]; exact .same (L.does _ _) rfl
 | t :: l,args,k,loc,s=>by
  have h0:=ev_wide L t loc s
  have h1:=fun a s'=>evl_wide L l a k loc s'
  rw [evl,evl]
  refine WideR.step (k:=fun r=>if r.1.gKind=1 then evl E l (args ++ [r.1.gValue]) k loc r.2 else r) (k':=fun r=>if r.1.gKind=1 then evl E' l (args ++ [r.1.gValue]) k loc r.2 else r) h0 (fun h=>if_neg (by omega)) ?_ (fun h=>if_neg (by omega)) fun hn _=>?_
  ·by_cases hb:(ev E' t loc s).1.gKind=1
   ·rw [if_pos hb]; exact (evl_asked E' l _ k loc _).1
   ·rw [if_neg hb]; exact List.prefix_rfl
  ·by_cases hb:(ev E t loc s).1.gKind=1
   ·rw [if_pos hb,if_pos hb]; exact h1 _ _
   ·rw [if_neg hb,if_neg hb]; exact .same hn rfl
end
theorem evn_get {E:Env}:∀{l:List (Tr api_Op)} {j:Nat} (hj:j<l.length) (loc:Loc') (s:Sta),evn E l j loc s=ev E l[j] loc s
 | t :: l,0,_,loc,s=>by rw [evn]; rfl
 | t :: l,j+1,hj,loc,s=>by
  rw [evn,evn_get (by simpa using hj)]; rfl
theorem bndsB_get {a:api_Op} {loc:List ByteArray}:∀{l:List (Tr api_Op)} {i j:Nat} (hj:j<l.length),bndsB loc a i l=true→bndB (if (eqI a.gKind 19 && eqI ((i+j:Nat):Int) 1)=true then loc ++ [a.gText] else loc) l[j]=true
 | t :: l,i,0,_,h=>by
  rw [bndsB,Bool.and_eq_true] at h
  exact h.1
 | t :: l,i,j+1,hj,h=>by
  rw [bndsB,Bool.and_eq_true] at h
  have:=bndsB_get (j:=j) (by simpa using hj) h.2
  have e:i+1+j=i+(j+1):=by omega
  rw [e] at this
  exact this
theorem lookL_at {loc:Loc'} {n:ByteArray}:∀{i:Nat} (hi:i<loc.length),strEq loc[i].gName n=true→(∀q,i<q→(hq:q<loc.length)→strEq loc[q].gName n=false)→lookL loc n=some loc[i].gV:=by
 intro i hi hb hn
 have hs:loc=loc.take i ++ (loc[i] :: loc.drop (i+1)):=by rw [←List.drop_eq_getElem_cons hi,List.take_append_drop]
 have hnone:(loc.drop (i+1)).reverse.find? (fun x=>strEq x.gName n)=none:=by
  rw [List.find?_eq_none]
  intro x hx
  rw [List.mem_reverse] at hx
  obtain ⟨k,hk,rfl⟩:=List.getElem_of_mem hx
  rw [List.length_drop] at hk
  rw [List.getElem_drop]
  have:=hn (i+1+k) (by omega) (by omega)
  rw [this]; exact Bool.false_ne_true
 have hf:loc.reverse.find? (fun x=>strEq x.gName n)=some loc[i]:=by
  conv=>lhs; rw [hs]
  rw [List.reverse_append,List.reverse_cons,List.append_assoc,List.find?_append,hnone]
  simp [hb]
 unfold lookL
 rw [hf]; rfl
theorem inB'_some {loc:Loc'} {n:ByteArray} (h:inB' (loc.map fun x=>x.gName) n=true):∃i,∃hi:i<loc.length,strEq loc[i].gName n=true:=by
 unfold inB' at h
 rw [List.any_eq_true] at h
 obtain ⟨x,hx,hs⟩:=h
 obtain ⟨y,hy,rfl⟩:=List.mem_map.1 hx
 obtain ⟨i,hi,rfl⟩:=List.getElem_of_mem hy
 exact ⟨i,hi,hs⟩
noncomputable def wayE (d:WayD):Env:=⟨knownF d.es,fun n=>inB' d.op n,doneF,wordF⟩
theorem gives138 (v:ValL) (hv:v ≠ []):Gives 138 [.d (.sl .api_Atom v)] (atomC (lastA v)):=by
 refine Runs.known fun hk _=>?_
 have hl:=known_atoms (hk _ (List.mem_cons_self ..))
 have hp:0<v.length:=List.length_pos_iff.2 hv
 have e:subW .i64 (intN (lenL v)) 1=((v.length - 1:Nat):Int):=by
  rw [intN_eq,lenL_eq,subW_id (by omega) (by omega)]; omega
 have hg:v[v.length - 1]?=some (lastA v):=by
  rw [←List.getLast?_eq_getElem?,lastA,List.getLastD_eq_getLast?,List.getLast?_eq_some_getLast hv]; rfl
 refine e138 _ _ ?_
 rw [e]
 refine and_t (inB_some hg) ?_
 rw [rd_some hg]; exact ⟨rfl,rfl⟩
theorem gives223 (l:Loc') (hl:l.length * 40≤140737488355328):Gives 223 [.d (.sl .eval_local l)] (.osl .eval_local l):=by
 refine e223 _ _ ⟨and_t (roomB_t (by simpa [addN,lenL,nilL] using hl)) ⟨rfl,rfl⟩,ite_w (fun h=>?_) (fun _=>trivial)⟩
 cases l with
 | nil=>exact ⟨rfl,rfl⟩
 | cons _ _=>cases h
def Goes (d:WayD) (args:List (C U)) (f:Nat) (H:List (O U)) (r:api_Outcome×Sta):Prop:=
 ∃H',GivesM f args H (outC r.1) H'∧MR d H' r.2.asked r.2.gate∧(r.1.gKind=1→r.1.gValue ≠ [])
def LocOk (loc:Loc'):Prop:=∀x∈loc,x.gV ≠ []
def AtOk (d:WayD) (frN:List Nat) (n:Nat):Prop:=∀{p:Nat} {t:Tr api_Op} {loc:Loc'} {s:Sta} {H:List (O U)},t.size≤n→InT d.x frN p t→t.good opB (·.gN)→bndB (loc.map fun x=>x.gName) t=true→LocOk loc→loc.length+t.size≤256→s.asked.length+t.size≤4096→MR d H s.asked s.gate→
 Goes d [.ptr (.g d.w) 0,.d (.int .i64 ((p+t.size - 1:Nat):Int)),.d (.sl .eval_local loc)] 84 H (ev (wayE d) t loc s)
section
variable {d:WayD} {frN:List Nat} {n p:Nat} {a:api_Op} {l:List (Tr api_Op)} {loc:Loc'} {s:Sta} {H:List (O U)}
theorem kid_goes (ih:AtOk d frN n) (hn:Tr.sizes l≤n) (hT:InT d.x frN p (.nd a l)) (hgs:Tr.goods opB (·.gN) l) {j:Nat} (hj:j<l.length) (hb:bndB (loc.map fun x=>x.gName) l[j]=true) (hl:LocOk loc) (h1:loc.length+l[j].size≤256) (h2:s.asked.length+l[j].size≤4096) (hM:MR d H s.asked s.gate):
  Goes d [.ptr (.g d.w) 0,.d (.int .i64 (rd (Int.ofNat 0) (Ns (Tr.ends p l)) (j:Int))),.d (.sl .eval_local loc)] 84 H (evn (wayE d) l j loc s):=by
 have hend:(Ns (Tr.ends p l))[j]?=some ((p+Tr.sizes (l.take j)+l[j].size - 1:Nat):Int):=by
  rw [Ns_get (ends_get hj),sizes_succ hj,Nat.add_assoc]
 have hz:=Tr.le_sizes (List.getElem_mem hj)
 rw [rd_some hend,evn_get hj]
 exact ih (by omega) (hT.kid hj) (Tr.goods_mem hgs (List.getElem_mem hj)) hb hl h1 h2 hM
theorem local_goes (hfr:d.fr=Ns frN) (hx:d.x.length≤256) (h:InT d.x frN p (.nd a l)) (ha:a.gN=(l.length:Int)) (hk:a.gKind=4) (hb:inB' (loc.map fun x=>x.gName) a.gText=true) (hl:LocOk loc) (hM:MR d H s.asked s.gate):
  Goes d [.ptr (.g d.w) 0,.d (.int .i64 ((p+Tr.sizes l:Nat):Int)),.d (.sl .eval_local loc)] 84 H (ev (wayE d) (.nd a l) loc s):=by
 have hM':=hM
 obtain ⟨g,hW,_,_⟩:=hM'
 obtain ⟨i0,hi0,hs0⟩:=inB'_some hb
 have htop:=h.top
 rw [ev_4 hk]
 have hlast:∀k,∀i,loc.length - i≤k→(hi:i<loc.length)→strEq loc[i].gName a.gText=true→∃i,∃hi:i<loc.length,strEq loc[i].gName a.gText=true∧∀q,i<q→(hq:q<loc.length)→strEq loc[q].gName a.gText=false:=by
  intro k
  induction k with
  | zero=>intro i hk hi _; omega
  | succ k ih=>
   intro i hk hi hs
   by_cases hq:∃q,∃hq:q<loc.length,i<q∧strEq loc[q].gName a.gText=true
   ·obtain ⟨q,hq,hiq,hsq⟩:=hq
    exact ih q (by omega) hq hsq
   ·refine ⟨i,hi,hs,fun q h1 h2=>?_⟩
    cases hb:strEq loc[q].gName a.gText with
    | false=>rfl
    | true=>exact absurd ⟨q,h2,h1,hb⟩ hq
 obtain ⟨i,hi,hs,hno⟩:=hlast _ i0 (Nat.le_refl _) hi0 hs0
 rw [lookL_at hi hs hno]
 refine ⟨pushO H (.cells [.d (.sl .eval_local loc)]),?_,hM.push _,fun _=>hl _ (List.getElem_mem hi)⟩
 have g121:Gives 157 [.d (.sl .api_Op d.x),.d (.sl .int d.fr),.d (.int .i64 ((p+Tr.sizes l:Nat):Int))] (.d (.sl .int (Ns (Tr.ends p l)))):=by
  rw [hfr]; exact gives157 h ha (by omega)
 have hrd:rd (api_Op.mk 0 0 0 (bs [])) d.x ((p+Tr.sizes l:Nat):Int)=a:=rd_some htop
 refine e84 _ _ _ _ _ ⟨⟨d.x,d.fr,d.m,d.op,d.a,g,none,s.gate⟩,hW,and_t (inB_some htop) ⟨⟨d.x,d.fr,d.m,d.op,d.a,g,none,s.gate⟩,hW,⟨d.x,d.fr,d.m,d.op,d.a,g,none,s.gate⟩,hW,Ns (Tr.ends p l),g121,?_⟩⟩
 dsimp only
 rw [hrd]
 have hr:∀(q:Nat) (hq:q<loc.length),rd (eval_local.mk (bs []) []) loc (intN q)=loc[q]:=fun q hq=>rd_at hq
 have n1:eqI a.gKind 1=false:=eqI_f.2 (by omega)
 have n2:eqI a.gKind 2=false:=eqI_f.2 (by omega)
 have n3:eqI a.gKind 3=false:=eqI_f.2 (by omega)
 refine ite_f n1 (ite_f n2 (ite_f n3 (ite_t (eqI_t.2 hk) ⟨lenO H,_,e160 _ _ _ ⟨rfl,rfl⟩,loc,obj_push,fun i=>strEq (rd (eval_local.mk (bs []) []) loc (intN i)).1 a.4,?_,?_⟩)))
 ·intro k hk' hnone
  have hk':k<loc.length:=hk'
  refine ite_w (fun hb'=>⟨⟨1,(rd (eval_local.mk (bs []) []) loc (intN k)).2,[]⟩,gives158 _,hb',?_,rfl⟩) (fun hb'=>⟨hb',rfl,rfl,rfl,trivial⟩)
  have hki:k=i:=by
   rcases Nat.lt_trichotomy k i with hlt|he|hgt
   ·have h1:strEq (rd (eval_local.mk (bs []) []) loc (intN i)).1 a.4=false:=hnone i hlt hi
    have h2:strEq (rd (eval_local.mk (bs []) []) loc (intN i)).1 a.4=true:=by rw [hr i hi]; exact hs
    rw [h1] at h2; cases h2
   ·exact he
   ·have h1:=hno k hgt hk'
    rw [hr k hk'] at hb'
    have hb':strEq loc[k].gName a.gText=true:=hb'
    rw [h1] at hb'; cases hb'
  subst hki
  rw [hr k hi]; rfl
 ·intro hnow
  have h1:strEq (rd (eval_local.mk (bs []) []) loc (intN i)).1 a.4=false:=hnow i hi
  have h2:strEq (rd (eval_local.mk (bs []) []) loc (intN i)).1 a.4=true:=by rw [hr i hi]; exact hs
  rw [h1] at h2; cases h2
end
section
variable {d:WayD} {frN:List Nat} {n p:Nat} {a:api_Op} {l:List (Tr api_Op)} {loc:Loc'} {s:Sta} {H:List (O U)}
theorem k1_goes (hfr:d.fr=Ns frN) (hx:d.x.length≤256) (h:InT d.x frN p (.nd a l)) (ha:a.gN=(l.length:Int)) (hM:MR d H s.asked s.gate) (hk:a.gKind=1):Goes d [.ptr (.g d.w) 0,.d (.int .i64 ((p+Tr.sizes l:Nat):Int)),.d (.sl .eval_local loc)] 84 H (ev (wayE d) (.nd a l) loc s):=by
 have hM':=hM
 obtain ⟨g,hW,_,_⟩:=hM'
 have htop:=h.top
 have g121:Gives 157 [.d (.sl .api_Op d.x),.d (.sl .int d.fr),.d (.int .i64 ((p+Tr.sizes l:Nat):Int))] (.d (.sl .int (Ns (Tr.ends p l)))):=by
  rw [hfr]; exact gives157 h ha (by omega)
 have hrd:rd (api_Op.mk 0 0 0 (bs [])) d.x ((p+Tr.sizes l:Nat):Int)=a:=rd_some htop
 have hend:∀j,j<l.length→inB (j:Int) (lenL (Ns (Tr.ends p l)))=true:=fun j hj=>in_len (by rw [Ns_length,Tr.ends_length]; exact hj)
 rw [ev_1 hk]
 refine ⟨H,?_,hM,fun _ h=>by cases h⟩
 refine e84 _ _ _ _ _ ⟨⟨d.x,d.fr,d.m,d.op,d.a,g,none,s.gate⟩,hW,and_t (inB_some htop) ⟨⟨d.x,d.fr,d.m,d.op,d.a,g,none,s.gate⟩,hW,⟨d.x,d.fr,d.m,d.op,d.a,g,none,s.gate⟩,hW,Ns (Tr.ends p l),g121,?_⟩⟩
 dsimp only
 rw [hrd]
 exact ite_t (eqI_t.2 hk) ⟨⟨1,[⟨1,0,a.gInt,bs []⟩],[]⟩,gives158 _,rfl,rfl⟩
theorem k2_goes (hfr:d.fr=Ns frN) (hx:d.x.length≤256) (h:InT d.x frN p (.nd a l)) (ha:a.gN=(l.length:Int)) (hM:MR d H s.asked s.gate) (hk:a.gKind=2):Goes d [.ptr (.g d.w) 0,.d (.int .i64 ((p+Tr.sizes l:Nat):Int)),.d (.sl .eval_local loc)] 84 H (ev (wayE d) (.nd a l) loc s):=by
 have hM':=hM
 obtain ⟨g,hW,_,_⟩:=hM'
 have htop:=h.top
 have g121:Gives 157 [.d (.sl .api_Op d.x),.d (.sl .int d.fr),.d (.int .i64 ((p+Tr.sizes l:Nat):Int))] (.d (.sl .int (Ns (Tr.ends p l)))):=by
  rw [hfr]; exact gives157 h ha (by omega)
 have hrd:rd (api_Op.mk 0 0 0 (bs [])) d.x ((p+Tr.sizes l:Nat):Int)=a:=rd_some htop
 have hend:∀j,j<l.length→inB (j:Int) (lenL (Ns (Tr.ends p l)))=true:=fun j hj=>in_len (by rw [Ns_length,Tr.ends_length]; exact hj)
 rw [ev_2 hk]
 refine ⟨H,?_,hM,fun _ h=>by cases h⟩
 have n1:eqI a.gKind 1=false:=eqI_f.2 (by omega)
 refine e84 _ _ _ _ _ ⟨⟨d.x,d.fr,d.m,d.op,d.a,g,none,s.gate⟩,hW,and_t (inB_some htop) ⟨⟨d.x,d.fr,d.m,d.op,d.a,g,none,s.gate⟩,hW,⟨d.x,d.fr,d.m,d.op,d.a,g,none,s.gate⟩,hW,Ns (Tr.ends p l),g121,?_⟩⟩
 dsimp only
 rw [hrd]
 exact ite_f n1 (ite_t (eqI_t.2 hk) ⟨⟨1,[⟨2,0,0,a.gText⟩],[]⟩,gives158 _,rfl,rfl⟩)
theorem k3_goes (hfr:d.fr=Ns frN) (hx:d.x.length≤256) (h:InT d.x frN p (.nd a l)) (ha:a.gN=(l.length:Int)) (hM:MR d H s.asked s.gate) (hk:a.gKind=3) (hes:∀n o,knownF d.es n=some o→o.gKind=1→o.gValue ≠ []) (hl:s.asked.length<4096):Goes d [.ptr (.g d.w) 0,.d (.int .i64 ((p+Tr.sizes l:Nat):Int)),.d (.sl .eval_local loc)] 84 H (ev (wayE d) (.nd a l) loc s):=by
 have hM':=hM
 obtain ⟨g,hW,_,_⟩:=hM'
 have htop:=h.top
 have g121:Gives 157 [.d (.sl .api_Op d.x),.d (.sl .int d.fr),.d (.int .i64 ((p+Tr.sizes l:Nat):Int))] (.d (.sl .int (Ns (Tr.ends p l)))):=by
  rw [hfr]; exact gives157 h ha (by omega)
 have hrd:rd (api_Op.mk 0 0 0 (bs [])) d.x ((p+Tr.sizes l:Nat):Int)=a:=rd_some htop
 have hend:∀j,j<l.length→inB (j:Int) (lenL (Ns (Tr.ends p l)))=true:=fun j hj=>in_len (by rw [Ns_length,Tr.ends_length]; exact hj)
 rw [ev_3 hk]
 obtain ⟨H',g1,g2⟩:=gives159 hM hl a.gText
 refine ⟨H',?_,g2,fun h1=>?_⟩
 rotate_left
 ·show ((knownF d.es a.gText).getD (failO 4 a.gText)).gValue ≠ []
  have h1:((knownF d.es a.gText).getD (failO 4 a.gText)).gKind=1:=h1
  cases hq:knownF d.es a.gText with
  | none=>rw [hq] at h1; cases h1
  | some o=>rw [hq] at h1; exact hes _ _ hq h1
 have n1:eqI a.gKind 1=false:=eqI_f.2 (by omega)
 have n2:eqI a.gKind 2=false:=eqI_f.2 (by omega)
 refine e84 _ _ _ _ _ ⟨⟨d.x,d.fr,d.m,d.op,d.a,g,none,s.gate⟩,hW,and_t (inB_some htop) ⟨⟨d.x,d.fr,d.m,d.op,d.a,g,none,s.gate⟩,hW,⟨d.x,d.fr,d.m,d.op,d.a,g,none,s.gate⟩,hW,Ns (Tr.ends p l),g121,?_⟩⟩
 dsimp only
 rw [hrd]
 exact ite_f n1 (ite_f n2 (ite_t (eqI_t.2 hk) ⟨(knownF d.es a.gText).getD (failO 4 a.gText),H',g1,rfl,rfl⟩))
theorem k18_goes (hfr:d.fr=Ns frN) (hx:d.x.length≤256) (h:InT d.x frN p (.nd a l)) (ha:a.gN=(l.length:Int)) (hM:MR d H s.asked s.gate) (hk:a.gKind=18) (hlen:0<l.length) (hk0:∀(s':Sta) (H':List (O U)),s'.asked.length≤s.asked.length+Tr.sizes (l.take 0)→MR d H' s'.asked s'.gate→Goes d [.ptr (.g d.w) 0,.d (.int .i64 (rd (Int.ofNat 0) (Ns (Tr.ends p l)) ((0:Nat):Int))),.d (.sl .eval_local loc)] 84 H' (evn (wayE d) l 0 loc s')):Goes d [.ptr (.g d.w) 0,.d (.int .i64 ((p+Tr.sizes l:Nat):Int)),.d (.sl .eval_local loc)] 84 H (ev (wayE d) (.nd a l) loc s):=by
 have hM':=hM
 obtain ⟨g,hW,_,_⟩:=hM'
 have htop:=h.top
 have g121:Gives 157 [.d (.sl .api_Op d.x),.d (.sl .int d.fr),.d (.int .i64 ((p+Tr.sizes l:Nat):Int))] (.d (.sl .int (Ns (Tr.ends p l)))):=by
  rw [hfr]; exact gives157 h ha (by omega)
 have hrd:rd (api_Op.mk 0 0 0 (bs [])) d.x ((p+Tr.sizes l:Nat):Int)=a:=rd_some htop
 have hend:∀j,j<l.length→inB (j:Int) (lenL (Ns (Tr.ends p l)))=true:=fun j hj=>in_len (by rw [Ns_length,Tr.ends_length]; exact hj)
 rw [ev_18 hk]
 have g98:=gives80 d.op a.gText
 have n1:eqI a.gKind 1=false:=eqI_f.2 (by omega)
 have n2:eqI a.gKind 2=false:=eqI_f.2 (by omega)
 have n3:eqI a.gKind 3=false:=eqI_f.2 (by omega)
 have n4:eqI a.gKind 4=false:=eqI_f.2 (by omega)
 by_cases ho:(wayE d).opn a.gText=true
 ·rw [if_pos ho]
  obtain ⟨H',g1,g2,g3⟩:=hk0 s H (by omega) hM
  refine ⟨H',?_,g2,g3⟩
  refine e84 _ _ _ _ _ ⟨⟨d.x,d.fr,d.m,d.op,d.a,g,none,s.gate⟩,hW,and_t (inB_some htop) ⟨⟨d.x,d.fr,d.m,d.op,d.a,g,none,s.gate⟩,hW,⟨d.x,d.fr,d.m,d.op,d.a,g,none,s.gate⟩,hW,Ns (Tr.ends p l),g121,?_⟩⟩
  dsimp only
  rw [hrd]
  have ho:inB' d.op a.gText=true:=ho
  exact ite_f n1 (ite_f n2 (ite_f n3 (ite_f n4 (ite_t (eqI_t.2 hk) ⟨⟨d.x,d.fr,d.m,d.op,d.a,g,none,s.gate⟩,hW,_,g98,ite_f (notB_f.2 ho) (and_t (hend 0 hlen) ⟨_,H',g1,rfl,rfl⟩)⟩))))
 ·rw [if_neg ho]
  obtain ⟨g',hW',hM2⟩:=hM.stand a.gText
  refine ⟨_,?_,hM2,fun h=>by cases h⟩
  refine e84 _ _ _ _ _ ⟨⟨d.x,d.fr,d.m,d.op,d.a,g,none,s.gate⟩,hW,and_t (inB_some htop) ⟨⟨d.x,d.fr,d.m,d.op,d.a,g,none,s.gate⟩,hW,⟨d.x,d.fr,d.m,d.op,d.a,g,none,s.gate⟩,hW,Ns (Tr.ends p l),g121,?_⟩⟩
  dsimp only
  rw [hrd]
  have ho:inB' d.op a.gText=false:=Bool.eq_false_iff.2 ho
  exact ite_f n1 (ite_f n2 (ite_f n3 (ite_f n4 (ite_t (eqI_t.2 hk) ⟨⟨d.x,d.fr,d.m,d.op,d.a,g,none,s.gate⟩,hW,_,g98,ite_t (notB_t.2 ho) ⟨⟨d.x,d.fr,d.m,d.op,d.a,g',none,s.gate⟩,hW',rfl,rfl⟩⟩))))
theorem k15_goes (hfr:d.fr=Ns frN) (hx:d.x.length≤256) (h:InT d.x frN p (.nd a l)) (ha:a.gN=(l.length:Int)) (hM:MR d H s.asked s.gate) (hk:a.gKind=15) (hlen:1<l.length) (hk0:∀(s':Sta) (H':List (O U)),s'.asked.length≤s.asked.length+Tr.sizes (l.take 0)→MR d H' s'.asked s'.gate→Goes d [.ptr (.g d.w) 0,.d (.int .i64 (rd (Int.ofNat 0) (Ns (Tr.ends p l)) ((0:Nat):Int))),.d (.sl .eval_local loc)] 84 H' (evn (wayE d) l 0 loc s')) (hk1:∀(s':Sta) (H':List (O U)),s'.asked.length≤s.asked.length+Tr.sizes (l.take 1)→MR d H' s'.asked s'.gate→Goes d [.ptr (.g d.w) 0,.d (.int .i64 (rd (Int.ofNat 0) (Ns (Tr.ends p l)) ((1:Nat):Int))),.d (.sl .eval_local loc)] 84 H' (evn (wayE d) l 1 loc s')):Goes d [.ptr (.g d.w) 0,.d (.int .i64 ((p+Tr.sizes l:Nat):Int)),.d (.sl .eval_local loc)] 84 H (ev (wayE d) (.nd a l) loc s):=by
 have hM':=hM
 obtain ⟨g,hW,_,_⟩:=hM'
 have htop:=h.top
 have g121:Gives 157 [.d (.sl .api_Op d.x),.d (.sl .int d.fr),.d (.int .i64 ((p+Tr.sizes l:Nat):Int))] (.d (.sl .int (Ns (Tr.ends p l)))):=by
  rw [hfr]; exact gives157 h ha (by omega)
 have hrd:rd (api_Op.mk 0 0 0 (bs [])) d.x ((p+Tr.sizes l:Nat):Int)=a:=rd_some htop
 have hend:∀j,j<l.length→inB (j:Int) (lenL (Ns (Tr.ends p l)))=true:=fun j hj=>in_len (by rw [Ns_length,Tr.ends_length]; exact hj)
 rw [ev_15 hk]
 have n1:eqI a.gKind 1=false:=eqI_f.2 (by omega)
 have n2:eqI a.gKind 2=false:=eqI_f.2 (by omega)
 have n3:eqI a.gKind 3=false:=eqI_f.2 (by omega)
 have n4:eqI a.gKind 4=false:=eqI_f.2 (by omega)
 have n18:eqI a.gKind 18=false:=eqI_f.2 (by omega)
 obtain ⟨H0,g1,g2,g3⟩:=hk0 s H (by omega) hM
 have hb:=(evn_asked (wayE d) l 0 loc s).2.2.1 rfl
 unfold goTry
 by_cases ht:(evn (wayE d) l 0 loc s).1.gKind=2
 ·rw [if_pos ht]
  obtain ⟨H1,f1,f2,f3⟩:=hk1 _ H0 hb g2
  refine ⟨H1,?_,f2,f3⟩
  refine e84 _ _ _ _ _ ⟨⟨d.x,d.fr,d.m,d.op,d.a,g,none,s.gate⟩,hW,and_t (inB_some htop) ⟨⟨d.x,d.fr,d.m,d.op,d.a,g,none,s.gate⟩,hW,⟨d.x,d.fr,d.m,d.op,d.a,g,none,s.gate⟩,hW,Ns (Tr.ends p l),g121,?_⟩⟩
  dsimp only
  rw [hrd]
  exact ite_f n1 (ite_f n2 (ite_f n3 (ite_f n4 (ite_f n18 (ite_t (eqI_t.2 hk) (and_t (hend 0 (by omega)) ⟨_,H0,g1,ite_f (notB_f.2 (eqI_t.2 ht)) (and_t (hend 1 hlen) ⟨_,H1,f1,rfl,rfl⟩)⟩))))))
 ·rw [if_neg ht]
  refine ⟨H0,?_,g2,g3⟩
  refine e84 _ _ _ _ _ ⟨⟨d.x,d.fr,d.m,d.op,d.a,g,none,s.gate⟩,hW,and_t (inB_some htop) ⟨⟨d.x,d.fr,d.m,d.op,d.a,g,none,s.gate⟩,hW,⟨d.x,d.fr,d.m,d.op,d.a,g,none,s.gate⟩,hW,Ns (Tr.ends p l),g121,?_⟩⟩
  dsimp only
  rw [hrd]
  exact ite_f n1 (ite_f n2 (ite_f n3 (ite_f n4 (ite_f n18 (ite_t (eqI_t.2 hk) (and_t (hend 0 (by omega)) ⟨_,H0,g1,ite_t (notB_t.2 (eqI_f.2 ht)) ⟨rfl,rfl⟩⟩))))))
end
section
variable {d:WayD} {frN:List Nat} {n p:Nat} {a:api_Op} {l:List (Tr api_Op)} {loc:Loc'} {s:Sta} {H:List (O U)}
abbrev KidsOk (d:WayD) (p:Nat) (l:List (Tr api_Op)) (loc:Loc') (s:Sta) (j:Nat):Prop:=
 ∀(s':Sta) (H':List (O U)),s'.asked.length≤s.asked.length+Tr.sizes (l.take j)→MR d H' s'.asked s'.gate→Goes d [.ptr (.g d.w) 0,.d (.int .i64 (rd (Int.ofNat 0) (Ns (Tr.ends p l)) ((j:Nat):Int))),.d (.sl .eval_local loc)] 84 H' (evn (wayE d) l j loc s')
theorem take_le (l:List (Tr api_Op)):Tr.sizes (l.take 1)≤Tr.sizes (l.take 2):=by
 have:=sizes_take_le (l.take 2) 1
 rw [List.take_take] at this
 exact this
theorem first_goes (hM:MR d H s.asked s.gate) (hg:a.gKind=14∨a.gKind=19∨a.gKind=16∨a.gKind=17) (hlen:0<l.length) (h0:KidsOk d p l loc s 0) (hll:loc.length≤256)
  (h14:a.gKind=14→2<l.length∧KidsOk d p l loc s 1∧KidsOk d p l loc s 2) (h19:a.gKind=19→1<l.length∧∀v,v ≠ []→KidsOk d p l (loc ++ [⟨a.gText,v⟩]) s 1):
  Goes d [.ptr (.g d.w) 0,opC a,.d (.sl .int (Ns (Tr.ends p l))),.d (.sl .eval_local loc)] 161 H (goOn (wayE d) l a loc (evn (wayE d) l 0 loc s)):=by
 have hend:∀j,j<l.length→inB (j:Int) (lenL (Ns (Tr.ends p l)))=true:=fun j hj=>in_len (by rw [Ns_length,Tr.ends_length]; exact hj)
 obtain ⟨H0,g1,g2,g3⟩:=h0 s H (by simp [Tr.sizes]) hM
 have hb:=(evn_asked (wayE d) l 0 loc s).2.2.1 rfl
 have hb2:=take_le l
 generalize evn (wayE d) l 0 loc s=r at g1 g2 g3 hb ⊢
 unfold goOn
 by_cases k1:r.1.gKind=1
 rotate_left
 ·rw [if_neg k1]
  exact ⟨H0,e161 _ _ _ _ _ _ (and_t (hend 0 hlen) ⟨r.1,H0,g1,ite_t (notB_t.2 (eqI_f.2 k1)) ⟨rfl,rfl⟩⟩),g2,g3⟩
 rw [if_pos k1]
 have hv:=g3 k1
 have e1:notB (eqI r.1.gKind 1)=false:=notB_f.2 (eqI_t.2 k1)
 have g159:=gives138 r.1.gValue hv
 generalize hA:lastA r.1.gValue=A at g159 ⊢
 by_cases c19:a.gKind=19
 ·rw [if_pos c19]
  obtain ⟨q1,q2⟩:=h19 c19
  obtain ⟨H1,f1,f2,f3⟩:=q2 r.1.gValue hv r.2 H0 hb g2
  refine ⟨H1,e161 _ _ _ _ _ _ (and_t (hend 0 hlen) ⟨r.1,H0,g1,ite_f e1 ⟨A,g159,ite_t (eqI_t.2 c19) (and_t (hend 1 q1) ⟨loc,gives223 loc (by omega),and_t (roomB_t ?_) ⟨_,H1,f1,rfl,rfl⟩⟩)⟩⟩),f2,f3⟩
  simp only [addN,lenL_eq,List.length_singleton]; omega
 rw [if_neg c19]
 have n19:eqI a.gKind 19=false:=eqI_f.2 c19
 by_cases c14:a.gKind=14
 ·obtain ⟨q1,q2,q3⟩:=h14 c14
  by_cases cA:A.gKind=1
  ·by_cases cI:A.gInt ≠ 0
   ·rw [if_pos ⟨c14,cA,cI⟩]
    obtain ⟨H1,f1,f2,f3⟩:=q2 r.2 H0 hb g2
    refine ⟨H1,e161 _ _ _ _ _ _ (and_t (hend 0 hlen) ⟨r.1,H0,g1,ite_f e1 ⟨A,g159,ite_f n19 ⟨true,ite_t (eqI_t.2 c14) (eqI_t.2 cA),true,ite_t rfl (notB_t.2 (eqI_f.2 cI)),ite_t rfl (and_t (hend 1 (by omega)) ⟨_,H1,f1,rfl,rfl⟩)⟩⟩⟩),f2,f3⟩
   ·have cI:A.gInt=0:=by omega
    rw [if_neg (fun h=>h.2.2 cI),if_pos ⟨c14,cA⟩]
    obtain ⟨H1,f1,f2,f3⟩:=q3 r.2 H0 (by omega) g2
    refine ⟨H1,e161 _ _ _ _ _ _ (and_t (hend 0 hlen) ⟨r.1,H0,g1,ite_f e1 ⟨A,g159,ite_f n19 ⟨true,ite_t (eqI_t.2 c14) (eqI_t.2 cA),false,ite_t rfl (notB_f.2 (eqI_t.2 cI)),ite_f rfl ⟨true,ite_t (eqI_t.2 c14) (eqI_t.2 cA),ite_t rfl (and_t (hend 2 q1) ⟨_,H1,f1,rfl,rfl⟩)⟩⟩⟩⟩),f2,f3⟩
  ·have n16:eqI a.gKind 16=false:=eqI_f.2 (by omega)
   have n17:eqI a.gKind 17=false:=eqI_f.2 (by omega)
   have fA:eqI A.gKind 1=false:=eqI_f.2 cA
   rw [if_neg (fun h=>cA h.2.1),if_neg (fun h=>cA h.2),if_neg (by omega),if_neg (by omega)]
   exact ⟨H0,e161 _ _ _ _ _ _ (and_t (hend 0 hlen) ⟨r.1,H0,g1,ite_f e1 ⟨A,g159,ite_f n19 ⟨false,ite_t (eqI_t.2 c14) fA,false,ite_f rfl rfl,ite_f rfl ⟨false,ite_t (eqI_t.2 c14) fA,ite_f rfl ⟨false,ite_f n16 rfl,ite_f rfl ⟨false,ite_f n17 rfl,ite_f rfl ⟨_,gives224' _,_,gives221 _ _,rfl,rfl⟩⟩⟩⟩⟩⟩⟩),g2,fun h=>by cases h⟩
 ·have n14:eqI a.gKind 14=false:=eqI_f.2 c14
  rw [if_neg (fun h=>c14 h.1),if_neg (fun h=>c14 h.1)]
  by_cases c16:a.gKind=16
  ·have n17:eqI a.gKind 17=false:=eqI_f.2 (by omega)
   by_cases cA:A.gKind=2
   ·rw [if_pos ⟨c16,cA⟩]
    exact ⟨H0,e161 _ _ _ _ _ _ (and_t (hend 0 hlen) ⟨r.1,H0,g1,ite_f e1 ⟨A,g159,ite_f n19 ⟨false,ite_f n14 rfl,false,ite_f rfl rfl,ite_f rfl ⟨false,ite_f n14 rfl,ite_f rfl ⟨true,ite_t (eqI_t.2 c16) (eqI_t.2 cA),ite_t rfl ⟨_,gives221 _ _,rfl,rfl⟩⟩⟩⟩⟩⟩),g2,fun h=>by cases h⟩
   ·rw [if_neg (fun h=>cA h.2),if_neg (by omega)]
    exact ⟨H0,e161 _ _ _ _ _ _ (and_t (hend 0 hlen) ⟨r.1,H0,g1,ite_f e1 ⟨A,g159,ite_f n19 ⟨false,ite_f n14 rfl,false,ite_f rfl rfl,ite_f rfl ⟨false,ite_f n14 rfl,ite_f rfl ⟨false,ite_t (eqI_t.2 c16) (eqI_f.2 cA),ite_f rfl ⟨false,ite_f n17 rfl,ite_f rfl ⟨_,gives224' _,_,gives221 _ _,rfl,rfl⟩⟩⟩⟩⟩⟩⟩),g2,fun h=>by cases h⟩
  ·have n16:eqI a.gKind 16=false:=eqI_f.2 c16
   have c17:a.gKind=17:=by omega
   rw [if_neg (by omega)]
   by_cases cA:A.gKind=2
   ·rw [if_pos ⟨c17,cA⟩]
    exact ⟨H0,e161 _ _ _ _ _ _ (and_t (hend 0 hlen) ⟨r.1,H0,g1,ite_f e1 ⟨A,g159,ite_f n19 ⟨false,ite_f n14 rfl,false,ite_f rfl rfl,ite_f rfl ⟨false,ite_f n14 rfl,ite_f rfl ⟨false,ite_f n16 rfl,ite_f rfl ⟨true,ite_t (eqI_t.2 c17) (eqI_t.2 cA),ite_t rfl ⟨rfl,rfl⟩⟩⟩⟩⟩⟩⟩),g2,fun h=>by cases h⟩
   ·rw [if_neg (fun h=>cA h.2)]
    exact ⟨H0,e161 _ _ _ _ _ _ (and_t (hend 0 hlen) ⟨r.1,H0,g1,ite_f e1 ⟨A,g159,ite_f n19 ⟨false,ite_f n14 rfl,false,ite_f rfl rfl,ite_f rfl ⟨false,ite_f n14 rfl,ite_f rfl ⟨false,ite_f n16 rfl,ite_f rfl ⟨false,ite_t (eqI_t.2 c17) (eqI_f.2 cA),ite_f rfl ⟨_,gives224' _,_,gives221 _ _,rfl,rfl⟩⟩⟩⟩⟩⟩⟩),g2,fun h=>by cases h⟩
end
section
variable {d:WayD} {frN:List Nat} {n p:Nat} {a:api_Op} {l:List (Tr api_Op)} {loc:Loc'} {s:Sta} {H:List (O U)}
theorem kg_goes (hfr:d.fr=Ns frN) (hx:d.x.length≤256) (h:InT d.x frN p (.nd a l)) (ha:a.gN=(l.length:Int)) (hM:MR d H s.asked s.gate) (hk:a.gKind=14∨a.gKind=19∨a.gKind=16∨a.gKind=17) (hf:Goes d [.ptr (.g d.w) 0,opC a,.d (.sl .int (Ns (Tr.ends p l))),.d (.sl .eval_local loc)] 161 H (goOn (wayE d) l a loc (evn (wayE d) l 0 loc s))):Goes d [.ptr (.g d.w) 0,.d (.int .i64 ((p+Tr.sizes l:Nat):Int)),.d (.sl .eval_local loc)] 84 H (ev (wayE d) (.nd a l) loc s):=by
 have hM':=hM
 obtain ⟨g,hW,_,_⟩:=hM'
 have htop:=h.top
 have g121:Gives 157 [.d (.sl .api_Op d.x),.d (.sl .int d.fr),.d (.int .i64 ((p+Tr.sizes l:Nat):Int))] (.d (.sl .int (Ns (Tr.ends p l)))):=by
  rw [hfr]; exact gives157 h ha (by omega)
 have hrd:rd (api_Op.mk 0 0 0 (bs [])) d.x ((p+Tr.sizes l:Nat):Int)=a:=rd_some htop
 have hend:∀j,j<l.length→inB (j:Int) (lenL (Ns (Tr.ends p l)))=true:=fun j hj=>in_len (by rw [Ns_length,Tr.ends_length]; exact hj)
 rw [ev_g hk]
 have n1:eqI a.gKind 1=false:=eqI_f.2 (by omega)
 have n2:eqI a.gKind 2=false:=eqI_f.2 (by omega)
 have n3:eqI a.gKind 3=false:=eqI_f.2 (by omega)
 have n4:eqI a.gKind 4=false:=eqI_f.2 (by omega)
 have n18:eqI a.gKind 18=false:=eqI_f.2 (by omega)
 have n15:eqI a.gKind 15=false:=eqI_f.2 (by omega)
 obtain ⟨H',f1,f2,f3⟩:=hf
 refine ⟨H',?_,f2,f3⟩
 refine e84 _ _ _ _ _ ⟨⟨d.x,d.fr,d.m,d.op,d.a,g,none,s.gate⟩,hW,and_t (inB_some htop) ⟨⟨d.x,d.fr,d.m,d.op,d.a,g,none,s.gate⟩,hW,⟨d.x,d.fr,d.m,d.op,d.a,g,none,s.gate⟩,hW,Ns (Tr.ends p l),g121,?_⟩⟩
 dsimp only
 rw [hrd]
 refine ite_f n1 (ite_f n2 (ite_f n3 (ite_f n4 (ite_f n18 (ite_f n15 ?_)))))
 by_cases c14:a.gKind=14
 ·exact ite_t (eqI_t.2 c14) (ite_t (eqI_t.2 c14) ⟨_,H',f1,rfl,rfl⟩)
 refine ite_f (eqI_f.2 c14) ?_
 by_cases c19:a.gKind=19
 ·exact ite_t (eqI_t.2 c19) (ite_t (eqI_t.2 c19) ⟨_,H',f1,rfl,rfl⟩)
 refine ite_f (eqI_f.2 c19) ?_
 by_cases c16:a.gKind=16
 ·exact ite_t (eqI_t.2 c16) (ite_t (eqI_t.2 c16) ⟨_,H',f1,rfl,rfl⟩)
 refine ite_f (eqI_f.2 c16) ?_
 exact ite_t (eqI_t.2 (by omega)) ⟨_,H',f1,rfl,rfl⟩
theorem kl_loop (h5:5≤a.gKind) (h13:a.gKind≤13) (hll:l.length≤256) (hks:∀j,j<l.length→KidsOk d p l loc s j):∀j,j≤l.length→∀(args:List ValL) (s':Sta) (H0:List (O U)),args.length=j→s'.asked.length≤s.asked.length+Tr.sizes (l.take j)→MR d H0 s'.asked s'.gate→
  ∃H',At K 84 (fun c' H''=>c'=outC (evl (wayE d) (l.drop j) args a.gKind loc s').1∧H''=H') t84_31 (s84_31 d.w loc (Ns (Tr.ends p l)) (intN (lenL (Ns (Tr.ends p l)))) j 0 [] [] a.gKind a.gN a.gInt a.gText args H0)∧
   MR d H' (evl (wayE d) (l.drop j) args a.gKind loc s').2.asked (evl (wayE d) (l.drop j) args a.gKind loc s').2.gate∧((evl (wayE d) (l.drop j) args a.gKind loc s').1.gKind=1→(evl (wayE d) (l.drop j) args a.gKind loc s').1.gValue ≠ []):=by
 have hel:(Ns (Tr.ends p l)).length=l.length:=by rw [Ns_length,Tr.ends_length]
 refine upto ?_ fun j hj ih=>?_
 ·intro args s' H0 _ _ hM
  rw [List.drop_length,evl]
  refine ⟨H0,l84_31 _ _ _ _ _ _ _ _ _ _ _ _ _ _ _ (ite_f (lt_len_f (by rw [hel]; exact Nat.le_refl _)) ⟨_,gives162 h5 h13 args,rfl,rfl⟩),hM,fun h1=>?_⟩
  rcases doneF_ok a.gKind args with ⟨_,h2⟩|h2
  ·exact h2
  ·have h1:(doneF a.gKind args).gKind=1:=h1
   rw [h2] at h1; cases h1
 ·intro args s' H0 hlen has hM
  obtain ⟨H1,f1,f2,f3⟩:=hks j hj s' H0 has hM
  rw [evn_get hj] at f1 f2 f3
  have hasked:=(ev_asked (wayE d) l[j] loc s').2
  have hss:=sizes_succ hj
  rw [List.drop_eq_getElem_cons hj,evl]
  have hin:inB (j:Int) (lenL (Ns (Tr.ends p l)))=true:=in_len (by rw [hel]; exact hj)
  have hlt:ltI (j:Int) (intN (lenL (Ns (Tr.ends p l))))=true:=lt_len (by rw [hel]; exact hj)
  by_cases k1:(ev (wayE d) l[j] loc s').1.gKind=1
  ·rw [if_pos k1]
   obtain ⟨H',q1,q2,q3⟩:=ih (args ++ [(ev (wayE d) l[j] loc s').1.gValue]) (ev (wayE d) l[j] loc s').2 H1 (by simp [hlen]) (by omega) f2
   refine ⟨H',l84_31 _ _ _ _ _ _ _ _ _ _ _ _ _ _ _ (ite_t hlt (and_t hin ⟨_,H1,f1,ite_f (notB_f.2 (eqI_t.2 k1)) (and_t (roomB_t ?_) ?_)⟩)),q2,q3⟩
   ·simp only [addN,lenL_eq,List.length_singleton]; omega
   ·rw [add_one (by omega)]; exact q1
  ·rw [if_neg k1]
   exact ⟨H1,l84_31 _ _ _ _ _ _ _ _ _ _ _ _ _ _ _ (ite_t hlt (and_t hin ⟨_,H1,f1,ite_t (notB_t.2 (eqI_f.2 k1)) ⟨rfl,rfl⟩⟩)),f2,f3⟩
theorem kl_goes (hfr:d.fr=Ns frN) (hx:d.x.length≤256) (h:InT d.x frN p (.nd a l)) (ha:a.gN=(l.length:Int)) (hM:MR d H s.asked s.gate) (h5:5≤a.gKind) (h13:a.gKind≤13) (hll:l.length≤256) (hks:∀j,j<l.length→KidsOk d p l loc s j):Goes d [.ptr (.g d.w) 0,.d (.int .i64 ((p+Tr.sizes l:Nat):Int)),.d (.sl .eval_local loc)] 84 H (ev (wayE d) (.nd a l) loc s):=by
 have hM':=hM
 obtain ⟨g,hW,_,_⟩:=hM'
 have htop:=h.top
 have g121:Gives 157 [.d (.sl .api_Op d.x),.d (.sl .int d.fr),.d (.int .i64 ((p+Tr.sizes l:Nat):Int))] (.d (.sl .int (Ns (Tr.ends p l)))):=by
  rw [hfr]; exact gives157 h ha (by omega)
 have hrd:rd (api_Op.mk 0 0 0 (bs [])) d.x ((p+Tr.sizes l:Nat):Int)=a:=rd_some htop
 have hend:∀j,j<l.length→inB (j:Int) (lenL (Ns (Tr.ends p l)))=true:=fun j hj=>in_len (by rw [Ns_length,Tr.ends_length]; exact hj)
 rw [ev_r (by omega)]
 have n1:eqI a.gKind 1=false:=eqI_f.2 (by omega)
 have n2:eqI a.gKind 2=false:=eqI_f.2 (by omega)
 have n3:eqI a.gKind 3=false:=eqI_f.2 (by omega)
 have n4:eqI a.gKind 4=false:=eqI_f.2 (by omega)
 have n18:eqI a.gKind 18=false:=eqI_f.2 (by omega)
 have n15:eqI a.gKind 15=false:=eqI_f.2 (by omega)
 have n14:eqI a.gKind 14=false:=eqI_f.2 (by omega)
 have n19:eqI a.gKind 19=false:=eqI_f.2 (by omega)
 have n16:eqI a.gKind 16=false:=eqI_f.2 (by omega)
 have n17:eqI a.gKind 17=false:=eqI_f.2 (by omega)
 obtain ⟨H',q1,q2,q3⟩:=kl_loop h5 h13 hll hks 0 (Nat.zero_le _) [] s H rfl (by omega) hM
 rw [List.drop_zero] at q1 q2 q3
 refine ⟨H',?_,q2,q3⟩
 refine e84 _ _ _ _ _ ⟨⟨d.x,d.fr,d.m,d.op,d.a,g,none,s.gate⟩,hW,and_t (inB_some htop) ⟨⟨d.x,d.fr,d.m,d.op,d.a,g,none,s.gate⟩,hW,⟨d.x,d.fr,d.m,d.op,d.a,g,none,s.gate⟩,hW,Ns (Tr.ends p l),g121,?_⟩⟩
 dsimp only
 rw [hrd]
 exact ite_f n1 (ite_f n2 (ite_f n3 (ite_f n4 (ite_f n18 (ite_f n15 (ite_f n14 (ite_f n19 (ite_f n16 (ite_f n17 q1)))))))))
end
theorem ar_kind {a:api_Op} (h:opB a=true):1≤a.gKind∧a.gKind≤19:=by
 obtain ⟨h1,h2⟩:=opB_ar h
 refine Classical.byContradiction fun hc=>?_
 have e:arN a=-1:=by
  unfold arN
  rw [if_neg (by omega),if_neg (by omega),if_neg (by omega),if_neg (by omega),if_neg (by omega)]
 omega
theorem ar_1 {a:api_Op} (h:a.gKind=18∨a.gKind=16∨a.gKind=17):arN a=1:=by unfold arN; rw [if_neg (by omega),if_pos (by omega)]
theorem ar_2 {a:api_Op} (h:a.gKind=15∨a.gKind=19):arN a=2:=by unfold arN; rw [if_neg (by omega),if_neg (by omega),if_pos (by omega)]
theorem ar_3 {a:api_Op} (h:a.gKind=14):arN a=3:=by unfold arN; rw [if_neg (by omega),if_neg (by omega),if_neg (by omega),if_pos (by omega)]
theorem at_main {d:WayD} {frN:List Nat} (hfr:d.fr=Ns frN) (hx:d.x.length≤256) (hes:∀n o,knownF d.es n=some o→o.gKind=1→o.gValue ≠ []):∀n,AtOk d frN n:=by
 intro n
 induction n with
 | zero=>intro p t loc s H hn _ _ _ _ _ _ _; have:=Tr.size_pos t; omega
 | succ n ih=>
  intro p t loc s H hn hT hg hb hl h1 h2 hM
  obtain ⟨a,l⟩:=t
  simp only [Tr.good] at hg
  obtain ⟨⟨ho,ha⟩,hgs⟩:=hg
  rw [bndB,Bool.and_eq_true] at hb
  obtain ⟨hb1,hb2⟩:=hb
  have epl:p+(Tr.nd a l).size - 1=p+Tr.sizes l:=by simp only [Tr.size]; omega
  rw [epl]
  simp only [Tr.size] at hn h1 h2
  have hll:=Tr.length_le_sizes l
  have har:=(opB_ar ho).1
  have hkd:=ar_kind ho
  have kid:∀(loc':Loc') (j:Nat) (hj:j<l.length),bndB (loc'.map fun x=>x.gName) (l[j]'hj)=true→LocOk loc'→loc'.length≤loc.length+1→KidsOk d p l loc' s j:=by
   intro loc' j hj hbj hl' hlen s' H' has hM'
   have hz:=Tr.le_sizes (List.getElem_mem hj)
   have hss:=sizes_succ hj
   have hst:=sizes_take_le l (j+1)
   exact kid_goes ih (by omega) hT hgs hj hbj hl' (by omega) (by omega) hM'
  have plain:a.gKind ≠ 19→∀j,j<l.length→KidsOk d p l loc s j:=by
   intro h19 j hj
   have:=bndsB_get hj hb2
   rw [if_neg (by rw [eqI_f.2 h19]; exact Bool.false_ne_true)] at this
   exact kid loc j hj this hl (by omega)
  by_cases c1:a.gKind=1
  ·exact k1_goes hfr hx hT ha hM c1
  by_cases c2:a.gKind=2
  ·exact k2_goes hfr hx hT ha hM c2
  by_cases c3:a.gKind=3
  ·exact k3_goes hfr hx hT ha hM c3 hes (by omega)
  by_cases c4:a.gKind=4
  ·refine local_goes hfr hx hT ha c4 ?_ hl hM
   rw [eqI_t.2 c4] at hb1
   exact hb1
  by_cases c18:a.gKind=18
  ·have:=ar_1 (a:=a) (by omega)
   exact k18_goes hfr hx hT ha hM c18 (by omega) (plain (by omega) 0 (by omega))
  by_cases c15:a.gKind=15
  ·have:=ar_2 (a:=a) (by omega)
   exact k15_goes hfr hx hT ha hM c15 (by omega) (plain (by omega) 0 (by omega)) (plain (by omega) 1 (by omega))
  by_cases cg:a.gKind=14∨a.gKind=19∨a.gKind=16∨a.gKind=17
  ·have hlen:0<l.length:=by
    by_cases c14:a.gKind=14
    ·have:=ar_3 c14; omega
    by_cases c19:a.gKind=19
    ·have:=ar_2 (a:=a) (by omega); omega
    have:=ar_1 (a:=a) (by omega); omega
   refine kg_goes hfr hx hT ha hM cg (first_goes hM cg hlen ?_ (by omega) (fun c14=>?_) (fun c19=>?_))
   ·have:=bndsB_get hlen hb2
    rw [if_neg (by rw [show eqI (((0:Nat)+0:Nat):Int) 1=false from rfl,Bool.and_false]; exact Bool.false_ne_true)] at this
    exact kid loc 0 hlen this hl (by omega)
   ·have:=ar_3 c14
    exact ⟨by omega,plain (by omega) 1 (by omega),plain (by omega) 2 (by omega)⟩
   ·have:=ar_2 (a:=a) (by omega)
    refine ⟨by omega,fun v hv=>?_⟩
    have h11:1<l.length:=by omega
    have hbj:=bndsB_get h11 hb2
    rw [if_pos (by rw [eqI_t.2 c19]; rfl)] at hbj
    refine kid (loc ++ [⟨a.gText,v⟩]) 1 h11 ?_ ?_ ?_
    ·rw [List.map_append]; exact hbj
    ·intro x hx
     rcases List.mem_append.1 hx with hx|hx
     ·exact hl x hx
     ·rw [List.mem_singleton] at hx; subst hx; exact hv
    ·rw [List.length_append,List.length_singleton]; exact Nat.le_refl _
  ·exact kl_goes hfr hx hT ha hM (by omega) (by omega) (by omega) (fun j hj=>plain (by omega) j hj)
end Go.Proofs.YtopifagbbmhgfaaGreatDoor.V
