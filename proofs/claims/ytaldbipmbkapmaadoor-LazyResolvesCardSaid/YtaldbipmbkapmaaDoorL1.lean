/- LEMMAS: what functions answer, and what is true of it. Conditions: none. -/
import Derived.Test.YtaldbipmbkapmaaDoorW1
import Derived.Test.YtaldbipmbkapmaaDoorA32
import Derived.Test.YtaldbipmbkapmaaDoorA33
set_option maxRecDepth 4000
set_option linter.unusedSectionVars false
namespace Go.Proofs.YtaldbipmbkapmaaDoor.V
set_option linter.unusedVariables false
set_option linter.unusedSimpArgs false
open Go Go.Abs
theorem room_eq:room=140737488355328:=rfl
theorem maxStr_eq:maxStr=4611686018427387904:=rfl
theorem known_str {s:ByteArray} (h:C.Known K (.d (.str s):C U)):s.size≤4611686018427387904:=h.d.str
theorem known_strs {l:List ByteArray} (h:C.Known K (.d (.sl (U:=U) .str l))):l.length * 16≤140737488355328:=h.d.sl.1
theorem known_ints {l:List Int} (h:C.Known K (.d (.sl (U:=U) .int l))):l.length * 8≤140737488355328:=h.d.sl.1
def inB' (l:List ByteArray) (s:ByteArray):Bool:=l.any fun x=>strEq x s
theorem gives51 (l:List ByteArray) (s:ByteArray):Gives 51 [.d (.sl .str l),.d (.str s)] (.d (.bool (inB' l s))):=by
 refine Runs.known fun hk _=>?_
 have hl:=known_strs (hk _ (List.mem_cons_self ..))
 refine e51 l s _ ?_
 have loop:∀i,i≤l.length→At K 51 (fun c' H'=>c'=(.d (.bool (inB' (l.drop i) s)):C U)∧H'=[]) t51_2 (s51_2 l s i):=by
  refine upto ?_ fun i hi ih=>?_
  ·exact l51_2 _ _ _ _ (ite_f (lt_len_f (Nat.le_refl _)) ⟨by rw [List.drop_length]; rfl,rfl⟩)
  ·refine l51_2 _ _ _ _ (ite_t (lt_len hi) (and_t (in_len hi) ?_))
   rw [rd_at hi]
   have e:inB' (l.drop i) s=(strEq l[i] s || inB' (l.drop (i+1)) s):=drop_any hi
   rw [e]
   refine ite_w (fun h=>?_) (fun h=>?_)
   ·rw [h]; exact ⟨rfl,rfl⟩
   ·rw [h,add_one (by omega)]; exact ih
 exact loop 0 (Nat.zero_le _)
theorem gives77 (l:List ByteArray) (s:ByteArray):∃n,Gives 77 [.d (.sl .str l),.d (.str s)] (.d (.int .i64 n))∧(l.length * 16≤140737488355328→leI 0 n=inB' l s):=by
 by_cases hl:l.length * 16≤140737488355328
 case neg=>exact ⟨0,Runs.known fun hk _=>absurd (known_strs (hk _ (List.mem_cons_self ..))) hl,fun h=>absurd h hl⟩
 have loop:∀i,i≤l.length→∃n,At K 77 (fun c' H'=>c'=(.d (.int .i64 n):C U)∧H'=[]) t77_2 (s77_2 l s (intN (lenL l)) i)∧leI 0 n=inB' (l.drop i) s:=by
  refine upto ?_ fun i hi ih=>?_
  ·exact ⟨_,l77_2 _ _ _ _ _ (ite_f (lt_len_f (Nat.le_refl _)) ⟨rfl,rfl⟩),by simp [inB',leI]⟩
  ·obtain ⟨n,h1,h2⟩:=ih
   have e:inB' (l.drop i) s=(strEq l[i] s || inB' (l.drop (i+1)) s):=drop_any hi
   rw [e]
   cases hb:strEq l[i] s with
   | true=>exact ⟨i,l77_2 _ _ _ _ _ (ite_t (lt_len hi) (and_t (in_len hi) (by rw [rd_at hi,strEq_comm]; exact ite_t hb ⟨rfl,rfl⟩))),by simp [leI]⟩
   | false=>exact ⟨n,l77_2 _ _ _ _ _ (ite_t (lt_len hi) (and_t (in_len hi) (by rw [rd_at hi,strEq_comm,add_one (by omega)]; exact ite_f hb h1))),by simpa using h2⟩
 obtain ⟨n,h1,h2⟩:=loop 0 (Nat.zero_le _)
 exact ⟨n,e77 _ _ _ h1,fun _=>h2⟩
theorem gives59 (l:List ByteArray) (s:ByteArray):Gives 59 [.d (.sl .str l),.d (.str s)] (.d (.bool (inB' l s))):=by
 refine Runs.known fun hk _=>?_
 have hl:=known_strs (hk _ (List.mem_cons_self ..))
 obtain ⟨n,h1,h2⟩:=gives77 l s
 exact e59 _ _ _ ⟨n,h1,by rw [h2 hl],rfl⟩
def keyL:List ByteArray:=[bs [99,101,108,108],bs [97,103,97,105,110],bs [116,114,105,101,115],bs [98,97,115,101],bs [102,97,99,116,111,114],bs [99,97,112],bs [99,108,111,115,101],bs [102,105,110,101],bs [102,97,105,108],bs [112,97,110,105,99],bs [105,102],bs [116,104,101,110],bs [101,108,115,101],bs [116,114,121],bs [119,97,105,116],bs [108,101,116],bs [105,110],bs [105,116,101,109],bs [115,105,122,101]]
theorem gives46 (s:ByteArray):Gives 46 [.d (.str s)] (.d (.bool (inB' keyL s))):=e46 _ _ ⟨_,gives59 keyL s,rfl,rfl⟩
def letB (c:Int):Bool:=leI 97 c && leI c 122
def digB (c:Int):Bool:=leI 48 c && leI c 57
def wcB (c:Int):Bool:=(letB c || digB c) || eqI c 95
theorem gives70 (c:Int):Gives 70 [.d (.int .u8 c)] (.d (.bool (letB c))):=e70 _ _ (and_of (fun _=>rfl) ⟨rfl,rfl⟩)
theorem gives71 (c:Int):Gives 71 [.d (.int .u8 c)] (.d (.bool (digB c))):=e71 _ _ (and_of (fun _=>rfl) ⟨rfl,rfl⟩)
def byL (s:ByteArray):List Int:=s.data.toList.map fun b=>(b.toNat:Int)
theorem byL_length (s:ByteArray):(byL s).length=s.size:=by simp [byL]
theorem byteAt_byL {s:ByteArray} {i:Nat} (h:i<s.size):byteAt s (i:Int)=(byL s)[i]'(by rw [byL_length]; exact h):=by
 rw [byteAt_nat h]; simp [byL]
def wordB (s:ByteArray):Bool:=(byL s).head?.any letB && (byL s).all wcB
theorem gives45 (s:ByteArray):∃n,Gives 45 [.d (.str s),.d (.int .i64 0)] (.d (.int .i64 n))∧(s.size≤4611686018427387904→s.size ≠ 0→eqI n (intN (strLen s))=wordB s):=by
 by_cases hs:s.size≤4611686018427387904
 case neg=>exact ⟨0,Runs.known fun hk _=>absurd (known_str (hk _ (List.mem_cons_self ..))) hs,fun h=>absurd h hs⟩
 have hlen:=byL_length s
 have loop:∀i,i≤s.size→∃n,At K 45 (fun c' H'=>c'=(.d (.int .i64 n):C U)∧H'=[]) t45_3 (s45_3 s i)∧eqI n (intN (strLen s))=((byL s).drop i).all wcB:=by
  refine upto ?_ fun i hi ih=>?_
  ·refine ⟨_,l45_3 _ _ _ ⟨false,ite_f (lt_str_f (Nat.le_refl _)) rfl,rfl,rfl⟩,?_⟩
   rw [List.drop_of_length_le (by omega)]; simp [eqI,intN,strLen]
  ·obtain ⟨n,h1,h2⟩:=ih
   have hb:byteAt s (i:Int)=(byL s)[i]'(by omega):=byteAt_byL hi
   rw [drop_all (by omega)]
   have body:∀{k:Bool→Prop},k (wcB (byL s)[i])→∃v,iteP (ltI (i:Int) (intN (strLen s))) (andP (inB (i:Int) (strLen s)) (∃x:Bool,(Gives 70 [.d (.int .u8 (byteAt s i))] (.d (.bool x)))∧
     ∃v_1:Bool,iteP x (true=v_1) (andP (inB (i:Int) (strLen s)) (∃x:Bool,(Gives 71 [.d (.int .u8 (byteAt s i))] (.d (.bool x)))∧x=v_1))∧
     ∃v_2:Bool,iteP v_1 (true=v_2) (andP (inB (i:Int) (strLen s)) (eqI (byteAt s i) 95=v_2))∧v_2=v)) (false=v)∧k v:=by
    intro k hk
    rw [hb]
    refine ⟨wcB (byL s)[i],ite_t (lt_str hi) (and_t (in_str hi) ⟨_,gives70 _,or_of (fun _=>and_t (in_str hi) ⟨_,gives71 _,rfl⟩) (or_of (fun _=>and_t (in_str hi) rfl) rfl)⟩),hk⟩
   cases hw:wcB (byL s)[i] with
   | true=>refine ⟨n,l45_3 _ _ _ (body ?_),by simpa using h2⟩; rw [hw,add_one (by omega)]; exact h1
   | false=>
    refine ⟨i,l45_3 _ _ _ (body ?_),?_⟩
    ·rw [hw]; exact ⟨rfl,rfl⟩
    ·simp [eqI,intN,strLen]; omega
 by_cases h0:s.size=0
 ·refine ⟨0,e45 _ _ _ ⟨true,ite_t (by simp [leI,intN,strLen,h0]) rfl,rfl,rfl⟩,fun _ h=>absurd h0 h⟩
 ·have hpos:0<s.size:=by omega
  have hhd:(byL s).head?=some ((byL s)[0]'(by omega)):=by rw [List.head?_eq_getElem?,List.getElem?_eq_getElem]
  have hb:byteAt s (0:Int)=(byL s)[0]'(by omega):=byteAt_byL hpos
  have hnl:leI (intN (strLen s)) 0=false:=by
   show decide ((s.size:Int)≤0)=false
   rw [decide_eq_false_iff_not]; omega
  cases hl:letB (byL s)[0] with
  | false=>
   refine ⟨0,e45 _ _ _ ⟨true,ite_f hnl (and_t (in_str (i:=0) hpos) ⟨_,gives70 _,by rw [hb,hl]; rfl⟩),rfl,rfl⟩,fun _ _=>?_⟩
   simp only [wordB,hhd,Option.any_some,hl,Bool.false_and]
   simp [eqI,intN,strLen]; omega
  | true=>
   obtain ⟨n,h1,h2⟩:=loop 0 (Nat.zero_le _)
   refine ⟨n,e45 _ _ _ ⟨false,ite_f hnl (and_t (in_str (i:=0) hpos) ⟨_,gives70 _,by rw [hb,hl]; rfl⟩),h1⟩,fun _ _=>?_⟩
   rw [h2]
   simp [wordB,hhd,hl]
def nameB (s:ByteArray):Bool:=((notB (strEq s (bs [])) && leI (intN (strLen s)) 24) && wordB s) && notB (inB' keyL s)
theorem strEq_nil {s:ByteArray}:strEq s (bs [])=true↔s.size=0:=by
 rw [strEq_iff']
 constructor
 ·rintro rfl; rfl
 ·intro h
  have:s.data.toList=[]:=List.eq_nil_of_length_eq_zero (by simpa using h)
  cases s with
  | mk d=>simp only [bs,List.map_nil,ByteArray.mk.injEq]; exact Array.ext' this
theorem gives22 (s:ByteArray):Gives 22 [.d (.str s)] (.d (.bool (nameB s))):=by
 obtain ⟨n,h1,h2⟩:=gives45 s
 refine Runs.known fun hk _=>?_
 have hl:=known_str (hk _ (List.mem_cons_self ..))
 refine e22 _ _ (and_of (fun _=>rfl) (and_of (b:=wordB s) (fun h=>⟨n,h1,?_⟩) (and_of (fun _=>⟨_,gives46 s,rfl⟩) ⟨rfl,rfl⟩)))
 refine h2 hl fun h0=>?_
 simp only [Bool.and_eq_true,notB_t] at h
 have:=strEq_nil.2 h0
 rw [h.1] at this; cases this
def Ns (l:List Nat):List Int:=l.map fun n:Nat=>(n:Int)
theorem Ns_length (l:List Nat):(Ns l).length=l.length:=by simp [Ns]
theorem Ns_append (l m:List Nat):Ns (l ++ m)=Ns l ++ Ns m:=by simp [Ns]
theorem Ns_take (l:List Nat) (k:Nat):(Ns l).take k=Ns (l.take k):=by simp [Ns,List.map_take]
theorem Ns_get {l:List Nat} {k n:Nat} (h:l[k]?=some n):(Ns l)[k]?=some (n:Int):=by simp [Ns,h]
theorem Ns_one (n:Nat):Ns [n]=[(n:Int)]:=rfl
theorem natI_nat (n:Nat):natI (n:Int)=n:=rfl
theorem lenL_eq {α:Type} (l:List α):lenL l=l.length:=rfl
theorem intN_eq (n:Nat):intN n=(n:Int):=rfl
theorem rdN_some {α:Type} {d:α} {l:List α} {i:Nat} {x:α} (h:l[i]?=some x):rdN d l i=x:=by simp [rdN,List.getD_eq_getElem?_getD,h]
theorem roomB_t {n b:Nat} (h:n * b≤140737488355328):roomB n b=true:=by rw [roomB_iff]; exact h
theorem eqI_t {a b:Int}:eqI a b=true↔a=b:=eqI_iff
theorem eqI_f {a b:Int}:eqI a b=false↔a ≠ b:=by rw [←Bool.not_eq_true,eqI_iff]
theorem sw {k:Int} {n:Int} {p q:Prop} (hp:k=n→p) (hq:k ≠ n→q):iteP (eqI k n) p q:=ite_w (fun h=>hp (eqI_t.1 h)) (fun h=>hq (eqI_f.1 h))
theorem maxI_nat (a b:Nat):maxI (a:Int) (b:Int)=((max a b:Nat):Int):=by
 unfold maxI; split <;> omega
section
variable {α:Type} {ok:α→Bool} {ar:α→Int}
theorem starts_put {st:List (Tr α)} {a:α} {n:Nat} (hn:n≤st.length):Tr.starts 0 (st.take (st.length - n) ++ [Tr.nd a (st.drop (st.length - n))])=(Tr.starts 0 st).take (st.length - n) ++ [Tr.sizes (st.take (st.length - n))]:=by
 rw [Tr.starts_append,Tr.starts_take]; simp [Tr.starts]
theorem deeps_put {st:List (Tr α)} {a:α} {n:Nat} (hn:n≤st.length):(st.take (st.length - n) ++ [Tr.nd a (st.drop (st.length - n))]).map Tr.deep=(st.map Tr.deep).take (st.length - n) ++ [Tr.deeps (st.drop (st.length - n))+1]:=by
 simp [List.map_take,Tr.deep]
theorem start_at {st:List (Tr α)} {k:Nat} (h:k<st.length):(Tr.starts 0 st)[k]?=some (Tr.sizes (st.take k)):=by
 rw [Tr.starts_get h]; simp
end
theorem slice_ok {n k:Nat} (h:k≤n):(andB (leI 0 (k:Int)) (andB (leI (k:Int) (n:Int)) (andB (leI (n:Int) (n:Int)) true)))=true:=by
 simp [andB,leI]; omega
theorem slice_ok' {n k:Nat} (h:k≤n):(andB (leI 0 0) (andB (leI 0 (k:Int)) (andB (leI (k:Int) (n:Int)) true)))=true:=by
 simp [andB,leI]; omega
theorem fronts_put {α:Type} {st:List (Tr α)} {a:α} {n:Nat} (hn:n≤st.length):Tr.frontss 0 (st.take (st.length - n) ++ [Tr.nd a (st.drop (st.length - n))])=Tr.frontss 0 st ++ [Tr.sizes (st.take (st.length - n))]:=by
 rw [Tr.frontss_append]
 simp only [Tr.frontss,Tr.fronts,List.append_nil,Nat.zero_add]
 rw [←List.append_assoc]
 congr 1
 conv=>rhs; rw [←List.take_append_drop (st.length - n) st]
 rw [Tr.frontss_append,Nat.zero_add]
theorem kinds (k:Int):k=1∨k=2∨k=3∨k=4∨k=5∨k=6∨k=7∨k=8∨k=9∨k=10∨k=11∨(k ≠ 1∧k ≠ 2∧k ≠ 3∧k ≠ 4∧k ≠ 5∧k ≠ 6∧k ≠ 7∧k ≠ 8∧k ≠ 9∧k ≠ 10∧k ≠ 11):=by omega
theorem setL_get {α:Type} {d:α} {l:List α} {i:Nat} {x:α} (h:i<l.length):rdN d (setL l i x) i=x:=by
 refine rdN_some ?_
 simp [setL,h]
theorem ltN_t {a b:Nat} (h:a<b):ltN a b=true:=decide_eq_true h
theorem leN_t {a b:Nat} (h:a≤b):leN a b=true:=decide_eq_true h
abbrev opC (o:api_Op):C U:=.agg [.d (.int .i64 o.gKind),.d (.int .i64 o.gN),.d (.int .i64 o.gInt),.d (.str o.gText)]
theorem known_ops {l:List api_Op} (h:C.Known K (.d (.sl (U:=U) .api_Op l))):l.length * 40≤140737488355328:=h.d.sl.1
def arN (o:api_Op):Int:=
 if o.gKind=1∨o.gKind=2∨o.gKind=3∨o.gKind=4 then 0
 else if o.gKind=11∨o.gKind=16∨o.gKind=17∨o.gKind=18 then 1
 else if o.gKind=6∨o.gKind=7∨o.gKind=8∨o.gKind=9∨o.gKind=10∨o.gKind=12∨o.gKind=13∨o.gKind=15∨o.gKind=19 then 2
 else if o.gKind=14 then 3
 else if o.gKind=5 then o.gN
 else -1
theorem opKinds (k:Int):k=1∨k=2∨k=3∨k=4∨k=5∨k=6∨k=7∨k=8∨k=9∨k=10∨k=11∨k=12∨k=13∨k=14∨k=15∨k=16∨k=17∨k=18∨k=19∨(k<1∨19<k):=by omega
theorem gives83 (o:api_Op):Gives 83 [opC o] (.d (.int .i64 (arN o))):=by
 obtain ⟨k,n,i,t⟩:=o
 refine e83 _ _ ?_
 rcases opKinds k with rfl|rfl|rfl|rfl|rfl|rfl|rfl|rfl|rfl|rfl|rfl|rfl|rfl|rfl|rfl|rfl|rfl|rfl|rfl|h
 ·simp only [eqI,Int.reduceBEq,iteP]; exact ⟨rfl,rfl⟩
 ·simp only [eqI,Int.reduceBEq,iteP]; exact ⟨rfl,rfl⟩
 ·simp only [eqI,Int.reduceBEq,iteP]; exact ⟨rfl,rfl⟩
 ·simp only [eqI,Int.reduceBEq,iteP]; exact ⟨rfl,rfl⟩
 ·simp only [eqI,Int.reduceBEq,iteP]; exact ⟨rfl,rfl⟩
 ·simp only [eqI,Int.reduceBEq,iteP]; exact ⟨rfl,rfl⟩
 ·simp only [eqI,Int.reduceBEq,iteP]; exact ⟨rfl,rfl⟩
 ·simp only [eqI,Int.reduceBEq,iteP]; exact ⟨rfl,rfl⟩
 ·simp only [eqI,Int.reduceBEq,iteP]; exact ⟨rfl,rfl⟩
 ·simp only [eqI,Int.reduceBEq,iteP]; exact ⟨rfl,rfl⟩
 ·simp only [eqI,Int.reduceBEq,iteP]; exact ⟨rfl,rfl⟩
 ·simp only [eqI,Int.reduceBEq,iteP]; exact ⟨rfl,rfl⟩
 ·simp only [eqI,Int.reduceBEq,iteP]; exact ⟨rfl,rfl⟩
 ·simp only [eqI,Int.reduceBEq,iteP]; exact ⟨rfl,rfl⟩
 ·simp only [eqI,Int.reduceBEq,iteP]; exact ⟨rfl,rfl⟩
 ·simp only [eqI,Int.reduceBEq,iteP]; exact ⟨rfl,rfl⟩
 ·simp only [eqI,Int.reduceBEq,iteP]; exact ⟨rfl,rfl⟩
 ·simp only [eqI,Int.reduceBEq,iteP]; exact ⟨rfl,rfl⟩
 ·simp only [eqI,Int.reduceBEq,iteP]; exact ⟨rfl,rfl⟩
 ·have e:arN ⟨k,n,i,t⟩=-1:=by
   unfold arN
   dsimp only
   rw [if_neg (by omega),if_neg (by omega),if_neg (by omega),if_neg (by omega),if_neg (by omega)]
  rw [e]
  simp only [eqI_f.2 (show k ≠ 1 by omega),eqI_f.2 (show k ≠ 2 by omega),eqI_f.2 (show k ≠ 3 by omega),eqI_f.2 (show k ≠ 4 by omega),eqI_f.2 (show k ≠ 5 by omega),eqI_f.2 (show k ≠ 6 by omega),eqI_f.2 (show k ≠ 7 by omega),eqI_f.2 (show k ≠ 8 by omega),eqI_f.2 (show k ≠ 9 by omega),eqI_f.2 (show k ≠ 10 by omega),eqI_f.2 (show k ≠ 11 by omega),eqI_f.2 (show k ≠ 12 by omega),eqI_f.2 (show k ≠ 13 by omega),eqI_f.2 (show k ≠ 14 by omega),eqI_f.2 (show k ≠ 15 by omega),eqI_f.2 (show k ≠ 16 by omega),eqI_f.2 (show k ≠ 17 by omega),eqI_f.2 (show k ≠ 18 by omega),eqI_f.2 (show k ≠ 19 by omega),iteP]
  exact ⟨rfl,rfl⟩
def opB (o:api_Op):Bool:=
  notB (ltI (arN o) 0 || notB (eqI (arN o) o.gN)) &&
    (if o.gKind=1 then (leI (Int.negSucc 9007199254740991) o.gInt && leI o.gInt 9007199254740992) && strEq o.gText (bs [])
     else if o.gKind=2 then eqI o.gInt 0
     else if o.gKind=3∨o.gKind=4∨o.gKind=18∨o.gKind=19 then eqI o.gInt 0 && nameB o.gText
     else eqI o.gInt 0 && strEq o.gText (bs []))
theorem gives79 (o:api_Op):Gives 79 [opC o] (.d (.bool (opB o))):=by
 refine e79 _ _ ⟨_,gives83 o,or_of (fun _=>rfl) (ite_w (fun h=>?_) (fun h=>?_))⟩
 ·rw [opB,h]; exact ⟨rfl,rfl⟩
 rw [opB,h]
 have nm:∀{p:Bool→Prop},p (eqI o.gInt 0 && nameB o.gText)→∃(v:Bool),iteP (eqI o.3 0) (∃(x:Bool),(Gives 22 [C.d (D.str o.4)] (C.d (D.bool x)))∧x=v) (false=v)∧p v:=fun hp=>and_of (fun _=>⟨_,gives22 _,rfl⟩) hp
 refine sw (fun h1=>?_) (fun h1=>sw (fun h2=>?_) (fun h2=>sw (fun h3=>ite_t (eqI_t.2 h3) (nm ?_)) (fun h3=>sw (fun h4=>ite_t (eqI_t.2 h4) (nm ?_)) (fun h4=>sw (fun h5=>ite_t (eqI_t.2 h5) (nm ?_)) (fun h5=>sw (fun h6=>nm ?_) (fun h6=>?_))))))
 ·rw [if_pos h1]; exact and_of (fun _=>rfl) (and_of (fun _=>rfl) ⟨rfl,rfl⟩)
 ·rw [if_neg h1,if_pos h2]; exact ⟨rfl,rfl⟩
 ·rw [if_neg h1,if_neg h2,if_pos (by omega)]; exact ⟨rfl,rfl⟩
 ·rw [if_neg h1,if_neg h2,if_pos (by omega)]; exact ⟨rfl,rfl⟩
 ·rw [if_neg h1,if_neg h2,if_pos (by omega)]; exact ⟨rfl,rfl⟩
 ·rw [if_neg h1,if_neg h2,if_pos (by omega)]; exact ⟨rfl,rfl⟩
 ·rw [if_neg h1,if_neg h2,if_neg (by omega)]; exact and_of (fun _=>rfl) ⟨rfl,rfl⟩
theorem opB_ar {o:api_Op} (h:opB o=true):arN o=o.gN∧0≤o.gN:=by
 simp only [opB,Bool.and_eq_true,notB_t,Bool.or_eq_false_iff,notB_f] at h
 have h1:=h.1.1
 have h2:=eqI_t.1 h.1.2
 simp only [ltI,decide_eq_false_iff_not] at h1
 omega
theorem opB_pos {o:api_Op} (h:opB o=true):0≤o.gN:=(opB_ar h).2
abbrev exprT (v:List api_Op):Option (List (Tr api_Op)):=Tr.read opB (·.gN) [] v
def exprOk (v:List api_Op):Bool:=match exprT v with
 | some [_]=>true
 | _=>false
theorem exprOk_one {v:List api_Op} {st:List (Tr api_Op)} (h:exprT v=some st):exprOk v=eqI (st.length:Int) 1:=by
 simp only [exprOk,h]
 match st with
 | []=>rfl
 | [_]=>rfl
 | _ :: _ :: l=>exact (eqI_f.2 (by simp only [List.length_cons]; omega)).symm
theorem exprOk_tree {v:List api_Op} (h:exprOk v=true):∃t,exprT v=some [t]:=by
 unfold exprOk at h
 split at h
 ·exact ⟨_,by assumption⟩
 ·cases h
theorem op_bad {v:List api_Op} {i:Nat} {st:List (Tr api_Op)} (hi:i<v.length) (hst:exprT (v.take i)=some st) (hok:¬(opB v[i]=true∧v[i].gN≤st.length)):
  exprOk v=false∧(notB (opB v[i]) || ltI (intN (lenL (Ns (Tr.starts 0 st)))) v[i].gN)=true∧exprT v=none:=by
 have hn:exprT v=none:=Tr.read_take_none (i:=i+1) ((Tr.read_take_succ hi hst).trans (Tr.put_none fun h=>hok ⟨h.1,h.2.2⟩))
 refine ⟨by simp only [exprOk,hn],?_,hn⟩
 rw [intN_eq,lenL_eq,Ns_length,Tr.starts_length]
 cases hb:opB v[i] with
 | false=>rfl
 | true=>
  have:¬v[i].gN≤st.length:=fun h=>hok ⟨hb,h⟩
  simp [notB,ltI]; omega
theorem take_set1 {y:List Int} {i:Nat} {a:Int} (hi:i<y.length):(setL y i a).take (i+1)=y.take i ++ [a]:=by
 unfold setL
 rw [List.take_succ_eq_append_getElem (by simpa using hi),List.take_set,List.set_eq_of_length_le (by simp; omega)]
 simp
theorem take_set2 {y:List Int} {i:Nat} {a b:Int} (hi:i<y.length):(setL (setL y i a) i b).take (i+1)=y.take i ++ [b]:=by
 rw [take_set1 (by simp [setL]; exact hi)]
 unfold setL
 rw [List.take_set,List.set_eq_of_length_le (by simp; omega)]
theorem gives66 (v:List api_Op):∃fr,Gives 66 [.d (.sl .api_Op v)] (.tup [.d (.sl .int fr),.d (.bool (exprOk v))])∧(v.length * 40≤140737488355328→∀st,exprT v=some st→fr=Ns (Tr.frontss 0 st)):=by
 by_cases hl:v.length * 40≤140737488355328
 case neg=>exact ⟨[],Runs.known fun hk _=>absurd (known_ops (hk _ (List.mem_cons_self ..))) hl,fun h=>absurd h hl⟩
 let P:Nat→Prop:=fun i=>∀(st:List (Tr api_Op)) (y11:List Int),exprT (v.take i)=some st→y11.length=v.length→y11.take i=Ns (Tr.frontss 0 st)→∃fr:List Int,
  At K 66 (fun c' H'=>c'=(.tup [.d (.sl .int fr),.d (.bool (exprOk v))]:C U)∧H'=[]) t66_3 (s66_3 v (intN (lenL v)) i (Ns (Tr.starts 0 st)) y11)∧∀st',exprT v=some st'→fr=Ns (Tr.frontss 0 st')
 have loop:∀i,i≤v.length→P i:=by
  refine upto ?_ fun i hi ih=>?_
  ·intro st y11 hst hy hyt
   rw [List.take_length] at hst
   rw [←hy,List.take_length] at hyt
   refine ⟨y11,l66_3 _ _ _ _ _ _ (ite_f (lt_len_f (Nat.le_refl _)) ⟨?_,rfl⟩),fun st' h'=>by rw [hst] at h'; cases h'; exact hyt⟩
   rw [exprOk_one hst,intN_eq,lenL_eq,Ns_length,Tr.starts_length]
  ·intro st y11 hst hy hyt
   have hlen:(Ns (Tr.starts 0 st)).length=st.length:=by rw [Ns_length,Tr.starts_length]
   have hsz:Tr.sizes st=i:=by rw [Tr.read_sizes hst]; simp; omega
   have hle:=Tr.length_le_sizes st
   have hrd:rd (api_Op.mk 0 0 0 (bs [])) v (i:Int)=v[i]:=rd_at hi
   have hroom:∀m,m≤v.length→(m+1) * 8≤140737488355328:=fun m hm=>by omega
   by_cases hok:opB v[i]=true∧v[i].gN≤st.length
   ·obtain ⟨ho,hN⟩:=hok
    have hp:=opB_pos ho
    obtain ⟨n,hn⟩:∃n:Nat,v[i].gN=(n:Int):=⟨v[i].gN.toNat,by omega⟩
    have hnl:n≤st.length:=by omega
    have hsucc:=(Tr.read_take_succ (ok:=opB) (ar:=(·.gN)) hi hst).trans (Tr.put_of ho hn hnl)
    have hsub:subW .i64 (intN (lenL (Ns (Tr.starts 0 st)))) (n:Int)=((st.length - n:Nat):Int):=by
     rw [intN_eq,lenL_eq,hlen,subW_id (by omega) (by omega)]; omega
    have in1:∀L:List Int,lenL L=v.length→inB (i:Int) (lenL L)=true:=fun L h=>by rw [inB_iff,h]; omega
    have lt1:∀L:List Int,lenL L=v.length→ltN (natI (i:Int)) (lenL L)=true:=fun L h=>ltN_t (by rw [h,natI_nat]; exact hi)
    have hgen:∀y:List Int,y.length=v.length→y.take (i+1)=y11.take i ++ [((Tr.sizes (st.take (st.length - n)):Nat):Int)]→∃fr:List Int,At K 66 (fun c' H'=>c'=(.tup [.d (.sl .int fr),.d (.bool (exprOk v))]:C U)∧H'=[]) t66_3
      (s66_3 v (intN (lenL v)) ((i+1:Nat):Int) ((Ns (Tr.starts 0 st)).take (st.length - n) ++ [((Tr.sizes (st.take (st.length - n)):Nat):Int)]) y)∧∀st',exprT v=some st'→fr=Ns (Tr.frontss 0 st'):=by
     intro y hy' hyt'
     obtain ⟨fr,h1,h2⟩:=ih _ y hsucc hy' (by rw [fronts_put hnl,Ns_append,←hyt,hyt',Ns_one])
     rw [starts_put hnl,Ns_append,←Ns_take,Ns_one] at h1
     exact ⟨fr,h1,h2⟩
    have hy1:(setL y11 (natI (i:Int)) (i:Int)).length=v.length:=by simp [setL,hy]
    have hin1:natI (i:Int)<(setL y11 (natI (i:Int)) (i:Int)).length:=by rw [hy1,natI_nat]; exact hi
    by_cases h0:0<n
    ·have hk:st.length - n<st.length:=by omega
     obtain ⟨fr,h1,h2⟩:=hgen (setL (setL y11 (natI (i:Int)) (i:Int)) (natI (i:Int)) ((Tr.sizes (st.take (st.length - n)):Nat):Int)) (by simp [setL,hy]) (by rw [natI_nat,take_set2 (by rw [hy]; exact hi)])
     refine ⟨fr,l66_3 _ _ _ _ _ _ (ite_t (lt_len hi) (and_t (in_len hi) ?_)),h2⟩
     rw [hrd]
     refine ⟨_,gives79 _,or_of (fun _=>rfl) (ite_f ?_ ?_)⟩
     ·rw [ho,hn,intN_eq,lenL_eq,hlen]
      show (false || decide ((st.length:Int)<n))=false
      rw [Bool.false_or,decide_eq_false_iff_not]; omega
     rw [hn]
     refine and_t (in1 _ hy) (and_t (lt1 _ hy) (ite_t (by simp [ltI]; omega) ?_))
     rw [hsub,natI_nat (st.length - n),rdN_some (Ns_get (start_at hk)),setL_get hin1]
     refine and_t (in_len (by omega)) (and_t (ltN_t (by rw [lenL_eq,hlen]; exact hk)) (and_t (in1 _ (by simp [lenL,setL,hy])) (and_t (lt1 _ (by simp [lenL,setL,hy])) (and_t (by rw [intN_eq,lenL_eq,hlen]; exact slice_ok' (by omega)) (and_t (in1 _ (by simp [lenL,setL,hy])) (and_t (lt1 _ (by simp [lenL,setL,hy])) (and_t ?_ ?_)))))))
     ·rw [andB_true]
      refine ⟨leN_t (by simp only [addN,lenL_eq,hlen]; omega),roomB_t ?_⟩
      simp only [addN,lenL_eq,List.length_singleton]; exact hroom _ (by omega)
     ·rw [add_one (by omega)]; exact h1
    ·have h00:n=0:=by omega
     subst h00
     obtain ⟨fr,h1,h2⟩:=hgen (setL y11 (natI (i:Int)) (i:Int)) hy1 (by rw [natI_nat,take_set1 (by rw [hy]; exact hi),Nat.sub_zero,List.take_length,hsz])
     refine ⟨fr,l66_3 _ _ _ _ _ _ (ite_t (lt_len hi) (and_t (in_len hi) ?_)),h2⟩
     rw [hrd]
     refine ⟨_,gives79 _,or_of (fun _=>rfl) (ite_f ?_ ?_)⟩
     ·rw [ho,hn,intN_eq,lenL_eq,hlen]
      show (false || decide ((st.length:Int)<(0:Nat)))=false
      rw [Bool.false_or,decide_eq_false_iff_not]; omega
     rw [hn]
     refine and_t (in1 _ hy) (and_t (lt1 _ hy) (ite_f (by simp [ltI]) ?_))
     rw [hsub,natI_nat (st.length - 0),setL_get (by rw [hy,natI_nat]; exact hi)]
     refine and_t (by rw [intN_eq,lenL_eq,hlen]; exact slice_ok' (by omega)) (and_t (in1 _ (by simp [lenL,setL,hy])) (and_t (lt1 _ (by simp [lenL,setL,hy])) (and_t ?_ ?_)))
     ·rw [andB_true]
      refine ⟨leN_t (by simp only [addN,lenL_eq,hlen]; omega),roomB_t ?_⟩
      simp only [addN,lenL_eq,List.length_singleton]; exact hroom _ (by omega)
     ·rw [add_one (by omega)]
      simp only [Nat.sub_zero,List.take_length,hsz] at h1 ⊢
      exact h1
   ·obtain ⟨hf,hb,hno⟩:=op_bad hi hst hok
    rw [hf]
    refine ⟨[],l66_3 _ _ _ _ _ _ (ite_t (lt_len hi) (and_t (in_len hi) ?_)),fun st' h'=>by rw [hno] at h'; cases h'⟩
    rw [hrd]
    exact ⟨_,gives79 _,or_of (fun _=>rfl) (ite_t hb ⟨rfl,rfl⟩)⟩
 obtain ⟨fr,h1,h2⟩:=loop 0 (Nat.zero_le _) [] (replL (intN (lenL v)) 0) rfl (by simp [replL,intN,lenL]) (by simp [Tr.frontss,Ns])
 refine ⟨fr,e66 _ _ (and_t ?_ h1),fun _=>h2⟩
 rw [intN_eq,lenL_eq,andB_true,andB_true]
 refine ⟨decide_eq_true (by omega),decide_eq_true (by omega),decide_eq_true ?_⟩
 rw [room_eq]; omega
theorem sizes_succ {α:Type} {l:List (Tr α)} {j:Nat} (h:j<l.length):Tr.sizes (l.take (j+1))=Tr.sizes (l.take j)+l[j].size:=by
 rw [List.take_succ_eq_append_getElem h,Tr.sizes_append]; simp [Tr.sizes]
theorem sizes_take_le {α:Type} (l:List (Tr α)) (j:Nat):Tr.sizes (l.take j)≤Tr.sizes l:=by
 conv=>rhs; rw [←List.take_append_drop j l]
 rw [Tr.sizes_append]; omega
theorem ends_get {α:Type}:∀{p j:Nat} {l:List (Tr α)},j<l.length→(Tr.ends p l)[j]?=some (p+Tr.sizes (l.take (j+1)) - 1)
 | p,0,t :: l,_=>by simp [Tr.ends,Tr.sizes]
 | p,j+1,t :: l,h=>by
  have:=ends_get (p:=p+t.size) (j:=j) (l:=l) (by simpa using h)
  simp [Tr.ends,Tr.sizes,this,Nat.add_assoc]
structure InT (x:List api_Op) (fr:List Nat) (p:Nat) (t:Tr api_Op):Prop where
 ops:∀i,i<t.size→x[p+i]?=t.post[i]?
 frs:∀i,i<t.size→fr[p+i]?=(t.fronts p)[i]?
theorem InT.whole (t:Tr api_Op):InT t.post (t.fronts 0) 0 t:=⟨fun i _=>by rw [Nat.zero_add],fun i _=>by rw [Nat.zero_add]⟩
section
variable {x:List api_Op} {fr:List Nat} {p:Nat} {a:api_Op} {l:List (Tr api_Op)} {t:Tr api_Op}
theorem InT.le (h:InT x fr p t):p+t.size≤x.length:=by
 have hp:=Tr.size_pos t
 have:=h.ops (t.size - 1) (by omega)
 rw [List.getElem?_eq_getElem (l:=t.post) (by rw [Tr.post_length]; omega)] at this
 have:=(List.getElem?_eq_some_iff.1 this).1
 omega
theorem InT.top (h:InT x fr p (.nd a l)):x[p+Tr.sizes l]?=some a:=by
 rw [h.ops _ (by simp [Tr.size]),Tr.post,List.getElem?_append_right (by rw [Tr.posts_length]; exact Nat.le_refl _),Tr.posts_length]
 simp
theorem InT.front (h:InT x fr p t):fr[p+t.size - 1]?=some p:=by
 obtain ⟨a,l⟩:=t
 have:=h.frs (Tr.sizes l) (by simp [Tr.size])
 have e:p+(Tr.nd a l).size - 1=p+Tr.sizes l:=by simp only [Tr.size]; omega
 rw [e,this,Tr.fronts,List.getElem?_append_right (by rw [Tr.frontss_length]; exact Nat.le_refl _),Tr.frontss_length]
 simp
theorem InT.kid (h:InT x fr p (.nd a l)) {j:Nat} (hj:j<l.length):InT x fr (p+Tr.sizes (l.take j)) l[j]:=by
 have hs:=sizes_succ hj
 have hle:=sizes_take_le l (j+1)
 have ep:Tr.posts l=Tr.posts (l.take j) ++ (l[j].post ++ Tr.posts (l.drop (j+1))):=by
  conv=>lhs; rw [←List.take_append_drop j l,List.drop_eq_getElem_cons hj]
  rw [Tr.posts_append,Tr.posts]
 have ef:Tr.frontss p l=Tr.frontss p (l.take j) ++ (l[j].fronts (p+Tr.sizes (l.take j)) ++ Tr.frontss (p+Tr.sizes (l.take j)+l[j].size) (l.drop (j+1))):=by
  conv=>lhs; rw [←List.take_append_drop j l,List.drop_eq_getElem_cons hj]
  rw [Tr.frontss_append,Tr.frontss]
 refine ⟨fun i hi=>?_,fun i hi=>?_⟩
 ·rw [Nat.add_assoc,h.ops _ (by simp only [Tr.size]; omega),Tr.post,List.getElem?_append_left (by rw [Tr.posts_length]; omega),ep,
   List.getElem?_append_right (by rw [Tr.posts_length]; omega),Tr.posts_length,List.getElem?_append_left (by rw [Tr.post_length]; omega)]
  congr 1; omega
 ·rw [Nat.add_assoc,h.frs _ (by simp only [Tr.size]; omega),Tr.fronts,List.getElem?_append_left (by rw [Tr.frontss_length]; omega),ef,
   List.getElem?_append_right (by rw [Tr.frontss_length]; omega),Tr.frontss_length,List.getElem?_append_left (by rw [Tr.fronts_length]; omega)]
  congr 1; omega
theorem rd_some {α:Type} {d:α} {l:List α} {i:Nat} {x:α} (h:l[i]?=some x):rd d l (i:Int)=x:=by
 obtain ⟨h1,h2⟩:=List.getElem?_eq_some_iff.1 h
 rw [rd_at h1,h2]
theorem inB_some {α:Type} {l:List α} {i:Nat} {x:α} (h:l[i]?=some x):inB (i:Int) (lenL l)=true:=in_len (List.getElem?_eq_some_iff.1 h).1
theorem drop_set {y:List Int} {E:List Int} {j:Nat} {e:Int} (hj:j<y.length) (hd:y.drop (j+1)=E.drop (j+1)) (he:E[j]?=some e):(setL y j e).drop j=E.drop j:=by
 obtain ⟨h1,h2⟩:=List.getElem?_eq_some_iff.1 he
 unfold setL
 rw [List.drop_eq_getElem_cons (by simpa using hj),List.drop_eq_getElem_cons h1,h2]
 congr 1
 ·simp
 ·rw [←hd,List.drop_set,if_pos (by omega)]
theorem gives80 (h:InT x fr p (.nd a l)) (ha:a.gN=(l.length:Int)) (hx:x.length * 40≤140737488355328):
  Gives 80 [.d (.sl .api_Op x),.d (.sl .int (Ns fr)),.d (.int .i64 ((p+Tr.sizes l:Nat):Int))] (.d (.sl .int (Ns (Tr.ends p l)))):=by
 have hle:=h.le
 simp only [Tr.size] at hle
 have hll:=Tr.length_le_sizes l
 have loop:∀(j:Nat) (y:List Int),j≤l.length→y.length=l.length→y.drop j=(Ns (Tr.ends p l)).drop j→
   At K 80 (fun c' H'=>c'=(.d (.sl .int (Ns (Tr.ends p l))):C U)∧H'=[]) t80_4 (s80_4 (Ns fr) ((p+Tr.sizes (l.take j):Nat):Int) ((j:Int) - 1) y):=by
  intro j
  induction j with
  | zero=>
   intro y _ hy hd
   refine l80_4 _ _ _ _ _ (ite_f (by simp [leI]) ⟨?_,rfl⟩)
   rw [List.drop_zero,List.drop_zero] at hd
   rw [hd]
  | succ j ih=>
   intro y hj hy hd
   have e:((j+1:Nat):Int) - 1=(j:Int):=by omega
   have hs:=sizes_succ (l:=l) (j:=j) (by omega)
   have hst:=sizes_take_le l (j+1)
   have hp:=Tr.size_pos (l[j]'(by omega))
   have hk:=(h.kid (j:=j) (by omega)).front
   have ek:p+Tr.sizes (l.take j)+(l[j]'(by omega)).size - 1=p+Tr.sizes (l.take (j+1)) - 1:=by omega
   rw [ek] at hk
   have es:subW .i64 ((p+Tr.sizes (l.take (j+1)):Nat):Int) 1=((p+Tr.sizes (l.take (j+1)) - 1:Nat):Int):=by
    rw [subW_id (by omega) (by omega)]; omega
   rw [e]
   refine l80_4 _ _ _ _ _ (ite_t (by simp [leI]) (and_t (in_len (by omega)) (and_t (ltN_t (by rw [natI_nat,lenL_eq]; omega)) ?_)))
   rw [es]
   refine and_t (inB_some (Ns_get hk)) ?_
   rw [rd_some (Ns_get hk),subW_id (by omega) (by omega),natI_nat]
   refine ih _ (by omega) (by simp [setL,hy]) (drop_set (by omega) hd (Ns_get (ends_get (by omega))))
 have h0:=h.top
 have lp:=loop l.length (replL a.gN (0:Int)) (Nat.le_refl _) (by rw [ha]; simp [replL]) (by
  rw [List.drop_eq_nil_of_le (by rw [ha]; simp [replL]),List.drop_eq_nil_of_le (by rw [Ns_length,Tr.ends_length]; exact Nat.le_refl _)])
 rw [List.take_length] at lp
 refine e80 _ _ _ _ (and_t (inB_some h0) ?_)
 rw [rd_some h0]
 refine and_t ?_ ?_
 ·rw [andB_true,andB_true,ha]
  refine ⟨decide_eq_true (by omega),decide_eq_true (by omega),decide_eq_true ?_⟩
  rw [room_eq]; omega
 ·have el:subW .i64 (intN (lenL (replL a.gN (0:Int)))) 1=(l.length:Int) - 1:=by
   have e1:lenL (replL a.gN (0:Int))=l.length:=by rw [ha]; simp [replL,lenL]
   rw [e1,intN_eq,subW_id (by omega) (by omega)]
  rw [el]
  exact lp
end
theorem gives69 {x:List api_Op} {t:Tr api_Op} (h:exprT x=some [t]) (hx:x.length * 40≤140737488355328):Gives 69 [.d (.sl .api_Op x)] (.d (.int .i64 ((t.deep:Nat):Int))):=by
 have loop:∀i,i≤x.length→∀st:List (Tr api_Op),exprT (x.take i)=some st→
   At K 69 (fun c' H'=>c'=(.d (.int .i64 ((t.deep:Nat):Int)):C U)∧H'=[]) t69_3 (s69_3 x (intN (lenL x)) i (Ns (st.map Tr.deep))):=by
  refine upto ?_ fun i hi ih=>?_
  ·intro st hst
   rw [List.take_length,h] at hst
   cases hst
   refine l69_3 _ _ _ _ _ (ite_f (lt_len_f (Nat.le_refl _)) (and_t (in_len (i:=0) (by simp [Ns])) (and_t (ltN_t (by simp [Ns,natI,lenL])) ⟨rfl,rfl⟩)))
  ·intro st hst
   have hsucc:=Tr.read_take_succ (ok:=opB) (ar:=(·.gN)) hi hst
   cases hp:Tr.put opB (·.gN) st x[i] with
   | none=>
    rw [hp] at hsucc
    have hn:exprT x=none:=Tr.read_take_none hsucc
    rw [hn] at h; cases h
   | some st'=>
    rw [hp] at hsucc
    obtain ⟨ho,n,hn,hnl,hst'⟩:=Tr.put_some hp
    have hsz:Tr.sizes st=i:=by rw [Tr.read_sizes hst]; simp; omega
    have hll:=Tr.length_le_sizes st
    have hlen:(Ns (st.map Tr.deep)).length=st.length:=by rw [Ns_length,List.length_map]
    have hdl:∀k j,Tr.deeps ((st.drop k).take j)≤i:=fun k j=>by
     have h1:=Tr.deeps_take_le (st.drop k) j
     have h2:=Tr.deeps_drop_le st k
     have h3:=Tr.deeps_le_sizes st
     omega
    have hsub:subW .i64 (intN (lenL (Ns (st.map Tr.deep)))) (n:Int)=((st.length - n:Nat):Int):=by
     rw [intN_eq,lenL_eq,hlen,subW_id (by omega) (by omega)]; omega
    have inner:∀j,j≤n→At K 69 (fun c' H'=>c'=(.d (.int .i64 ((t.deep:Nat):Int)):C U)∧H'=[]) t69_7
      (s69_7 ((st.length - n:Nat):Int) ((Tr.deeps ((st.drop (st.length - n)).take j):Nat):Int) x (intN (lenL x)) i (st.length - n) n (intN n) j (Ns (st.map Tr.deep))):=by
     refine upto ?_ fun j hj ihj=>?_
     ·refine l69_7 _ _ _ _ _ _ _ _ _ _ _ (ite_f (by simp [ltI,intN]) (and_t (by rw [intN_eq,lenL_eq,hlen]; exact slice_ok' (by omega)) (and_t ?_ ?_)))
      ·rw [andB_true]
       refine ⟨leN_t (by simp only [addN,lenL_eq,hlen,natI_nat]; omega),roomB_t ?_⟩
       simp only [addN,lenL_eq,List.length_singleton,natI_nat]; omega
      ·have hd:=hdl (st.length - n) n
       rw [add_one (by omega),natI_nat]
       have e1:(st.drop (st.length - n)).take n=st.drop (st.length - n):=List.take_of_length_le (by rw [List.length_drop]; omega)
       rw [e1] at hd ⊢
       have e2:addW .i64 ((Tr.deeps (st.drop (st.length - n)):Nat):Int) 1=((Tr.deeps (st.drop (st.length - n))+1:Nat):Int):=by
        rw [add_one (by omega)]
       have:=ih st' hsucc
       rw [hst',deeps_put hnl,Ns_append,←Ns_take,Ns_one] at this
       rw [e2]
       exact this
     ·have hk:st.length - n+j<st.length:=by omega
      have hg:(Ns (st.map Tr.deep))[st.length - n+j]?=some (((st[st.length - n+j]).deep:Nat):Int):=Ns_get (by rw [List.getElem?_map,List.getElem?_eq_getElem hk]; rfl)
      refine l69_7 _ _ _ _ _ _ _ _ _ _ _ (ite_t (by simp [ltI,intN]; omega) (and_t ?_ (and_t (ltN_t (by simp only [addN,natI_nat,lenL_eq,hlen]; exact hk)) ?_)))
      ·rw [andB_true]
       exact ⟨by rw [inB_iff]; omega,leN_t (by simp only [addN,lenL_eq,hlen]; omega)⟩
      ·simp only [addN,natI_nat]
       rw [rdN_some hg,maxI_nat,add_one (by omega)]
       have e:max (Tr.deeps ((st.drop (st.length - n)).take j)) (st[st.length - n+j]).deep=Tr.deeps ((st.drop (st.length - n)).take (j+1)):=by
        rw [Tr.deeps_take (by rw [List.length_drop]; omega),List.getElem_drop]
       rw [e]
       exact ihj
    refine l69_3 _ _ _ _ _ (ite_t (lt_len hi) (and_t (in_len hi) ?_))
    have hrd:rd (api_Op.mk 0 0 0 (bs [])) x (i:Int)=x[i]:=rd_at hi
    rw [hrd,hn,hsub]
    refine and_t (by rw [intN_eq,lenL_eq,hlen]; exact slice_ok (by omega)) ?_
    have i0:=inner 0 (Nat.zero_le _)
    rw [List.take_zero,Tr.deeps_nil] at i0
    have e1:addN 0 (natI ((st.length - n:Nat):Int))=st.length - n:=by simp [addN,natI_nat]
    have e2:subN (natI (intN (lenL (Ns (st.map Tr.deep))))) (natI ((st.length - n:Nat):Int))=n:=by
     simp only [subN,natI_nat,intN_eq,lenL_eq,hlen]; omega
    rw [e1,e2]
    exact i0
 exact e69 _ _ (loop 0 (Nat.zero_le _) [] rfl)
mutual
def bndB (loc:List ByteArray):Tr api_Op→Bool
 | .nd a l=>(notB (eqI a.gKind 4) || inB' loc a.gText) && bndsB loc a 0 l
def bndsB (loc:List ByteArray) (a:api_Op) (i:Nat):List (Tr api_Op)→Bool
 | []=>true
 | t :: r=>bndB (if (eqI a.gKind 19 && eqI (i:Int) 1)=true then loc ++ [a.gText] else loc) t && bndsB loc a (i+1) r
end
section
variable {x:List api_Op} {H:List (O U)} {q:Nat}
theorem gives68 (hH:obj H q=some (.cells [.d (.sl .api_Op x)])) {i:Nat} {a:api_Op} (hi:x[i]?=some a) (loc:List ByteArray):
  GivesM 68 [.d (.int .i64 (i:Int)),.d (.sl .str loc),.ptr (.g q) 0] H (.d (.bool (notB (eqI a.gKind 4) || inB' loc a.gText))) H:=by
 refine e68 _ _ _ _ _ ⟨x,hH,and_t (inB_some hi) ?_⟩
 rw [rd_some hi]
 exact or_of (fun _=>⟨x,hH,and_t (inB_some hi) (by rw [rd_some hi]; exact ⟨_,gives59 _ _,rfl⟩)⟩) ⟨rfl,rfl⟩
theorem gives81 (l:List ByteArray) (hl:l.length * 16≤140737488355328):Gives 81 [.d (.sl .str l)] (.osl .str l):=by
 refine e81 _ _ ⟨and_t (roomB_t (by simpa [addN,lenL,nilL] using hl)) ⟨rfl,rfl⟩,ite_w (fun h=>?_) (fun _=>trivial)⟩
 cases l with
 | nil=>exact ⟨rfl,rfl⟩
 | cons _ _=>cases h
theorem gives67 {fr:List Nat} (hH:obj H q=some (.cells [.d (.sl .api_Op x)])) (hx:x.length * 40≤140737488355328):∀(n:Nat) {p:Nat} {t:Tr api_Op} {loc:List ByteArray},t.size≤n→InT x fr p t→t.good opB (·.gN)→loc.length+t.size≤x.length→
  GivesM 67 [.d (.sl .api_Op x),.d (.sl .int (Ns fr)),.d (.int .i64 ((p+t.size - 1:Nat):Int)),.d (.sl .str loc),.fp 68 [] [.ptr (.g q) 0]] H (.d (.bool (bndB loc t))) H:=by
 intro n
 induction n with
 | zero=>intro p t loc hn _ _ _; have:=Tr.size_pos t; omega
 | succ n ih=>
  intro p t loc hn hT hg hloc
  obtain ⟨a,l⟩:=t
  simp only [Tr.good] at hg
  obtain ⟨⟨ho,ha⟩,hgs⟩:=hg
  have hle:=hT.le
  have htop:=hT.top
  have hll:=Tr.length_le_sizes l
  simp only [Tr.size] at hn hloc hle
  have epl:p+(Tr.nd a l).size - 1=p+Tr.sizes l:=by simp only [Tr.size]; omega
  rw [epl]
  have loop:∀j,j≤l.length→bndB loc (.nd a l)=bndsB loc a j (l.drop j)→
    At K 67 (fun c' H'=>c'=(.d (.bool (bndB loc (.nd a l))):C U)∧H'=H) t67_4 (s67_4 x (Ns fr) ((p+Tr.sizes l:Nat):Int) loc q (Ns (Tr.ends p l)) (intN l.length) j H):=by
   refine upto ?_ fun j hj ihj=>?_
   ·intro hb
    refine l67_4 _ _ _ _ _ _ _ _ _ _ (ite_f (by simp [ltI,intN]) ⟨?_,rfl⟩)
    rw [hb,List.drop_length]; rfl
   ·intro hb
    have hend:(Ns (Tr.ends p l))[j]?=some ((p+Tr.sizes (l.take j)+l[j].size - 1:Nat):Int):=by
     rw [Ns_get (ends_get hj),sizes_succ hj,Nat.add_assoc]
    have hk:=hT.kid hj
    have hgk:l[j].good opB (·.gN):=Tr.goods_mem hgs (List.getElem_mem hj)
    have hsz:l[j].size≤Tr.sizes l:=Tr.le_sizes (List.getElem_mem hj)
    rw [List.drop_eq_getElem_cons hj] at hb
    simp only [bndsB] at hb
    refine l67_4 _ _ _ _ _ _ _ _ _ _ (ite_t (by simp [ltI,intN]; omega) (and_t (inB_some hend) (and_t (inB_some htop) ?_)))
    rw [rd_some htop,rd_some hend]
    have next:bndB loc (.nd a l)=bndsB loc a (j+1) (l.drop (j+1))→At K 67 (fun c' H'=>c'=(.d (.bool (bndB loc (.nd a l))):C U)∧H'=H) t67_4 (s67_4 x (Ns fr) ((p+Tr.sizes l:Nat):Int) loc q (Ns (Tr.ends p l)) (intN l.length) (addW .i64 j 1) H):=by
     rw [add_one (by omega)]; exact ihj
    refine and_of (fun _=>rfl) (ite_w (fun h=>?_) (fun h=>?_))
    ·rw [if_pos h] at hb
     refine ⟨loc,gives81 loc (by omega),and_t (inB_some htop) (and_t (roomB_t (by simp only [addN,lenL_eq,List.length_singleton]; omega)) ?_)⟩
     have hl1:(loc ++ [a.gText]).length=loc.length+1:=by simp
     refine ⟨_,(),ih (loc:=loc ++ [a.gText]) (by omega) hk hgk (by omega),ite_w (fun h'=>⟨?_,rfl⟩) (fun h'=>next ?_)⟩
     ·rw [hb,show bndB (loc ++ [a.gText]) l[j]=false from notB_t.1 h']; rfl
     ·rw [hb,show bndB (loc ++ [a.gText]) l[j]=true from notB_f.1 h']; rfl
    ·rw [if_neg (by rw [h]; exact Bool.false_ne_true)] at hb
     refine ⟨_,(),ih (by omega) hk hgk (by omega),ite_w (fun h'=>⟨?_,rfl⟩) (fun h'=>next ?_)⟩
     ·rw [hb,notB_t.1 h']; rfl
     ·rw [hb,notB_f.1 h']; rfl
  refine e67 _ _ _ _ _ _ _ ⟨_,(),gives68 hH htop loc,ite_w (fun h=>⟨?_,rfl⟩) (fun h=>⟨_,gives80 hT ha hx,?_⟩)⟩
  ·rw [bndB,notB_t.1 h]; rfl
  ·have lp:=loop 0 (Nat.zero_le _) (by rw [bndB,notB_f.1 h]; rfl)
   have e:intN (lenL (Ns (Tr.ends p l)))=intN l.length:=by rw [lenL_eq,Ns_length,Tr.ends_length]
   rw [e]
   exact lp
end
def restE (x:List api_Op) (d:Nat):Int:=if (x.any fun o=>ltI 4096 (intN (strLen o.gText)))=true then 3 else if ltI 32 (d:Int)=true then 3 else 0
def exprE (x:List api_Op):Int:=
 if 256<x.length then 3
 else match exprT x with
  | some [t]=>if bndB [] t=true then restE x t.deep else 5
  | _=>5
theorem gives42 (x:List api_Op):Gives 42 [.d (.sl .api_Op x)] (.d (.int .i64 (exprE x))):=by
 refine Runs.known fun hk _=>?_
 have hx:=known_ops (hk _ (List.mem_cons_self ..))
 refine e42 _ _ (ite_w (fun h=>?_) (fun h=>?_))
 ·have h:=of_decide_eq_true h
  simp only [intN_eq,lenL_eq] at h
  have e:exprE x=3:=if_pos (by omega)
  rw [e]; exact ⟨rfl,rfl⟩
 have h:=of_decide_eq_false h
 simp only [intN_eq,lenL_eq] at h
 have e0:exprE x=match exprT x with
  | some [t]=>if bndB [] t=true then restE x t.deep else 5
  | _=>5:=if_neg (by omega)
 obtain ⟨fr,h1,h2⟩:=gives66 x
 refine ⟨(fr,exprOk x),h1,ite_w (fun hb=>?_) (fun hb=>?_)⟩
 ·have hb:=notB_t.1 hb
  dsimp only at hb
  have e:exprE x=5:=by
   rw [e0]
   split
   ·rename_i t ht
    rw [exprOk_one ht] at hb; cases hb
   ·rfl
  rw [e]; exact ⟨rfl,rfl⟩
 ·have hb:=notB_f.1 hb
  dsimp only at hb
  obtain ⟨t,ht⟩:=exprOk_tree hb
  obtain ⟨hxt,hg⟩:=Tr.read_one ht
  have e1:exprE x=if bndB [] t=true then restE x t.deep else 5:=by rw [e0,ht]
  have hf1:Tr.frontss 0 [t]=t.fronts 0:=by simp [Tr.frontss]
  have hfr:fr=Ns (t.fronts 0):=by rw [h2 hx _ ht,hf1]
  have hsz:t.size=x.length:=by rw [hxt,Tr.post_length]
  have hp:=Tr.size_pos t
  have hT:InT x (t.fronts 0) 0 t:=by rw [hxt]; exact InT.whole t
  have hw:=gives67 (H:=([O.cells [C.d (D.sl Ty.api_Op x)]]:List (O U))) (q:=0) rfl hx t.size (loc:=[]) (Nat.le_refl _) hT hg (by simp [hsz])
  dsimp only
  have ep:subW .i64 (intN (lenL x)) 1=((0+t.size - 1:Nat):Int):=by
   rw [intN_eq,lenL_eq,subW_id (by omega) (by omega),hsz]; omega
  rw [hfr,ep]
  refine ⟨_,(),hw,ite_w (fun hn=>?_) (fun hn=>?_)⟩
  ·rw [e1,notB_t.1 hn]; exact ⟨rfl,rfl⟩
  ·have hn:=notB_f.1 hn
   rw [e1,if_pos hn]
   have loop:∀i,i≤x.length→restE x t.deep=restE (x.drop i) t.deep→At K 42 (fun c' H'=>c'=(.d (.int .i64 (restE x t.deep)):C U)∧H'=[]) t42_10 (s42_10 x (intN (lenL x)) i x):=by
    refine upto ?_ fun i hi ih=>?_
    ·intro hr
     rw [List.drop_length] at hr
     have hr:restE x t.deep=if ltI 32 (t.deep:Int)=true then 3 else 0:=hr
     refine l42_10 _ _ _ _ _ (ite_f (lt_len_f (Nat.le_refl _)) ⟨_,gives69 ht hx,ite_w (fun h'=>?_) (fun h'=>?_)⟩)
     ·rw [hr,if_pos h']; exact ⟨rfl,rfl⟩
     ·rw [hr,if_neg (by rw [h']; exact Bool.false_ne_true)]; exact ⟨rfl,rfl⟩
    ·intro hr
     refine l42_10 _ _ _ _ _ (ite_t (lt_len hi) (and_t (in_len hi) ?_))
     rw [rd_at hi]
     rw [List.drop_eq_getElem_cons hi] at hr
     refine ite_w (fun h'=>?_) (fun h'=>?_)
     ·have:restE (x[i] :: x.drop (i+1)) t.deep=3:=if_pos (by rw [List.any_cons,h']; rfl)
      rw [hr,this]; exact ⟨rfl,rfl⟩
     ·rw [add_one (by omega)]
      refine ih ?_
      rw [hr]
      simp only [restE,List.any_cons,h',Bool.false_or]
   exact loop 0 (Nat.zero_le _) rfl
theorem gives50 (s:ByteArray):Gives 50 [.d (.str s)] (.d (.bool (wordB s))):=by
 refine Runs.known fun hk _=>?_
 have hs:=known_str (hk _ (List.mem_cons_self ..))
 have hlen:=byL_length s
 by_cases h0:s.size=0
 ·have hw:wordB s=false:=by
   have:byL s=[]:=List.eq_nil_of_length_eq_zero (by omega)
   simp [wordB,this]
  rw [hw]
  exact e50 _ _ ⟨true,ite_t (strEq_nil.2 h0) rfl,true,rfl,rfl,rfl⟩
 have hpos:0<s.size:=by omega
 have hne:strEq s (bs [])=false:=by rw [←Bool.not_eq_true,strEq_nil]; exact h0
 have hhd:(byL s).head?=some ((byL s)[0]'(by omega)):=by rw [List.head?_eq_getElem?,List.getElem?_eq_getElem]
 have hb:byteAt s (0:Int)=(byL s)[0]'(by omega):=byteAt_byL hpos
 have hall:(byL s).all wcB=(wcB (byL s)[0] && ((byL s).drop 1).all wcB):=by
  have:=drop_all (l:=byL s) (p:=wcB) (i:=0) (by omega)
  simpa using this
 have loop:∀i,i≤s.size→At K 50 (fun c' H'=>c'=(.d (.bool (((byL s).drop i).all wcB)):C U)∧H'=[]) t50_4 (s50_4 s i):=by
  refine upto ?_ fun i hi ih=>?_
  ·refine l50_4 _ _ _ (ite_f (lt_str_f (Nat.le_refl _)) ⟨?_,rfl⟩)
   rw [List.drop_of_length_le (by omega)]; rfl
  ·have hb:byteAt s (i:Int)=(byL s)[i]'(by omega):=byteAt_byL hi
   refine l50_4 _ _ _ (ite_t (lt_str hi) (and_t (in_str hi) ?_))
   rw [hb,drop_all (by omega)]
   refine and_of (fun _=>rfl) (or_of (b:=digB (byL s)[i]) (fun _=>and_of (fun _=>rfl) rfl) (or_of (fun _=>rfl) ?_))
   have e:((leI 97 (byL s)[i] && leI (byL s)[i] 122 || digB (byL s)[i]) || eqI (byL s)[i] 95)=wcB (byL s)[i]:=rfl
   rw [e]
   refine ite_w (fun h=>?_) (fun h=>?_)
   ·rw [notB_t] at h; rw [h]; exact ⟨rfl,rfl⟩
   ·rw [notB_f] at h; rw [h,Bool.true_and,add_one (by omega)]; exact ih
 refine e50 _ _ ?_
 rw [hne,hb]
 refine or_of (b:=ltI (byL s)[0] 97) (fun _=>and_t (in_str (i:=0) hpos) rfl) (or_of (b:=ltI 122 (byL s)[0]) (fun _=>and_t (in_str (i:=0) hpos) rfl) ?_)
 have hl:letB (byL s)[0]=!(ltI (byL s)[0] 97 || ltI 122 (byL s)[0]):=by
  simp only [letB,leI,ltI,Bool.not_or]
  rw [Bool.eq_iff_iff]; simp
 refine ite_w (fun h=>?_) (fun h=>?_)
 ·have hl':letB (byL s)[0]=false:=by rw [Bool.false_or] at h; rw [hl,h]; rfl
  have:wordB s=false:=by simp [wordB,hhd,hl']
  rw [this]; exact ⟨rfl,rfl⟩
 ·have hl':letB (byL s)[0]=true:=by rw [Bool.false_or] at h; rw [hl,h]; rfl
  have hw:wcB (byL s)[0]=true:=by simp [wcB,hl']
  have:wordB s=((byL s).drop 1).all wcB:=by simp [wordB,hhd,hl',hall,hw]
  rw [this]
  exact loop 1 hpos
theorem gives24 (s:ByteArray):Gives 24 [.d (.str s)] (.d (.bool (nameB s))):=by
 refine e24 _ _ (and_of (fun _=>⟨_,gives50 s,rfl⟩) (and_of (b:=notB (inB' keyL s)) (fun _=>⟨keyL,(e52 _ ⟨rfl,rfl⟩:Gives 52 [] (.d (.sl .str keyL))),_,gives51 _ _,rfl⟩) ⟨?_,rfl⟩))
 show (C.d (.bool ((leI (intN (strLen s)) 24 && wordB s) && notB (inB' keyL s))):C U)=C.d (.bool (nameB s))
 have:(leI (intN (strLen s)) 24 && wordB s)=((notB (strEq s (bs [])) && leI (intN (strLen s)) 24) && wordB s):=by
  cases h:strEq s (bs []) with
  | false=>simp [notB]
  | true=>
   have:byL s=[]:=List.eq_nil_of_length_eq_zero (by rw [byL_length]; exact strEq_nil.1 h)
   simp [wordB,this]
 rw [this]; rfl
theorem arN_out {o:api_Op} (h:o.gKind<1∨19<o.gKind):arN o=-1:=by
 unfold arN
 rw [if_neg (by omega),if_neg (by omega),if_neg (by omega),if_neg (by omega),if_neg (by omega)]
theorem opB_no {o:api_Op} (h:¬(arN o=o.gN∧0≤o.gN)):opB o=false:=by
 cases hb:opB o with
 | false=>rfl
 | true=>exact absurd (opB_ar hb) h
theorem gives84 (o:api_Op) (h1:1≤o.gKind) (h2:o.gKind≤19):Gives 84 [opC o] (.d (.int .i64 (arN o))):=by
 obtain ⟨k,n,i,t⟩:=o
 dsimp only at h1 h2
 refine e84 _ _ ?_
 rcases opKinds k with rfl|rfl|rfl|rfl|rfl|rfl|rfl|rfl|rfl|rfl|rfl|rfl|rfl|rfl|rfl|rfl|rfl|rfl|rfl|h
 ·simp only [eqI,Int.reduceBEq,iteP]; exact ⟨rfl,rfl⟩
 ·simp only [eqI,Int.reduceBEq,iteP]; exact ⟨rfl,rfl⟩
 ·simp only [eqI,Int.reduceBEq,iteP]; exact ⟨rfl,rfl⟩
 ·simp only [eqI,Int.reduceBEq,iteP]; exact ⟨rfl,rfl⟩
 ·simp only [eqI,Int.reduceBEq,iteP]; exact ⟨rfl,rfl⟩
 ·simp only [eqI,Int.reduceBEq,iteP]; exact ⟨rfl,rfl⟩
 ·simp only [eqI,Int.reduceBEq,iteP]; exact ⟨rfl,rfl⟩
 ·simp only [eqI,Int.reduceBEq,iteP]; exact ⟨rfl,rfl⟩
 ·simp only [eqI,Int.reduceBEq,iteP]; exact ⟨rfl,rfl⟩
 ·simp only [eqI,Int.reduceBEq,iteP]; exact ⟨rfl,rfl⟩
 ·simp only [eqI,Int.reduceBEq,iteP]; exact ⟨rfl,rfl⟩
 ·simp only [eqI,Int.reduceBEq,iteP]; exact ⟨rfl,rfl⟩
 ·simp only [eqI,Int.reduceBEq,iteP]; exact ⟨rfl,rfl⟩
 ·simp only [eqI,Int.reduceBEq,iteP]; exact ⟨rfl,rfl⟩
 ·simp only [eqI,Int.reduceBEq,iteP]; exact ⟨rfl,rfl⟩
 ·simp only [eqI,Int.reduceBEq,iteP]; exact ⟨rfl,rfl⟩
 ·simp only [eqI,Int.reduceBEq,iteP]; exact ⟨rfl,rfl⟩
 ·simp only [eqI,Int.reduceBEq,iteP]; exact ⟨rfl,rfl⟩
 ·simp only [eqI,Int.reduceBEq,iteP]; exact ⟨rfl,rfl⟩
 ·omega
theorem gives82 (o:api_Op):Gives 82 [opC o] (.d (.bool (opB o))):=by
  refine e82 _ _ (ite_w (fun h=>?_) (fun h1=>ite_w (fun h=>?_) (fun h2=>ite_w (fun h=>?_) (fun h3=>?_))))
  · have h:=of_decide_eq_true h
    rw [opB_no (fun hc=>by have:=arN_out (o:=o) (by omega); omega)]; exact ⟨rfl,rfl⟩
  · have h:=of_decide_eq_true h
    rw [opB_no (fun hc=>by have:=arN_out (o:=o) (by omega); omega)]; exact ⟨rfl,rfl⟩
  · have h:=of_decide_eq_true h
    rw [opB_no (fun hc=>by omega)]; exact ⟨rfl,rfl⟩
  have h1:=of_decide_eq_false h1
  have h2:=of_decide_eq_false h2
  have h3:=of_decide_eq_false h3
  refine ⟨_,gives84 o (by omega) (by omega),ite_w (fun h=>?_) (fun h=>?_)⟩
  · have h:=eqI_f.1 (notB_t.1 h)
    rw [opB_no (fun hc=>h hc.1.symm)]; exact ⟨rfl,rfl⟩
  have h:=eqI_t.1 (notB_f.1 h)
  have e:opB o=(if o.gKind=1 then (leI (Int.negSucc 9007199254740991) o.gInt && leI o.gInt 9007199254740992) && strEq o.gText (bs [])
     else if o.gKind=2 then eqI o.gInt 0
     else if o.gKind=3∨o.gKind=4∨o.gKind=18∨o.gKind=19 then eqI o.gInt 0 && nameB o.gText
     else eqI o.gInt 0 && strEq o.gText (bs [])):=by
    unfold opB
    have a1:ltI (arN o) 0=false:=decide_eq_false (by omega)
    have a2:eqI (arN o) o.gN=true:=eqI_t.2 h.symm
    rw [a1,a2]; rfl
  rw [e]
  refine sw (fun k1=>?_) (fun k1=>?_)
  · rw [if_pos k1]; exact and_of (fun _=>rfl) (and_of (fun _=>rfl) ⟨rfl,rfl⟩)
  rw [if_neg k1]
  refine ite_w (fun hi=>?_) (fun hi=>?_)
  · have hi:=notB_t.1 hi
    rw [hi]
    split
    · exact ⟨rfl,rfl⟩
    · split <;> exact ⟨rfl,rfl⟩
  have hi:=notB_f.1 hi
  rw [hi]
  refine sw (fun k2=>?_) (fun k2=>sw (fun k3=>ite_t (eqI_t.2 k3) ⟨_,gives24 _,?_⟩) (fun k3=>sw (fun k4=>ite_t (eqI_t.2 k4) ⟨_,gives24 _,?_⟩) (fun k4=>sw (fun k5=>ite_t (eqI_t.2 k5) ⟨_,gives24 _,?_⟩) (fun k5=>sw (fun k6=>⟨_,gives24 _,?_⟩) (fun k6=>?_)))))
  · rw [if_pos k2]; exact ⟨rfl,rfl⟩
  · rw [if_neg k2,if_pos (by omega)]; exact ⟨rfl,rfl⟩
  · rw [if_neg k2,if_pos (by omega)]; exact ⟨rfl,rfl⟩
  · rw [if_neg k2,if_pos (by omega)]; exact ⟨rfl,rfl⟩
  · rw [if_neg k2,if_pos (by omega)]; exact ⟨rfl,rfl⟩
  · rw [if_neg k2,if_neg (by omega)]; exact ⟨rfl,rfl⟩
theorem gives72 (v:List api_Op):∃fr,Gives 72 [.d (.sl .api_Op v)] (.tup [.d (.sl .int fr),.d (.bool (exprOk v))])∧(v.length * 40≤140737488355328→∀st,exprT v=some st→fr=Ns (Tr.frontss 0 st)):=by
 by_cases hl:v.length * 40≤140737488355328
 case neg=>exact ⟨[],Runs.known fun hk _=>absurd (known_ops (hk _ (List.mem_cons_self ..))) hl,fun h=>absurd h hl⟩
 let P:Nat→Prop:=fun i=>∀(st:List (Tr api_Op)),exprT (v.take i)=some st→∃fr:List Int,
  At K 72 (fun c' H'=>c'=(.tup [.d (.sl .int fr),.d (.bool (exprOk v))]:C U)∧H'=[]) t72_4 (s72_4 v i (Ns (Tr.frontss 0 st)) (Ns (Tr.starts 0 st)))∧∀st',exprT v=some st'→fr=Ns (Tr.frontss 0 st')
 have loop:∀i,i≤v.length→P i:=by
  refine upto ?_ fun i hi ih=>?_
  ·intro st hst
   rw [List.take_length] at hst
   refine ⟨Ns (Tr.frontss 0 st),l72_4 _ _ _ _ _ (ite_f (lt_len_f (Nat.le_refl _)) ⟨?_,rfl⟩),fun st' h'=>by rw [hst] at h'; cases h'; rfl⟩
   rw [exprOk_one hst,intN_eq,lenL_eq,Ns_length,Tr.starts_length]
  ·intro st hst
   have hlen:(Ns (Tr.starts 0 st)).length=st.length:=by rw [Ns_length,Tr.starts_length]
   have hsz:Tr.sizes st=i:=by rw [Tr.read_sizes hst]; simp; omega
   have hfl:(Ns (Tr.frontss 0 st)).length=i:=by rw [Ns_length,Tr.frontss_length,hsz]
   have hle:=Tr.length_le_sizes st
   have hrd:rd (api_Op.mk 0 0 0 (bs [])) v (i:Int)=v[i]:=rd_at hi
   have hroom:∀m,m≤v.length→(m+1) * 8≤140737488355328:=fun m hm=>by omega
   by_cases hok:opB v[i]=true∧v[i].gN≤st.length
   ·obtain ⟨ho,hN⟩:=hok
    have hp:=opB_pos ho
    obtain ⟨n,hn⟩:∃n:Nat,v[i].gN=(n:Int):=⟨v[i].gN.toNat,by omega⟩
    have hnl:n≤st.length:=by omega
    have hsucc:=(Tr.read_take_succ (ok:=opB) (ar:=(·.gN)) hi hst).trans (Tr.put_of ho hn hnl)
    have hsub:subW .i64 (intN (lenL (Ns (Tr.starts 0 st)))) (n:Int)=((st.length - n:Nat):Int):=by
     rw [intN_eq,lenL_eq,hlen,subW_id (by omega) (by omega)]; omega
    obtain ⟨fr,h1,h2⟩:=ih _ hsucc
    rw [fronts_put hnl,starts_put hnl,Ns_append,Ns_append,←Ns_take,Ns_one] at h1
    refine ⟨fr,l72_4 _ _ _ _ _ (ite_t (lt_len hi) (and_t (in_len hi) ?_)),h2⟩
    rw [hrd]
    refine ⟨_,gives82 _,or_of (fun _=>and_t (in_len hi) rfl) (ite_f ?_ (and_t (in_len hi) ?_))⟩
    ·rw [ho,hn,intN_eq,lenL_eq,hlen]
     show (false || decide ((st.length:Int)<n))=false
     rw [Bool.false_or,decide_eq_false_iff_not]; omega
    rw [hn]
    by_cases h0:0<n
    ·have hk:st.length - n<st.length:=by omega
     refine ite_t (decide_eq_true (by omega)) ?_
     rw [hsub,natI_nat,rdN_some (Ns_get (start_at hk))]
     refine and_t (in_len hi) (and_t (in_len (by omega)) (and_t (ltN_t (by rw [lenL_eq,hlen]; exact hk)) (and_t (in_len hi) (and_t (by rw [intN_eq,lenL_eq,hlen]; exact slice_ok' (by omega)) (and_t ?_ (and_t (roomB_t ?_) ?_))))))
     ·rw [andB_true]
      refine ⟨leN_t (by simp only [addN,lenL_eq,hlen]; omega),roomB_t ?_⟩
      simp only [addN,lenL_eq,List.length_singleton]; exact hroom _ (by omega)
     ·simp only [addN,lenL_eq,List.length_singleton,hfl]; exact hroom _ (by omega)
     ·rw [add_one (by omega)]; exact h1
    ·have h00:n=0:=by omega
     subst h00
     simp only [Nat.sub_zero,List.take_length,hsz] at h1
     have ht:List.take st.length (Ns (Tr.starts 0 st))=Ns (Tr.starts 0 st):=List.take_of_length_le (by rw [hlen]; exact Nat.le_refl _)
     rw [ht] at h1
     refine ite_f (decide_eq_false (by omega)) (and_t (roomB_t ?_) (and_t (roomB_t ?_) ?_))
     ·simp only [addN,lenL_eq,List.length_singleton,hlen]; exact hroom _ (by omega)
     ·simp only [addN,lenL_eq,List.length_singleton,hfl]; exact hroom _ (by omega)
     ·rw [add_one (by omega)]; exact h1
   ·obtain ⟨hf,hb,hno⟩:=op_bad hi hst hok
    rw [hf]
    refine ⟨[],l72_4 _ _ _ _ _ (ite_t (lt_len hi) (and_t (in_len hi) ?_)),fun st' h'=>by rw [hno] at h'; cases h'⟩
    rw [hrd]
    exact ⟨_,gives82 _,or_of (fun _=>and_t (in_len hi) rfl) (ite_t hb ⟨rfl,rfl⟩)⟩
 obtain ⟨fr,h1,h2⟩:=loop 0 (Nat.zero_le _) [] rfl
 exact ⟨fr,e72 _ _ h1,fun _=>h2⟩
structure WhX (x:List api_Op) (T:Tr api_Op):Prop where
 read:exprT x=some [T]
 len:x.length≤256
mutual
theorem fronts_ge {α:Type}:∀(p:Nat) (t:Tr α),∀b∈t.fronts p,p≤b
 | p,.nd a l=>by
  intro b hb
  rw [Tr.fronts,List.mem_append,List.mem_singleton] at hb
  rcases hb with hb|rfl
  ·exact frontss_ge p l b hb
  ·exact Nat.le_refl _
theorem frontss_ge {α:Type}:∀(p:Nat) (l:List (Tr α)),∀b∈Tr.frontss p l,p≤b
 | p,[]=>by intro b hb; simp [Tr.frontss] at hb
 | p,t :: l=>by
  intro b hb
  rw [Tr.frontss,List.mem_append] at hb
  rcases hb with hb|hb
  ·exact fronts_ge p t b hb
  ·have:=frontss_ge (p+t.size) l b hb; omega
end
mutual
theorem good_ok {α:Type} {ok:α→Bool} {ar:α→Int}:∀{t:Tr α},t.good ok ar→∀x∈t.post,ok x=true
 | .nd a l,h=>by
  simp only [Tr.good] at h
  intro x hx
  rw [Tr.post,List.mem_append,List.mem_singleton] at hx
  rcases hx with hx|rfl
  ·exact goods_ok h.2 x hx
  ·exact h.1.1
theorem goods_ok {α:Type} {ok:α→Bool} {ar:α→Int}:∀{l:List (Tr α)},Tr.goods ok ar l→∀x∈Tr.posts l,ok x=true
 | [],_=>by intro x hx; simp [Tr.posts] at hx
 | t :: l,h=>by
  simp only [Tr.goods] at h
  intro x hx
  rw [Tr.posts,List.mem_append] at hx
  rcases hx with hx|hx
  ·exact good_ok h.1 x hx
  ·exact goods_ok h.2 x hx
end
theorem kid_at {α:Type}:∀{l:List (Tr α)} {i:Nat},i<Tr.sizes l→∃j,∃hj:j<l.length,Tr.sizes (l.take j)≤i∧i<Tr.sizes (l.take j)+l[j].size
 | [],i,h=>by simp [Tr.sizes] at h
 | t :: l,i,h=>by
  by_cases h1:i<t.size
  ·exact ⟨0,by simp,by simp [Tr.sizes],by simpa [Tr.sizes] using h1⟩
  ·simp only [Tr.sizes] at h
   obtain ⟨j,hj,h2,h3⟩:=kid_at (l:=l) (i:=i - t.size) (by omega)
   refine ⟨j+1,by simpa using hj,?_,?_⟩
   ·simp only [List.take_succ_cons,Tr.sizes]; omega
   ·simp only [List.take_succ_cons,Tr.sizes,List.getElem_cons_succ]; omega
theorem sizes_mono {α:Type} {l:List (Tr α)} {i j:Nat} (h:i≤j):Tr.sizes (l.take i)≤Tr.sizes (l.take j):=by
 have:=sizes_take_le (l.take j) i
 rwa [List.take_take,Nat.min_eq_left h] at this
theorem in_snoc {loc:List ByteArray} {s m:ByteArray}:inB' (loc ++ [s]) m=(inB' loc m || strEq s m):=by simp [inB',List.any_append]
section
variable {x:List api_Op} {fr:List Nat}
theorem first_leaf:∀(n:Nat) {q:Nat} {t:Tr api_Op},t.size≤n→InT x fr q t→t.good opB (·.gN)→∀{a:api_Op},x[q]?=some a→a.gN=0:=by
 intro n
 induction n with
 | zero=>intro q t hn _ _; have:=Tr.size_pos t; omega
 | succ n ih=>
  intro q t hn hT hg a ha
  obtain ⟨b,l⟩:=t
  simp only [Tr.good] at hg
  cases l with
  | nil=>
   have h1:=hT.top
   simp only [Tr.sizes,Nat.add_zero] at h1
   rw [ha] at h1
   cases h1
   exact hg.1.2
  | cons c r=>
   have hk:=hT.kid (j:=0) (by simp)
   simp only [List.take_zero,Tr.sizes,Nat.add_zero,List.getElem_cons_zero] at hk
   simp only [Tr.goods] at hg
   simp only [Tr.size,Tr.sizes] at hn
   exact ih (by omega) hk hg.2.1 ha
theorem let_two {a:api_Op} (h:opB a=true) (hk:a.gKind=19):a.gN=2:=by
 have e:=(opB_ar h).1
 have e2:arN a=2:=by unfold arN; rw [if_neg (by omega),if_neg (by omega),if_pos (by omega)]
 omega
theorem let_front {q:Nat} {t:Tr api_Op} (hT:InT x fr q t) (hg:t.good opB (·.gN)) {k:Nat} {a:api_Op} {b:Nat} (h1:q≤k) (h2:k<q+t.size) (ha:x[k]?=some a) (hk:a.gKind=19) (hb:fr[k - 1]?=some b):q≤b:=by
 have hpost:t.post[k - q]?=some a:=by
  rw [←hT.ops (k - q) (by omega),show q+(k - q)=k by omega]; exact ha
 have h2':=let_two (good_ok hg a (List.mem_of_getElem? hpost)) hk
 have hne:k ≠ q:=by
  intro e
  subst e
  have:=first_leaf t.size (Nat.le_refl _) hT hg ha
  omega
 have hf:(t.fronts q)[k - 1 - q]?=some b:=by
  rw [←hT.frs (k - 1 - q) (by omega),show q+(k - 1 - q)=k - 1 by omega]; exact hb
 exact fronts_ge q t b (List.mem_of_getElem? hf)
theorem bndsB_iff:∀{l:List (Tr api_Op)} {loc:List ByteArray} {o:api_Op} {i:Nat},bndsB loc o i l=true↔∀j (hj:j<l.length),bndB (if (eqI o.gKind 19 && eqI ((i+j:Nat):Int) 1)=true then loc ++ [o.gText] else loc) l[j]=true
 | [],loc,o,i=>by simp [bndsB]
 | t :: l,loc,o,i=>by
  rw [bndsB,Bool.and_eq_true,bndsB_iff (l:=l) (i:=i+1)]
  constructor
  ·rintro ⟨h1,h2⟩ j hj
   cases j with
   | zero=>exact h1
   | succ j=>
    have:=h2 j (by simpa using hj)
    rw [show i+1+j=i+(j+1) by omega] at this
    exact this
  ·intro h
   refine ⟨h 0 (by simp),fun j hj=>?_⟩
   have:=h (j+1) (by simpa using hj)
   rw [show i+(j+1)=i+1+j by omega] at this
   exact this
def LetAt (x:List api_Op) (fr:List Nat) (k i:Nat) (s:ByteArray):Prop:=∃a b,x[k]?=some a∧a.gKind=19∧a.gText=s∧fr[k - 1]?=some b∧b≤i
theorem bnd_at:∀(n:Nat) {p:Nat} {t:Tr api_Op} {loc:List ByteArray},t.size≤n→InT x fr p t→t.good opB (·.gN)→
  (bndB loc t=true↔∀i o,p≤i→i<p+t.size→x[i]?=some o→o.gKind=4→inB' loc o.gText=true∨∃k,i<k∧k<p+t.size∧LetAt x fr k i o.gText):=by
 intro n
 induction n with
 | zero=>intro p t loc hn _ _; have:=Tr.size_pos t; omega
 | succ n ih=>
  intro p t loc hn hT hg
  obtain ⟨a,l⟩:=t
  have htop:=hT.top
  have hg':=hg
  simp only [Tr.good] at hg'
  have hsz:(Tr.nd a l).size=Tr.sizes l+1:=by simp only [Tr.size]
  rw [hsz] at hn ⊢
  rw [bndB,Bool.and_eq_true,bndsB_iff]
  have hlet:a.gKind=19→l.length=2∧∀h:1<l.length,p+Tr.sizes (l.take 1)+l[1].size=p+Tr.sizes l:=by
   intro h19
   have h2:l.length=2:=by
    have:=let_two hg'.1.1 h19
    have:=hg'.1.2
    omega
   refine ⟨h2,fun h=>?_⟩
   have:=sizes_succ h
   rw [List.take_of_length_le (by omega)] at this; omega
  have hkid:=fun (j:Nat) (hj:j<l.length) (loc:List ByteArray)=>ih (loc:=loc) (by have:=Tr.le_sizes (List.getElem_mem hj); omega) (hT.kid hj) (Tr.goods_mem hg'.2 (List.getElem_mem hj))
  constructor
  ·rintro ⟨h1,h2⟩ i o hi1 hi2 ho h4
   by_cases hi:i=p+Tr.sizes l
   ·subst hi
    rw [htop] at ho
    cases ho
    rw [Bool.or_eq_true,notB_t,eqI_f] at h1
    exact .inl (h1.resolve_left (fun h=>h h4))
   ·obtain ⟨j,hj,hj1,hj2⟩:=kid_at (l:=l) (i:=i - p) (by omega)
    have hs:=sizes_succ hj
    have hle:=sizes_take_le l (j+1)
    have h3:=h2 j hj
    rw [Nat.zero_add] at h3
    rcases (hkid j hj _).1 h3 i o (by omega) (by omega) ho h4 with h5|⟨k,k1,k2,k3⟩
    ·by_cases hc:(eqI a.gKind 19 && eqI (j:Int) 1)=true
     ·rw [if_pos hc,in_snoc,Bool.or_eq_true] at h5
      rcases h5 with h5|h5
      ·exact .inl h5
      ·rw [Bool.and_eq_true,eqI_t,eqI_t] at hc
       have hj1':j=1:=by omega
       subst hj1'
       obtain ⟨e2,e3⟩:=hlet hc.1
       have e3:=e3 hj
       have hf:=(hT.kid hj).front
       exact .inr ⟨p+Tr.sizes l,by omega,by omega,a,p+Tr.sizes (l.take 1),htop,hc.1,strEq_iff'.1 h5,by rw [←e3]; exact hf,by omega⟩
     ·rw [if_neg hc] at h5; exact .inl h5
    ·exact .inr ⟨k,k1,by omega,k3⟩
  ·intro h
   refine ⟨?_,fun j hj=>?_⟩
   ·rw [Bool.or_eq_true,notB_t,eqI_f]
    by_cases h4:a.gKind=4
    ·right
     rcases h (p+Tr.sizes l) a (by omega) (by omega) htop h4 with h5|⟨k,k1,k2,_⟩
     ·exact h5
     ·omega
    ·exact .inl h4
   ·rw [Nat.zero_add]
    refine (hkid j hj _).2 fun i o hi1 hi2 ho h4=>?_
    have hs:=sizes_succ hj
    have hle:=sizes_take_le l (j+1)
    rcases h i o (by omega) (by omega) ho h4 with h5|⟨k,k1,k2,c,b,c1,c2,c3,c4,c5⟩
    ·left
     split
     ·rw [in_snoc,h5]; rfl
     ·exact h5
    ·by_cases hk1:k<p+Tr.sizes (l.take j)+l[j].size
     ·exact .inr ⟨k,k1,hk1,c,b,c1,c2,c3,c4,c5⟩
     ·by_cases hk2:k=p+Tr.sizes l
      ·subst hk2
       rw [htop] at c1
       cases c1
       obtain ⟨e2,e3⟩:=hlet c2
       have e3:=e3 (by omega)
       have hf:=(hT.kid (j:=1) (by omega)).front
       rw [e3,c4] at hf
       cases hf
       have hj1:j=1:=by
        rcases Nat.eq_zero_or_pos j with e|e
        ·subst e
         have hs:Tr.sizes (l.take 1)=Tr.sizes (l.take 0)+l[0].size:=hs
         omega
        ·omega
       subst hj1
       left
       rw [if_pos (by rw [eqI_t.2 c2]; rfl),in_snoc,c3,strEq_self,Bool.or_true]
      ·exfalso
       obtain ⟨j',hj',hk3,hk4⟩:=kid_at (l:=l) (i:=k - p) (by omega)
       have hb:=let_front (hT.kid hj') (Tr.goods_mem hg'.2 (List.getElem_mem hj')) (k:=k) (by omega) (by omega) c1 c2 c4
       have hs':=sizes_succ hj'
       have hlt:j<j':=by
        rcases Nat.lt_or_ge j j' with h|h
        ·exact h
        ·have:=sizes_mono (l:=l) (i:=j'+1) (j:=j+1) (by omega)
         omega
       have:=sizes_mono (l:=l) (i:=j+1) (j:=j') hlt
       omega
end
theorem gives73 {x:List api_Op} {T:Tr api_Op} (hT:WhX x T):Gives 73 [.d (.sl .api_Op x)] (.d (.bool (bndB [] T))):=by
 obtain ⟨hxt,hg⟩:=Tr.read_one hT.read
 have hx:=hT.len
 obtain ⟨fr,g,hfr⟩:=gives72 x
 have hf1:Tr.frontss 0 [T]=T.fronts 0:=by simp [Tr.frontss]
 have hfr:=hfr (by omega) _ hT.read
 rw [hf1] at hfr
 subst hfr
 have hsz:T.size=x.length:=by rw [hxt,Tr.post_length]
 have hI:InT x (T.fronts 0) 0 T:=by rw [hxt]; exact InT.whole T
 have key:=bnd_at T.size (loc:=[]) (Nat.le_refl _) hI hg
 rw [Nat.zero_add,hsz] at key
 have hfl:(T.fronts 0).length=x.length:=by rw [Tr.fronts_length,hsz]
 refine e73 _ _ ⟨(Ns (T.fronts 0),exprOk x),g,?_⟩
 have outer:∀i,i≤x.length→(∀j,j<i→∀o,x[j]?=some o→o.gKind=4→∃k,j<k∧k<x.length∧LetAt x (T.fronts 0) k j o.gText)→
   At K 73 (fun c' H'=>c'=(.d (.bool (bndB [] T)):C U)∧H'=[]) t73_3 (s73_3 x (Ns (T.fronts 0)) i):=by
  refine upto ?_ fun i hi ih=>?_
  ·intro hall
   have:bndB [] T=true:=key.2 fun i o _ hi ho h4=>.inr (hall i hi o ho h4)
   rw [this]
   exact l73_3 _ _ _ _ (ite_f (lt_len_f (Nat.le_refl _)) ⟨rfl,rfl⟩)
  ·intro hall
   have hxi:x[i]?=some x[i]:=List.getElem?_eq_getElem hi
   refine l73_3 _ _ _ _ (ite_t (lt_len hi) (and_t (in_len hi) ?_))
   rw [rd_at hi,add_one (by omega)]
   refine ite_w (fun h=>?_) (fun h=>?_)
   ·have h:=eqI_f.1 (notB_t.1 h)
    refine ih fun j hj o ho h4=>?_
    by_cases e:j=i
    ·subst e; rw [hxi] at ho; cases ho; exact absurd h4 h
    ·exact hall j (by omega) o ho h4
   ·have h:=eqI_t.1 (notB_f.1 h)
    have inner:∀k,k≤x.length→i<k→∀found:Bool,
      ((found=true∨∃k',k≤k'∧k'<x.length∧LetAt x (T.fronts 0) k' i x[i].gText)↔∃k',i<k'∧k'<x.length∧LetAt x (T.fronts 0) k' i x[i].gText)→
      At K 73 (fun c' H'=>c'=(.d (.bool (bndB [] T)):C U)∧H'=[]) t73_8 (s73_8 x (Ns (T.fronts 0)) i found k):=by
     refine upto ?_ fun k hk ihk=>?_
     ·intro _ found hf
      refine l73_8 _ _ _ _ _ _ (ite_f (lt_len_f (Nat.le_refl _)) (ite_w (fun hn=>?_) (fun hn=>?_)))
      ·have hn:=notB_t.1 hn
       have:bndB [] T=false:=by
        rw [←Bool.not_eq_true]
        intro hb
        rcases key.1 hb i x[i] (Nat.zero_le _) hi hxi h with h0|h0
        ·cases h0
        ·rcases hf.2 h0 with h1|⟨k',h1,h2,_⟩
         ·rw [hn] at h1; cases h1
         ·omega
       rw [this]; exact ⟨rfl,rfl⟩
      ·have hn:=notB_f.1 hn
       rw [add_one (by omega)]
       refine ih fun j hj o ho h4=>?_
       by_cases e:j=i
       ·subst e; rw [hxi] at ho; cases ho
        exact hf.1 (.inl hn)
       ·exact hall j (by omega) o ho h4
     ·intro hik found hf
      have hxk:x[k]?=some x[k]:=List.getElem?_eq_getElem hk
      have hF:(T.fronts 0)[k - 1]?=some ((T.fronts 0)[k - 1]'(by omega)):=List.getElem?_eq_getElem (by omega)
      have hit:LetAt x (T.fronts 0) k i x[i].gText↔x[k].gKind=19∧x[k].gText=x[i].gText∧(T.fronts 0)[k - 1]'(by omega)≤i:=by
       constructor
       ·rintro ⟨a,b,h1,h2,h3,h4,h5⟩
        rw [hxk] at h1; cases h1
        rw [hF] at h4; cases h4
        exact ⟨h2,h3,h5⟩
       ·rintro ⟨h2,h3,h5⟩
        exact ⟨_,_,hxk,h2,h3,hF,h5⟩
      have go:∀found':Bool,(found'=true↔found=true∨LetAt x (T.fronts 0) k i x[i].gText)→At K 73 (fun c' H'=>c'=(.d (.bool (bndB [] T)):C U)∧H'=[]) t73_8 (s73_8 x (Ns (T.fronts 0)) i found' ((k+1:Nat):Int)):=fun found' hf'=>ihk (by omega) found' (by
       rw [hf',←hf]
       constructor
       ·rintro ((h1|h1)|⟨k',h1,h2,h3⟩)
        ·exact .inl h1
        ·exact .inr ⟨k,Nat.le_refl _,hk,h1⟩
        ·exact .inr ⟨k',by omega,h2,h3⟩
       ·rintro (h1|⟨k',h1,h2,h3⟩)
        ·exact .inl (.inl h1)
        ·by_cases e:k'=k
         ·subst e; exact .inl (.inr h3)
         ·exact .inr ⟨k',by omega,h2,h3⟩)
      have no:¬LetAt x (T.fronts 0) k i x[i].gText→At K 73 (fun c' H'=>c'=(.d (.bool (bndB [] T)):C U)∧H'=[]) t73_8 (s73_8 x (Ns (T.fronts 0)) i found ((k+1:Nat):Int)):=fun hno=>go found ⟨.inl,fun h=>h.resolve_right hno⟩
      have ek:subW .i64 (k:Int) 1=((k - 1:Nat):Int):=by rw [subW_id (by omega) (by omega)]; omega
      refine l73_8 _ _ _ _ _ _ (ite_t (lt_len hk) (and_t (in_len hk) ?_))
      rw [rd_at hk,rd_at hi,add_one (by omega),ek]
      refine ite_w (fun h1=>and_t (in_len hk) (and_t (in_len hi) (ite_w (fun h2=>and_t (inB_some (Ns_get hF)) ?_) (fun h2=>no ?_)))) (fun h1=>no ?_)
      ·rw [rd_some (Ns_get hF)]
       refine ite_w (fun h3=>go true ⟨fun _=>.inr (hit.2 ⟨eqI_t.1 h1,strEq_iff'.1 h2,?_⟩),fun _=>rfl⟩) (fun h3=>no ?_)
       ·have:=of_decide_eq_true h3; omega
       ·intro hc
        have:=of_decide_eq_false h3
        have:=(hit.1 hc).2.2
        omega
      ·intro hc
       rw [strEq_iff'.2 (hit.1 hc).2.1] at h2; cases h2
      ·exact fun hc=>eqI_f.1 h1 (hit.1 hc).1
    exact inner (i+1) (by omega) (by omega) false ⟨fun h=>by
     rcases h with h|⟨k',h1,h2,h3⟩
     ·cases h
     ·exact ⟨k',by omega,h2,h3⟩,fun ⟨k',h1,h2,h3⟩=>.inr ⟨k',by omega,h2,h3⟩⟩
 exact outer 0 (Nat.zero_le _) fun j hj=>by omega
theorem gives74 {x:List api_Op} {T:Tr api_Op} (hT:WhX x T):Gives 74 [.d (.sl .api_Op x)] (.d (.int .i64 (T.deep:Int))):=by
 have hx:=hT.len
 have h:=hT.read
 have loop:∀i,i≤x.length→∀st:List (Tr api_Op),exprT (x.take i)=some st→
   At K 74 (fun c' H'=>c'=(.d (.int .i64 ((T.deep:Nat):Int)):C U)∧H'=[]) t74_3 (s74_3 x i (Ns (st.map Tr.deep))):=by
  refine upto ?_ fun i hi ih=>?_
  ·intro st hst
   rw [List.take_length,h] at hst
   cases hst
   exact l74_3 _ _ _ _ (ite_f (lt_len_f (Nat.le_refl _)) (and_t (in_len (i:=0) (by simp [Ns])) (and_t (ltN_t (by simp [Ns,natI,lenL])) ⟨rfl,rfl⟩)))
  ·intro st hst
   have hsucc:=Tr.read_take_succ (ok:=opB) (ar:=(·.gN)) hi hst
   cases hp:Tr.put opB (·.gN) st x[i] with
   | none=>
    rw [hp] at hsucc
    have hn:exprT x=none:=Tr.read_take_none hsucc
    rw [hn] at h; cases h
   | some st'=>
    rw [hp] at hsucc
    obtain ⟨ho,m,hm,hml,hst'⟩:=Tr.put_some hp
    have hsz:Tr.sizes st=i:=by rw [Tr.read_sizes hst]; simp; omega
    have hll:=Tr.length_le_sizes st
    have hdl:∀k,Tr.deeps (st.drop k)≤i:=fun k=>by
     have h2:=Tr.deeps_drop_le st k
     have h3:=Tr.deeps_le_sizes st
     omega
    have hyl:∀k,k≤st.length→(Ns ((st.take k).map Tr.deep)).length=k:=fun k hk=>by rw [Ns_length,List.length_map,List.length_take]; omega
    have inner:∀j,j≤m→At K 74 (fun c' H'=>c'=(.d (.int .i64 ((T.deep:Nat):Int)):C U)∧H'=[]) t74_7 (s74_7 x i ((Tr.deeps (st.drop (st.length - j)):Nat):Int) j (Ns ((st.take (st.length - j)).map Tr.deep))):=by
     refine upto ?_ fun j hj ihj=>?_
     ·have hd:=hdl (st.length - m)
      refine l74_7 _ _ _ _ _ _ (and_t (in_len hi) ?_)
      rw [rd_at hi,hm]
      refine ite_f (by simp [ltI]) (and_t (roomB_t ?_) ?_)
      ·simp only [addN,lenL_eq,List.length_singleton]
       rw [hyl _ (by omega)]; omega
      ·rw [add_one (by omega),add_one (by omega)]
       have:=ih st' hsucc
       rw [hst',List.map_append,Ns_append] at this
       exact this
     ·have hk:st.length - (j+1)<st.length:=by omega
      have hkj:st.length - j - 1=st.length - (j+1):=by omega
      have hd:=hdl (st.length - j)
      have hy:=hyl (st.length - j) (by omega)
      have es:subW .i64 (intN (lenL (Ns ((st.take (st.length - j)).map Tr.deep)))) 1=((st.length - (j+1):Nat):Int):=by
       rw [intN_eq,lenL_eq,hy,subW_id (by omega) (by omega)]; omega
      have hg:(Ns ((st.take (st.length - j)).map Tr.deep))[st.length - (j+1)]?=some ((st[st.length - (j+1)].deep:Nat):Int):=
       Ns_get (by rw [List.getElem?_map,List.getElem?_take,if_pos (by omega),List.getElem?_eq_getElem hk]; rfl)
      have et:takeL (st.length - (j+1)) (Ns ((st.take (st.length - j)).map Tr.deep))=Ns ((st.take (st.length - (j+1))).map Tr.deep):=by
       show List.take _ (Ns _)=_
       rw [Ns_take,←List.map_take,List.take_take,Nat.min_eq_left (by omega)]
      have ed:max (Tr.deeps (st.drop (st.length - j))) (st[st.length - (j+1)]).deep=Tr.deeps (st.drop (st.length - (j+1))):=by
       rw [Tr.deeps_drop hk,Nat.max_comm,show st.length - (j+1)+1=st.length - j by omega]
      refine l74_7 _ _ _ _ _ _ (and_t (in_len hi) ?_)
      rw [rd_at hi,hm,es]
      refine ite_t (by simp [ltI]; omega) (and_t (inB_some hg) (and_t (ltN_t (by rw [natI_nat,lenL_eq,hy]; omega)) (and_t ?_ (and_t (leN_t (by rw [natI_nat,lenL_eq,hy]; omega)) ?_))))
      ·rw [andB_true,andB_true,andB_true]
       exact ⟨rfl,decide_eq_true (by omega),decide_eq_true (by rw [intN_eq,lenL_eq,hy]; omega),rfl⟩
      ·rw [natI_nat,rdN_some hg,maxI_nat,add_one (by omega),et,ed]
       exact ihj
    refine l74_3 _ _ _ _ (ite_t (lt_len hi) ?_)
    have i0:=inner 0 (Nat.zero_le _)
    rw [Nat.sub_zero,List.drop_length,Tr.deeps_nil,List.take_length] at i0
    exact i0
 exact e74 _ _ (loop 0 (Nat.zero_le _) [] rfl)
theorem gives47 (x:List api_Op):Gives 47 [.d (.sl .api_Op x)] (.d (.int .i64 (exprE x))):=by
 refine Runs.known fun hk _=>?_
 have hx:=known_ops (hk _ (List.mem_cons_self ..))
 refine e47 _ _ (ite_w (fun h=>?_) (fun h=>?_))
 ·have h:=of_decide_eq_true h
  simp only [intN_eq,lenL_eq] at h
  have e:exprE x=3:=if_pos (by omega)
  rw [e]; exact ⟨rfl,rfl⟩
 have h:=of_decide_eq_false h
 simp only [intN_eq,lenL_eq] at h
 have e0:exprE x=match exprT x with
  | some [t]=>if bndB [] t=true then restE x t.deep else 5
  | _=>5:=if_neg (by omega)
 obtain ⟨fr,h1,h2⟩:=gives72 x
 cases hok:exprOk x with
 | false=>
  have e:exprE x=5:=by
   rw [e0]
   split
   ·rename_i t ht
    rw [exprOk_one ht] at hok; cases hok
   ·rfl
  rw [hok] at h1
  refine ⟨(fr,false),h1,true,rfl,?_⟩
  rw [e]; exact ⟨rfl,rfl⟩
 | true=>
  obtain ⟨t,ht⟩:=exprOk_tree hok
  have hW:WhX x t:=⟨ht,by omega⟩
  have e1:exprE x=if bndB [] t=true then restE x t.deep else 5:=by rw [e0,ht]
  rw [hok] at h1
  refine ⟨(fr,true),h1,notB (bndB [] t),⟨_,gives73 hW,rfl⟩,ite_w (fun hb=>?_) (fun hb=>?_)⟩
  ·rw [e1,notB_t.1 hb]; exact ⟨rfl,rfl⟩
  have hb:=notB_f.1 hb
  rw [e1,if_pos hb]
  have loop:∀i,i≤x.length→restE x t.deep=restE (x.drop i) t.deep→At K 47 (fun c' H'=>c'=(.d (.int .i64 (restE x t.deep)):C U)∧H'=[]) t47_7 (s47_7 x i):=by
   refine upto ?_ fun i hi ih=>?_
   ·intro hr
    rw [List.drop_length] at hr
    have hr:restE x t.deep=if ltI 32 (t.deep:Int)=true then 3 else 0:=hr
    refine l47_7 _ _ _ (ite_f (lt_len_f (Nat.le_refl _)) ⟨_,gives74 hW,ite_w (fun h'=>?_) (fun h'=>?_)⟩)
    ·rw [hr,if_pos h']; exact ⟨rfl,rfl⟩
    ·rw [hr,if_neg (by rw [h']; exact Bool.false_ne_true)]; exact ⟨rfl,rfl⟩
   ·intro hr
    refine l47_7 _ _ _ (ite_t (lt_len hi) (and_t (in_len hi) ?_))
    rw [rd_at hi]
    rw [List.drop_eq_getElem_cons hi] at hr
    refine ite_w (fun h'=>?_) (fun h'=>?_)
    ·have:restE (x[i] :: x.drop (i+1)) t.deep=3:=if_pos (by rw [List.any_cons,h']; rfl)
     rw [hr,this]; exact ⟨rfl,rfl⟩
    ·rw [add_one (by omega)]
     refine ih ?_
     rw [hr]
     unfold restE
     rw [List.any_cons,h',Bool.false_or]
  exact loop 0 (Nat.zero_le _) rfl
end Go.Proofs.YtaldbipmbkapmaaDoor.V
