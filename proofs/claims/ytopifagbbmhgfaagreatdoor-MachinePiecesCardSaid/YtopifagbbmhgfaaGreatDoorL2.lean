/- LEMMAS: what functions answer, and what is true of it. Conditions: none. -/
import Derived.Test.YtopifagbbmhgfaaGreatDoorL1
import Derived.Test.YtopifagbbmhgfaaGreatDoorA38
import Derived.Test.YtopifagbbmhgfaaGreatDoorW5
import Derived.Test.YtopifagbbmhgfaaGreatDoorA41
import Derived.Test.YtopifagbbmhgfaaGreatDoorW3
import Derived.Test.YtopifagbbmhgfaaGreatDoorA34
import Derived.Test.YtopifagbbmhgfaaGreatDoorRows
import Derived.LaidMore
set_option maxRecDepth 4000
set_option linter.unusedSectionVars false
namespace Go.Proofs.YtopifagbbmhgfaaGreatDoor.V
set_option linter.unusedVariables false
set_option linter.unusedSimpArgs false
open Go Go.Abs
def inC (x:api_Instr):C U:=.agg [.d (.int .i64 x.gOp),.d (.int .i64 x.gA),.d (.str x.gText)]
def stC (s:code_state):C U:=.agg [.d (.bool s.gCome),.d (.int .i64 s.gHigh),.d (.sl .code_mark s.gL)]
def mkC (m:code_mark):C U:=.agg [.d (.int .i64 m.gOp),.d (.int .i64 m.gGoes),.d (.int .i64 m.gHigh)]
theorem kinds17 (k:Int):k=1∨k=2∨k=3∨k=4∨k=5∨k=6∨k=7∨k=8∨k=9∨k=10∨k=11∨k=12∨k=13∨k=14∨k=15∨k=16∨k=17∨(k<1∨17<k):=by omega
theorem eqI_out {k n:Int} (h:k ≠ n):eqI k n=false:=eqI_f.2 h
def doneN (k:Int):Int:=if 6≤k∧k≤10∨k=12∨k=13 then 2 else if k=11 then 1 else 0
theorem gives267 (k:Int):Gives 267 [.d (.int .i64 k)] (.d (.int .i64 (doneN k))):=by
 refine e267 _ _ ?_
 by_cases h:6≤k∧k≤13
 ·obtain rfl|rfl|rfl|rfl|rfl|rfl|rfl|rfl:k=6∨k=7∨k=8∨k=9∨k=10∨k=11∨k=12∨k=13:=by omega
  all_goals (simp only [eqI,Int.reduceBEq,iteP]; exact ⟨rfl,rfl⟩)
 ·simp only [eqI_out (show k ≠ 6 by omega),eqI_out (show k ≠ 7 by omega),eqI_out (show k ≠ 8 by omega),eqI_out (show k ≠ 9 by omega),eqI_out (show k ≠ 10 by omega),eqI_out (show k ≠ 11 by omega),eqI_out (show k ≠ 12 by omega),eqI_out (show k ≠ 13 by omega),iteP]
  have:doneN k=0:=by unfold doneN; rw [if_neg (by omega),if_neg (by omega)]
  rw [this]; exact ⟨rfl,rfl⟩
def numW (x:api_Instr) (i:Int):Bool:=
 if x.gOp=1 then leI (-9007199254740992) x.gA && leI x.gA 9007199254740992
 else if x.gOp=4∨x.gOp=5∨x.gOp=6 then leI 0 x.gA && ltI x.gA 256
 else if x.gOp=7 then leI 0 x.gA && leI x.gA 256
 else if x.gOp=8 then ltI 0 (doneN x.gA)
 else ltI i x.gA
noncomputable def wellB (x:api_Instr) (i:Int):Bool:=
 if x.gOp=1∨4≤x.gOp∧x.gOp≤11 then numW x i && strEq x.gText (bs [])
 else if x.gOp=2 then leI (intN (strLen x.gText)) 4096 && eqI x.gA 0
 else if x.gOp=3∨x.gOp=15 then nameB x.gText && eqI x.gA 0
 else if 12≤x.gOp∧x.gOp≤17 then eqI x.gA 0 && strEq x.gText (bs [])
 else false
theorem gives225 (x:api_Instr) (i:Int):Gives 225 [inC x,.d (.int .i64 i)] (.d (.bool (wellB x i))):=by
 obtain ⟨k,n,t⟩:=x
 have num:∀v5 v6:Bool,(k=1∨k=4∨k=5∨k=6∨k=7∨k=8∨k=9∨k=10∨k=11)→At K 225 (fun c' H'=>c'=(.d (.bool (v5 && strEq t (bs []))):C U)∧H'=[]) t225_28 (s225_28 v5 v6 k n t):=by
  intro v5 v6 hk
  have fin:At K 225 (fun c' H'=>c'=(.d (.bool (v5 && strEq t (bs []))):C U)∧H'=[]) t225_38 (s225_38 v5 k n t):=
   l225_38 _ _ _ _ _ (and_of (fun _=>rfl) ⟨rfl,rfl⟩)
  refine l225_28 _ _ _ _ _ _ ?_
  rcases hk with rfl|rfl|rfl|rfl|rfl|rfl|rfl|rfl|rfl
  all_goals (simp only [eqI,Int.reduceBEq,iteP]; exact fin)
 have txt:∀v5 v6:Bool,(k=2∨k=3∨k=15)→At K 225 (fun c' H'=>c'=(.d (.bool (v6 && eqI n 0)):C U)∧H'=[]) t225_28 (s225_28 v5 v6 k n t):=by
  intro v5 v6 hk
  refine l225_28 _ _ _ _ _ _ ?_
  rcases hk with rfl|rfl|rfl
  all_goals (simp only [eqI,Int.reduceBEq,iteP]; exact and_of (fun _=>rfl) ⟨rfl,rfl⟩)
 have non:∀v5 v6:Bool,(k=12∨k=13∨k=14∨k=16∨k=17)→At K 225 (fun c' H'=>c'=(.d (.bool (eqI n 0 && strEq t (bs []))):C U)∧H'=[]) t225_28 (s225_28 v5 v6 k n t):=by
  intro v5 v6 hk
  refine l225_28 _ _ _ _ _ _ ?_
  rcases hk with rfl|rfl|rfl|rfl|rfl
  all_goals (simp only [eqI,Int.reduceBEq,iteP]; exact and_of (fun _=>rfl) ⟨rfl,rfl⟩)
 refine e225 ⟨k,n,t⟩ _ _ ?_
 rcases kinds17 k with rfl|rfl|rfl|rfl|rfl|rfl|rfl|rfl|rfl|rfl|rfl|rfl|rfl|rfl|rfl|rfl|rfl|h
 ·simp only [eqI,Int.reduceBEq,iteP]; exact and_of (fun _=>rfl) (num _ _ (by decide))
 ·simp only [eqI,Int.reduceBEq,iteP]; exact txt _ _ (by decide)
 ·simp only [eqI,Int.reduceBEq,iteP]; exact ⟨_,gives153 t,txt _ _ (by decide)⟩
 ·simp only [eqI,Int.reduceBEq,iteP]; exact and_of (fun _=>rfl) (num _ _ (by decide))
 ·simp only [eqI,Int.reduceBEq,iteP]; exact and_of (fun _=>rfl) (num _ _ (by decide))
 ·simp only [eqI,Int.reduceBEq,iteP]; exact and_of (fun _=>rfl) (num _ _ (by decide))
 ·simp only [eqI,Int.reduceBEq,iteP]; exact and_of (fun _=>rfl) (num _ _ (by decide))
 ·simp only [eqI,Int.reduceBEq,iteP]; exact ⟨_,gives267 n,num _ _ (by decide)⟩
 ·simp only [eqI,Int.reduceBEq,iteP]; exact num _ _ (by decide)
 ·simp only [eqI,Int.reduceBEq,iteP]; exact num _ _ (by decide)
 ·simp only [eqI,Int.reduceBEq,iteP]; exact num _ _ (by decide)
 ·simp only [eqI,Int.reduceBEq,iteP]; exact non _ _ (by decide)
 ·simp only [eqI,Int.reduceBEq,iteP]; exact non _ _ (by decide)
 ·simp only [eqI,Int.reduceBEq,iteP]; exact non _ _ (by decide)
 ·simp only [eqI,Int.reduceBEq,iteP]; exact ⟨_,gives153 t,txt _ _ (by decide)⟩
 ·simp only [eqI,Int.reduceBEq,iteP]; exact non _ _ (by decide)
 ·simp only [eqI,Int.reduceBEq,iteP]; exact non _ _ (by decide)
 ·have hw:wellB ⟨k,n,t⟩ i=false:=by
   unfold wellB
   rw [if_neg (by show ¬(k=1∨4≤k∧k≤11); omega),if_neg (by show ¬(k=2); omega),if_neg (by show ¬(k=3∨k=15); omega),if_neg (by show ¬(12≤k∧k≤17); omega)]
  simp only [eqI_out (show k ≠ 1 by omega),eqI_out (show k ≠ 2 by omega),eqI_out (show k ≠ 3 by omega),eqI_out (show k ≠ 4 by omega),eqI_out (show k ≠ 5 by omega),eqI_out (show k ≠ 6 by omega),eqI_out (show k ≠ 7 by omega),eqI_out (show k ≠ 8 by omega),eqI_out (show k ≠ 9 by omega),eqI_out (show k ≠ 10 by omega),eqI_out (show k ≠ 11 by omega),eqI_out (show k ≠ 12 by omega),eqI_out (show k ≠ 13 by omega),eqI_out (show k ≠ 14 by omega),eqI_out (show k ≠ 15 by omega),eqI_out (show k ≠ 16 by omega),eqI_out (show k ≠ 17 by omega),iteP]
  rw [hw]; exact ⟨rfl,rfl⟩
def keepsF (l:List code_mark):Int:=(l.countP fun m=>eqI m.gOp 5:Nat)
def floorF (l:List code_mark):Int:=match l.reverse.find? (fun m=>!eqI m.gOp 5) with
 | some m=>m.gHigh
 | none=>0
theorem gives270 (s:code_state) (hl:s.gL.length<4611686018427387904):Gives 270 [stC s] (.d (.int .i64 (keepsF s.gL))):=by
 obtain ⟨cm,hi,l⟩:=s
 have hl:l.length<4611686018427387904:=hl
 refine e270 ⟨cm,hi,l⟩ _ ?_
 have loop:∀i,i≤l.length→∀n:Nat,n≤i→n+(l.drop i).countP (fun m=>eqI m.gOp 5)=l.countP (fun m=>eqI m.gOp 5)→At K 270 (fun c' H'=>c'=(.d (.int .i64 (keepsF l)):C U)∧H'=[]) t270_3 (s270_3 n l (intN (lenL l)) i):=by
  refine upto ?_ fun i hi ih=>?_
  ·intro n hn e
   refine l270_3 _ _ _ _ _ (ite_f (lt_len_f (Nat.le_refl _)) ⟨?_,rfl⟩)
   rw [List.drop_length,List.countP_nil,Nat.add_zero] at e
   unfold keepsF; rw [←e]
  ·intro n hn e
   rw [List.drop_eq_getElem_cons hi,List.countP_cons] at e
   have h1:=add_one (i:=i) (by omega)
   have h2:=add_one (i:=n) (by omega)
   refine l270_3 _ _ _ _ _ (ite_t (lt_len hi) (and_t (in_len hi) ?_))
   rw [rd_at hi,h1,h2]
   refine ite_w (fun hb=>ih (n+1) (by omega) ?_) (fun hb=>ih n (by omega) ?_)
   ·rw [hb] at e; simp at e; omega
   ·rw [hb] at e; simpa using e
 exact loop 0 (Nat.zero_le _) 0 (Nat.zero_le _) (by simp)
theorem floor_some {l:List code_mark} {i:Nat} (hi:i<l.length) (h1:eqI (l[i]).gOp 5=false) (h2:∀j,i<j→(hj:j<l.length)→eqI (l[j]).gOp 5=true):floorF l=(l[i]).gHigh:=by
 have n1:(l.drop (i+1)).reverse.find? (fun m=>!eqI m.gOp 5)=none:=by
  rw [List.find?_eq_none]
  intro m hm
  rw [List.mem_reverse,List.mem_iff_getElem] at hm
  obtain ⟨j,hj,rfl⟩:=hm
  rw [List.length_drop] at hj
  rw [List.getElem_drop,h2 _ (by omega)]
  simp
 have e:l.reverse=(l.drop (i+1)).reverse ++ (l[i] :: (l.take i).reverse):=by
  conv=>lhs; rw [←List.take_append_drop i l,List.drop_eq_getElem_cons hi]
  simp
 have:l.reverse.find? (fun m=>!eqI m.gOp 5)=some l[i]:=by
  rw [e,List.find?_append,n1]
  simp [h1]
 unfold floorF
 rw [this]
theorem floor_none {l:List code_mark} (h:∀j,(hj:j<l.length)→eqI (l[j]).gOp 5=true):floorF l=0:=by
 unfold floorF
 rw [List.find?_eq_none.2]
 intro m hm
 rw [List.mem_reverse,List.mem_iff_getElem] at hm
 obtain ⟨j,hj,rfl⟩:=hm
 rw [h]; simp
theorem gives297 (s:code_state):Gives 297 [stC s] (.d (.int .i64 (floorF s.gL))):=by
 obtain ⟨cm,hi,l⟩:=s
 refine e297 ⟨cm,hi,l⟩ _ ⟨lenO ([]:List (O U)),_,e313 _ _ _ ⟨rfl,rfl⟩,l,rfl,fun i=>match l[i]? with|some m=>!eqI m.gOp 5|none=>false,?_,?_⟩
 ·intro i hi hn
  have hi:i<l.length:=hi
  show iteP (notB (eqI (rd (code_mark.mk 0 0 0) l (i:Int)).1 5)) _ _
  rw [rd_at hi]
  have hb:(match l[i]? with|some m=>!eqI m.gOp 5|none=>false)=!eqI (l[i]).gOp 5:=by rw [List.getElem?_eq_getElem hi]
  refine ite_w (fun h=>⟨?_,?_,rfl⟩) (fun h=>⟨?_,rfl,rfl,trivial⟩)
  ·show (match l[i]? with|some m=>!eqI m.gOp 5|none=>false)=true
   rw [hb]; simpa using notB_t.1 h
  ·show (C.d (D.int IntKind.i64 (rd (code_mark.mk 0 0 0) l (i:Int)).3):C U)=_
   rw [rd_at hi,floor_some hi (notB_t.1 h)]
   intro j hij hj
   have:=hn j hij hj
   have:(match l[j]? with|some m=>!eqI m.gOp 5|none=>false)=false:=this
   rw [List.getElem?_eq_getElem hj] at this
   simpa using this
  ·show (match l[i]? with|some m=>!eqI m.gOp 5|none=>false)=false
   rw [hb]; simpa using notB_f.1 h
 ·intro hn
  refine ⟨?_,rfl⟩
  rw [floor_none fun j hj=>?_]
  have:=hn j hj
  have:(match l[j]? with|some m=>!eqI m.gOp 5|none=>false)=false:=this
  rw [List.getElem?_eq_getElem hj] at this
  simpa using this
def takesF (s:code_state) (n p:Int):code_state×Bool:=if ltI (subW .i64 s.gHigh n) (floorF s.gL)=true then (s,false) else (⟨s.gCome,addW .i64 s.gHigh (subW .i64 p n),s.gL⟩,true)
def withF (s:code_state) (m:code_mark):code_state:=⟨s.gCome,s.gHigh,s.gL ++ [m]⟩
def withoutF (s:code_state) (op:Int):code_state×code_mark×Bool:=match s.gL.getLast? with
 | some m=>if m.gOp=op then (⟨s.gCome,s.gHigh,s.gL.dropLast⟩,m,true) else (s,⟨0,0,0⟩,false)
 | none=>(s,⟨0,0,0⟩,false)
theorem gives269 (s:code_state) (n p:Int):Gives 269 [stC s,.d (.int .i64 n),.d (.int .i64 p)] (.tup [stC (takesF s n p).1,.d (.bool (takesF s n p).2)]):=by
 refine e269 s n p _ ⟨_,gives297 s,?_⟩
 unfold takesF
 refine ite_w (fun h=>?_) (fun h=>?_)
 ·rw [if_pos h]; exact ⟨rfl,rfl⟩
 ·rw [if_neg (by rw [h]; decide)]; exact ⟨rfl,rfl⟩
theorem gives298 (l:List code_mark) (hl:l.length * 24≤140737488355328):Gives 298 [.d (.sl .code_mark l)] (.osl .code_mark l):=by
 refine e298 _ _ ⟨and_t (roomB_t (by simpa [addN,lenL,nilL] using hl)) ⟨rfl,rfl⟩,ite_w (fun h=>?_) (fun _=>trivial)⟩
 cases l with
 | nil=>exact ⟨rfl,rfl⟩
 | cons _ _=>cases h
theorem gives271 (s:code_state) (m:code_mark) (hl:(s.gL.length+1) * 24≤140737488355328):Gives 271 [stC s,mkC m] (stC (withF s m)):=by
 refine e271 s m _ ⟨s.gL,gives298 _ (by omega),and_t (roomB_t ?_) ⟨rfl,rfl⟩⟩
 show (s.gL.length+1) * 24≤_
 exact hl
theorem gives272 (s:code_state) (op:Int) (hl:s.gL.length<4611686018427387904):Gives 272 [stC s,.d (.int .i64 op)] (.tup [stC (withoutF s op).1,mkC (withoutF s op).2.1,.d (.bool (withoutF s op).2.2)]):=by
 obtain ⟨cm,hi,l⟩:=s
 have hl:l.length<4611686018427387904:=hl
 refine e272 ⟨cm,hi,l⟩ op _ ?_
 rcases List.eq_nil_or_concat l with rfl|⟨l',m,rfl⟩
 ·exact ⟨true,ite_t rfl rfl,ite_t rfl ⟨rfl,rfl⟩⟩
 ·simp only [List.concat_eq_append] at hl ⊢
  have hs:subW .i64 (intN (lenL (l' ++ [m]))) 1=(l'.length:Int):=by
   rw [intN_eq,lenL_eq,subW_id (by simp at hl ⊢) (by simp at hl ⊢; omega)]; simp
  have hr:rd (code_mark.mk 0 0 0) (l' ++ [m]) (l'.length:Int)=m:=by rw [rd_at (by simp)]; simp
  have hin:inB (l'.length:Int) (lenL (l' ++ [m]))=true:=in_len (by simp)
  have hw:withoutF ⟨cm,hi,l' ++ [m]⟩ op=if m.gOp=op then (⟨cm,hi,l'⟩,m,true) else (⟨cm,hi,l' ++ [m]⟩,⟨0,0,0⟩,false):=by
   unfold withoutF; simp
  show ∃v,iteP (ltI (subW .i64 (intN (lenL (l' ++ [m]))) 1) 0) _ _∧_
  simp only [hs,hr,hw]
  refine ⟨notB (eqI m.gOp op),ite_f (by simp [ltI]) (and_t hin rfl),ite_w (fun h=>?_) (fun h=>and_t hin (and_t ?_ ?_))⟩
  ·rw [if_neg (eqI_f.1 (notB_t.1 h))]; exact ⟨rfl,rfl⟩
  ·simp [andB,eqI,leI,lenL_eq,intN_eq]; omega
  ·rw [if_pos (eqI_t.1 (notB_f.1 h))]
   refine ⟨?_,rfl⟩
   have:dropL (natI 0) (takeL (natI (l'.length:Int)) (l' ++ [m]))=l':=by simp [dropL,takeL,natI]
   exact congrArg (fun x:List code_mark=>(C.tup [C.agg [C.d (D.bool cm),C.d (D.int .i64 hi),C.d (D.sl .code_mark x)],mkC m,C.d (D.bool true)]:C U)) this
def behF (x:api_Instr) (s:code_state):code_state×Bool:=
 if x.gOp=1∨x.gOp=2∨x.gOp=3 then takesF s 0 1
 else if x.gOp=4 then (if leI (keepsF s.gL) x.gA=true then (s,false) else takesF s 0 1)
 else if x.gOp=5 then (withF (takesF s 1 0).1 ⟨5,0,0⟩,(takesF s 1 0).2 && eqI x.gA (keepsF s.gL))
 else if x.gOp=6 then ((withoutF s 5).1,(withoutF s 5).2.2 && eqI x.gA (subW .i64 (keepsF s.gL) 1))
 else if x.gOp=7 then takesF s x.gA 1
 else if x.gOp=8 then takesF s (doneN x.gA) 1
 else if x.gOp=9∨x.gOp=13∨x.gOp=14 then takesF s 1 0
 else if x.gOp=11 then (withF s ⟨11,x.gA,s.gHigh⟩,true)
 else if x.gOp=15 then (withF s ⟨15,0,s.gHigh⟩,true)
 else if x.gOp=12 then ((withoutF s 11).1,(withoutF s 11).2.2 && eqI s.gHigh (addW .i64 (withoutF s 11).2.1.gHigh 1))
 else if x.gOp=17 then ((withoutF s 15).1,(withoutF s 15).2.2 && eqI s.gHigh (addW .i64 (withoutF s 15).2.1.gHigh 1))
 else if x.gOp=16 then (s,eqI s.gHigh 1 && eqI (intN (lenL s.gL)) 0)
 else (s,true)
theorem takes_l (s:code_state) (n p:Int):(takesF s n p).1.gL=s.gL:=by unfold takesF; split <;> rfl
theorem gives228 (x:api_Instr) (s:code_state) (hl:(s.gL.length+1) * 24≤140737488355328):Gives 228 [inC x,stC s] (.tup [stC (behF x s).1,.d (.bool (behF x s).2)]):=by
 obtain ⟨k,n,t⟩:=x
 have hk:=gives270 s (by omega)
 refine e228 ⟨k,n,t⟩ s _ ?_
 rcases kinds17 k with rfl|rfl|rfl|rfl|rfl|rfl|rfl|rfl|rfl|rfl|rfl|rfl|rfl|rfl|rfl|rfl|rfl|h
 ·simp only [eqI,Int.reduceBEq,iteP]; exact ⟨takesF s 0 1,gives269 s 0 1,rfl,rfl⟩
 ·simp only [eqI,Int.reduceBEq,iteP]; exact ⟨takesF s 0 1,gives269 s 0 1,rfl,rfl⟩
 ·simp only [eqI,Int.reduceBEq,iteP]; exact ⟨takesF s 0 1,gives269 s 0 1,rfl,rfl⟩
 ·simp only [eqI,Int.reduceBEq,iteP]
  refine ⟨_,hk,?_⟩
  have e:behF ⟨4,n,t⟩ s=if leI (keepsF s.gL) n=true then (s,false) else takesF s 0 1:=rfl
  rw [e]
  refine ite_w (fun h=>?_) (fun h=>?_)
  ·rw [if_pos h]; exact ⟨rfl,rfl⟩
  ·rw [if_neg (by rw [h]; decide)]; exact ⟨takesF s 0 1,gives269 s 0 1,rfl,rfl⟩
 ·simp only [eqI,Int.reduceBEq,iteP]
  refine ⟨_,hk,takesF s 1 0,gives269 s 1 0,withF (takesF s 1 0).1 ⟨5,0,0⟩,gives271 (takesF s 1 0).1 ⟨5,0,0⟩ (by rw [takes_l]; exact hl),ite_w (fun h=>⟨?_,rfl⟩) (fun h=>⟨?_,rfl⟩)⟩
  ·have e:behF ⟨5,n,t⟩ s=(withF (takesF s 1 0).1 ⟨5,0,0⟩,(takesF s 1 0).2 && eqI n (keepsF s.gL)):=rfl
   rw [e,h]; rfl
  ·have e:behF ⟨5,n,t⟩ s=(withF (takesF s 1 0).1 ⟨5,0,0⟩,(takesF s 1 0).2 && eqI n (keepsF s.gL)):=rfl
   rw [e,h]; rfl
 ·simp only [eqI,Int.reduceBEq,iteP]
  have e:behF ⟨6,n,t⟩ s=((withoutF s 5).1,(withoutF s 5).2.2 && eqI n (subW .i64 (keepsF s.gL) 1)):=rfl
  refine ⟨withoutF s 5,gives272 s 5 (by omega),ite_w (fun h=>⟨_,hk,?_,rfl⟩) (fun h=>⟨?_,rfl⟩)⟩
  ·rw [e,h]; rfl
  ·rw [e,h]; rfl
 ·simp only [eqI,Int.reduceBEq,iteP]; exact ⟨takesF s n 1,gives269 s n 1,rfl,rfl⟩
 ·simp only [eqI,Int.reduceBEq,iteP]; exact ⟨_,gives267 n,takesF s (doneN n) 1,gives269 s _ 1,rfl,rfl⟩
 ·simp only [eqI,Int.reduceBEq,iteP]; exact ⟨takesF s 1 0,gives269 s 1 0,rfl,rfl⟩
 ·simp only [eqI,Int.reduceBEq,iteP]; exact ⟨rfl,rfl⟩
 ·simp only [eqI,Int.reduceBEq,iteP]; exact ⟨withF s ⟨11,n,s.gHigh⟩,gives271 s ⟨11,n,s.gHigh⟩ hl,rfl,rfl⟩
 ·simp only [eqI,Int.reduceBEq,iteP]
  have e:behF ⟨12,n,t⟩ s=((withoutF s 11).1,(withoutF s 11).2.2 && eqI s.gHigh (addW .i64 (withoutF s 11).2.1.gHigh 1)):=rfl
  refine ⟨withoutF s 11,gives272 s 11 (by omega),ite_w (fun h=>⟨?_,rfl⟩) (fun h=>⟨?_,rfl⟩)⟩
  ·rw [e,h]; rfl
  ·rw [e,h]; rfl
 ·simp only [eqI,Int.reduceBEq,iteP]; exact ⟨takesF s 1 0,gives269 s 1 0,rfl,rfl⟩
 ·simp only [eqI,Int.reduceBEq,iteP]; exact ⟨takesF s 1 0,gives269 s 1 0,rfl,rfl⟩
 ·simp only [eqI,Int.reduceBEq,iteP]; exact ⟨withF s ⟨15,0,s.gHigh⟩,gives271 s ⟨15,0,s.gHigh⟩ hl,rfl,rfl⟩
 ·simp only [eqI,Int.reduceBEq,iteP]
  have e:behF ⟨16,n,t⟩ s=(s,eqI s.gHigh 1 && eqI (intN (lenL s.gL)) 0):=rfl
  refine ite_w (fun h=>⟨?_,rfl⟩) (fun h=>⟨?_,rfl⟩)
  ·rw [e]; have h:eqI s.gHigh 1=true:=h; rw [h]; rfl
  ·rw [e]; have h:eqI s.gHigh 1=false:=h; rw [h]; rfl
 ·simp only [eqI,Int.reduceBEq,iteP]
  have e:behF ⟨17,n,t⟩ s=((withoutF s 15).1,(withoutF s 15).2.2 && eqI s.gHigh (addW .i64 (withoutF s 15).2.1.gHigh 1)):=rfl
  refine ⟨withoutF s 15,gives272 s 15 (by omega),ite_w (fun h=>⟨?_,rfl⟩) (fun h=>⟨?_,rfl⟩)⟩
  ·rw [e,h]; rfl
  ·rw [e,h]; rfl
 ·have e:behF ⟨k,n,t⟩ s=(s,true):=by
   unfold behF
   have:∀j:Int,1≤j→j≤17→k ≠ j:=fun j h1 h2=>by omega
   simp [this]
  simp only [eqI_out (show k ≠ 1 by omega),eqI_out (show k ≠ 2 by omega),eqI_out (show k ≠ 3 by omega),eqI_out (show k ≠ 4 by omega),eqI_out (show k ≠ 5 by omega),eqI_out (show k ≠ 6 by omega),eqI_out (show k ≠ 7 by omega),eqI_out (show k ≠ 8 by omega),eqI_out (show k ≠ 9 by omega),eqI_out (show k ≠ 10 by omega),eqI_out (show k ≠ 11 by omega),eqI_out (show k ≠ 12 by omega),eqI_out (show k ≠ 13 by omega),eqI_out (show k ≠ 14 by omega),eqI_out (show k ≠ 15 by omega),eqI_out (show k ≠ 16 by omega),eqI_out (show k ≠ 17 by omega),iteP]
  rw [e]; exact ⟨rfl,rfl⟩
def mkEq (a b:code_mark):Bool:=andB (eqI a.1 b.1) (andB (eqI a.2 b.2) (andB (eqI a.3 b.3) true))
theorem mkEq_iff {a b:code_mark}:mkEq a b=true↔a=b:=by
 obtain ⟨a1,a2,a3⟩:=a; obtain ⟨b1,b2,b3⟩:=b
 simp [mkEq,andB,eqI]
def eqL:List code_mark→List code_mark→Bool
 | [],[]=>true
 | a :: l,b :: r=>mkEq a b && eqL l r
 | _,_=>false
theorem eqL_iff:∀{a b:List code_mark},eqL a b=true↔a=b
 | [],[]=>by simp [eqL]
 | [],_ :: _=>by simp [eqL]
 | _ :: _,[]=>by simp [eqL]
 | a :: l,b :: r=>by simp only [eqL,Bool.and_eq_true,mkEq_iff,eqL_iff,List.cons.injEq]
def sameF (a b:code_state):Bool:=eqI a.gHigh b.gHigh && eqL a.gL b.gL
theorem gives268 (a b:List code_mark) (hl:a.length<4611686018427387904):Gives 268 [.d (.sl .code_mark a),.d (.sl .code_mark b)] (.d (.bool (open Classical in decide (a=b)))):=by
 classical
 refine e268 _ _ _ (ite_w (fun h=>?_) (fun h=>?_))
 ·have:a ≠ b:=fun e=>by subst e; simp [notB,eqI] at h
  simp only [decide_eq_false this]; exact ⟨rfl,rfl⟩
 ·have hlen:a.length=b.length:=by
   have:(a.length:Int)=(b.length:Int):=by simpa [notB,eqI,intN_eq,lenL_eq] using h
   omega
  have loop:∀i,i≤a.length→At K 268 (fun c' H'=>c'=(.d (.bool (decide (a.drop i=b.drop i))):C U)∧H'=[]) t268_4 (s268_4 a b (intN (lenL a)) i):=by
   refine upto ?_ fun i hi ih=>?_
   ·refine l268_4 _ _ _ _ _ (ite_f (lt_len_f (Nat.le_refl _)) ?_)
    have:a.drop a.length=b.drop a.length:=by rw [List.drop_length,hlen,List.drop_length]
    simp only [decide_eq_true this]; exact ⟨rfl,rfl⟩
   ·have hi':i<b.length:=by omega
    refine l268_4 _ _ _ _ _ (ite_t (lt_len hi) (and_t (in_len hi) (and_t (in_len hi') ?_)))
    have ed:(a.drop i=b.drop i)=(a[i] :: a.drop (i+1)=b[i] :: b.drop (i+1)):=by rw [←List.drop_eq_getElem_cons hi,←List.drop_eq_getElem_cons hi']
    rw [rd_at hi,rd_at hi',add_one (by omega)]
    simp only [ed]
    refine ite_w (fun h=>?_) (fun h=>?_)
    ·have h:mkEq a[i] b[i]=false:=notB_t.1 h
     have:¬(a[i] :: a.drop (i+1)=b[i] :: b.drop (i+1)):=fun e=>by
      injection e with e1 _
      rw [mkEq_iff.2 e1] at h; cases h
     simp only [decide_eq_false this]; exact ⟨rfl,rfl⟩
    ·have h:mkEq a[i] b[i]=true:=notB_f.1 h
     simp only [mkEq_iff.1 h,List.cons.injEq,true_and]
     exact ih
  have:=loop 0 (Nat.zero_le _)
  simpa using this
theorem gives227 (a b:code_state) (hl:a.gL.length<4611686018427387904):Gives 227 [stC a,stC b] (.d (.bool (sameF a b))):=by
 classical
 refine e227 a b _ ?_
 have e:eqL a.gL b.gL=decide (a.gL=b.gL):=by rw [Bool.eq_iff_iff,eqL_iff,decide_eq_true_iff]
 exact and_of (fun _=>⟨_,gives268 a.gL b.gL hl,e.symm⟩) ⟨rfl,rfl⟩
noncomputable def comeF (N:Nat) (T:List code_state) (p:Int) (s:code_state):Bool×List code_state:=
 if (N:Int)≤p then (false,T)
 else if (rdN (code_state.mk false 0 []) T p.toNat).gCome=true then (sameF (rdN (code_state.mk false 0 []) T p.toNat) s,T)
 else (true,setL T p.toNat ⟨true,s.gHigh,s.gL⟩)
def sndH (c:List api_Instr) (T:List code_state):List (O U):=[.cells [.d (.sl .api_Instr c)],.arr 0 (.pure .code_state) T,.cells [.asl (.g 1) 0 none false]]
theorem gives226 (c:List api_Instr) (T:List code_state) (p:Int) (s:code_state) (h0:0≤p) (hT:T.length=c.length+1) (hl:∀x∈T,x.gL.length<4611686018427387904):
  GivesM 226 [.d (.int .i64 p),stC s,.ptr (.g 0) 0,.ptr (.g 2) 0] (sndH c T) (.d (.bool (comeF c.length T p s).1)) (sndH c (comeF c.length T p s).2):=by
 have hat:obj (sndH c T) 2=some (O.cells [C.asl (Rf.g 1) 0 none false]):=rfl
 have har:obj (sndH c T) 1=some (O.arr 0 (Vc.pure Ty.code_state) T):=rfl
 refine e226 p s 0 2 _ _ ⟨c,rfl,ite_w (fun h=>?_) (fun h=>?_)⟩
 ·have:(c.length:Int)≤p:=of_decide_eq_true (show decide ((c.length:Int)≤p)=true from h)
  unfold comeF; rw [if_pos this]; exact ⟨rfl,rfl⟩
 ·have hp:¬((c.length:Int)≤p):=of_decide_eq_false (show decide ((c.length:Int)≤p)=false from h)
  have hin:inB p (subLen none (lenL T))=true:=by
   have:p=(p.toNat:Int):=by omega
   rw [this]; exact in_len (by omega)
  have hlt:ltN (addN (subOff none) (natI p)) (lenL T)=true:=by
   have:subOff none=0:=rfl
   simp only [this,ltN,addN,natI,lenL_eq,decide_eq_true_eq]; omega
  have ee:addN (subOff none) (natI p)=p.toNat:=by simp [addN,subOff,natI]
  refine ⟨⟨1,0,none⟩,hat,T,har,and_t hin (and_t rfl ⟨T,har,and_t hlt ?_⟩)⟩
  simp only [ee]
  unfold comeF
  rw [if_neg hp]
  refine ite_w (fun hb=>?_) (fun hb=>?_)
  ·rw [if_pos hb]
   refine ⟨⟨1,0,none⟩,hat,T,har,and_t hin (and_t rfl ⟨T,har,and_t hlt ⟨_,?_,rfl,rfl⟩⟩)⟩
   simp only [ee]
   refine gives227 _ _ ?_
   have hp':p.toNat<T.length:=by omega
   have:rdN (code_state.mk false 0 []) T p.toNat=T[p.toNat]:=by simp [rdN,hp']
   rw [this]; exact hl _ (List.getElem_mem _)
  ·rw [if_neg (by rw [hb]; decide)]
   refine ⟨⟨1,0,none⟩,hat,T,har,and_t hin (and_t rfl ⟨T,har,and_t hlt ⟨rfl,?_⟩⟩)⟩
   simp only [ee]; rfl
theorem floor_cases (l:List code_mark):floorF l=0∨∃m∈l,floorF l=m.gHigh:=by
 unfold floorF
 cases h:l.reverse.find? (fun m=>!eqI m.gOp 5) with
 | none=>exact .inl rfl
 | some m=>exact .inr ⟨m,by simpa using List.mem_of_find?_eq_some h,rfl⟩
structure StOk (i:Nat) (s:code_state):Prop where
 len:s.gL.length≤i
 lo:0≤s.gHigh
 hi:s.gHigh≤i
 marks:∀m∈s.gL,0≤m.gHigh∧m.gHigh≤i
theorem StOk.up {i j:Nat} {s:code_state} (h:StOk i s) (hij:i≤j):StOk j s:=⟨by have:=h.len; omega,h.lo,by have:=h.hi; omega,fun m hm=>by have:=h.marks m hm; omega⟩
theorem StOk.floor {i:Nat} {s:code_state} (h:StOk i s):0≤floorF s.gL∧floorF s.gL≤i:=by
 rcases floor_cases s.gL with e|⟨m,hm,e⟩
 ·omega
 ·have:=h.marks m hm; omega
theorem takes_ok {i:Nat} {s s':code_state} {n p:Int} (h:StOk i s) (hi:i≤2000) (hn:0≤n∧n≤256) (hp:0≤p∧p≤1) (e:takesF s n p=(s',true)):
  s'.gL=s.gL∧s'.gHigh=s.gHigh - n+p∧floorF s.gL≤s.gHigh - n∧s'.gCome=s.gCome:=by
 have h1:=h.lo; have h2:=h.hi
 unfold takesF at e
 rw [subW_id (by omega) (by omega),subW_id (by omega) (by omega),addW_id (by omega) (by omega)] at e
 split at e
 ·cases e
 ·rename_i hf
  simp only [Prod.mk.injEq,and_true] at e
  subst e
  have:¬(s.gHigh - n<floorF s.gL):=fun hc=>hf (decide_eq_true hc)
  exact ⟨rfl,by show s.gHigh+(p - n)=_; omega,by omega,rfl⟩
theorem without_ok {s s':code_state} {op:Int} {m:code_mark} {b:Bool} (e:withoutF s op=(s',m,b)) (hb:b=true):s.gL=s'.gL ++ [m]∧m.gOp=op∧s'.gHigh=s.gHigh:=by
 subst hb
 unfold withoutF at e
 split at e
 ·rename_i m' hm
  split at e
  ·rename_i ho
   simp only [Prod.mk.injEq,and_true] at e
   obtain ⟨rfl,rfl⟩:=e
   obtain ⟨hne,hl⟩:=List.getLast?_eq_some_iff.1 hm
   rename_i ys
   refine ⟨?_,ho,rfl⟩
   show s.gL=s.gL.dropLast ++ [m']
   rw [hl]; simp
  ·simp at e
 ·simp at e
theorem beh_a {x:api_Instr} {s:code_state} (c:x.gOp=1∨x.gOp=2∨x.gOp=3):behF x s=takesF s 0 1:=if_pos c
theorem beh_4 {x:api_Instr} {s:code_state} (c:x.gOp=4):behF x s=(if leI (keepsF s.gL) x.gA=true then (s,false) else takesF s 0 1):=(if_neg (by omega)).trans (if_pos c)
theorem beh_5 {x:api_Instr} {s:code_state} (c:x.gOp=5):behF x s=(withF (takesF s 1 0).1 ⟨5,0,0⟩,(takesF s 1 0).2 && eqI x.gA (keepsF s.gL)):=(if_neg (by omega)).trans ((if_neg (by omega)).trans (if_pos c))
theorem beh_6 {x:api_Instr} {s:code_state} (c:x.gOp=6):behF x s=((withoutF s 5).1,(withoutF s 5).2.2 && eqI x.gA (subW .i64 (keepsF s.gL) 1)):=(if_neg (by omega)).trans ((if_neg (by omega)).trans ((if_neg (by omega)).trans (if_pos c)))
theorem beh_7 {x:api_Instr} {s:code_state} (c:x.gOp=7):behF x s=takesF s x.gA 1:=(if_neg (by omega)).trans ((if_neg (by omega)).trans ((if_neg (by omega)).trans ((if_neg (by omega)).trans (if_pos c))))
theorem beh_8 {x:api_Instr} {s:code_state} (c:x.gOp=8):behF x s=takesF s (doneN x.gA) 1:=(if_neg (by omega)).trans ((if_neg (by omega)).trans ((if_neg (by omega)).trans ((if_neg (by omega)).trans ((if_neg (by omega)).trans (if_pos c)))))
theorem beh_9 {x:api_Instr} {s:code_state} (c:x.gOp=9∨x.gOp=13∨x.gOp=14):behF x s=takesF s 1 0:=(if_neg (by omega)).trans ((if_neg (by omega)).trans ((if_neg (by omega)).trans ((if_neg (by omega)).trans ((if_neg (by omega)).trans ((if_neg (by omega)).trans (if_pos c))))))
theorem beh_11 {x:api_Instr} {s:code_state} (c:x.gOp=11):behF x s=(withF s ⟨11,x.gA,s.gHigh⟩,true):=(if_neg (by omega)).trans ((if_neg (by omega)).trans ((if_neg (by omega)).trans ((if_neg (by omega)).trans ((if_neg (by omega)).trans ((if_neg (by omega)).trans ((if_neg (by omega)).trans (if_pos c)))))))
theorem beh_15 {x:api_Instr} {s:code_state} (c:x.gOp=15):behF x s=(withF s ⟨15,0,s.gHigh⟩,true):=(if_neg (by omega)).trans ((if_neg (by omega)).trans ((if_neg (by omega)).trans ((if_neg (by omega)).trans ((if_neg (by omega)).trans ((if_neg (by omega)).trans ((if_neg (by omega)).trans ((if_neg (by omega)).trans (if_pos c))))))))
theorem beh_12 {x:api_Instr} {s:code_state} (c:x.gOp=12):behF x s=((withoutF s 11).1,(withoutF s 11).2.2 && eqI s.gHigh (addW .i64 (withoutF s 11).2.1.gHigh 1)):=(if_neg (by omega)).trans ((if_neg (by omega)).trans ((if_neg (by omega)).trans ((if_neg (by omega)).trans ((if_neg (by omega)).trans ((if_neg (by omega)).trans ((if_neg (by omega)).trans ((if_neg (by omega)).trans ((if_neg (by omega)).trans (if_pos c)))))))))
theorem beh_17 {x:api_Instr} {s:code_state} (c:x.gOp=17):behF x s=((withoutF s 15).1,(withoutF s 15).2.2 && eqI s.gHigh (addW .i64 (withoutF s 15).2.1.gHigh 1)):=(if_neg (by omega)).trans ((if_neg (by omega)).trans ((if_neg (by omega)).trans ((if_neg (by omega)).trans ((if_neg (by omega)).trans ((if_neg (by omega)).trans ((if_neg (by omega)).trans ((if_neg (by omega)).trans ((if_neg (by omega)).trans ((if_neg (by omega)).trans (if_pos c))))))))))
theorem beh_16 {x:api_Instr} {s:code_state} (c:x.gOp=16):behF x s=(s,eqI s.gHigh 1 && eqI (intN (lenL s.gL)) 0):=(if_neg (by omega)).trans ((if_neg (by omega)).trans ((if_neg (by omega)).trans ((if_neg (by omega)).trans ((if_neg (by omega)).trans ((if_neg (by omega)).trans ((if_neg (by omega)).trans ((if_neg (by omega)).trans ((if_neg (by omega)).trans ((if_neg (by omega)).trans ((if_neg (by omega)).trans (if_pos c)))))))))))
theorem beh_else {x:api_Instr} {s:code_state} (c:x.gOp=10∨x.gOp<1∨17<x.gOp):behF x s=(s,true):=(if_neg (by omega)).trans ((if_neg (by omega)).trans ((if_neg (by omega)).trans ((if_neg (by omega)).trans ((if_neg (by omega)).trans ((if_neg (by omega)).trans ((if_neg (by omega)).trans ((if_neg (by omega)).trans ((if_neg (by omega)).trans ((if_neg (by omega)).trans ((if_neg (by omega)).trans (if_neg (by omega))))))))))))
theorem beh_ok {i:Nat} {x:api_Instr} {s:code_state} (h:StOk i s) (hi:i≤1024) (h7:x.gOp=7→0≤x.gA∧x.gA≤256) (hb:(behF x s).2=true):StOk (i+1) (behF x s).1:=by
 have tk:∀n p:Int,0≤n∧n≤256→0≤p∧p≤1→(takesF s n p).2=true→StOk (i+1) (takesF s n p).1:=by
  intro n p hn hp ht
  obtain ⟨h1,h2,h3,_⟩:=takes_ok (s':=(takesF s n p).1) h (by omega) hn hp (by rw [←ht])
  have hf:=h.floor
  refine ⟨by rw [h1]; have:=h.len; omega,by omega,by have:=h.hi; omega,fun m hm=>?_⟩
  rw [h1] at hm
  have:=h.marks m hm
  omega
 have wo:∀op:Int,(withoutF s op).2.2=true→StOk (i+1) (withoutF s op).1:=by
  intro op ht
  obtain ⟨h1,_,h3⟩:=without_ok (s:=s) (s':=(withoutF s op).1) (op:=op) (m:=(withoutF s op).2.1) (b:=(withoutF s op).2.2) rfl ht
  have hl:=h.len
  rw [h1,List.length_append] at hl
  refine ⟨by simp at hl; omega,by rw [h3]; exact h.lo,by rw [h3]; have:=h.hi; omega,fun m hm=>?_⟩
  have:=h.marks m (by rw [h1]; simp [hm])
  omega
 have wi:∀m:code_mark,0≤m.gHigh∧m.gHigh≤i→StOk (i+1) (withF s m):=by
  intro m hm
  refine ⟨by have:=h.len; simp [withF]; omega,h.lo,by have:=h.hi; show s.gHigh≤_; omega,fun m' hm'=>?_⟩
  rcases List.mem_append.1 hm' with h'|h'
  ·have:=h.marks m' h'; omega
  ·rw [List.mem_singleton.1 h']; omega
 have up:=h.up (show i≤i+1 by omega)
 rcases kinds17 x.gOp with c|c|c|c|c|c|c|c|c|c|c|c|c|c|c|c|c|c
 ·rw [beh_a (.inl c)] at hb ⊢; exact tk _ _ (by omega) (by omega) hb
 ·rw [beh_a (.inr (.inl c))] at hb ⊢; exact tk _ _ (by omega) (by omega) hb
 ·rw [beh_a (.inr (.inr c))] at hb ⊢; exact tk _ _ (by omega) (by omega) hb
 ·rw [beh_4 c] at hb ⊢
  by_cases c2:leI (keepsF s.gL) x.gA=true
  ·rw [if_pos c2] at hb; cases hb
  ·rw [if_neg c2] at hb ⊢; exact tk _ _ (by omega) (by omega) hb
 ·rw [beh_5 c] at hb ⊢
  simp only [Bool.and_eq_true] at hb
  have k:=tk 1 0 (by omega) (by omega) hb.1
  obtain ⟨t1,t2,t3,_⟩:=takes_ok (n:=1) (p:=0) (s':=(takesF s 1 0).1) h (by omega) (by omega) (by omega) (by rw [←hb.1])
  refine ⟨?_,k.lo,k.hi,fun m hm=>?_⟩
  ·show ((takesF s 1 0).1.gL ++ [_]).length≤_
   rw [t1]; have:=h.len; simp; omega
  ·rcases List.mem_append.1 (show m∈(takesF s 1 0).1.gL ++ [⟨5,0,0⟩] from hm) with h'|h'
   ·exact k.marks m h'
   ·rw [List.mem_singleton.1 h']; show (0:Int)≤0∧(0:Int)≤_; omega
 ·rw [beh_6 c] at hb ⊢
  simp only [Bool.and_eq_true] at hb
  exact wo _ hb.1
 ·rw [beh_7 c] at hb ⊢; exact tk _ _ (h7 c) (by omega) hb
 ·rw [beh_8 c] at hb ⊢
  exact tk _ _ (by unfold doneN; split; omega; split <;> omega) (by omega) hb
 ·rw [beh_9 (.inl c)] at hb ⊢; exact tk _ _ (by omega) (by omega) hb
 ·rw [beh_else (.inl c)]; exact up
 ·rw [beh_11 c]; exact wi _ ⟨h.lo,h.hi⟩
 ·rw [beh_12 c] at hb ⊢
  simp only [Bool.and_eq_true] at hb
  exact wo _ hb.1
 ·rw [beh_9 (.inr (.inl c))] at hb ⊢; exact tk _ _ (by omega) (by omega) hb
 ·rw [beh_9 (.inr (.inr c))] at hb ⊢; exact tk _ _ (by omega) (by omega) hb
 ·rw [beh_15 c]; exact wi _ ⟨h.lo,h.hi⟩
 ·rw [beh_16 c]; exact up
 ·rw [beh_17 c] at hb ⊢
  simp only [Bool.and_eq_true] at hb
  exact wo _ hb.1
 ·rw [beh_else (by omega)]; exact up
structure TOk (N:Nat) (T:List code_state):Prop where
 len:T.length=N+1
 ok:∀j (h:j<T.length),StOk j T[j]
abbrev rdT (T:List code_state) (i:Nat):code_state:=rdN (code_state.mk false 0 []) T i
theorem rdT_at {T:List code_state} {i:Nat} (h:i<T.length):rdT T i=T[i]:=by simp [rdN,h]
theorem TOk.small {N:Nat} {T:List code_state} (h:TOk N T) (hN:N≤1024):∀x∈T,x.gL.length<4611686018427387904:=by
 intro x hx
 obtain ⟨j,hj,rfl⟩:=List.getElem_of_mem hx
 have:=(h.ok j hj).len
 have:=h.len
 omega
theorem come_ok {N:Nat} {T:List code_state} {p:Int} {s:code_state} (h:TOk N T) (hs:∀j:Nat,p=j→StOk j s) (h0:0≤p):TOk N (comeF N T p s).2:=by
 unfold comeF
 split
 ·exact h
 ·split
  ·exact h
  ·refine ⟨by simp [setL,h.len],fun j hj=>?_⟩
   have hj':j<T.length:=by simpa [setL] using hj
   simp only [setL,List.getElem_set]
   split
   ·rename_i e
    have:=hs j (by omega)
    exact ⟨this.len,this.lo,this.hi,this.marks⟩
   ·exact h.ok j hj'
noncomputable def stepT (N:Nat) (x:api_Instr) (i:Nat) (T:List code_state):Bool×List code_state:=
 if (rdT T i).gCome=false then (true,T)
 else if (behF x (rdT T i)).2=false then (false,T)
 else if x.gOp=9 then (if (comeF N T x.gA (behF x (rdT T i)).1).1=true then comeF N (comeF N T x.gA (behF x (rdT T i)).1).2 ((i+1:Nat):Int) (behF x (rdT T i)).1 else (false,T))
 else if x.gOp=10 then comeF N T x.gA (behF x (rdT T i)).1
 else if x.gOp=11 then (if (comeF N T x.gA (rdT T i)).1=true then comeF N (comeF N T x.gA (rdT T i)).2 ((i+1:Nat):Int) (behF x (rdT T i)).1 else (false,T))
 else if x.gOp=13∨x.gOp=14∨x.gOp=16 then (true,T)
 else comeF N T ((i+1:Nat):Int) (behF x (rdT T i)).1
noncomputable def goT (N:Nat):List api_Instr→Nat→List code_state→Bool
 | [],_,_=>true
 | x :: xs,i,T=>if (stepT N x i T).1=true then goT N xs (i+1) (stepT N x i T).2 else false
structure InOk (N:Nat) (x:api_Instr) (i:Nat):Prop where
 to:x.gOp=9∨x.gOp=10∨x.gOp=11→(i:Int)<x.gA∧x.gA<N
 make:x.gOp=7→0≤x.gA∧x.gA≤256
theorem step_ok {N:Nat} {x:api_Instr} {i:Nat} {T:List code_state} (h:TOk N T) (hN:N≤1024) (hi:i<N) (hx:InOk N x i):TOk N (stepT N x i T).2:=by
 have hT:=h.len
 have hs:=h.ok i (by omega)
 rw [←rdT_at (by omega)] at hs
 have nx:(behF x (rdT T i)).2=true→StOk (i+1) (behF x (rdT T i)).1:=fun hb=>beh_ok hs (by omega) hx.make hb
 unfold stepT
 split
 ·exact h
 split
 ·exact h
 rename_i hb
 have hb:=nx (by simpa using hb)
 split
 ·rename_i c
  have h1:TOk N (comeF N T x.gA (behF x (rdT T i)).1).2:=come_ok h (fun j e=>hb.up (by have:=hx.to (.inl c); omega)) (by have:=hx.to (.inl c); omega)
  split
  ·exact come_ok h1 (fun j e=>hb.up (by omega)) (by omega)
  ·exact h
 split
 ·rename_i c
  exact come_ok h (fun j e=>hb.up (by have:=hx.to (.inr (.inl c)); omega)) (by have:=hx.to (.inr (.inl c)); omega)
 split
 ·rename_i c
  have h1:TOk N (comeF N T x.gA (rdT T i)).2:=come_ok h (fun j e=>hs.up (by have:=hx.to (.inr (.inr c)); omega)) (by have:=hx.to (.inr (.inr c)); omega)
  split
  ·exact come_ok h1 (fun j e=>hb.up (by omega)) (by omega)
  ·exact h
 split
 ·exact h
 ·exact come_ok h (fun j e=>hb.up (by omega)) (by omega)
abbrev rdI (c:List api_Instr) (i:Int):api_Instr:=rd (api_Instr.mk 0 0 (bs [])) c i
def T0 (N:Nat):List code_state:=setL (replL (addW .i64 (intN N) 1) (code_state.mk false 0 (nilL code_mark))) 0 ⟨true,0,[]⟩
theorem T0_ok {N:Nat} (hN:N≤1024):TOk N (T0 N):=by
 have e:addW .i64 (intN N) 1=((N+1:Nat):Int):=add_one (by omega)
 refine ⟨by simp [T0,setL,replL,e],fun j hj=>?_⟩
 have hd:∀b:Bool,StOk j ⟨b,0,[]⟩:=fun b=>⟨Nat.zero_le _,by show (0:Int)≤0; omega,by show (0:Int)≤_; omega,fun m hm=>by cases hm⟩
 simp only [T0,setL,List.getElem_set]
 split
 ·exact hd _
 ·simp only [replL,List.getElem_replicate]; exact hd _
theorem gives164 (c:List api_Instr) (hN:c.length≤1024) (hx:∀i (h:i<c.length),InOk c.length c[i] i):Gives 164 [.d (.sl .api_Instr c)] (.d (.bool (goT c.length c 0 (T0 c.length)))):=by
 have loop:∀i,i≤c.length→∀T,TOk c.length T→At K 164 (fun c' H'=>c'=(.d (.bool (goT c.length (c.drop i) i T)):C U)∧H'=[]) t164_5 (s164_5 c (intN (lenL c)) i c T):=by
  refine upto ?_ fun i hi ih=>?_
  ·intro T hT
   rw [List.drop_length]
   exact l164_5 _ _ _ _ _ _ (ite_f (lt_len_f (Nat.le_refl _)) ⟨rfl,rfl⟩)
  ·intro T hT
   have hTl:=hT.len
   have hsm:=hT.small hN
   have hst:=step_ok hT hN hi (hx i hi)
   have hxi:=hx i hi
   have hs:=hT.ok i (by omega)
   rw [←rdT_at (by omega)] at hs
   have hA1:=add_one (i:=i) (by omega)
   have hin:inB (i:Int) (lenL T)=true:=in_len (by omega)
   have hlt:ltN (natI (i:Int)) (lenL T)=true:=decide_eq_true (show i<T.length by omega)
   rw [List.drop_eq_getElem_cons hi]
   generalize hX:c[i]=x at hxi hst
   have hb:=gives228 x (rdT T i) (by have:=hs.len; omega)
   have ee:∀T',goT c.length (x :: c.drop (i+1)) i T'=if (stepT c.length x i T').1=true then goT c.length (c.drop (i+1)) (i+1) (stepT c.length x i T').2 else false:=fun _=>rfl
   refine l164_5 _ _ _ _ _ _ (ite_t (lt_len hi) (and_t (in_len hi) (and_t hin (and_t hlt ?_))))
   simp only [rd_at hi,hX,hA1,ee]
   have en:natI (i:Int)=i:=by simp [natI]
   simp only [en]
   refine ite_w (fun h=>?_) (fun h=>and_t hin (and_t (by rw [en] at hlt; exact hlt) ⟨behF x (rdT T i),hb,?_⟩))
   ·have h:(rdT T i).gCome=false:=notB_t.1 h
    have e:stepT c.length x i T=(true,T):=by unfold stepT; rw [if_pos h]
    rw [e]; exact ih T hT
   have hc:(rdT T i).gCome ≠ false:=by have h:(rdT T i).gCome=true:=notB_f.1 h; rw [h]; decide
   refine ite_w (fun h=>?_) (fun h=>?_)
   ·have h:(behF x (rdT T i)).2=false:=notB_t.1 h
    have e:stepT c.length x i T=(false,T):=by unfold stepT; rw [if_neg hc,if_pos h]
    rw [e]; exact ⟨rfl,rfl⟩
   have hb2:(behF x (rdT T i)).2=true:=notB_f.1 h
   have hb2':(behF x (rdT T i)).2 ≠ false:=by rw [hb2]; decide
   have hbo:=beh_ok hs (by omega) hxi.make hb2
   have one:∀{p:Int} {s:code_state},0≤p→stepT c.length x i T=comeF c.length T p s→∃(x_1:Bool) (y:List code_state),GivesM 226 [.d (.int .i64 p),stC s,.ptr (.g 0) 0,.ptr (.g 2) 0] (sndH c T) (.d (.bool x_1)) (sndH c y)∧
     iteP (notB x_1) ((C.d (D.bool false):C U)=.d (.bool (if (stepT c.length x i T).1=true then goT c.length (c.drop (i+1)) (i+1) (stepT c.length x i T).2 else false))∧([]:List (O U))=[])
      (At K 164 (fun c' H'=>c'=(.d (.bool (if (stepT c.length x i T).1=true then goT c.length (c.drop (i+1)) (i+1) (stepT c.length x i T).2 else false)):C U)∧H'=[]) t164_5 (s164_5 c (intN (lenL c)) ((i+1:Nat):Int) c y)):=by
    intro p s h0 e
    refine ⟨_,_,gives226 c T p s h0 hTl hsm,?_⟩
    rw [e] at hst ⊢
    refine ite_w (fun h=>?_) (fun h=>?_)
    ·rw [if_neg (by rw [notB_t.1 h]; decide)]; exact ⟨rfl,rfl⟩
    ·rw [if_pos (notB_f.1 h)]; exact ih _ hst
   have two:∀{p:Int} {s s':code_state},0≤p→TOk c.length (comeF c.length T p s).2→stepT c.length x i T=(if (comeF c.length T p s).1=true then comeF c.length (comeF c.length T p s).2 ((i+1:Nat):Int) s' else (false,T))→
     ∃(x_1:Bool) (y:List code_state),GivesM 226 [.d (.int .i64 p),stC s,.ptr (.g 0) 0,.ptr (.g 2) 0] (sndH c T) (.d (.bool x_1)) (sndH c y)∧
     iteP x_1 (∃(x_2:Bool) (y_1:List code_state),GivesM 226 [.d (.int .i64 ((i+1:Nat):Int)),stC s',.ptr (.g 0) 0,.ptr (.g 2) 0] (sndH c y) (.d (.bool x_2)) (sndH c y_1)∧
      iteP (notB x_2) ((C.d (D.bool false):C U)=.d (.bool (if (stepT c.length x i T).1=true then goT c.length (c.drop (i+1)) (i+1) (stepT c.length x i T).2 else false))∧([]:List (O U))=[])
      (At K 164 (fun c' H'=>c'=(.d (.bool (if (stepT c.length x i T).1=true then goT c.length (c.drop (i+1)) (i+1) (stepT c.length x i T).2 else false)):C U)∧H'=[]) t164_5 (s164_5 c (intN (lenL c)) ((i+1:Nat):Int) c y_1)))
      ((C.d (D.bool false):C U)=.d (.bool (if (stepT c.length x i T).1=true then goT c.length (c.drop (i+1)) (i+1) (stepT c.length x i T).2 else false))∧([]:List (O U))=[]):=by
    intro p s s' h0 h1 e
    refine ⟨_,_,gives226 c T p s h0 hTl hsm,?_⟩
    rw [e] at hst ⊢
    refine ite_w (fun h=>?_) (fun h=>?_)
    ·rw [if_pos h] at hst ⊢
     refine ⟨_,_,gives226 c _ _ s' (by omega) h1.len (h1.small hN),?_⟩
     refine ite_w (fun h=>?_) (fun h=>?_)
     ·rw [if_neg (by rw [notB_t.1 h]; decide)]; exact ⟨rfl,rfl⟩
     ·rw [if_pos (notB_f.1 h)]; exact ih _ hst
    ·rw [if_neg (show ¬((comeF c.length T p s).1=true) by rw [h]; decide)]; exact ⟨rfl,rfl⟩
   refine ite_w (fun h=>?_) (fun h9=>ite_w (fun h=>?_) (fun h10=>ite_w (fun h=>?_) (fun h11=>ite_w (fun h=>?_) (fun h13=>ite_w (fun h=>?_) (fun h14=>ite_w (fun h=>?_) (fun h16=>?_))))))
   ·have h:=eqI_t.1 h
    have hp:=hxi.to (.inl h)
    exact two (p:=x.gA) (s:=(behF x (rdT T i)).1) (by omega) (come_ok hT (fun j e=>hbo.up (by omega)) (by omega)) (by unfold stepT; rw [if_neg hc,if_neg hb2',if_pos h])
   ·have h:=eqI_t.1 h
    have hp:=hxi.to (.inr (.inl h))
    exact one (p:=x.gA) (s:=(behF x (rdT T i)).1) (by omega) (by unfold stepT; rw [if_neg hc,if_neg hb2',if_neg (by omega),if_pos h])
   ·have h:=eqI_t.1 h
    have hp:=hxi.to (.inr (.inr h))
    exact and_t hin (and_t (by rw [en] at hlt; exact hlt) (two (p:=x.gA) (s:=rdT T i) (s':=(behF x (rdT T i)).1) (by omega) (come_ok hT (fun j e=>hs.up (by omega)) (by omega)) (by unfold stepT; rw [if_neg hc,if_neg hb2',if_neg (by omega),if_neg (by omega),if_pos h])))
   ·have h':=eqI_t.1 h
    have e:stepT c.length x i T=(true,T):=by unfold stepT; rw [if_neg hc,if_neg hb2',if_neg (by omega),if_neg (by omega),if_neg (by omega),if_pos (.inl h')]
    rw [e]
    exact ite_t h (ite_f (notB_f.2 hb2) (ih T hT))
   ·have h':=eqI_t.1 h
    have e:stepT c.length x i T=(true,T):=by unfold stepT; rw [if_neg hc,if_neg hb2',if_neg (by omega),if_neg (by omega),if_neg (by omega),if_pos (.inr (.inl h'))]
    rw [e]
    exact ite_t h (ite_f (notB_f.2 hb2) (ih T hT))
   ·have h':=eqI_t.1 h
    have e:stepT c.length x i T=(true,T):=by unfold stepT; rw [if_neg hc,if_neg hb2',if_neg (by omega),if_neg (by omega),if_neg (by omega),if_pos (.inr (.inr h'))]
    rw [e]
    exact ite_f (notB_f.2 hb2) (ih T hT)
   ·have n9:=eqI_f.1 h9; have n10:=eqI_f.1 h10; have n11:=eqI_f.1 h11; have n13:=eqI_f.1 h13; have n14:=eqI_f.1 h14; have n16:=eqI_f.1 h16
    exact one (p:=((i+1:Nat):Int)) (s:=(behF x (rdT T i)).1) (by omega) (by unfold stepT; rw [if_neg hc,if_neg hb2',if_neg n9,if_neg n10,if_neg n11,if_neg (by omega)])
 have hT0:=T0_ok hN
 have e1:=add_one (i:=c.length) (by omega)
 have hrep:(replL (addW .i64 (intN (lenL c)) 1) (code_state.mk false 0 (nilL code_mark))).length=c.length+1:=by
  rw [show addW .i64 (intN (lenL c)) 1=((c.length+1:Nat):Int) from e1]; simp [replL]
 refine e164 _ _ (and_t ?_ (and_t ?_ (and_t ?_ ?_)))
 ·rw [show addW .i64 (intN (lenL c)) 1=((c.length+1:Nat):Int) from e1]
  simp only [andB,leI,roomI,Bool.and_eq_true,decide_eq_true_eq]
  refine ⟨by omega,by omega,?_⟩
  show ((c.length+1:Nat):Int) * ((40:Nat):Int)≤((140737488355328:Nat):Int)
  omega
 ·exact in_len (i:=0) (by rw [hrep]; omega)
 ·exact decide_eq_true (show (0:Nat)<(replL (addW .i64 (intN (lenL c)) 1) (code_state.mk false 0 (nilL code_mark))).length by rw [hrep]; omega)
 ·have hr:rdN (code_state.mk false 0 []) (replL (addW .i64 (intN (lenL c)) 1) (code_state.mk false 0 (nilL code_mark))) (natI 0)=code_state.mk false 0 []:=by
   rw [show addW .i64 (intN (lenL c)) 1=((c.length+1:Nat):Int) from e1]; simp [rdN,replL,natI,List.getD]
  rw [hr]
  exact loop 0 (Nat.zero_le _) _ hT0
noncomputable def formE (N:Nat) (x:api_Instr) (i:Int):Bool:=
 wellB x i && eqB (eqI x.gOp 16) (eqI i (subW .i64 (intN N) 1)) && !(((eqI x.gOp 9 || eqI x.gOp 10) || eqI x.gOp 11) && leI (intN N) x.gA)
noncomputable def allF (N:Nat):List api_Instr→Nat→Bool
 | [],_=>true
 | x :: xs,i=>formE N x i && allF N xs (i+1)
noncomputable def formedF (c:List api_Instr):Bool:=allF c.length c 0 && ltI 0 (intN (lenL c))
theorem gives163 (c:List api_Instr) (hN:c.length<4611686018427387904):Gives 163 [.d (.sl .api_Instr c)] (.d (.bool (formedF c))):=by
 have loop:∀i,i≤c.length→At K 163 (fun c' H'=>c'=(.d (.bool (allF c.length (c.drop i) i && ltI 0 (intN (lenL c)))):C U)∧H'=[]) t163_2 (s163_2 c c (intN (lenL c)) i):=by
  refine upto ?_ fun i hi ih=>?_
  ·rw [List.drop_length]
   exact l163_2 _ _ _ _ _ (ite_f (lt_len_f (Nat.le_refl _)) ⟨rfl,rfl⟩)
  ·refine l163_2 _ _ _ _ _ (ite_t (lt_len hi) (and_t (in_len hi) ?_))
   rw [rd_at hi,add_one (by omega),List.drop_eq_getElem_cons hi]
   generalize c[i]=x
   refine or_of (fun _=>rfl) (or_of (fun _=>rfl) ⟨_,gives225 x i,or_of (fun _=>rfl) (or_of (fun _=>and_of (fun _=>rfl) rfl) (ite_w (fun h=>?_) (fun h=>?_)))⟩)
   ·have:formE c.length x i=false:=by
     unfold formE
     have h:((notB (wellB x i) || notB (eqB (eqI x.gOp 16) (eqI i (subW .i64 (intN (lenL c)) 1)))) || (((eqI x.gOp 9 || eqI x.gOp 10) || eqI x.gOp 11) && leI (intN (lenL c)) x.gA))=true:=h
     rw [lenL_eq] at h
     cases h1:wellB x i <;> cases h2:eqB (eqI x.gOp 16) (eqI i (subW .i64 (intN c.length) 1)) <;> cases h3:(((eqI x.gOp 9 || eqI x.gOp 10) || eqI x.gOp 11) && leI (intN c.length) x.gA) <;> simp_all [notB]
    simp only [allF,this,Bool.false_and]; exact ⟨rfl,rfl⟩
   ·have:formE c.length x i=true:=by
     unfold formE
     have h:((notB (wellB x i) || notB (eqB (eqI x.gOp 16) (eqI i (subW .i64 (intN (lenL c)) 1)))) || (((eqI x.gOp 9 || eqI x.gOp 10) || eqI x.gOp 11) && leI (intN (lenL c)) x.gA))=false:=h
     rw [lenL_eq] at h
     cases h1:wellB x i <;> cases h2:eqB (eqI x.gOp 16) (eqI i (subW .i64 (intN c.length) 1)) <;> cases h3:(((eqI x.gOp 9 || eqI x.gOp 10) || eqI x.gOp 11) && leI (intN c.length) x.gA) <;> simp_all [notB]
    simp only [allF,this,Bool.true_and]; exact ih
 exact e163 _ _ (loop 0 (Nat.zero_le _))
theorem all_at {N:Nat}:∀{c:List api_Instr} {i:Nat},allF N c i=true→∀j,(h:j<c.length)→formE N c[j] ((i+j:Nat):Int)=true
 | [],i,_,j,h=>by simp at h
 | x :: xs,i,ha,j,h=>by
  simp only [allF,Bool.and_eq_true] at ha
  cases j with
  | zero=>exact ha.1
  | succ j=>
   have:=all_at ha.2 j (by simpa using h)
   rw [show i+(j+1)=i+1+j by omega]
   simpa using this
theorem form_ok {N:Nat} {x:api_Instr} {i:Nat} (hN:N≤1024) (hi:i<N) (h:formE N x i=true):InOk N x i∧(x.gOp=16↔i+1=N)∧wellB x i=true:=by
 simp only [formE,Bool.and_eq_true,Bool.not_eq_true'] at h
 obtain ⟨⟨h1,h2⟩,h3⟩:=h
 have hs:subW .i64 (intN N) 1=(N:Int) - 1:=by rw [intN_eq,subW_id (by omega) (by omega)]
 have w:=h1
 unfold wellB at w
 refine ⟨⟨fun ho=>?_,fun ho=>?_⟩,?_,h1⟩
 ·have hg:((eqI x.gOp 9 || eqI x.gOp 10) || eqI x.gOp 11)=true:=by
   rcases ho with e|e|e <;> simp [e,eqI]
  rw [hg,Bool.true_and] at h3
  have h3:¬((N:Int)≤x.gA):=of_decide_eq_false h3
  rw [if_pos (.inr (by omega)),Bool.and_eq_true] at w
  have w1:=w.1
  unfold numW at w1
  rw [if_neg (by omega),if_neg (by omega),if_neg (by omega),if_neg (by omega)] at w1
  have w1:(i:Int)<x.gA:=of_decide_eq_true w1
  omega
 ·rw [if_pos (.inr (by omega)),Bool.and_eq_true] at w
  have w1:=w.1
  unfold numW at w1
  rw [if_neg (by omega),if_neg (by omega),if_pos ho,Bool.and_eq_true] at w1
  exact ⟨of_decide_eq_true w1.1,of_decide_eq_true w1.2⟩
 ·rw [hs] at h2
  by_cases c1:x.gOp=16 <;> by_cases c2:i+1=N
  ·simp [c1,c2]
  ·rw [eqI_t.2 c1,eqI_f.2 (show (i:Int) ≠ (N:Int) - 1 by omega)] at h2; cases h2
  ·rw [eqI_f.2 c1,eqI_t.2 (show (i:Int)=(N:Int) - 1 by omega)] at h2; cases h2
  ·simp [c1,c2]
noncomputable def chkC (c:List api_Instr):Int:=if 1024<c.length then 3 else if formedF c=true∧goT c.length c 0 (T0 c.length)=true then 0 else 90
theorem gives87 (c:List api_Instr):Gives 87 [.d (.sl .api_Instr c)] (.d (.int .i64 (chkC c))):=by
 refine e87 _ _ (ite_w (fun h=>?_) (fun h=>?_))
 ·have:1024<c.length:=by
   have h:(1024:Int)<c.length:=of_decide_eq_true h
   omega
  unfold chkC; rw [if_pos this]; exact ⟨rfl,rfl⟩
 ·have hN:¬(1024<c.length):=by
   have h:¬((1024:Int)<c.length):=of_decide_eq_false h
   omega
  unfold chkC; rw [if_neg hN]
  refine ⟨_,gives163 c (by omega),or_of (X:=fun v=>∃x:Bool,Gives 164 [.d (.sl .api_Instr c)] (.d (.bool x))∧notB x=v) (b:=notB (goT c.length c 0 (T0 c.length))) (fun hf=>⟨_,gives164 c (by omega) (fun i hi=>?_),rfl⟩) (ite_w (fun h=>?_) (fun h=>?_))⟩
  ·have hf:formedF c=true:=notB_f.1 hf
   simp only [formedF,Bool.and_eq_true] at hf
   have:=all_at hf.1 i hi
   rw [Nat.zero_add] at this
   exact (form_ok (by omega) hi this).1
  ·have:¬(formedF c=true∧goT c.length c 0 (T0 c.length)=true):=fun ⟨h1,h2⟩=>by simp [h1,h2,notB] at h
   rw [if_neg this]; exact ⟨rfl,rfl⟩
  ·have:formedF c=true∧goT c.length c 0 (T0 c.length)=true:=by
    simpa [notB] using h
   rw [if_pos this]; exact ⟨rfl,rfl⟩
def Cm (N:Nat) (T:List code_state) (p:Int) (s:code_state):Prop:=∃j:Nat,p=j∧j<N∧(rdT T j).gCome=true∧(rdT T j).gHigh=s.gHigh∧(rdT T j).gL=s.gL
structure Tr' (N:Nat) (x:api_Instr) (i:Nat) (T:List code_state):Prop where
 ok:(behF x (rdT T i)).2=true
 jump:x.gOp=9∨x.gOp=10→Cm N T x.gA (behF x (rdT T i)).1
 try':x.gOp=11→Cm N T x.gA (rdT T i)
 next:x.gOp ≠ 10→x.gOp ≠ 13→x.gOp ≠ 14→x.gOp ≠ 16→Cm N T ((i+1:Nat):Int) (behF x (rdT T i)).1
structure Ext (i:Nat) (T T1:List code_state):Prop where
 come:∀j,(rdT T j).gCome=true→rdT T1 j=rdT T j
 front:∀j,j≤i→rdT T1 j=rdT T j
theorem Ext.refl {i:Nat} {T:List code_state}:Ext i T T:=⟨fun _ _=>rfl,fun _ _=>rfl⟩
theorem Ext.trans {i j:Nat} {T T1 T2:List code_state} (h:Ext i T T1) (h':Ext j T1 T2) (hij:i≤j):Ext i T T2:=
 ⟨fun k hk=>by rw [h'.come k (by rw [h.come k hk]; exact hk),h.come k hk],fun k hk=>by rw [h'.front k (by omega),h.front k hk]⟩
theorem Cm.ext {i N:Nat} {T T1:List code_state} {p:Int} {s:code_state} (h:Cm N T p s) (e:Ext i T T1):Cm N T1 p s:=by
 obtain ⟨j,h1,h2,h3,h4,h5⟩:=h
 exact ⟨j,h1,h2,by rw [e.come j h3]; exact h3,by rw [e.come j h3]; exact h4,by rw [e.come j h3]; exact h5⟩
theorem Tr'.ext {i j N:Nat} {x:api_Instr} {T T1:List code_state} (h:Tr' N x i T) (e:Ext j T T1) (hij:i≤j):Tr' N x i T1:=by
 have hr:=e.front i hij
 exact ⟨by rw [hr]; exact h.ok,fun c=>by rw [hr]; exact (h.jump c).ext e,fun c=>by rw [hr]; exact (h.try' c).ext e,fun a b c d=>by rw [hr]; exact (h.next a b c d).ext e⟩
theorem come_spec {N i:Nat} {T:List code_state} {p:Int} {s:code_state} (hT:T.length=N+1) (hp:(i:Int)<p) (h:(comeF N T p s).1=true):Ext i T (comeF N T p s).2∧Cm N (comeF N T p s).2 p s:=by
 unfold comeF at h ⊢
 split at h
 ·cases h
 ·rename_i c1
  rw [if_neg c1]
  split at h
  ·rename_i c2
   rw [if_pos c2]
   simp only [sameF,Bool.and_eq_true] at h
   refine ⟨.refl,p.toNat,by omega,by omega,c2,eqI_t.1 h.1,?_⟩
   exact eqL_iff.1 h.2
  ·rename_i c2
   rw [if_neg c2]
   have rs:∀j,rdT (setL T p.toNat ⟨true,s.gHigh,s.gL⟩) j=if p.toNat=j then ⟨true,s.gHigh,s.gL⟩ else rdT T j:=by
    intro j
    simp only [rdN,setL,List.getD_eq_getElem?_getD,List.getElem?_set]
    split
    ·rename_i e; subst e; simp [show p.toNat<T.length by omega]
    ·rfl
   refine ⟨⟨fun j hj=>?_,fun j hj=>?_⟩,p.toNat,by omega,by omega,?_⟩
   ·rw [rs,if_neg fun e=>c2 (by rw [e]; exact hj)]
   ·rw [rs,if_neg (by omega)]
   ·rw [rs,if_pos rfl]; exact ⟨rfl,rfl,rfl⟩
theorem step_spec {N i:Nat} {T:List code_state} {x:api_Instr} (hT:TOk N T) (hN:N≤1024) (hi:i<N) (hx:InOk N x i) (h:(stepT N x i T).1=true):Ext i T (stepT N x i T).2∧((rdT T i).gCome=true→Tr' N x i (stepT N x i T).2):=by
 have hTl:=hT.len
 unfold stepT at h ⊢
 split at h
 ·rename_i c; rw [if_pos c]
  exact ⟨.refl,fun hc=>by rw [c] at hc; cases hc⟩
 rename_i c0; rw [if_neg c0]
 split at h
 ·cases h
 rename_i cb; rw [if_neg cb]
 have hb:(behF x (rdT T i)).2=true:=by simpa using cb
 split at h
 ·rename_i c; rw [if_pos c]
  have hp:=hx.to (.inl c)
  split at h
  ·rename_i c2; rw [if_pos c2]
   obtain ⟨e1,k1⟩:=come_spec hTl hp.1 c2
   have hl:(comeF N T x.gA (behF x (rdT T i)).1).2.length=N+1:=by unfold comeF; split; exact hTl; split; exact hTl; simp [setL,hTl]
   obtain ⟨e2,k2⟩:=come_spec (i:=i) hl (by omega) h
   have e:=e1.trans e2 (Nat.le_refl _)
   refine ⟨e,fun _=>?_⟩
   have hr:=e.front i (Nat.le_refl _)
   exact ⟨by rw [hr]; exact hb,fun _=>by rw [hr]; exact k1.ext e2,fun ho=>by omega,fun _ _ _ _=>by rw [hr]; exact k2⟩
  ·cases h
 rename_i c9; rw [if_neg c9]
 split at h
 ·rename_i c; rw [if_pos c]
  have hp:=hx.to (.inr (.inl c))
  obtain ⟨e,k1⟩:=come_spec hTl hp.1 h
  refine ⟨e,fun _=>?_⟩
  have hr:=e.front i (Nat.le_refl _)
  exact ⟨by rw [hr]; exact hb,fun _=>by rw [hr]; exact k1,fun ho=>by omega,fun a=>absurd c a⟩
 rename_i c10; rw [if_neg c10]
 split at h
 ·rename_i c; rw [if_pos c]
  have hp:=hx.to (.inr (.inr c))
  split at h
  ·rename_i c2; rw [if_pos c2]
   obtain ⟨e1,k1⟩:=come_spec hTl hp.1 c2
   have hl:(comeF N T x.gA (rdT T i)).2.length=N+1:=by unfold comeF; split; exact hTl; split; exact hTl; simp [setL,hTl]
   obtain ⟨e2,k2⟩:=come_spec (i:=i) hl (by omega) h
   have e:=e1.trans e2 (Nat.le_refl _)
   refine ⟨e,fun _=>?_⟩
   have hr:=e.front i (Nat.le_refl _)
   exact ⟨by rw [hr]; exact hb,fun ho=>by omega,fun _=>by rw [hr]; exact k1.ext e2,fun _ _ _ _=>by rw [hr]; exact k2⟩
  ·cases h
 rename_i c11; rw [if_neg c11]
 split at h
 ·rename_i c; rw [if_pos c]
  exact ⟨.refl,fun _=>⟨hb,fun ho=>by omega,fun ho=>by omega,fun _ a b d=>by omega⟩⟩
 ·rename_i c; rw [if_neg c]
  obtain ⟨e,k1⟩:=come_spec (i:=i) hTl (by omega) h
  refine ⟨e,fun _=>?_⟩
  have hr:=e.front i (Nat.le_refl _)
  exact ⟨by rw [hr]; exact hb,fun ho=>by omega,fun ho=>by omega,fun _ _ _ _=>by rw [hr]; exact k1⟩
theorem go_spec {N:Nat} {c:List api_Instr} (hN:N≤1024) (hc:c.length=N) (hx:∀i (h:i<c.length),InOk N c[i] i):∀i,i≤N→∀T,TOk N T→goT N (c.drop i) i T=true→
  ∃T1,TOk N T1∧(∀j,j≤i→rdT T1 j=rdT T j)∧(∀j,(rdT T j).gCome=true→rdT T1 j=rdT T j)∧∀j,i≤j→(h:j<c.length)→(rdT T1 j).gCome=true→Tr' N c[j] j T1:=by
 refine upto ?_ fun i hi ih=>?_
 ·intro T hT _
  exact ⟨T,hT,fun _ _=>rfl,fun _ _=>rfl,fun j h1 h2=>by omega⟩
 ·intro T hT hg
  have hi':i<c.length:=by omega
  rw [List.drop_eq_getElem_cons hi'] at hg
  simp only [goT] at hg
  split at hg
  ·rename_i hs
   obtain ⟨e,k⟩:=step_spec hT hN hi (hx i hi') hs
   obtain ⟨T1,h1,h2,h3,h4⟩:=ih _ (step_ok hT hN hi (hx i hi')) hg
   refine ⟨T1,h1,fun j hj=>by rw [h2 j (by omega),e.front j hj],fun j hj=>by rw [h3 j (by rw [e.come j hj]; exact hj),e.come j hj],fun j hj hjc hcm=>?_⟩
   by_cases hji:j=i
   ·subst hji
    have e':Ext j (stepT N c[j] j T).2 T1:=⟨h3,fun k hk=>h2 k (by omega)⟩
    refine (k ?_).ext e' (Nat.le_refl _)
    rw [h2 j (by omega),e.front j (Nat.le_refl _)] at hcm
    exact hcm
   ·exact h4 j (by omega) hjc hcm
  ·cases hg
structure Right (c:List api_Instr) (T:List code_state):Prop where
 small:c.length≤1024
 pos:0<c.length
 ins:∀i (h:i<c.length),InOk c.length c[i] i∧(c[i].gOp=16↔i+1=c.length)∧wellB c[i] i=true
 tok:TOk c.length T
 first:rdT T 0=⟨true,0,[]⟩
 tr:∀i (h:i<c.length),(rdT T i).gCome=true→Tr' c.length c[i] i T
theorem right_of {c:List api_Instr} (h:chkC c=0):∃T,Right c T:=by
 unfold chkC at h
 split at h
 ·cases h
 ·rename_i hN
  split at h
  ·rename_i hc
   obtain ⟨hf,hg⟩:=hc
   simp only [formedF,Bool.and_eq_true] at hf
   have ins:∀i (h:i<c.length),InOk c.length c[i] i∧(c[i].gOp=16↔i+1=c.length)∧wellB c[i] i=true:=by
    intro i hi
    have:=all_at hf.1 i hi
    rw [Nat.zero_add] at this
    exact form_ok (by omega) hi this
   have pos:0<c.length:=by
    have h:(0:Int)<c.length:=of_decide_eq_true hf.2
    omega
   obtain ⟨T1,h1,h2,h3,h4⟩:=go_spec (by omega) rfl (fun i hi=>(ins i hi).1) 0 (Nat.zero_le _) (T0 c.length) (T0_ok (by omega)) hg
   refine ⟨T1,by omega,pos,ins,h1,?_,fun i hi=>h4 i (Nat.zero_le _) hi⟩
   rw [h2 0 (Nat.le_refl _)]
   have e:addW .i64 (intN c.length) 1=((c.length+1:Nat):Int):=add_one (by omega)
   simp [T0,rdN,setL,replL,e,List.getD_eq_getElem?_getD]
  ·cases h
theorem obj_push_lt {H:List (O U)} {o:O U} {n:Nat} (h:n<lenO H):obj (pushO H o) n=obj H n:=by
 unfold obj pushO; exact List.getElem?_append_left h
theorem obj_push {H:List (O U)} {o:O U}:obj (pushO H o) (lenO H)=some o:=by
 unfold obj pushO lenO; simp
theorem obj_len {H:List (O U)} {n:Nat} {o:O U} (h:obj H n=some o):n<lenO H:=(List.getElem?_eq_some_iff.1 h).1
theorem obj_upd {H:List (O U)} {n:Nat} {o o':O U} (h:obj H n=some o'):obj (updO H n o) n=some o:=by
 unfold obj updO
 have:=obj_len h
 unfold lenO at this
 simp [this]
theorem obj_upd_ne {H:List (O U)} {n m:Nat} {o:O U} (h:m ≠ n):obj (updO H n o) m=obj H m:=by
 unfold obj updO
 rw [List.getElem?_set_ne (fun e=>h e.symm)]
theorem upd2 {H:List (O U)} {n:Nat} {x y:O U}:updO (updO H n x) n y=updO H n y:=by unfold updO; simp
theorem len_upd {H:List (O U)} {n:Nat} {x:O U}:lenO (updO H n x)=lenO H:=by unfold lenO updO; simp
theorem len_push {H:List (O U)} {x:O U}:lenO (pushO H x)=lenO H+1:=by unfold lenO pushO; simp
structure Fm (F:List Nat) (H H':List (O U)):Prop where
 le:lenO H≤lenO H'
 eq:∀j,j<lenO H→j ∉ F→obj H' j=obj H j
theorem Fm.refl {F:List Nat} {H:List (O U)}:Fm F H H:=⟨Nat.le_refl _,fun _ _ _=>rfl⟩
theorem Fm.trans {F F':List Nat} {H H' H'':List (O U)} (h:Fm F H H') (h':Fm F' H' H'') (hs:∀j∈F',j∈F∨lenO H≤j):Fm F H H'':=
 ⟨Nat.le_trans h.le h'.le,fun j hj hn=>by
  rw [h'.eq j (Nat.lt_of_lt_of_le hj h.le) fun hm=>by rcases hs j hm with h1|h1; exact hn h1; omega,h.eq j hj hn]⟩
theorem Fm.upd {F:List Nat} {H:List (O U)} {n:Nat} {x:O U} (h:n∈F):Fm F H (updO H n x):=
 ⟨by rw [len_upd]; exact Nat.le_refl _,fun j _ hn=>obj_upd_ne fun e=>hn (e▸h)⟩
theorem Fm.push {F:List Nat} {H:List (O U)} {x:O U}:Fm F H (pushO H x):=
 ⟨by rw [len_push]; omega,fun _ hj _=>obj_push_lt hj⟩
theorem Fm.mono {F F':List Nat} {H H':List (O U)} (h:Fm F H H') (hs:∀j∈F,j∈F'):Fm F' H H':=⟨h.le,fun j hj hn=>h.eq j hj fun hm=>hn (hs j hm)⟩
def Front {α:Type} (s:Option (Nat×Nat)) (xs zs:List α):Prop:=(s=none∧zs=[])∨s=some (0,xs.length)
section
variable {α:Type} {s:Option (Nat×Nat)} {xs zs:List α}
theorem Front.off (h:Front s xs zs):subOff s=0:=by rcases h with ⟨rfl,rfl⟩|rfl <;> rfl
theorem Front.fit (h:Front s xs zs):subFit s (lenL (xs ++ zs))=true:=by
 rcases h with ⟨rfl,rfl⟩|rfl
 ·rfl
 ·simp [subFit,subOk,leN,addN,lenL]
theorem Front.rows (h:Front s xs zs):subRows s (xs ++ zs)=xs:=by
 rcases h with ⟨rfl,rfl⟩|rfl
 ·simp [subRows,cutTo]
 ·simp [subRows,cutTo,takeL]
theorem Front.len (h:Front s xs zs):subLen s (lenL (xs ++ zs))=xs.length:=by
 rcases h with ⟨rfl,rfl⟩|rfl
 ·simp [subLen,sub?,lenL]
 ·simp [subLen,sub?]
theorem Front.whole:Front none xs []:=.inl ⟨rfl,rfl⟩
end
abbrev aV (g:Nat) (xs:List (List api_Atom)):O U:=.arr g (.pure .sl_api_Atom) xs
abbrev aC (g:Nat) (xs:List machine_catch):O U:=.arr g (.pure .machine_catch) xs
def ArV (H:List (O U)) (a g:Nat) (s:Option (Nat×Nat)) (xs:List (List api_Atom)):Prop:=∃zs:List (List api_Atom),obj H a=some (aV g (xs ++ zs))∧Front s xs zs
def ArC (H:List (O U)) (a g:Nat) (s:Option (Nat×Nat)) (xs:List machine_catch):Prop:=∃zs:List machine_catch,obj H a=some (aC g (xs ++ zs))∧Front s xs zs
theorem room24 {n:Nat} (h:n * 24≤140737488355328):roomB (addN (lenL (nilL (List api_Atom))) n) 24=true:=roomB_t (by simpa [addN,lenL,nilL] using h)
theorem room56 {n:Nat} (h:n * 56≤140737488355328):roomB (addN (lenL (nilL machine_catch)) n) 56=true:=roomB_t (by simpa [addN,lenL,nilL] using h)
theorem gg_none {g:Nat}:andB (g == g) true=true:=by simp [andB]
theorem and2 {a b:Bool} (ha:a=true) (hb:b=true):andB a b=true:=by subst ha hb; rfl
theorem gg_some {g:Nat} {b:Bool} (h:b=true):andB (g == g) b=true:=by simp [andB,h]
theorem base104a {g:Nat} {ys:List (List api_Atom)} (hl:ys.length * 24≤140737488355328):
  Runs K 104 [.asl (.g 0) g none false] [aV g ys] fun c' H'=>∃gn,c'=(.asl (.g 1) gn none false:C U)∧H'=[aV g ys] ++ [aV gn ys]:=by
 refine e104a _ _ _ ⟨and_t (and2 gg_none (room24 hl)) ⟨1,rfl,rfl⟩,ite_w (fun h=>⟨0,rfl,?_⟩) (fun _=>trivial)⟩
 cases ys with
 | nil=>rfl
 | cons _ _=>simp [orB,notB,emptyL] at h
theorem base104b {g u k:Nat} {ys:List (List api_Atom)} (hu:u+k≤ys.length) (hl:k * 24≤140737488355328):
  Runs K 104 [.asl (.g 0) g (some (u,k)) false] [aV g ys] fun c' H'=>∃gn,c'=(.asl (.g 1) gn none false:C U)∧H'=[aV g ys] ++ [aV gn ((ys.drop u).take k)]:=by
 have h1:leN (addN u k) (lenL ys)=true:=decide_eq_true hu
 have h2:(takeL k (dropL u ys)).length≤k:=by simp [takeL,dropL]; omega
 refine e104b _ _ _ _ _ ⟨and_t (and2 (gg_some h1) (room24 (by rw [lenL_eq]; omega))) ⟨1,rfl,rfl⟩,ite_w (fun h=>⟨0,rfl,?_⟩) (fun _=>trivial)⟩
 have h:(takeL k (dropL u ys)).isEmpty=true:=by simpa [orB,notB,emptyL,h1] using h
 have:(ys.drop u).take k=[]:=List.isEmpty_iff.1 h
 rw [this]; rfl
theorem base104d {ys:List (List api_Atom)} (hl:ys.length * 24≤140737488355328):
  Runs K 104 [.d (.sl .sl_api_Atom ys)] [] fun c' H'=>∃gn,c'=(.asl (.g 0) gn none false:C U)∧H'=[] ++ [aV gn ys]:=by
 refine e104 _ _ ⟨and_t (room24 hl) ⟨1,rfl,rfl⟩,ite_w (fun h=>⟨0,rfl,?_⟩) (fun _=>trivial)⟩
 cases ys with
 | nil=>rfl
 | cons _ _=>cases h
theorem piece104 {H:List (O U)} {a g u k:Nat} {ys r:List (List api_Atom)} (hr:(ys.drop u).take k=r) (h:obj H a=some (aV g ys)) (hu:u+k≤ys.length) (hl:k * 24≤140737488355328):
  GivesM 104 [.asl (.g a) g (some (u,k)) false] H (.asl (.g (lenO H)) 0 none false) (pushO H (aV 0 r))∧
  GivesM 104 [.asl (.g a) g (some (u,k)) false] H (.d (.sl .sl_api_Atom r)) H:=by
 subst hr
 obtain ⟨A,ha⟩:=asl_among (K:=K) (sub:=some (u,k)) (cl:=false) h
 exact ⟨Runs.makes A ha (base104b hu hl),Runs.makesD laws A ha (base104b hu hl)⟩
theorem clone104 {H:List (O U)} {a g:Nat} {s:Option (Nat×Nat)} {xs:List (List api_Atom)} (h:ArV H a g s xs) (hl:xs.length * 24≤140737488355328):
  GivesM 104 [.asl (.g a) g s false] H (.asl (.g (lenO H)) 0 none false) (pushO H (aV 0 xs))∧GivesM 104 [.asl (.g a) g s false] H (.d (.sl .sl_api_Atom xs)) H:=by
 obtain ⟨zs,ho,⟨rfl,rfl⟩|rfl⟩:=h
 ·rw [List.append_nil] at ho
  obtain ⟨A,ha⟩:=asl_among (K:=K) (sub:=none) (cl:=false) ho
  exact ⟨Runs.makes A ha (base104a hl),Runs.makesD laws A ha (base104a hl)⟩
 ·exact piece104 (u:=0) (k:=xs.length) (by simp) ho (by simp) hl
theorem data104 {H:List (O U)} {xs:List (List api_Atom)} (hl:xs.length * 24≤140737488355328):
  GivesM 104 [.d (.sl .sl_api_Atom xs)] H (.asl (.g (lenO H)) 0 none false) (pushO H (aV 0 xs)):=by
 obtain ⟨A,ha⟩:=d_among (K:=K) (H:=H) (ds:=[.sl .sl_api_Atom xs])
 exact Runs.makes A ha (base104d hl)
theorem nil104 {H:List (O U)}:GivesM 104 [.d .nils] H (.asl (.g (lenO H)) 0 none false) (pushO H (aV 0 [])):=by
 obtain ⟨A,ha⟩:=d_among (K:=K) (H:=H) (ds:=[.nils])
 exact Runs.makes A ha (e104n _ ⟨0,rfl,rfl⟩)
theorem base105a {g:Nat} {ys:List machine_catch} (hl:ys.length * 56≤140737488355328):
  Runs K 105 [.asl (.g 0) g none false] [aC g ys] fun c' H'=>∃gn,c'=(.asl (.g 1) gn none false:C U)∧H'=[aC g ys] ++ [aC gn ys]:=by
 refine e105a _ _ _ ⟨and_t (and2 gg_none (room56 hl)) ⟨1,rfl,rfl⟩,ite_w (fun h=>⟨0,rfl,?_⟩) (fun _=>trivial)⟩
 cases ys with
 | nil=>rfl
 | cons _ _=>simp [orB,notB,emptyL] at h
theorem base105b {g u k:Nat} {ys:List machine_catch} (hu:u+k≤ys.length) (hl:k * 56≤140737488355328):
  Runs K 105 [.asl (.g 0) g (some (u,k)) false] [aC g ys] fun c' H'=>∃gn,c'=(.asl (.g 1) gn none false:C U)∧H'=[aC g ys] ++ [aC gn ((ys.drop u).take k)]:=by
 have h1:leN (addN u k) (lenL ys)=true:=decide_eq_true hu
 have h2:(takeL k (dropL u ys)).length≤k:=by simp [takeL,dropL]; omega
 refine e105b _ _ _ _ _ ⟨and_t (and2 (gg_some h1) (room56 (by rw [lenL_eq]; omega))) ⟨1,rfl,rfl⟩,ite_w (fun h=>⟨0,rfl,?_⟩) (fun _=>trivial)⟩
 have h:(takeL k (dropL u ys)).isEmpty=true:=by simpa [orB,notB,emptyL,h1] using h
 have:(ys.drop u).take k=[]:=List.isEmpty_iff.1 h
 rw [this]; rfl
theorem piece105 {H:List (O U)} {a g u k:Nat} {ys r:List machine_catch} (hr:(ys.drop u).take k=r) (h:obj H a=some (aC g ys)) (hu:u+k≤ys.length) (hl:k * 56≤140737488355328):
  GivesM 105 [.asl (.g a) g (some (u,k)) false] H (.asl (.g (lenO H)) 0 none false) (pushO H (aC 0 r))∧
  GivesM 105 [.asl (.g a) g (some (u,k)) false] H (.d (.sl .machine_catch r)) H:=by
 subst hr
 obtain ⟨A,ha⟩:=asl_among (K:=K) (sub:=some (u,k)) (cl:=false) h
 exact ⟨Runs.makes A ha (base105b hu hl),Runs.makesD laws A ha (base105b hu hl)⟩
theorem clone105 {H:List (O U)} {a g:Nat} {s:Option (Nat×Nat)} {xs:List machine_catch} (h:ArC H a g s xs) (hl:xs.length * 56≤140737488355328):
  GivesM 105 [.asl (.g a) g s false] H (.asl (.g (lenO H)) 0 none false) (pushO H (aC 0 xs))∧GivesM 105 [.asl (.g a) g s false] H (.d (.sl .machine_catch xs)) H:=by
 obtain ⟨zs,ho,⟨rfl,rfl⟩|rfl⟩:=h
 ·rw [List.append_nil] at ho
  obtain ⟨A,ha⟩:=asl_among (K:=K) (sub:=none) (cl:=false) ho
  exact ⟨Runs.makes A ha (base105a hl),Runs.makesD laws A ha (base105a hl)⟩
 ·exact piece105 (u:=0) (k:=xs.length) (by simp) ho (by simp) hl
theorem nil105 {H:List (O U)}:GivesM 105 [.d .nils] H (.asl (.g (lenO H)) 0 none false) (pushO H (aC 0 [])):=by
 obtain ⟨A,ha⟩:=d_among (K:=K) (H:=H) (ds:=[.nils])
 exact Runs.makes A ha (e105n _ ⟨0,rfl,rfl⟩)
structure Mc where
 c:List api_Instr
 pc:Int
 st:Int
 dn:Int
 sk:List (List api_Atom)
 lo:List (List api_Atom)
 tr:List machine_catch
 nx:api_Outcome
 ps:Bool
structure Plc where
 n:Nat
 a:Nat
 ga:Nat
 sa:Option (Nat×Nat)
 b:Nat
 gb:Nat
 sb:Option (Nat×Nat)
 t:Nat
 gt:Nat
 su:Option (Nat×Nat)
abbrev mcO (m:Mc) (x y z:C U):O U:=.cells [.d (.sl .api_Instr m.c),.d (.int .i64 m.pc),.d (.int .i64 m.st),.d (.int .i64 m.dn),x,y,z,.d (.int .i64 m.nx.gKind),.d (.sl .api_Atom m.nx.gValue),.d (.sl .api_Crack m.nx.gFail),.d (.bool m.ps)]
abbrev mcP (m:Mc) (p:Plc):O U:=mcO m (.asl (.g p.a) p.ga p.sa false) (.asl (.g p.b) p.gb p.sb false) (.asl (.g p.t) p.gt p.su false)
abbrev msOf (m:Mc) (p:Plc):MachS:=⟨m.c,m.pc,m.st,m.dn,p.a,p.ga,p.sa,p.b,p.gb,p.sb,p.t,p.gt,p.su,m.nx.gKind,m.nx.gValue,m.nx.gFail,m.ps⟩
abbrev moOf (m:Mc) (x y z:C U):MachO:=⟨m.c,m.pc,m.st,m.dn,x,y,z,m.nx.gKind,m.nx.gValue,m.nx.gFail,m.ps⟩
abbrev moP (m:Mc) (p:Plc):MachO:=moOf m (.asl (.g p.a) p.ga p.sa false) (.asl (.g p.b) p.gb p.sb false) (.asl (.g p.t) p.gt p.su false)
structure MR (H:List (O U)) (p:Plc) (m:Mc):Prop where
 hn:obj H p.n=some (mcP m p)
 ha:ArV H p.a p.ga p.sa m.sk
 hb:ArV H p.b p.gb p.sb m.lo
 ht:ArC H p.t p.gt p.su m.tr
 ab:p.a ≠ p.b
 na:p.a ≠ p.n
 nb:p.b ≠ p.n
 nt:p.t ≠ p.n
 ta:p.a ≠ p.t
 tb:p.b ≠ p.t
def fp (p:Plc):List Nat:=[p.n,p.a,p.b,p.t]
theorem ArV.keep {H H':List (O U)} {a g:Nat} {s:Option (Nat×Nat)} {xs:List (List api_Atom)} (h:ArV H a g s xs) (e:obj H' a=obj H a):ArV H' a g s xs:=by
 obtain ⟨zs,h1,h2⟩:=h; exact ⟨zs,by rw [e]; exact h1,h2⟩
theorem ArC.keep {H H':List (O U)} {a g:Nat} {s:Option (Nat×Nat)} {xs:List machine_catch} (h:ArC H a g s xs) (e:obj H' a=obj H a):ArC H' a g s xs:=by
 obtain ⟨zs,h1,h2⟩:=h; exact ⟨zs,by rw [e]; exact h1,h2⟩
theorem ArV.lt {H:List (O U)} {a g:Nat} {s:Option (Nat×Nat)} {xs:List (List api_Atom)} (h:ArV H a g s xs):a<lenO H:=by obtain ⟨_,h,_⟩:=h; exact obj_len h
theorem ArC.lt {H:List (O U)} {a g:Nat} {s:Option (Nat×Nat)} {xs:List machine_catch} (h:ArC H a g s xs):a<lenO H:=by obtain ⟨_,h,_⟩:=h; exact obj_len h
theorem ArV.new {H:List (O U)} {a g:Nat} {xs:List (List api_Atom)} (h:obj H a=some (aV g xs)):ArV H a g none xs:=⟨[],by simpa using h,.whole⟩
theorem ArC.new {H:List (O U)} {a g:Nat} {xs:List machine_catch} (h:obj H a=some (aC g xs)):ArC H a g none xs:=⟨[],by simpa using h,.whole⟩
section
variable {H:List (O U)} {p:Plc} {m:Mc}
theorem MR.lt (h:MR H p m):∀j∈fp p,j<lenO H:=by
 intro j hj
 simp only [fp,List.mem_cons,List.not_mem_nil,or_false] at hj
 rcases hj with rfl|rfl|rfl|rfl
 ·exact obj_len h.hn
 ·exact h.ha.lt
 ·exact h.hb.lt
 ·exact h.ht.lt
theorem MR.set (h:MR H p m) (m':Mc) (e1:m'.sk=m.sk) (e2:m'.lo=m.lo) (e3:m'.tr=m.tr):MR (updO H p.n (mcP m' p)) p m':=
 ⟨obj_upd h.hn,by rw [e1]; exact h.ha.keep (obj_upd_ne h.na),by rw [e2]; exact h.hb.keep (obj_upd_ne h.nb),by rw [e3]; exact h.ht.keep (obj_upd_ne h.nt),h.ab,h.na,h.nb,h.nt,h.ta,h.tb⟩
theorem MR.frame (h:MR H p m) {F:List Nat} {H':List (O U)} (f:Fm F H H') (hF:∀j∈fp p,j ∉ F):MR H' p m:=by
 have k:∀j∈fp p,obj H' j=obj H j:=fun j hj=>f.eq j (h.lt j hj) (hF j hj)
 exact ⟨by rw [k _ (by simp [fp])]; exact h.hn,h.ha.keep (k _ (by simp [fp])),h.hb.keep (k _ (by simp [fp])),h.ht.keep (k _ (by simp [fp])),h.ab,h.na,h.nb,h.nt,h.ta,h.tb⟩
end
structure Goes (H:List (O U)) (p:Plc) (H':List (O U)) (p':Plc):Prop where
 n:p'.n=p.n
 fr:Fm (fp p) H H'
 own:∀j∈fp p',j∈fp p∨lenO H≤j
theorem Goes.refl {H:List (O U)} {p:Plc}:Goes H p H p:=⟨rfl,.refl,fun _ h=>.inl h⟩
theorem Goes.trans {H H1 H2:List (O U)} {p p1 p2:Plc} (h:Goes H p H1 p1) (h':Goes H1 p1 H2 p2):Goes H p H2 p2:=
 ⟨h'.n.trans h.n,h.fr.trans h'.fr h.own,fun j hj=>by
  rcases h'.own j hj with k|k
  ·exact h.own j k
  ·exact .inr (Nat.le_trans h.fr.le k)⟩
theorem Goes.set {H:List (O U)} {p:Plc} {x:O U}:Goes H p (updO H p.n x) p:=⟨rfl,.upd (by simp [fp]),fun _ h=>.inl h⟩
def Has (H:List (O U)) (n:Nat) (F:List Nat) (m:Mc):Prop:=
 (∃p,p.n=n∧F=fp p∧MR H p m)∨(F=[n]∧obj H n=some (mcO m (.d .nils) (.d .nils) (.d .nils))∧m.sk=[]∧m.lo=[]∧m.tr=[]∧m.st=3)
def Nx (H:List (O U)) (n:Nat) (F:List Nat) (H':List (O U)) (m':Mc):Prop:=∃F',Has H' n F' m'∧Fm F H H'∧∀j∈F',j∈F∨lenO H≤j
theorem Nx.of {H H':List (O U)} {p p':Plc} {m':Mc} (g:Goes H p H' p') (h:MR H' p' m'):Nx H p.n (fp p) H' m':=⟨fp p',.inl ⟨p',g.n,rfl,h⟩,g.fr,g.own⟩
theorem Goes.nx {H H1 H':List (O U)} {p p1:Plc} {m':Mc} (g:Goes H p H1 p1) (h:Nx H1 p1.n (fp p1) H' m'):Nx H p.n (fp p) H' m':=by
 obtain ⟨F',h1,h2,h3⟩:=h
 rw [g.n] at h1
 exact ⟨F',h1,g.fr.trans h2 g.own,fun j hj=>by
  rcases h3 j hj with k|k
  ·exact g.own j k
  ·exact .inr (Nat.le_trans g.fr.le k)⟩
def pushM (v:List api_Atom) (m:Mc):Mc:={ m with sk:=m.sk ++ [v],pc:=addW .i64 m.pc 1 }
theorem gives168 {H:List (O U)} {p:Plc} {m:Mc} (h:MR H p m) (v:List api_Atom) (hl:(m.sk.length+1) * 24≤140737488355328):
  ∃H' p',GivesM 168 [.ptr (.g p.n) 0,.d (.sl .api_Atom v)] H (.tup []) H'∧MR H' p' (pushM v m)∧Goes H p H' p':=by
 obtain ⟨zs,ha,fr⟩:=h.ha
 have ha1:obj (updO H p.a (aV (p.ga+1) (subRows p.sa (m.sk ++ zs) ++ [v]))) p.a=some (aV (p.ga+1) (m.sk ++ [v])):=by rw [obj_upd ha,fr.rows]
 have k1:obj (updO H p.a (aV (p.ga+1) (subRows p.sa (m.sk ++ zs) ++ [v]))) p.n=some (mcP m p):=by rw [obj_upd_ne h.na.symm]; exact h.hn
 let p1:Plc:={ p with ga:=p.ga+1,sa:=none }
 let m1:Mc:={ m with sk:=m.sk ++ [v] }
 have r1:MR (updO (updO H p.a (aV (p.ga+1) (subRows p.sa (m.sk ++ zs) ++ [v]))) p.n (mcP m1 p1)) p1 m1:=
  ⟨obj_upd k1,.new (by rw [obj_upd_ne (show p1.a ≠ p.n from h.na)]; exact ha1),h.hb.keep (by rw [obj_upd_ne h.nb,obj_upd_ne h.ab.symm]),h.ht.keep (by rw [obj_upd_ne h.nt,obj_upd_ne h.ta.symm]),h.ab,h.na,h.nb,h.nt,h.ta,h.tb⟩
 refine ⟨_,p1,e168 _ _ _ _ ⟨msOf m p,h.hn,m.sk ++ zs,ha,and_t (decide_eq_true fr.off) (and_t fr.fit (and_t ?_ ⟨msOf m p,k1,msOf m1 p1,r1.hn,msOf m1 p1,r1.hn,rfl,rfl⟩))⟩,r1.set (pushM v m) rfl rfl rfl,?_⟩
 ·have:subLen p.sa (lenL (m.sk ++ zs))=m.sk.length:=fr.len
  show roomB (addN (subLen p.sa (lenL (m.sk ++ zs))) 1) 24=true
  rw [this]; exact roomB_t hl
 ·have g1:Goes H p (updO H p.a (aV (p.ga+1) (subRows p.sa (m.sk ++ zs) ++ [v]))) p:=⟨rfl,.upd (by simp [fp]),fun _ h=>.inl h⟩
  exact g1.trans (Goes.trans (p1:=p1) ⟨rfl,.upd (by simp [fp]),fun _ h=>.inl h⟩ .set)
def endM (o:api_Outcome) (m:Mc):Mc:={ m with st:=3,nx:=o,sk:=[],lo:=[],tr:=[] }
theorem gives170 {H:List (O U)} {p:Plc} {m:Mc} (h:MR H p m) (o:api_Outcome):
  ∃H',GivesM 170 [.ptr (.g p.n) 0,.agg [.d (.int .i64 o.gKind),.d (.sl .api_Atom o.gValue),.d (.sl .api_Crack o.gFail)]] H (.tup []) H'∧Nx H p.n (fp p) H' (endM o m):=by
 let m1:Mc:={ m with st:=3 }
 let m2:Mc:={ m with st:=3,nx:=o }
 have k1:=obj_upd (o:=mcP m1 p) h.hn
 have k2:=obj_upd (o:=mcP m2 p) k1
 have k3:=obj_upd (o:=mcO m2 (.d .nils) (.asl (.g p.b) p.gb p.sb false) (.asl (.g p.t) p.gt p.su false)) k2
 have k4:=obj_upd (o:=mcO m2 (.d .nils) (.d .nils) (.asl (.g p.t) p.gt p.su false)) k3
 have k5:=obj_upd (o:=mcO m2 (.d .nils) (.d .nils) (.d .nils)) k4
 refine ⟨_,e170 _ _ _ _ ⟨msOf m p,h.hn,msOf m1 p,k1,msOf m2 p,k2,msOf m2 p,k3,msOf m2 p,k4,rfl,rfl⟩,[p.n],.inr ⟨rfl,k5,rfl,rfl,rfl,rfl⟩,?_,fun j hj=>.inl ?_⟩
 ·simp only [upd2]
  exact .upd (by simp [fp])
 ·rw [List.mem_singleton.1 hj]; simp [fp]
def popM (n:Nat) (m:Mc):Mc:={ m with sk:=m.sk.take (m.sk.length - n) }
theorem gives235 {H:List (O U)} {p:Plc} {m:Mc} (h:MR H p m) {n:Nat} (hn:n≤m.sk.length) (hl:m.sk.length * 24≤140737488355328):
  ∃H',GivesM 235 [.ptr (.g p.n) 0,.d (.int .i64 n)] H (.d (.sl .sl_api_Atom (m.sk.drop (m.sk.length - n)))) H'∧MR H' { p with sa:=some (0,m.sk.length - n) } (popM n m)∧Goes H p H' { p with sa:=some (0,m.sk.length - n) }:=by
 obtain ⟨zs,ha,fr⟩:=h.ha
 have hlen:subLen p.sa (lenL (m.sk ++ zs))=m.sk.length:=fr.len
 have hs:subW .i64 (intN (subLen p.sa (lenL (m.sk ++ zs)))) n=((m.sk.length - n:Nat):Int):=by
  rw [hlen,intN_eq,subW_id (by omega) (by omega)]; omega
 have nat:∀k:Nat,natI (k:Int)=k:=fun k=>by simp [natI]
 let p1:Plc:={ p with sa:=some (0,m.sk.length - n) }
 have hd:=piece104 (H:=H) (a:=p.a) (g:=p.ga) (u:=m.sk.length - n) (k:=n) (ys:=m.sk ++ zs) (r:=m.sk.drop (m.sk.length - n)) (by
  rw [List.drop_append_of_le_length (by omega),List.take_append_of_le_length (by simp; omega),List.take_of_length_le (by simp; omega)]) ha (by simp; omega) (by omega)
 have hin:andB (leI 0 (subW .i64 (intN (subLen p.sa (lenL (m.sk ++ zs)))) n)) (andB (leI (subW .i64 (intN (subLen p.sa (lenL (m.sk ++ zs)))) n) (intN (subLen p.sa (lenL (m.sk ++ zs))))) (andB (leI (intN (subLen p.sa (lenL (m.sk ++ zs)))) (intN (subLen p.sa (lenL (m.sk ++ zs))))) (subFit p.sa (lenL (m.sk ++ zs)))))=true:=by
  rw [hs,hlen]
  exact and2 (decide_eq_true (by omega)) (and2 (decide_eq_true (by rw [intN_eq]; omega)) (and2 (decide_eq_true (Int.le_refl _)) fr.fit))
 have hin2:andB (leI 0 0) (andB (leI 0 (subW .i64 (intN (subLen p.sa (lenL (m.sk ++ zs)))) n)) (andB (leI (subW .i64 (intN (subLen p.sa (lenL (m.sk ++ zs)))) n) (intN (subLen p.sa (lenL (m.sk ++ zs))))) (subFit p.sa (lenL (m.sk ++ zs)))))=true:=by
  rw [hs,hlen]
  exact and2 rfl (and2 (decide_eq_true (by omega)) (and2 (decide_eq_true (by rw [intN_eq]; omega)) fr.fit))
 have he:some (addN (subOff p.sa) (natI (subW .i64 (intN (subLen p.sa (lenL (m.sk ++ zs)))) n)),subN (natI (intN (subLen p.sa (lenL (m.sk ++ zs))))) (natI (subW .i64 (intN (subLen p.sa (lenL (m.sk ++ zs)))) n)))=some (m.sk.length - n,n):=by
  rw [hs,hlen,fr.off,intN_eq,nat,nat]
  simp only [addN,subN,Option.some.injEq,Prod.mk.injEq]; omega
 have he2:some (subOff p.sa,natI (subW .i64 (intN (subLen p.sa (lenL (m.sk ++ zs)))) n))=some (0,m.sk.length - n):=by rw [hs,fr.off,nat]
 refine ⟨updO H p.n (mcP (popM n m) p1),e235 _ _ _ _ ⟨msOf m p,h.hn,m.sk ++ zs,ha,msOf m p,h.hn,m.sk ++ zs,ha,and_t hin ⟨_,H,?_,msOf m p,h.hn,m.sk ++ zs,ha,and_t hin2 ⟨msOf m p,h.hn,rfl,?_⟩⟩⟩,?_,⟨rfl,.upd (by simp [fp]),fun _ h=>.inl h⟩⟩
 ·show GivesM 104 [C.asl (Rf.g p.a) p.ga (some (addN (subOff p.sa) (natI (subW .i64 (intN (subLen p.sa (lenL (m.sk ++ zs)))) n)),subN (natI (intN (subLen p.sa (lenL (m.sk ++ zs))))) (natI (subW .i64 (intN (subLen p.sa (lenL (m.sk ++ zs)))) n)))) false] H _ H
  rw [he]; exact hd.2
 ·show updO H p.n (mcO m (C.asl (Rf.g p.a) p.ga (some (subOff p.sa,natI (subW .i64 (intN (subLen p.sa (lenL (m.sk ++ zs)))) n))) false) _ _)=_
  rw [he2]; rfl
 ·refine ⟨obj_upd h.hn,⟨m.sk.drop (m.sk.length - n) ++ zs,?_,?_⟩,h.hb.keep (obj_upd_ne h.nb),h.ht.keep (obj_upd_ne h.nt),h.ab,h.na,h.nb,h.nt,h.ta,h.tb⟩
  ·rw [obj_upd_ne (show p1.a ≠ p.n from h.na)]
   show obj H p.a=some (aV p.ga (m.sk.take (m.sk.length - n) ++ (m.sk.drop (m.sk.length - n) ++ zs)))
   rw [←List.append_assoc,List.take_append_drop]; exact ha
  ·exact .inr (by simp [p1,popM])
abbrev outC' (o:api_Outcome):C U:=.agg [.d (.int .i64 o.gKind),.d (.sl .api_Atom o.gValue),.d (.sl .api_Crack o.gFail)]
def SmO (o:api_Outcome):Prop:=o.gValue.length * 40≤140737488355328∧o.gFail.length * 32≤140737488355328
theorem clone85 (v:List api_Atom) (hl:v.length * 40≤140737488355328):Gives 85 [.d (.sl .api_Atom v)] (.d (.sl .api_Atom v)):=by
 refine e85 _ _ ⟨and_t (roomB_t (by simpa [addN,lenL,nilL] using hl)) ⟨rfl,rfl⟩,ite_w (fun h=>?_) (fun _=>trivial)⟩
 cases v with
 | nil=>exact ⟨rfl,rfl⟩
 | cons _ _=>cases h
theorem clone86 (v:List api_Crack) (hl:v.length * 32≤140737488355328):Gives 86 [.d (.sl .api_Crack v)] (.d (.sl .api_Crack v)):=by
 refine e86 _ _ ⟨and_t (roomB_t (by simpa [addN,lenL,nilL] using hl)) ⟨rfl,rfl⟩,ite_w (fun h=>?_) (fun _=>trivial)⟩
 cases v with
 | nil=>exact ⟨rfl,rfl⟩
 | cons _ _=>cases h
theorem gives101 (o:api_Outcome) (h:SmO o):Gives 101 [outC' o] (outC' o):=e101 o _ ⟨_,clone85 _ h.1,_,clone86 _ h.2,rfl,rfl⟩
def failM (f:List api_Crack) (m:Mc):Mc:=match m.tr.getLast? with
 | none=>endM ⟨2,[],f⟩ m
 | some t=>{ m with tr:=m.tr.dropLast,pc:=t.gAt,sk:=t.gStack,lo:=t.gKept }
structure SmM (m:Mc):Prop where
 sk:m.sk.length≤2000
 lo:m.lo.length≤2000
 tr:m.tr.length≤2000
 trs:∀t∈m.tr,t.gStack.length≤2000∧t.gKept.length≤2000
theorem gives169 {H:List (O U)} {p:Plc} {m:Mc} (h:MR H p m) (sm:SmM m) (f:List api_Crack):
  ∃H',GivesM 169 [.ptr (.g p.n) 0,.d (.sl .api_Crack f)] H (.tup []) H'∧Nx H p.n (fp p) H' (failM f m):=by
 obtain ⟨zs,ht,fr⟩:=h.ht
 have hlen:subLen p.su (lenL (m.tr ++ zs))=m.tr.length:=fr.len
 rcases List.eq_nil_or_concat m.tr with e|⟨ts,t,e⟩
 ·obtain ⟨H',g,nx⟩:=gives170 h ⟨2,[],f⟩
  have em:failM f m=endM ⟨2,[],f⟩ m:=by unfold failM; rw [e]; rfl
  rw [em]
  refine ⟨H',e169m _ _ _ _ ⟨msOf m p,h.hn,m.tr ++ zs,ht,ite_t ?_ ⟨(),H',g,rfl,rfl⟩⟩,nx⟩
  show ltI (subW .i64 (intN (subLen p.su (lenL (m.tr ++ zs)))) 1) 0=true
  rw [hlen,e]; decide
 ·rw [List.concat_eq_append] at e
  have sl:=sm.tr; rw [e] at sl; simp at sl
  obtain ⟨s1,s2⟩:=sm.trs t (by rw [e]; simp)
  have hs:subW .i64 (intN (subLen p.su (lenL (m.tr ++ zs)))) 1=(ts.length:Int):=by
   rw [hlen,e,intN_eq,subW_id (by simp) (by simp; omega)]; simp
  have nat:natI (ts.length:Int)=ts.length:=by simp [natI]
  have hidx:addN (subOff p.su) (natI (subW .i64 (intN (subLen p.su (lenL (m.tr ++ zs)))) 1))=ts.length:=by rw [hs,fr.off,nat]; simp [addN]
  have hel:rdN (machine_catch.mk 0 [] []) (m.tr ++ zs) (addN (subOff p.su) (natI (subW .i64 (intN (subLen p.su (lenL (m.tr ++ zs)))) 1)))=t:=by
   rw [hidx,e]; simp [rdN,List.getD_eq_getElem?_getD]
  let m1:Mc:={ m with tr:=ts }
  let p1:Plc:={ p with su:=some (0,ts.length) }
  have he2:some (subOff p.su,natI (subW .i64 (intN (subLen p.su (lenL (m.tr ++ zs)))) 1))=some (0,ts.length):=by rw [hs,fr.off,nat]
  have k1:obj (updO H p.n (mcP m1 p1)) p.n=some (mcP m1 p1):=obj_upd h.hn
  let H1:=updO H p.n (mcP m1 p1)
  have l1:lenO H1=lenO H:=len_upd
  let H2:=pushO H1 (aV 0 t.gStack)
  have l2:lenO H2=lenO H+1:=by show lenO (pushO H1 _)=_; rw [len_push,l1]
  let H3:=pushO H2 (aV 0 t.gKept)
  have l3:lenO H3=lenO H+2:=by show lenO (pushO H2 _)=_; rw [len_push,l2]
  have hnl:=obj_len h.hn
  have q3:∀j,j<lenO H→obj H3 j=obj H1 j:=fun j hj=>by
   show obj (pushO H2 _) j=_
   rw [obj_push_lt (by omega)]
   exact obj_push_lt (by omega)
  have k3:obj H3 p.n=some (mcP m1 p1):=by rw [q3 _ hnl]; exact k1
  have a3:obj H3 (lenO H1)=some (aV 0 t.gStack):=by
   show obj (pushO H2 _) _=_
   rw [obj_push_lt (by omega)]; exact obj_push
  have b3:obj H3 (lenO H2)=some (aV 0 t.gKept):=obj_push
  let m2:Mc:={ m1 with pc:=t.gAt }
  let p2:Plc:={ p1 with a:=lenO H1,ga:=0,sa:=none }
  let p3:Plc:={ p2 with b:=lenO H2,gb:=0,sb:=none }
  have k4:=obj_upd (o:=mcP m2 p1) k3
  have k5:=obj_upd (o:=mcP m2 p2) k4
  have em:failM f m={ m with tr:=ts,pc:=t.gAt,sk:=t.gStack,lo:=t.gKept }:=by unfold failM; rw [e]; simp
  have d1:GivesM 104 [.d (.sl .sl_api_Atom t.gStack)] H1 (.asl (.g (lenO H1)) 0 none false) H2:=data104 (by omega)
  have d2:GivesM 104 [.d (.sl .sl_api_Atom t.gKept)] H2 (.asl (.g (lenO H2)) 0 none false) H3:=data104 (by omega)
  have hin2:andB (leI 0 0) (andB (leI 0 (subW .i64 (intN (subLen p.su (lenL (m.tr ++ zs)))) 1)) (andB (leI (subW .i64 (intN (subLen p.su (lenL (m.tr ++ zs)))) 1) (intN (subLen p.su (lenL (m.tr ++ zs))))) (subFit p.su (lenL (m.tr ++ zs)))))=true:=by
   rw [hs,hlen]
   exact and2 rfl (and2 (decide_eq_true (by omega)) (and2 (decide_eq_true (by rw [intN_eq,e]; simp; omega)) fr.fit))
  refine ⟨updO (updO (updO H3 p.n (mcP m2 p1)) p.n (mcP m2 p2)) p.n (mcP m2 p3),e169m _ _ _ _ ⟨msOf m p,h.hn,m.tr ++ zs,ht,ite_f ?_ ⟨msOf m p,h.hn,m.tr ++ zs,ht,and_t ?_ (and_t fr.fit ⟨m.tr ++ zs,ht,and_t ?_ ⟨msOf m p,h.hn,m.tr ++ zs,ht,and_t hin2 ⟨msOf m p,h.hn,lenO H1,H2,?_,lenO H2,H3,?_,msOf m1 p1,k3,msOf m2 p1,?_,msOf m2 p2,?_,rfl,?_⟩⟩⟩)⟩⟩,?_⟩
  ·show ltI (subW .i64 (intN (subLen p.su (lenL (m.tr ++ zs)))) 1) 0=false
   rw [hs]; exact decide_eq_false (by omega)
  ·show inB (subW .i64 (intN (subLen p.su (lenL (m.tr ++ zs)))) 1) (subLen p.su (lenL (m.tr ++ zs)))=true
   rw [hs,hlen,e]
   exact in_len (l:=ts ++ [t]) (by simp)
  ·show ltN (addN (subOff p.su) (natI (subW .i64 (intN (subLen p.su (lenL (m.tr ++ zs)))) 1))) (lenL (m.tr ++ zs))=true
   rw [hidx]
   exact decide_eq_true (by rw [lenL_eq,e]; simp)
  ·show GivesM 104 [C.d (D.sl Ty.sl_api_Atom (rdN (machine_catch.mk 0 [] []) (m.tr ++ zs) (addN (subOff p.su) (natI (subW .i64 (intN (subLen p.su (lenL (m.tr ++ zs)))) 1)))).2)] (updO H p.n (mcO m (.asl (.g p.a) p.ga p.sa false) (.asl (.g p.b) p.gb p.sb false) (.asl (.g p.t) p.gt (some (subOff p.su,natI (subW .i64 (intN (subLen p.su (lenL (m.tr ++ zs)))) 1))) false))) _ _
   rw [hel,he2]; exact d1
  ·show GivesM 104 [C.d (D.sl Ty.sl_api_Atom (rdN (machine_catch.mk 0 [] []) (m.tr ++ zs) (addN (subOff p.su) (natI (subW .i64 (intN (subLen p.su (lenL (m.tr ++ zs)))) 1)))).3)] _ _ _
   rw [hel]; exact d2
  ·show obj (updO H3 p.n (mcP { m1 with pc:=(rdN (machine_catch.mk 0 [] []) (m.tr ++ zs) (addN (subOff p.su) (natI (subW .i64 (intN (subLen p.su (lenL (m.tr ++ zs)))) 1)))).1 } p1)) p.n=_
   rw [hel]; exact k4
  ·show obj (updO (updO H3 p.n (mcP { m1 with pc:=(rdN (machine_catch.mk 0 [] []) (m.tr ++ zs) (addN (subOff p.su) (natI (subW .i64 (intN (subLen p.su (lenL (m.tr ++ zs)))) 1)))).1 } p1)) p.n (mcP m2 p2)) p.n=_
   rw [hel]; exact k5
  ·show updO (updO (updO H3 p.n (mcP { m1 with pc:=(rdN (machine_catch.mk 0 [] []) (m.tr ++ zs) (addN (subOff p.su) (natI (subW .i64 (intN (subLen p.su (lenL (m.tr ++ zs)))) 1)))).1 } p1)) p.n (mcP m2 p2)) p.n (mcP m2 p3)=_
   rw [hel]
  ·rw [em]
   simp only [upd2]
   have f1:Fm (fp p) H H3:=(Fm.trans (.upd (by simp [fp])) (Fm.trans .push .push (F:=fp p) (F':=fp p) fun j hj=>.inl hj) fun j hj=>.inl hj)
   refine Nx.of (p':=p3) ⟨rfl,f1.trans (.upd (F:=fp p) (by simp [fp])) fun j hj=>.inl hj,fun j hj=>?_⟩ ?_
   ·simp only [fp,List.mem_cons,List.not_mem_nil,or_false] at hj
    rcases hj with rfl|rfl|rfl|rfl
    ·exact .inl (by simp [fp,p3,p2,p1])
    ·right; show lenO H≤lenO H1; omega
    ·right; show lenO H≤lenO H2; omega
    ·exact .inl (by simp [fp,p3,p2,p1])
   ·have tl:=obj_len ht
    have q1:∀j,j ≠ p.n→obj (updO H3 p.n (mcP m2 p3)) j=obj H3 j:=fun j hj=>obj_upd_ne hj
    refine ⟨obj_upd k3,.new ?_,.new ?_,⟨t :: zs,?_,.inr rfl⟩,?_,?_,?_,h.nt,?_,?_⟩
    ·rw [q1 _ (show lenO H1 ≠ p.n by omega)]; exact a3
    ·rw [q1 _ (show lenO H2 ≠ p.n by omega)]; exact b3
    ·rw [q1 _ h.nt,q3 _ tl]
     show obj (updO H p.n _) p.t=_
     rw [obj_upd_ne h.nt,ht,e]
     exact congrArg (fun l:List machine_catch=>(some (aC p.gt l):Option (O U))) (by simp)
    ·show lenO H1 ≠ lenO H2; omega
    ·show lenO H1 ≠ p.n; omega
    ·show lenO H2 ≠ p.n; omega
    ·show lenO H1 ≠ p.t; omega
    ·show lenO H2 ≠ p.t; omega
noncomputable def misM (k:Int) (m:Mc):Mc:=failM [⟨3,0,wordF k⟩] m
theorem gives236 {H:List (O U)} {p:Plc} {m:Mc} (h:MR H p m) (sm:SmM m) (k:Int):
  ∃H',GivesM 236 [.ptr (.g p.n) 0,.d (.int .i64 k)] H (.tup []) H'∧Nx H p.n (fp p) H' (misM k m):=by
 obtain ⟨H',g,nx⟩:=gives169 h sm [⟨3,0,wordF k⟩]
 exact ⟨H',e236 _ _ _ _ ⟨_,gives224' k,(),H',g,rfl,rfl⟩,nx⟩
theorem SmM.pop {m:Mc} (s:SmM m) (n:Nat):SmM (popM n m):=⟨by have:=s.sk; simp [popM]; omega,s.lo,s.tr,s.trs⟩
noncomputable def reckM (k:Int) (n:Nat) (m:Mc):Mc:=match doV k (m.sk.drop (m.sk.length - n)) with
 | some v=>pushM v (popM n m)
 | none=>misM k (popM n m)
theorem gives171 {H:List (O U)} {p:Plc} {m:Mc} (h:MR H p m) (sm:SmM m) {k:Int} (h1:5≤k) (h2:k≤13) {n:Nat} (hn:n≤m.sk.length):
  ∃H',GivesM 171 [.ptr (.g p.n) 0,.d (.int .i64 k),.d (.int .i64 n)] H (.tup []) H'∧Nx H p.n (fp p) H' (reckM k n m):=by
 obtain ⟨H1,g1,r1,go1⟩:=gives235 h hn (by have:=sm.sk; omega)
 obtain ⟨v,ok,e,g2,hd,he⟩:=gives212 h1 h2 (m.sk.drop (m.sk.length - n))
 have sm1:=sm.pop n
 cases ok with
 | false=>
  obtain ⟨H2,g3,nx⟩:=gives236 r1 sm1 k
  have em:reckM k n m=misM k (popM n m):=by unfold reckM; rw [hd]; rfl
  rw [em]
  exact ⟨H2,e171 _ _ _ _ _ ⟨_,H1,g1,(v,false,e),g2,true,rfl,(),H2,g3,rfl,rfl⟩,go1.nx nx⟩
 | true=>
  have he:=he rfl
  subst he
  obtain ⟨H2,p2,g3,r2,go2⟩:=gives168 r1 v (by have:=sm1.sk; omega)
  have em:reckM k n m=pushM v (popM n m):=by unfold reckM; rw [hd]; rfl
  rw [em]
  exact ⟨H2,e171 _ _ _ _ _ ⟨_,H1,g1,(v,true,0),g2,false,rfl,(),H2,g3,rfl,rfl⟩,go1.nx (.of go2 r2)⟩
def wholeF (v:List api_Atom):api_Atom:=(v.getLast?).getD ⟨0,0,0,bs []⟩
theorem gives237 (v:List api_Atom) (hv:v ≠ []) (hl:v.length≤1024):Gives 237 [.d (.sl .api_Atom v)] (.agg [.d (.int .i64 (wholeF v).gKind),.d (.int .i64 (wholeF v).gN),.d (.int .i64 (wholeF v).gInt),.d (.str (wholeF v).gText)]):=by
 rcases List.eq_nil_or_concat v with rfl|⟨l,a,rfl⟩
 ·exact absurd rfl hv
 ·rw [List.concat_eq_append] at hl ⊢
  have hs:subW .i64 (intN (lenL (l ++ [a]))) 1=(l.length:Int):=by
   rw [intN_eq,lenL_eq,subW_id (by simp) (by simp at hl ⊢; omega)]; simp
  have hr:rd (api_Atom.mk 0 0 0 (bs [])) (l ++ [a]) (l.length:Int)=a:=by rw [rd_at (by simp)]; simp
  have hw:wholeF (l ++ [a])=a:=by simp [wholeF]
  rw [hw]
  refine e237 _ _ ?_
  rw [hs]
  simp only [hr]
  exact and_t (in_len (by simp)) ⟨rfl,rfl⟩
abbrev wholeC (v:List api_Atom):C U:=.agg [.d (.int .i64 (wholeF v).gKind),.d (.int .i64 (wholeF v).gN),.d (.int .i64 (wholeF v).gInt),.d (.str (wholeF v).gText)]
theorem whole_eq {v w:List api_Atom} (e:w=v) (h:Gives 237 [.d (.sl .api_Atom v)] (wholeC v)):Gives 237 [.d (.sl .api_Atom w)] (wholeC v):=by subst e; exact h
noncomputable def raiseM (op:Int) (m:Mc):Mc:=
 if (wholeF (m.sk.getLast?.getD [])).gKind ≠ 2 then misM (if op=14 then 17 else 16) (popM 1 m)
 else if op=13 then failM [⟨1,0,(wholeF (m.sk.getLast?.getD [])).gText⟩] (popM 1 m)
 else endM ⟨3,[],[⟨2,0,(wholeF (m.sk.getLast?.getD [])).gText⟩]⟩ (popM 1 m)
def Vals (l:List (List api_Atom)):Prop:=∀v∈l,valE v=0
theorem valE_len {v:List api_Atom} (h:valE v=0):v.length≤1024:=by
 unfold valE at h
 split at h
 ·cases h
 ·omega
theorem last_drop {m:Mc} (hn:1≤m.sk.length):∃v,m.sk.getLast?=some v∧m.sk.drop (m.sk.length - 1)=[v]∧v∈m.sk:=by
 rcases List.eq_nil_or_concat m.sk with e|⟨l,v,e⟩
 ·rw [e] at hn; simp at hn
 ·rw [List.concat_eq_append] at e
  exact ⟨v,by rw [e]; simp,by rw [e]; simp,by rw [e]; simp⟩
theorem gives172 {H:List (O U)} {p:Plc} {m:Mc} (h:MR H p m) (sm:SmM m) (hv:Vals m.sk) {op:Int} (ho:op=13∨op=14) (hn:1≤m.sk.length):
  ∃H',GivesM 172 [.ptr (.g p.n) 0,.d (.int .i64 op)] H (.tup []) H'∧Nx H p.n (fp p) H' (raiseM op m):=by
 obtain ⟨H1,g1,r1,go1⟩:=gives235 h hn (by have:=sm.sk; omega)
 obtain ⟨v,e1,e2,e3⟩:=last_drop hn
 have hvv:=hv v e3
 have sm1:=sm.pop 1
 have g2:=gives237 v (valE_ne hvv) (valE_len hvv)
 have em:m.sk.getLast?.getD []=v:=by rw [e1]; rfl
 have hr:rd ([]:List api_Atom) (m.sk.drop (m.sk.length - 1)) 0=v:=by rw [e2]; rfl
 have hin:inB 0 (lenL (m.sk.drop (m.sk.length - 1)))=true:=by rw [e2]; rfl
 have g2':=whole_eq hr g2
 have start:∀{post:Post},(iteP (eqI op 14) (iteP (notB (eqI (wholeF v).1 2)) (∃(x:Unit),∃(y_1:List (O U)),(GivesM 236 [C.ptr (Rf.g p.n) 0,C.d (D.int .i64 17)] H1 (C.tup []) y_1)∧post (C.tup []) y_1) (iteP (eqI op 13) (∃(x:Unit),∃(y_1:List (O U)),(GivesM 169 [C.ptr (Rf.g p.n) 0,C.d (D.sl Ty.api_Crack [api_Crack.mk 1 0 (wholeF v).4])] H1 (C.tup []) y_1)∧post (C.tup []) y_1) (∃(x:Unit),∃(y_1:List (O U)),(GivesM 170 [C.ptr (Rf.g p.n) 0,C.agg [C.d (D.int .i64 3),C.d (D.sl Ty.api_Atom (nilL api_Atom)),C.d (D.sl Ty.api_Crack [api_Crack.mk 2 0 (wholeF v).4])]] H1 (C.tup []) y_1)∧post (C.tup []) y_1)))
   (iteP (notB (eqI (wholeF v).1 2)) (∃(x:Unit),∃(y_1:List (O U)),(GivesM 236 [C.ptr (Rf.g p.n) 0,C.d (D.int .i64 16)] H1 (C.tup []) y_1)∧post (C.tup []) y_1) (iteP (eqI op 13) (∃(x:Unit),∃(y_1:List (O U)),(GivesM 169 [C.ptr (Rf.g p.n) 0,C.d (D.sl Ty.api_Crack [api_Crack.mk 1 0 (wholeF v).4])] H1 (C.tup []) y_1)∧post (C.tup []) y_1) (∃(x:Unit),∃(y_1:List (O U)),(GivesM 170 [C.ptr (Rf.g p.n) 0,C.agg [C.d (D.int .i64 3),C.d (D.sl Ty.api_Atom (nilL api_Atom)),C.d (D.sl Ty.api_Crack [api_Crack.mk 2 0 (wholeF v).4])]] H1 (C.tup []) y_1)∧post (C.tup []) y_1))))→Runs K 172 [.ptr (.g p.n) 0,.d (.int .i64 op)] H post:=by
  intro post hh
  exact e172 _ _ _ _ ⟨_,H1,g1,and_t hin ⟨wholeF v,g2',hh⟩⟩
 unfold raiseM
 rw [em]
 by_cases hk:(wholeF v).gKind ≠ 2
 ·rw [if_pos hk]
  have hb:notB (eqI (wholeF v).1 2)=true:=notB_t.2 (eqI_f.2 hk)
  rcases ho with rfl|rfl
  ·obtain ⟨H2,g3,nx⟩:=gives236 r1 sm1 16
   exact ⟨H2,start (ite_f rfl (ite_t hb ⟨(),H2,g3,rfl,rfl⟩)),go1.nx nx⟩
  ·obtain ⟨H2,g3,nx⟩:=gives236 r1 sm1 17
   exact ⟨H2,start (ite_t rfl (ite_t hb ⟨(),H2,g3,rfl,rfl⟩)),go1.nx nx⟩
 ·rw [if_neg hk]
  have hb:notB (eqI (wholeF v).1 2)=false:=notB_f.2 (eqI_t.2 (by simpa using hk))
  rcases ho with rfl|rfl
  ·obtain ⟨H2,g3,nx⟩:=gives169 r1 sm1 [⟨1,0,(wholeF v).gText⟩]
   exact ⟨H2,start (ite_f rfl (ite_f hb (ite_t rfl ⟨(),H2,g3,rfl,rfl⟩))),go1.nx nx⟩
  ·obtain ⟨H2,g3,nx⟩:=gives170 r1 ⟨3,[],[⟨2,0,(wholeF v).gText⟩]⟩
   exact ⟨H2,start (ite_t rfl (ite_f hb (ite_f rfl ⟨(),H2,g3,rfl,rfl⟩))),go1.nx nx⟩
def topV (m:Mc):List api_Atom:=m.sk.getLast?.getD []
def keepM (m:Mc):Mc:={ m with sk:=m.sk.take (m.sk.length - 1),lo:=m.lo ++ [topV m],pc:=addW .i64 m.pc 1 }
def leaveM (m:Mc):Mc:={ m with lo:=m.lo.dropLast,pc:=addW .i64 m.pc 1 }
noncomputable def elseM (a:Int) (m:Mc):Mc:=
 if (wholeF (topV m)).gKind ≠ 1 then misM 14 (popM 1 m)
 else if (wholeF (topV m)).gInt=0 then { popM 1 m with pc:=a } else { popM 1 m with pc:=addW .i64 m.pc 1 }
def goM (a:Int) (m:Mc):Mc:={ m with pc:=a }
def tryM (a:Int) (m:Mc):Mc:={ m with tr:=m.tr ++ [⟨a,m.sk,m.lo⟩],pc:=addW .i64 m.pc 1 }
def doneM (m:Mc):Mc:={ m with tr:=m.tr.dropLast,pc:=addW .i64 m.pc 1 }
def nextM (m:Mc):Mc:={ m with pc:=addW .i64 m.pc 1 }
section
variable {H:List (O U)} {p:Plc} {m:Mc}
theorem ctl5 (h:MR H p m) (sm:SmM m) (hn:1≤m.sk.length) (a:Int) (t:ByteArray):
  ∃H' p',GivesM 173 [.ptr (.g p.n) 0,inC ⟨5,a,t⟩] H (.tup []) H'∧MR H' p' (keepM m)∧Goes H p H' p':=by
 obtain ⟨H1,g1,r1,go1⟩:=gives235 h hn (by have:=sm.sk; omega)
 obtain ⟨v,e1,e2,e3⟩:=last_drop hn
 have et:topV m=v:=by unfold topV; rw [e1]; rfl
 have hr:rd ([]:List api_Atom) (m.sk.drop (m.sk.length - 1)) 0=v:=by rw [e2]; rfl
 have hin:inB 0 (lenL (m.sk.drop (m.sk.length - 1)))=true:=by rw [e2]; rfl
 let p1:Plc:={ p with sa:=some (0,m.sk.length - 1) }
 obtain ⟨zs,hb,fr⟩:ArV H1 p.b p.gb p.sb m.lo:=r1.hb
 have hb1:obj (updO H1 p.b (aV (p.gb+1) (subRows p.sb (m.lo ++ zs) ++ [rd ([]:List api_Atom) (m.sk.drop (m.sk.length - 1)) 0]))) p.b=some (aV (p.gb+1) (m.lo ++ [v])):=by rw [obj_upd hb,fr.rows,hr]
 have k1:obj (updO H1 p.b (aV (p.gb+1) (subRows p.sb (m.lo ++ zs) ++ [rd ([]:List api_Atom) (m.sk.drop (m.sk.length - 1)) 0]))) p.n=some (mcP (popM 1 m) p1):=by rw [obj_upd_ne r1.nb.symm]; exact r1.hn
 let p2:Plc:={ p1 with gb:=p.gb+1,sb:=none }
 let m2:Mc:={ popM 1 m with lo:=m.lo ++ [v] }
 have r2:MR (updO (updO H1 p.b (aV (p.gb+1) (subRows p.sb (m.lo ++ zs) ++ [rd ([]:List api_Atom) (m.sk.drop (m.sk.length - 1)) 0]))) p.n (mcP m2 p2)) p2 m2:=
  ⟨obj_upd k1,r1.ha.keep (by rw [obj_upd_ne r1.na,obj_upd_ne r1.ab]),.new (by rw [obj_upd_ne (show p2.b ≠ p.n from h.nb)]; exact hb1),r1.ht.keep (by rw [obj_upd_ne r1.nt,obj_upd_ne r1.tb.symm]),h.ab,h.na,h.nb,h.nt,h.ta,h.tb⟩
 refine ⟨_,p2,e173 _ _ _ _ (ite_t rfl ⟨msOf m p,h.hn,_,H1,g1,⟨msOf m p,msOf (popM 1 m) p1,h.hn,r1.hn,rfl⟩,and_t hin ⟨m.lo ++ zs,hb,and_t (decide_eq_true fr.off) (and_t fr.fit (and_t ?_ ⟨msOf (popM 1 m) p1,k1,msOf m2 p2,r2.hn,msOf m2 p2,r2.hn,rfl,rfl⟩))⟩⟩),?_,?_⟩
 ·have:subLen p.sb (lenL (m.lo ++ zs))=m.lo.length:=fr.len
  show roomB (addN (subLen p.sb (lenL (m.lo ++ zs))) 1) 24=true
  rw [this]; exact roomB_t (by show (m.lo.length+1) * 24≤_; have:=sm.lo; omega)
 ·have:=r2.set (keepM m) rfl (by show m.lo ++ [topV m]=m.lo ++ [v]; rw [et]) rfl
  exact this
 ·refine go1.trans ?_
  have g2:Goes H1 p1 (updO H1 p.b (aV (p.gb+1) (subRows p.sb (m.lo ++ zs) ++ [rd ([]:List api_Atom) (m.sk.drop (m.sk.length - 1)) 0]))) p1:=⟨rfl,.upd (by simp [fp,p1]),fun _ h=>.inl h⟩
  exact g2.trans (Goes.trans (p1:=p2) ⟨rfl,.upd (by simp [fp,p1]),fun _ h=>.inl h⟩ .set)
theorem cut_last {α:Type} {s:Option (Nat×Nat)} {l zs:List α} (fr:Front s l zs) (hn:1≤l.length) (hl:l.length≤2000):
  subW .i64 (intN (subLen s (lenL (l ++ zs)))) 1=((l.length - 1:Nat):Int)∧
  andB (leI 0 0) (andB (leI 0 (subW .i64 (intN (subLen s (lenL (l ++ zs)))) 1)) (andB (leI (subW .i64 (intN (subLen s (lenL (l ++ zs)))) 1) (intN (subLen s (lenL (l ++ zs))))) (subFit s (lenL (l ++ zs)))))=true∧
  some (subOff s,natI (subW .i64 (intN (subLen s (lenL (l ++ zs)))) 1))=some (0,l.length - 1):=by
 have hlen:subLen s (lenL (l ++ zs))=l.length:=fr.len
 have hs:subW .i64 (intN (subLen s (lenL (l ++ zs)))) 1=((l.length - 1:Nat):Int):=by
  rw [hlen,intN_eq,subW_id (by omega) (by omega)]; omega
 refine ⟨hs,?_,?_⟩
 ·rw [hs,hlen]
  exact and2 rfl (and2 (decide_eq_true (by omega)) (and2 (decide_eq_true (by rw [intN_eq]; omega)) fr.fit))
 ·rw [hs,fr.off]; simp [natI]
theorem ctl6 (h:MR H p m) (sm:SmM m) (hn:1≤m.lo.length) (a:Int) (t:ByteArray):
  ∃H' p',GivesM 173 [.ptr (.g p.n) 0,inC ⟨6,a,t⟩] H (.tup []) H'∧MR H' p' (leaveM m)∧Goes H p H' p':=by
 obtain ⟨zs,hb,fr⟩:=h.hb
 obtain ⟨c1,c2,c3⟩:=cut_last fr hn sm.lo
 let p1:Plc:={ p with sb:=some (subOff p.sb,natI (subW .i64 (intN (subLen p.sb (lenL (m.lo ++ zs)))) 1)) }
 let m1:Mc:={ m with lo:=m.lo.dropLast }
 have r1:MR (updO H p.n (mcP m1 p1)) p1 m1:=by
  refine ⟨obj_upd h.hn,h.ha.keep (obj_upd_ne h.na),⟨m.lo.drop (m.lo.length - 1) ++ zs,?_,?_⟩,h.ht.keep (obj_upd_ne h.nt),h.ab,h.na,h.nb,h.nt,h.ta,h.tb⟩
  ·rw [obj_upd_ne (show p1.b ≠ p.n from h.nb)]
   show obj H p.b=some (aV p.gb (m.lo.dropLast ++ (m.lo.drop (m.lo.length - 1) ++ zs)))
   rw [List.dropLast_eq_take,←List.append_assoc,List.take_append_drop]; exact hb
  ·right
   show some (subOff p.sb,natI (subW .i64 (intN (subLen p.sb (lenL (m.lo ++ zs)))) 1))=_
   rw [c3]; simp [m1]
 exact ⟨_,p1,e173 _ _ _ _ (ite_f rfl (ite_t rfl ⟨msOf m p,h.hn,msOf m p,h.hn,m.lo ++ zs,hb,m.lo ++ zs,hb,and_t c2 ⟨msOf m p,h.hn,msOf m1 p1,r1.hn,msOf m1 p1,r1.hn,rfl,rfl⟩⟩)),r1.set (leaveM m) rfl rfl rfl,Goes.trans (p1:=p1) ⟨rfl,.upd (by simp [fp]),fun _ h=>.inl h⟩ .set⟩
theorem ctl12 (h:MR H p m) (sm:SmM m) (hn:1≤m.tr.length) (a:Int) (t:ByteArray):
  ∃H' p',GivesM 173 [.ptr (.g p.n) 0,inC ⟨12,a,t⟩] H (.tup []) H'∧MR H' p' (doneM m)∧Goes H p H' p':=by
 obtain ⟨zs,hb,fr⟩:=h.ht
 obtain ⟨c1,c2,c3⟩:=cut_last fr hn sm.tr
 let p1:Plc:={ p with su:=some (subOff p.su,natI (subW .i64 (intN (subLen p.su (lenL (m.tr ++ zs)))) 1)) }
 let m1:Mc:={ m with tr:=m.tr.dropLast }
 have r1:MR (updO H p.n (mcP m1 p1)) p1 m1:=by
  refine ⟨obj_upd h.hn,h.ha.keep (obj_upd_ne h.na),h.hb.keep (obj_upd_ne h.nb),⟨m.tr.drop (m.tr.length - 1) ++ zs,?_,?_⟩,h.ab,h.na,h.nb,h.nt,h.ta,h.tb⟩
  ·rw [obj_upd_ne (show p1.t ≠ p.n from h.nt)]
   show obj H p.t=some (aC p.gt (m.tr.dropLast ++ (m.tr.drop (m.tr.length - 1) ++ zs)))
   rw [List.dropLast_eq_take,←List.append_assoc,List.take_append_drop]; exact hb
  ·right
   show some (subOff p.su,natI (subW .i64 (intN (subLen p.su (lenL (m.tr ++ zs)))) 1))=_
   rw [c3]; simp [m1]
 exact ⟨_,p1,e173 _ _ _ _ (ite_f rfl (ite_f rfl (ite_f rfl (ite_f rfl (ite_f rfl (ite_t rfl ⟨msOf m p,h.hn,msOf m p,h.hn,m.tr ++ zs,hb,m.tr ++ zs,hb,and_t c2 ⟨msOf m p,h.hn,msOf m1 p1,r1.hn,msOf m1 p1,r1.hn,rfl,rfl⟩⟩)))))),r1.set (doneM m) rfl rfl rfl,Goes.trans (p1:=p1) ⟨rfl,.upd (by simp [fp]),fun _ h=>.inl h⟩ .set⟩
theorem ctl10 (h:MR H p m) (a:Int) (t:ByteArray):
  ∃H' p',GivesM 173 [.ptr (.g p.n) 0,inC ⟨10,a,t⟩] H (.tup []) H'∧MR H' p' (goM a m)∧Goes H p H' p':=
 ⟨_,p,e173 _ _ _ _ (ite_f rfl (ite_f rfl (ite_f rfl (ite_t rfl ⟨msOf m p,h.hn,rfl,rfl⟩)))),h.set (goM a m) rfl rfl rfl,.set⟩
theorem ctlN (h:MR H p m) {k:Int} (hk:k ≠ 5∧k ≠ 6∧k ≠ 9∧k ≠ 10∧k ≠ 11∧k ≠ 12) (a:Int) (t:ByteArray):
  ∃H' p',GivesM 173 [.ptr (.g p.n) 0,inC ⟨k,a,t⟩] H (.tup []) H'∧MR H' p' (nextM m)∧Goes H p H' p':=by
 obtain ⟨k1,k2,k3,k4,k5,k6⟩:=hk
 exact ⟨_,p,e173 _ ⟨k,a,t⟩ _ _ (ite_f (eqI_f.2 k1) (ite_f (eqI_f.2 k2) (ite_f (eqI_f.2 k3) (ite_f (eqI_f.2 k4) (ite_f (eqI_f.2 k5) (ite_f (eqI_f.2 k6) ⟨msOf m p,h.hn,msOf m p,h.hn,rfl,rfl⟩)))))),h.set (nextM m) rfl rfl rfl,.set⟩
theorem ctl9 (h:MR H p m) (sm:SmM m) (hv:Vals m.sk) (hn:1≤m.sk.length) (a:Int) (t:ByteArray):
  ∃H',GivesM 173 [.ptr (.g p.n) 0,inC ⟨9,a,t⟩] H (.tup []) H'∧Nx H p.n (fp p) H' (elseM a m):=by
 obtain ⟨H1,g1,r1,go1⟩:=gives235 h hn (by have:=sm.sk; omega)
 obtain ⟨v,e1,e2,e3⟩:=last_drop hn
 have hvv:=hv v e3
 have sm1:=sm.pop 1
 have hr:rd ([]:List api_Atom) (m.sk.drop (m.sk.length - 1)) 0=v:=by rw [e2]; rfl
 have g2:=whole_eq hr (gives237 v (valE_ne hvv) (valE_len hvv))
 have hin:inB 0 (lenL (m.sk.drop (m.sk.length - 1)))=true:=by rw [e2]; rfl
 have et:topV m=v:=by unfold topV; rw [e1]; rfl
 let p1:Plc:={ p with sa:=some (0,m.sk.length - 1) }
 unfold elseM
 rw [et]
 by_cases hk:(wholeF v).gKind ≠ 1
 ·rw [if_pos hk]
  obtain ⟨H2,g3,nx⟩:=gives236 r1 sm1 14
  exact ⟨H2,e173 _ ⟨9,a,t⟩ _ _ (ite_f rfl (ite_f rfl (ite_t rfl ⟨_,H1,g1,and_t hin ⟨wholeF v,g2,ite_t (notB_t.2 (eqI_f.2 hk)) ⟨(),H2,g3,rfl,rfl⟩⟩⟩))),go1.nx nx⟩
 ·rw [if_neg hk]
  have hk':notB (eqI (wholeF v).1 1)=false:=notB_f.2 (eqI_t.2 (by simpa using hk))
  by_cases hz:(wholeF v).gInt=0
  ·rw [if_pos hz]
   exact ⟨_,e173 _ ⟨9,a,t⟩ _ _ (ite_f rfl (ite_f rfl (ite_t rfl ⟨_,H1,g1,and_t hin ⟨wholeF v,g2,ite_f hk' (ite_t (eqI_t.2 hz) ⟨msOf (popM 1 m) p1,r1.hn,rfl,rfl⟩)⟩⟩))),go1.nx (.of .set (r1.set { popM 1 m with pc:=a } rfl rfl rfl))⟩
  ·rw [if_neg hz]
   exact ⟨_,e173 _ ⟨9,a,t⟩ _ _ (ite_f rfl (ite_f rfl (ite_t rfl ⟨_,H1,g1,and_t hin ⟨wholeF v,g2,ite_f hk' (ite_f (eqI_f.2 hz) ⟨msOf (popM 1 m) p1,r1.hn,msOf (popM 1 m) p1,r1.hn,rfl,rfl⟩)⟩⟩))),go1.nx (.of .set (r1.set { popM 1 m with pc:=addW .i64 m.pc 1 } rfl rfl rfl))⟩
theorem ctl11 (h:MR H p m) (sm:SmM m) (a:Int) (t:ByteArray):
  ∃H' p',GivesM 173 [.ptr (.g p.n) 0,inC ⟨11,a,t⟩] H (.tup []) H'∧MR H' p' (tryM a m)∧Goes H p H' p':=by
 have d1:=(clone104 h.ha (by have:=sm.sk; omega)).2
 have d2:=(clone104 h.hb (by have:=sm.lo; omega)).2
 obtain ⟨zs,ht,fr⟩:=h.ht
 have ht1:obj (updO H p.t (aC (p.gt+1) (subRows p.su (m.tr ++ zs) ++ [⟨a,m.sk,m.lo⟩]))) p.t=some (aC (p.gt+1) (m.tr ++ [⟨a,m.sk,m.lo⟩])):=by rw [obj_upd ht,fr.rows]
 have k1:obj (updO H p.t (aC (p.gt+1) (subRows p.su (m.tr ++ zs) ++ [⟨a,m.sk,m.lo⟩]))) p.n=some (mcP m p):=by rw [obj_upd_ne h.nt.symm]; exact h.hn
 let p1:Plc:={ p with gt:=p.gt+1,su:=none }
 let m1:Mc:={ m with tr:=m.tr ++ [⟨a,m.sk,m.lo⟩] }
 have r1:MR (updO (updO H p.t (aC (p.gt+1) (subRows p.su (m.tr ++ zs) ++ [⟨a,m.sk,m.lo⟩]))) p.n (mcP m1 p1)) p1 m1:=
  ⟨obj_upd k1,h.ha.keep (by rw [obj_upd_ne h.na,obj_upd_ne h.ta]),h.hb.keep (by rw [obj_upd_ne h.nb,obj_upd_ne h.tb]),.new (by rw [obj_upd_ne (show p1.t ≠ p.n from h.nt)]; exact ht1),h.ab,h.na,h.nb,h.nt,h.ta,h.tb⟩
 refine ⟨_,p1,e173 _ _ _ _ (ite_f rfl (ite_f rfl (ite_f rfl (ite_f rfl (ite_t rfl ⟨msOf m p,h.hn,msOf m p,h.hn,msOf m p,h.hn,m.sk,H,d1,⟨msOf m p,msOf m p,h.hn,h.hn,rfl⟩,⟨msOf m p,msOf m p,h.hn,h.hn,rfl⟩,m.lo,H,d2,⟨msOf m p,msOf m p,h.hn,h.hn,rfl⟩,m.tr ++ zs,ht,and_t (decide_eq_true fr.off) (and_t fr.fit (and_t ?_ ⟨msOf m p,k1,msOf m1 p1,r1.hn,msOf m1 p1,r1.hn,rfl,rfl⟩))⟩))))),r1.set (tryM a m) rfl rfl rfl,?_⟩
 ·have:subLen p.su (lenL (m.tr ++ zs))=m.tr.length:=fr.len
  show roomB (addN (subLen p.su (lenL (m.tr ++ zs))) 1) 56=true
  rw [this]; exact roomB_t (by show (m.tr.length+1) * 56≤_; have:=sm.tr; omega)
 ·have g2:Goes H p (updO H p.t (aC (p.gt+1) (subRows p.su (m.tr ++ zs) ++ [⟨a,m.sk,m.lo⟩]))) p:=⟨rfl,.upd (by simp [fp]),fun _ h=>.inl h⟩
  exact g2.trans (Goes.trans (p1:=p1) ⟨rfl,.upd (by simp [fp]),fun _ h=>.inl h⟩ .set)
end
def TryOk (N:Nat) (T:List code_state) (t:machine_catch) (k:code_mark) (ks:List code_mark) (n:Nat):Prop:=
 (t.gStack.length:Int)=k.gHigh∧t.gKept.length=n∧Vals t.gStack∧Vals t.gKept∧Cm N T t.gAt ⟨true,k.gHigh,ks.reverse⟩
def Fits (N:Nat) (T:List code_state):List code_mark→Nat→List machine_catch→Prop
 | [],n,ts=>n=0∧ts=[]
 | k :: ks,n,ts=>
  if k.gOp=5 then ∃n',n=n'+1∧Fits N T ks n' ts
  else if k.gOp=11 then ∃t ts',ts=t :: ts'∧Fits N T ks n ts'∧TryOk N T t k ks n
  else Fits N T ks n ts
section
variable {N:Nat} {T:List code_state}
theorem fits_keeps:∀{l:List code_mark} {n:Nat} {ts:List machine_catch},Fits N T l n ts→l.countP (fun m=>eqI m.gOp 5)=n
 | [],n,ts,h=>h.1.symm▸rfl
 | k :: ks,n,ts,h=>by
  simp only [Fits] at h
  rw [List.countP_cons]
  split at h
  ·rename_i e
   obtain ⟨n',rfl,h⟩:=h
   rw [fits_keeps h,if_pos (eqI_t.2 e)]
  ·rename_i e
   rw [if_neg (by rw [eqI_f.2 e]; decide)]
   split at h
   ·obtain ⟨t,ts',rfl,h,_⟩:=h
    rw [fits_keeps h]; rfl
   ·rw [fits_keeps h]; rfl
theorem fits_len:∀{l:List code_mark} {n:Nat} {ts:List machine_catch},Fits N T l n ts→n+ts.length≤l.length
 | [],n,ts,h=>by obtain ⟨rfl,rfl⟩:=h; simp
 | k :: ks,n,ts,h=>by
  simp only [Fits] at h
  split at h
  ·obtain ⟨n',rfl,h⟩:=h
   have:=fits_len h; simp; omega
  ·split at h
   ·obtain ⟨t,ts',rfl,h,_⟩:=h
    have:=fits_len h; simp; omega
   ·have:=fits_len h; simp; omega
theorem fits_trs {B:Int}:∀{l:List code_mark} {n:Nat} {ts:List machine_catch},Fits N T l n ts→(∀m∈l,m.gHigh≤B)→∀t∈ts,(t.gStack.length:Int)≤B∧t.gKept.length≤l.length
 | [],n,ts,h,_,t,ht=>by obtain ⟨rfl,rfl⟩:=h; cases ht
 | k :: ks,n,ts,h,hb,t,ht=>by
  simp only [Fits] at h
  have hb':∀m∈ks,m.gHigh≤B:=fun m hm=>hb m (by simp [hm])
  split at h
  ·obtain ⟨n',rfl,h⟩:=h
   have:=fits_trs h hb' t ht; simp; omega
  ·split at h
   ·obtain ⟨t',ts',rfl,h,h1,h2,_⟩:=h
    have hl:=fits_len h
    rcases List.mem_cons.1 ht with rfl|ht
    ·have:=hb k (by simp); simp; omega
    ·have:=fits_trs h hb' t ht; simp; omega
   ·have:=fits_trs h hb' t ht; simp; omega
theorem fits_top:∀{l:List code_mark} {n:Nat} {t:machine_catch} {ts:List machine_catch},Fits N T l n (t :: ts)→∃k ks n',Fits N T ks n' ts∧TryOk N T t k ks n'
 | [],n,t,ts,h=>by cases h.2
 | k :: ks,n,t,ts,h=>by
  simp only [Fits] at h
  split at h
  ·obtain ⟨n',rfl,h⟩:=h
   exact fits_top h
  ·split at h
   ·obtain ⟨t',ts',e,h,ho⟩:=h
    cases e
    exact ⟨k,ks,n,h,ho⟩
   ·exact fits_top h
end
def Stands (c:List api_Instr) (T:List code_state) (pc:Int) (sk lo:List (List api_Atom)) (tr:List machine_catch):Prop:=
 ∃i:Nat,pc=i∧i<c.length∧(rdT T i).gCome=true∧(sk.length:Int)=(rdT T i).gHigh∧Fits c.length T (rdT T i).gL.reverse lo.length tr.reverse∧Vals sk∧Vals lo
theorem stands_of {c:List api_Instr} {T:List code_state} {pc:Int} {s:code_state} {sk lo:List (List api_Atom)} {tr:List machine_catch} (h:Cm c.length T pc s) (h1:(sk.length:Int)=s.gHigh) (h2:Fits c.length T s.gL.reverse lo.length tr.reverse)
  (h3:Vals sk) (h4:Vals lo):Stands c T pc sk lo tr:=by
 obtain ⟨j,e,hj,k1,k2,k3⟩:=h
 exact ⟨j,e,hj,k1,by rw [k2]; exact h1,by rw [k3]; exact h2,h3,h4⟩
theorem stands_small {c:List api_Instr} {T:List code_state} (R:Right c T) {m:Mc} (h:Stands c T m.pc m.sk m.lo m.tr):SmM m:=by
 obtain ⟨i,e,hi,k1,k2,k3,k4,k5⟩:=h
 have hT:=R.tok.len
 have hs:=R.tok.ok i (by omega)
 rw [←rdT_at (by omega)] at hs
 have hN:=R.small
 have hl:=fits_len k3
 simp only [List.length_reverse] at hl
 have h1:=hs.len; have h2:=hs.hi
 refine ⟨by omega,by omega,by omega,fun t ht=>?_⟩
 have:=fits_trs (B:=i) k3 (fun m hm=>(hs.marks m (by simpa using hm)).2) t (by simpa using ht)
 simp only [List.length_reverse] at this
 omega
def mu (N:Nat) (pc:Int) (tr:List machine_catch):Nat:=3 ^ (N - pc.toNat)+(tr.map fun t=>3 ^ (N - t.gAt.toNat)).sum
theorem pow_lt {a b N:Nat} (h:a<b) (hN:b≤N):3 ^ (N - b) * 3≤3 ^ (N - a):=by
 rw [←Nat.pow_succ]; exact Nat.pow_le_pow_right (by omega) (by omega)
theorem pow_pos' {a:Nat}:0<3 ^ a:=Nat.pow_pos (by omega)
structure On (c:List api_Instr) (T:List code_state) (m m':Mc):Prop where
 co:m'.c=m.c
 st:m'.st=m.st
 dn:m'.dn=m.dn
 nx:m'.nx=m.nx
 ps:m'.ps=m.ps
 at':Stands c T m'.pc m'.sk m'.lo m'.tr
 less:mu c.length m'.pc m'.tr<mu c.length m.pc m.tr
structure Ended (m m':Mc):Prop where
 co:m'.c=m.c
 st:m'.st=3
 dn:m'.dn=m.dn
 ps:m'.ps=m.ps
 pc:m'.pc=m.pc
 nx:SmO m'.nx
 em:m'.sk=[]∧m'.lo=[]∧m'.tr=[]
def After (c:List api_Instr) (T:List code_state) (m m':Mc):Prop:=On c T m m'∨Ended m m'
theorem mu_tr {N:Nat} {pc:Int} {ts:List machine_catch} {t:machine_catch}:mu N pc (ts ++ [t])=mu N pc ts+3 ^ (N - t.gAt.toNat):=by
 simp [mu,List.sum_append]; omega
section
variable {c:List api_Instr} {T:List code_state}
theorem end_ok {m:Mc} (o:api_Outcome) (h:SmO o):Ended m (endM o m):=⟨rfl,rfl,rfl,rfl,rfl,h,rfl,rfl,rfl⟩
theorem fail_ok {m m0:Mc} (e:m0.c=m.c∧m0.st=m.st∧m0.dn=m.dn∧m0.nx=m.nx∧m0.ps=m.ps∧m0.pc=m.pc∧m0.tr=m.tr) {f:List api_Crack} (hf:f.length * 32≤140737488355328)
  (h:∃l n,Fits c.length T l n m.tr.reverse):After c T m (failM f m0):=by
 obtain ⟨e1,e2,e3,e4,e5,e6,e7⟩:=e
 obtain ⟨l,n,h⟩:=h
 rcases List.eq_nil_or_concat m.tr with ht|⟨ts,t,ht⟩
 ·have:failM f m0=endM ⟨2,[],f⟩ m0:=by unfold failM; rw [e7,ht]; rfl
  rw [this]
  exact .inr ⟨e1,rfl,e3,e5,e6,(by simp [SmO,endM]; exact hf),rfl,rfl,rfl⟩
 ·rw [List.concat_eq_append] at ht
  rw [ht,List.reverse_append] at h
  obtain ⟨k,ks,n',h1,h2⟩:=fits_top h
  obtain ⟨o1,o2,o3,o4,o5⟩:=h2
  have:failM f m0={ m0 with tr:=ts,pc:=t.gAt,sk:=t.gStack,lo:=t.gKept }:=by unfold failM; rw [e7,ht]; simp
  rw [this]
  refine .inl ⟨e1,e2,e3,e4,e5,stands_of o5 o1 (by rw [List.reverse_reverse,o2]; exact h1) o3 o4,?_⟩
  show mu c.length t.gAt ts<mu c.length m.pc m.tr
  rw [ht,mu_tr]
  unfold mu
  have:=pow_pos' (a:=c.length - m.pc.toNat)
  omega
theorem num_ok {n:Int} (h1:-9007199254740992≤n) (h2:n≤9007199254740992):valE [⟨1,0,n,bs []⟩]=0:=by
 refine numV_ok (n:=n) ?_
 unfold numV
 rw [if_neg]
 rw [Bool.or_eq_true,not_or]
 exact ⟨by intro h; have:n < -9007199254740992:=of_decide_eq_true h; omega,by intro h; have:(9007199254740992:Int)<n:=of_decide_eq_true h; omega⟩
theorem text_ok {t:ByteArray} (h:t.size≤4096):valE [⟨2,0,0,t⟩]=0:=by
 have ha:atomB ⟨2,0,0,t⟩=true:=by
  show ((eqI 0 0 && eqI 0 0) && leI (intN (strLen t)) 4096)=true
  have:leI (intN (strLen t)) 4096=true:=decide_eq_true (by simp [intN,strLen]; omega)
  rw [this]; rfl
 exact valE_tree (t:=.nd ⟨2,0,0,t⟩ []) ⟨by simp only [Tr.good,Tr.goods]; exact ⟨⟨ha,rfl⟩,trivial⟩,by simp [Tr.deep,Tr.deeps],by simp [Tr.size,Tr.sizes]⟩
noncomputable def oneM (x:api_Instr) (m:Mc):Mc:=
 if x.gOp=1 then pushM [⟨1,0,x.gA,bs []⟩] m
 else if x.gOp=2 then pushM [⟨2,0,0,x.gText⟩] m
 else if x.gOp=4 then pushM (m.lo.getD x.gA.toNat []) m
 else if x.gOp=7 then reckM 5 x.gA.toNat m
 else if x.gOp=8 then reckM x.gA (if x.gA=11 then 1 else 2) m
 else if x.gOp=13∨x.gOp=14 then raiseM x.gOp m
 else if x.gOp=16 then endM ⟨1,m.sk.headD [],[]⟩ m
 else if x.gOp=5 then keepM m
 else if x.gOp=6 then leaveM m
 else if x.gOp=9 then elseM x.gA m
 else if x.gOp=10 then goM x.gA m
 else if x.gOp=11 then tryM x.gA m
 else if x.gOp=12 then doneM m
 else nextM m
structure Needs (x:api_Instr) (m:Mc):Prop where
 load:x.gOp=4→0≤x.gA∧x.gA.toNat<m.lo.length
 make:x.gOp=7→0≤x.gA∧x.gA.toNat≤m.sk.length
 do':x.gOp=8→6≤x.gA∧x.gA≤13∧(if x.gA=11 then 1 else 2)≤m.sk.length
 one:x.gOp=5∨x.gOp=9∨x.gOp=13∨x.gOp=14∨x.gOp=16→1≤m.sk.length
 leave:x.gOp=6→1≤m.lo.length
 done:x.gOp=12→1≤m.tr.length
theorem vals_app {l:List (List api_Atom)} {v:List api_Atom} (h:Vals l) (hv:valE v=0):Vals (l ++ [v]):=by
 intro w hw
 rcases List.mem_append.1 hw with hw|hw
 ·exact h w hw
 ·rw [List.mem_singleton.1 hw]; exact hv
theorem vals_take {l:List (List api_Atom)} {n:Nat} (h:Vals l):Vals (l.take n):=fun v hv=>h v (List.mem_of_mem_take hv)
theorem fits_keepsF {N:Nat} {l:List code_mark} {n:Nat} {ts:List machine_catch} (h:Fits N T l.reverse n ts):keepsF l=n:=by
 unfold keepsF
 have:=fits_keeps h
 rw [List.countP_reverse] at this
 rw [this]
theorem keep5 {N:Nat} {l:List code_mark} {n:Nat} {ts:List machine_catch} (h:Fits N T l.reverse n ts):Fits N T (l ++ [(⟨5,0,0⟩:code_mark)]).reverse (n+1) ts:=by
 rw [List.reverse_append]
 simp only [List.reverse_cons,List.reverse_nil,List.nil_append,List.singleton_append,Fits,if_true]
 exact ⟨n,rfl,h⟩
theorem less_next {N i:Nat} {pc:Int} {tr:List machine_catch} (e:pc=i) {j:Nat} (hij:i<j) (hj:j≤N):mu N (j:Int) tr<mu N pc tr:=by
 subst e
 unfold mu
 have h1:=pow_lt hij hj
 have h2:=pow_pos' (a:=N - j)
 simp only [Int.toNat_natCast]
 omega
theorem one_ok (R:Right c T) {m:Mc} (h:Stands c T m.pc m.sk m.lo m.tr) {i:Nat} (hi:i<c.length) (hpc:m.pc=i) (h3:c[i].gOp ≠ 3) (h15:c[i].gOp ≠ 15):Needs c[i] m∧After c T m (oneM c[i] m):=by
 have sm:=stands_small R h
 obtain ⟨i',e,_,k1,k2,k3,k4,k5⟩:=h
 have:i'=i:=by omega
 subst this
 have hT:=R.tok.len
 have hN:=R.small
 have hs:=R.tok.ok i' (by omega)
 rw [←rdT_at (by omega)] at hs
 obtain ⟨hin,h16,hw⟩:=R.ins i' hi
 have tr:=R.tr i' hi k1
 generalize hx:c[i']=x at *
 have hpc1:addW .i64 m.pc 1=((i'+1:Nat):Int):=by rw [hpc]; exact add_one (by omega)
 have hfl:=hs.floor
 have kp:=fits_keepsF k3
 have nxt:∀{sk lo:List (List api_Atom)} {trs:List machine_catch} {mm:Mc},mm.c=m.c→mm.st=m.st→mm.dn=m.dn→mm.nx=m.nx→mm.ps=m.ps→mm.pc=addW .i64 m.pc 1→
   x.gOp ≠ 10→x.gOp ≠ 13→x.gOp ≠ 14→x.gOp ≠ 16→(mm.sk.length:Int)=(behF x (rdT T i')).1.gHigh→Fits c.length T (behF x (rdT T i')).1.gL.reverse mm.lo.length mm.tr.reverse→Vals mm.sk→Vals mm.lo→
   mu c.length ((i'+1:Nat):Int) mm.tr<mu c.length m.pc m.tr→After c T m mm:=by
  intro sk lo trs mm a1 a2 a3 a4 a5 a6 b1 b2 b3 b4 d1 d2 d3 d4 d5
  have hcm:=tr.next b1 b2 b3 b4
  rw [←hpc1,←a6] at hcm
  exact .inl ⟨a1,a2,a3,a4,a5,stands_of hcm d1 d2 d3 d4,by rw [a6,hpc1]; exact d5⟩
 have lt1:mu c.length ((i'+1:Nat):Int) m.tr<mu c.length m.pc m.tr:=less_next hpc (by omega) (by omega)
 have ftr:∃l n,Fits c.length T l n m.tr.reverse:=⟨_,_,k3⟩
 have tk:∀{n:Int} {q:Int},0≤n∧n≤256→0≤q∧q≤1→(takesF (rdT T i') n q).2=true→(takesF (rdT T i') n q).1.gL=(rdT T i').gL∧(takesF (rdT T i') n q).1.gHigh=(rdT T i').gHigh - n+q∧n≤m.sk.length:=by
  intro n q hn hq ht
  obtain ⟨t1,t2,t3,_⟩:=takes_ok (n:=n) (p:=q) (s':=(takesF (rdT T i') n q).1) hs (by omega) hn hq (by rw [←ht])
  exact ⟨t1,t2,by omega⟩
 have push:∀{n:Nat} {v:List api_Atom},valE v=0→behF x (rdT T i')=takesF (rdT T i') n 1→n≤256→x.gOp ≠ 10→x.gOp ≠ 13→x.gOp ≠ 14→x.gOp ≠ 16→After c T m (pushM v (popM n m)):=by
  intro n v hv hb hn b1 b2 b3 b4
  have hok:=tr.ok
  rw [hb] at hok
  obtain ⟨t1,t2,t3⟩:=tk (by omega) (by omega) hok
  refine nxt (sk:=[]) (lo:=[]) (trs:=[]) rfl rfl rfl rfl rfl rfl b1 b2 b3 b4 ?_ ?_ ?_ k5 lt1
  ·rw [hb,t2]; show (((m.sk.take (m.sk.length - n)) ++ [v]).length:Int)=_; simp; omega
  ·rw [hb,t1]; exact k3
  ·exact vals_app (vals_take k4) hv
 have pop0:∀{v:List api_Atom},pushM v m=pushM v (popM 0 m):=by intro v; simp [popM]
 have wel:=hw
 unfold wellB at wel
 have bad:∀{k:Int} {n:Nat},After c T m (misM k (popM n m)):=fun {k n}=>fail_ok (m:=m) ⟨rfl,rfl,rfl,rfl,rfl,rfl,rfl⟩ (by simp) ftr
 rcases kinds17 x.gOp with o|o|o|o|o|o|o|o|o|o|o|o|o|o|o|o|o|o
 ·refine ⟨⟨by omega,by omega,by omega,by omega,by omega,by omega⟩,?_⟩
  have:oneM x m=pushM [⟨1,0,x.gA,bs []⟩] m:=if_pos o
  rw [this,pop0]
  rw [if_pos (.inl o),Bool.and_eq_true] at wel
  have w1:=wel.1
  unfold numW at w1
  rw [if_pos o,Bool.and_eq_true] at w1
  exact push (num_ok (of_decide_eq_true w1.1) (of_decide_eq_true w1.2)) (beh_a (.inl o)) (by omega) (by omega) (by omega) (by omega) (by omega)
 ·refine ⟨⟨by omega,by omega,by omega,by omega,by omega,by omega⟩,?_⟩
  have:oneM x m=pushM [⟨2,0,0,x.gText⟩] m:=(if_neg (by omega)).trans (if_pos o)
  rw [this,pop0]
  rw [if_neg (by omega),if_pos o,Bool.and_eq_true] at wel
  have w1:(x.gText.size:Int)≤4096:=of_decide_eq_true wel.1
  exact push (text_ok (by omega)) (beh_a (.inr (.inl o))) (by omega) (by omega) (by omega) (by omega) (by omega)
 ·exact absurd o h3
 ·-- load
  rw [if_pos (.inr (by omega)),Bool.and_eq_true] at wel
  have w1:=wel.1
  unfold numW at w1
  rw [if_neg (by omega),if_pos (.inl o),Bool.and_eq_true] at w1
  have w2:0≤x.gA:=of_decide_eq_true w1.1
  have hok:=tr.ok
  rw [beh_4 o] at hok
  by_cases hlt:leI (keepsF (rdT T i').gL) x.gA=true
  ·rw [if_pos hlt] at hok; cases hok
  ·have hlt':¬(keepsF (rdT T i').gL≤x.gA):=fun hc=>hlt (decide_eq_true hc)
   rw [kp] at hlt'
   have hlo:x.gA.toNat<m.lo.length:=by omega
   refine ⟨⟨fun _=>⟨w2,hlo⟩,by omega,by omega,by omega,by omega,by omega⟩,?_⟩
   have:oneM x m=pushM (m.lo.getD x.gA.toNat []) m:=(if_neg (by omega)).trans ((if_neg (by omega)).trans (if_pos o))
   rw [this,pop0]
   refine push (k5 _ ?_) ((beh_4 o).trans (if_neg hlt)) (by omega) (by omega) (by omega) (by omega) (by omega)
   rw [List.getD_eq_getElem?_getD,List.getElem?_eq_getElem hlo]; exact List.getElem_mem _
 ·-- keep
  have hok:=tr.ok
  rw [beh_5 o] at hok
  simp only [Bool.and_eq_true] at hok
  obtain ⟨t1,t2,t3⟩:=tk (n:=1) (q:=0) (by omega) (by omega) hok.1
  refine ⟨⟨by omega,by omega,by omega,fun _=>by omega,by omega,by omega⟩,?_⟩
  have:oneM x m=keepM m:=by unfold oneM; rw [if_neg (by omega),if_neg (by omega),if_neg (by omega),if_neg (by omega),if_neg (by omega),if_neg (by omega),if_neg (by omega),if_pos o]
  rw [this]
  obtain ⟨v,e1,e2,e3⟩:=last_drop (m:=m) (by omega)
  have et:topV m=v:=by unfold topV; rw [e1]; rfl
  refine nxt (sk:=[]) (lo:=[]) (trs:=[]) rfl rfl rfl rfl rfl rfl (by omega) (by omega) (by omega) (by omega) ?_ ?_ (vals_take k4) (vals_app k5 (by rw [et]; exact k4 v e3)) lt1
  ·rw [beh_5 o]; show ((m.sk.take (m.sk.length - 1)).length:Int)=(takesF (rdT T i') 1 0).1.gHigh; rw [t2]; simp; omega
  ·rw [beh_5 o]
   show Fits c.length T ((takesF (rdT T i') 1 0).1.gL ++ [(⟨5,0,0⟩:code_mark)]).reverse (m.lo ++ [topV m]).length m.tr.reverse
   rw [t1,List.length_append]
   exact keep5 k3
 ·-- leave
  have hok:=tr.ok
  rw [beh_6 o] at hok
  simp only [Bool.and_eq_true] at hok
  obtain ⟨t1,t2,t3⟩:=without_ok (s:=rdT T i') (s':=(withoutF (rdT T i') 5).1) (op:=5) (m:=(withoutF (rdT T i') 5).2.1) (b:=(withoutF (rdT T i') 5).2.2) rfl hok.1
  have k3':=k3
  rw [t1,List.reverse_append] at k3'
  simp only [List.reverse_cons,List.reverse_nil,List.nil_append,List.singleton_append,Fits,if_pos t2] at k3'
  obtain ⟨n',en,kf⟩:=k3'
  refine ⟨⟨by omega,by omega,by omega,by omega,fun _=>by omega,by omega⟩,?_⟩
  have:oneM x m=leaveM m:=by unfold oneM; rw [if_neg (by omega),if_neg (by omega),if_neg (by omega),if_neg (by omega),if_neg (by omega),if_neg (by omega),if_neg (by omega),if_neg (by omega),if_pos o]
  rw [this]
  refine nxt (sk:=[]) (lo:=[]) (trs:=[]) rfl rfl rfl rfl rfl rfl (by omega) (by omega) (by omega) (by omega) ?_ ?_ k4 (fun v hv=>k5 v (List.dropLast_subset _ hv)) lt1
  ·rw [beh_6 o,t3]; exact k2
  ·rw [beh_6 o]
   show Fits c.length T (withoutF (rdT T i') 5).1.gL.reverse m.lo.dropLast.length m.tr.reverse
   rw [List.length_dropLast,show m.lo.length - 1=n' by omega]; exact kf
 ·-- make
  have w7:=hin.make o
  have hok:=tr.ok
  rw [beh_7 o] at hok
  obtain ⟨t1,t2,t3⟩:=tk w7 (by omega) hok
  refine ⟨⟨by omega,fun _=>⟨w7.1,by omega⟩,by omega,by omega,by omega,by omega⟩,?_⟩
  have:oneM x m=reckM 5 x.gA.toNat m:=by unfold oneM; rw [if_neg (by omega),if_neg (by omega),if_neg (by omega),if_pos o]
  rw [this]
  unfold reckM
  cases hd:doV 5 (m.sk.drop (m.sk.length - x.gA.toNat)) with
  | none=>exact bad
  | some v=>exact push (doV_ok hd) (by rw [beh_7 o,show ((x.gA.toNat:Nat):Int)=x.gA by omega]) (by omega) (by omega) (by omega) (by omega) (by omega)
 ·-- do
  rw [if_pos (.inr (by omega)),Bool.and_eq_true] at wel
  have w1:=wel.1
  unfold numW at w1
  rw [if_neg (by omega),if_neg (by omega),if_neg (by omega),if_pos o] at w1
  have w1:0<doneN x.gA:=of_decide_eq_true w1
  have hd:doneN x.gA=((if x.gA=11 then 1 else 2:Nat):Int)∧6≤x.gA∧x.gA≤13:=by
   unfold doneN at w1 ⊢
   split at w1
   ·rename_i hc; rw [if_pos hc,if_neg (by omega)]; omega
   ·rename_i hc; rw [if_neg hc]
    split at w1
    ·rename_i h11; rw [if_pos h11,if_pos h11]; omega
    ·omega
  obtain ⟨d1,d2,d3⟩:=hd
  have hok:=tr.ok
  rw [beh_8 o,d1] at hok
  obtain ⟨t1,t2,t3⟩:=tk (n:=((if x.gA=11 then 1 else 2:Nat):Int)) (by split <;> omega) (by omega) hok
  refine ⟨⟨by omega,by omega,fun _=>⟨d2,d3,by omega⟩,by omega,by omega,by omega⟩,?_⟩
  have:oneM x m=reckM x.gA (if x.gA=11 then 1 else 2) m:=by unfold oneM; rw [if_neg (by omega),if_neg (by omega),if_neg (by omega),if_neg (by omega),if_pos o]
  rw [this]
  unfold reckM
  cases hd:doV x.gA (m.sk.drop (m.sk.length - (if x.gA=11 then 1 else 2))) with
  | none=>exact bad
  | some v=>exact push (doV_ok hd) (by rw [beh_8 o,d1]) (by split <;> omega) (by omega) (by omega) (by omega) (by omega)
 ·-- else
  have hok:=tr.ok
  rw [beh_9 (.inl o)] at hok
  obtain ⟨t1,t2,t3⟩:=tk (n:=1) (q:=0) (by omega) (by omega) hok
  refine ⟨⟨by omega,by omega,by omega,fun _=>by omega,by omega,by omega⟩,?_⟩
  have:oneM x m=elseM x.gA m:=by unfold oneM; rw [if_neg (by omega),if_neg (by omega),if_neg (by omega),if_neg (by omega),if_neg (by omega),if_neg (by omega),if_neg (by omega),if_neg (by omega),if_neg (by omega),if_pos o]
  rw [this]
  unfold elseM
  have hhi:((m.sk.take (m.sk.length - 1)).length:Int)=(behF x (rdT T i')).1.gHigh:=by rw [beh_9 (.inl o),t2]; simp; omega
  split
  ·exact bad
  ·split
   ·have hj:=tr.jump (.inl o)
    have hto:=hin.to (.inl o)
    refine .inl ⟨rfl,rfl,rfl,rfl,rfl,stands_of hj hhi (by rw [beh_9 (.inl o),t1]; exact k3) (vals_take k4) k5,?_⟩
    show mu c.length x.gA m.tr<_
    have:=less_next (N:=c.length) (tr:=m.tr) hpc (j:=x.gA.toNat) (by omega) (by omega)
    rwa [show ((x.gA.toNat:Nat):Int)=x.gA by omega] at this
   ·exact nxt (sk:=[]) (lo:=[]) (trs:=[]) rfl rfl rfl rfl rfl rfl (by omega) (by omega) (by omega) (by omega) hhi (by rw [beh_9 (.inl o),t1]; exact k3) (vals_take k4) k5 lt1
 ·-- jump
  refine ⟨⟨by omega,by omega,by omega,by omega,by omega,by omega⟩,?_⟩
  have:oneM x m=goM x.gA m:=by unfold oneM; rw [if_neg (by omega),if_neg (by omega),if_neg (by omega),if_neg (by omega),if_neg (by omega),if_neg (by omega),if_neg (by omega),if_neg (by omega),if_neg (by omega),if_neg (by omega),if_pos o]
  rw [this]
  have hj:=tr.jump (.inr o)
  have hto:=hin.to (.inr (.inl o))
  rw [beh_else (.inl o)] at hj
  refine .inl ⟨rfl,rfl,rfl,rfl,rfl,stands_of hj k2 k3 k4 k5,?_⟩
  show mu c.length x.gA m.tr<_
  have:=less_next (N:=c.length) (tr:=m.tr) hpc (j:=x.gA.toNat) (by omega) (by omega)
  rwa [show ((x.gA.toNat:Nat):Int)=x.gA by omega] at this
 ·-- try
  refine ⟨⟨by omega,by omega,by omega,by omega,by omega,by omega⟩,?_⟩
  have:oneM x m=tryM x.gA m:=by unfold oneM; rw [if_neg (by omega),if_neg (by omega),if_neg (by omega),if_neg (by omega),if_neg (by omega),if_neg (by omega),if_neg (by omega),if_neg (by omega),if_neg (by omega),if_neg (by omega),if_neg (by omega),if_pos o]
  rw [this]
  have ht:=tr.try' o
  have hto:=hin.to (.inr (.inr o))
  refine nxt (sk:=[]) (lo:=[]) (trs:=[]) rfl rfl rfl rfl rfl rfl (by omega) (by omega) (by omega) (by omega) ?_ ?_ k4 k5 ?_
  ·rw [beh_11 o]; exact k2
  ·rw [beh_11 o]
   show Fits c.length T ((rdT T i').gL ++ [(⟨11,x.gA,(rdT T i').gHigh⟩:code_mark)]).reverse m.lo.length (m.tr ++ [(⟨x.gA,m.sk,m.lo⟩:machine_catch)]).reverse
   rw [List.reverse_append,List.reverse_append]
   simp only [List.reverse_cons,List.reverse_nil,List.nil_append,List.singleton_append,Fits]
   rw [if_neg (by decide),if_pos trivial]
   obtain ⟨j,q1,q2,q3,q4,q5⟩:=ht
   exact ⟨_,_,rfl,k3,k2,rfl,k4,k5,j,q1,q2,q3,q4,by rw [q5,List.reverse_reverse]⟩
  ·show mu c.length ((i'+1:Nat):Int) (m.tr ++ [⟨x.gA,m.sk,m.lo⟩])<mu c.length m.pc m.tr
   rw [mu_tr]
   unfold mu
   rw [hpc]
   simp only [Int.toNat_natCast]
   have p1:=pow_lt (N:=c.length) (a:=i') (b:=i'+1) (by omega) (by omega)
   have p2:3 ^ (c.length - x.gA.toNat)≤3 ^ (c.length - (i'+1)):=Nat.pow_le_pow_right (by omega) (by omega)
   have p3:=pow_pos' (a:=c.length - (i'+1))
   omega
 ·-- done
  have hok:=tr.ok
  rw [beh_12 o] at hok
  simp only [Bool.and_eq_true] at hok
  obtain ⟨t1,t2,t3⟩:=without_ok (s:=rdT T i') (s':=(withoutF (rdT T i') 11).1) (op:=11) (m:=(withoutF (rdT T i') 11).2.1) (b:=(withoutF (rdT T i') 11).2.2) rfl hok.1
  have k3':=k3
  rw [t1,List.reverse_append] at k3'
  simp only [List.reverse_cons,List.reverse_nil,List.nil_append,List.singleton_append,Fits] at k3'
  rw [if_neg (by rw [t2]; decide),if_pos t2] at k3'
  obtain ⟨t,ts',et,kf,_⟩:=k3'
  have htr:m.tr=ts'.reverse ++ [t]:=by rw [←List.reverse_reverse m.tr,et]; simp
  refine ⟨⟨by omega,by omega,by omega,by omega,by omega,fun _=>by rw [htr]; simp⟩,?_⟩
  have:oneM x m=doneM m:=by unfold oneM; rw [if_neg (by omega),if_neg (by omega),if_neg (by omega),if_neg (by omega),if_neg (by omega),if_neg (by omega),if_neg (by omega),if_neg (by omega),if_neg (by omega),if_neg (by omega),if_neg (by omega),if_neg (by omega),if_pos o]
  rw [this]
  have hdl:m.tr.dropLast=ts'.reverse:=by rw [htr]; simp
  refine nxt (sk:=[]) (lo:=[]) (trs:=[]) rfl rfl rfl rfl rfl rfl (by omega) (by omega) (by omega) (by omega) ?_ ?_ k4 k5 ?_
  ·rw [beh_12 o,t3]; exact k2
  ·rw [beh_12 o]
   show Fits c.length T (withoutF (rdT T i') 11).1.gL.reverse m.lo.length m.tr.dropLast.reverse
   rw [hdl,List.reverse_reverse]; exact kf
  ·show mu c.length ((i'+1:Nat):Int) m.tr.dropLast<_
   refine Nat.lt_of_le_of_lt ?_ lt1
   have hm:=mu_tr (N:=c.length) (pc:=((i'+1:Nat):Int)) (ts:=ts'.reverse) (t:=t)
   rw [←htr] at hm
   rw [hdl]
   have:=pow_pos' (a:=c.length - t.gAt.toNat)
   omega
 ·-- fail
  have hok:=tr.ok
  rw [beh_9 (.inr (.inl o))] at hok
  obtain ⟨t1,t2,t3⟩:=tk (n:=1) (q:=0) (by omega) (by omega) hok
  refine ⟨⟨by omega,by omega,by omega,fun _=>by omega,by omega,by omega⟩,?_⟩
  have:oneM x m=raiseM x.gOp m:=by unfold oneM; rw [if_neg (by omega),if_neg (by omega),if_neg (by omega),if_neg (by omega),if_neg (by omega),if_pos (.inl o)]
  rw [this]
  unfold raiseM
  split
  ·exact bad
  ·first|rw [if_pos o]|skip
   exact fail_ok (m:=m) ⟨rfl,rfl,rfl,rfl,rfl,rfl,rfl⟩ (by simp) ftr
 ·have hok:=tr.ok
  rw [beh_9 (.inr (.inr o))] at hok
  obtain ⟨t1,t2,t3⟩:=tk (n:=1) (q:=0) (by omega) (by omega) hok
  refine ⟨⟨by omega,by omega,by omega,fun _=>by omega,by omega,by omega⟩,?_⟩
  have:oneM x m=raiseM x.gOp m:=by unfold oneM; rw [if_neg (by omega),if_neg (by omega),if_neg (by omega),if_neg (by omega),if_neg (by omega),if_pos (.inr o)]
  rw [this]
  unfold raiseM
  split
  ·exact bad
  ·first|rw [if_neg (show ¬(x.gOp=13) by omega)]|skip
   exact .inr ⟨rfl,rfl,rfl,rfl,rfl,by simp [SmO,endM],rfl,rfl,rfl⟩
 ·exact absurd o h15
 ·-- halt
  have hok:=tr.ok
  rw [beh_16 o] at hok
  simp only [Bool.and_eq_true] at hok
  have hh:=eqI_t.1 hok.1
  refine ⟨⟨by omega,by omega,by omega,fun _=>by omega,by omega,by omega⟩,?_⟩
  have:oneM x m=endM ⟨1,m.sk.headD [],[]⟩ m:=by unfold oneM; rw [if_neg (by omega),if_neg (by omega),if_neg (by omega),if_neg (by omega),if_neg (by omega),if_neg (by omega),if_pos o]
  rw [this]
  refine .inr (end_ok _ ⟨?_,by simp⟩)
  show (m.sk.headD []).length * 40≤_
  cases hsk:m.sk with
  | nil=>simp
  | cons v l=>
   have:=valE_len (k4 v (by rw [hsk]; simp))
   simp; omega
 ·-- past
  have hok:=tr.ok
  rw [beh_17 o] at hok
  simp only [Bool.and_eq_true] at hok
  obtain ⟨t1,t2,t3⟩:=without_ok (s:=rdT T i') (s':=(withoutF (rdT T i') 15).1) (op:=15) (m:=(withoutF (rdT T i') 15).2.1) (b:=(withoutF (rdT T i') 15).2.2) rfl hok.1
  have k3':=k3
  rw [t1,List.reverse_append] at k3'
  simp only [List.reverse_cons,List.reverse_nil,List.nil_append,List.singleton_append,Fits] at k3'
  rw [if_neg (by rw [t2]; decide),if_neg (by rw [t2]; decide)] at k3'
  refine ⟨⟨by omega,by omega,by omega,by omega,by omega,by omega⟩,?_⟩
  have:oneM x m=nextM m:=by unfold oneM; rw [if_neg (by omega),if_neg (by omega),if_neg (by omega),if_neg (by omega),if_neg (by omega),if_neg (by omega),if_neg (by omega),if_neg (by omega),if_neg (by omega),if_neg (by omega),if_neg (by omega),if_neg (by omega),if_neg (by omega)]
  rw [this]
  refine nxt (sk:=[]) (lo:=[]) (trs:=[]) rfl rfl rfl rfl rfl rfl (by omega) (by omega) (by omega) (by omega) ?_ ?_ k4 k5 lt1
  ·rw [beh_17 o,t3]; exact k2
  ·rw [beh_17 o]; exact k3'
 ·-- no operation
  rw [if_neg (by omega),if_neg (by omega),if_neg (by omega),if_neg (by omega)] at wel
  cases wel
end
theorem Has.obj {H:List (O U)} {n:Nat} {F:List Nat} {m:Mc} (h:Has H n F m):∃x y z,obj H n=some (mcO m x y z):=by
 rcases h with ⟨p,rfl,_,h⟩|⟨_,h,_⟩
 ·exact ⟨_,_,_,h.hn⟩
 ·exact ⟨_,_,_,h⟩
theorem Has.lt {H:List (O U)} {n:Nat} {F:List Nat} {m:Mc} (h:Has H n F m):∀j∈F,j<lenO H:=by
 rcases h with ⟨p,rfl,rfl,h⟩|⟨rfl,h,_⟩
 ·exact h.lt
 ·intro j hj; rw [List.mem_singleton.1 hj]; exact obj_len h
theorem Has.live {H:List (O U)} {n:Nat} {F:List Nat} {m:Mc} (h:Has H n F m) (hs:m.st ≠ 3):∃p,p.n=n∧F=fp p∧MR H p m:=by
 rcases h with h|⟨_,_,_,_,_,h⟩
 ·exact h
 ·exact absurd h hs
theorem Has.frame {H H':List (O U)} {n:Nat} {F F':List Nat} {m:Mc} (h:Has H n F m) (f:Fm F' H H') (hF:∀j∈F,j ∉ F'):Has H' n F m:=by
 rcases h with ⟨p,e,rfl,h⟩|⟨rfl,h,k⟩
 ·exact .inl ⟨p,e,rfl,h.frame f hF⟩
 ·exact .inr ⟨rfl,by rw [f.eq n (obj_len h) (hF n (by simp))]; exact h,k⟩
theorem Nx.refl {H:List (O U)} {n:Nat} {F:List Nat} {m:Mc} (h:Has H n F m):Nx H n F H m:=⟨F,h,.refl,fun _ h=>.inl h⟩
theorem Nx.trans {H H1 H2:List (O U)} {n:Nat} {F F1:List Nat} {m2:Mc} (f:Fm F H H1) (o:∀j∈F1,j∈F∨lenO H≤j) (h:Nx H1 n F1 H2 m2):Nx H n F H2 m2:=by
 obtain ⟨F',h1,h2,h3⟩:=h
 exact ⟨F',h1,f.trans h2 o,fun j hj=>by
  rcases h3 j hj with k|k
  ·exact o j k
  ·exact .inr (Nat.le_trans f.le k)⟩
theorem one_1 {x:api_Instr} {m:Mc} (c:x.gOp=1):oneM x m=pushM [⟨1,0,x.gA,bs []⟩] m:=if_pos c
theorem one_2 {x:api_Instr} {m:Mc} (c:x.gOp=2):oneM x m=pushM [⟨2,0,0,x.gText⟩] m:=(if_neg (by omega)).trans (if_pos c)
theorem one_4 {x:api_Instr} {m:Mc} (c:x.gOp=4):oneM x m=pushM (m.lo.getD x.gA.toNat []) m:=(if_neg (by omega)).trans ((if_neg (by omega)).trans (if_pos c))
theorem one_7 {x:api_Instr} {m:Mc} (c:x.gOp=7):oneM x m=reckM 5 x.gA.toNat m:=(if_neg (by omega)).trans ((if_neg (by omega)).trans ((if_neg (by omega)).trans (if_pos c)))
theorem one_8 {x:api_Instr} {m:Mc} (c:x.gOp=8):oneM x m=reckM x.gA (if x.gA=11 then 1 else 2) m:=(if_neg (by omega)).trans ((if_neg (by omega)).trans ((if_neg (by omega)).trans ((if_neg (by omega)).trans (if_pos c))))
theorem one_r {x:api_Instr} {m:Mc} (c:x.gOp=13∨x.gOp=14):oneM x m=raiseM x.gOp m:=(if_neg (by omega)).trans ((if_neg (by omega)).trans ((if_neg (by omega)).trans ((if_neg (by omega)).trans ((if_neg (by omega)).trans (if_pos c)))))
theorem one_16 {x:api_Instr} {m:Mc} (c:x.gOp=16):oneM x m=endM ⟨1,m.sk.headD [],[]⟩ m:=(if_neg (by omega)).trans ((if_neg (by omega)).trans ((if_neg (by omega)).trans ((if_neg (by omega)).trans ((if_neg (by omega)).trans ((if_neg (by omega)).trans (if_pos c))))))
theorem one_5 {x:api_Instr} {m:Mc} (c:x.gOp=5):oneM x m=keepM m:=(if_neg (by omega)).trans ((if_neg (by omega)).trans ((if_neg (by omega)).trans ((if_neg (by omega)).trans ((if_neg (by omega)).trans ((if_neg (by omega)).trans ((if_neg (by omega)).trans (if_pos c)))))))
theorem one_6 {x:api_Instr} {m:Mc} (c:x.gOp=6):oneM x m=leaveM m:=(if_neg (by omega)).trans ((if_neg (by omega)).trans ((if_neg (by omega)).trans ((if_neg (by omega)).trans ((if_neg (by omega)).trans ((if_neg (by omega)).trans ((if_neg (by omega)).trans ((if_neg (by omega)).trans (if_pos c))))))))
theorem one_9 {x:api_Instr} {m:Mc} (c:x.gOp=9):oneM x m=elseM x.gA m:=(if_neg (by omega)).trans ((if_neg (by omega)).trans ((if_neg (by omega)).trans ((if_neg (by omega)).trans ((if_neg (by omega)).trans ((if_neg (by omega)).trans ((if_neg (by omega)).trans ((if_neg (by omega)).trans ((if_neg (by omega)).trans (if_pos c)))))))))
theorem one_10 {x:api_Instr} {m:Mc} (c:x.gOp=10):oneM x m=goM x.gA m:=(if_neg (by omega)).trans ((if_neg (by omega)).trans ((if_neg (by omega)).trans ((if_neg (by omega)).trans ((if_neg (by omega)).trans ((if_neg (by omega)).trans ((if_neg (by omega)).trans ((if_neg (by omega)).trans ((if_neg (by omega)).trans ((if_neg (by omega)).trans (if_pos c))))))))))
theorem one_11 {x:api_Instr} {m:Mc} (c:x.gOp=11):oneM x m=tryM x.gA m:=(if_neg (by omega)).trans ((if_neg (by omega)).trans ((if_neg (by omega)).trans ((if_neg (by omega)).trans ((if_neg (by omega)).trans ((if_neg (by omega)).trans ((if_neg (by omega)).trans ((if_neg (by omega)).trans ((if_neg (by omega)).trans ((if_neg (by omega)).trans ((if_neg (by omega)).trans (if_pos c)))))))))))
theorem one_12 {x:api_Instr} {m:Mc} (c:x.gOp=12):oneM x m=doneM m:=(if_neg (by omega)).trans ((if_neg (by omega)).trans ((if_neg (by omega)).trans ((if_neg (by omega)).trans ((if_neg (by omega)).trans ((if_neg (by omega)).trans ((if_neg (by omega)).trans ((if_neg (by omega)).trans ((if_neg (by omega)).trans ((if_neg (by omega)).trans ((if_neg (by omega)).trans ((if_neg (by omega)).trans (if_pos c))))))))))))
theorem one_else {x:api_Instr} {m:Mc} (n1:¬x.gOp=1) (n2:¬x.gOp=2) (n4:¬x.gOp=4) (n7:¬x.gOp=7) (n8:¬x.gOp=8) (n13:¬(x.gOp=13∨x.gOp=14)) (n16:¬x.gOp=16) (n5:¬x.gOp=5) (n6:¬x.gOp=6) (n9:¬x.gOp=9) (n10:¬x.gOp=10) (n11:¬x.gOp=11) (n12:¬x.gOp=12):oneM x m=nextM m:=(if_neg n1).trans ((if_neg n2).trans ((if_neg n4).trans ((if_neg n7).trans ((if_neg n8).trans ((if_neg n13).trans ((if_neg n16).trans ((if_neg n5).trans ((if_neg n6).trans ((if_neg n9).trans ((if_neg n10).trans ((if_neg n11).trans (if_neg n12))))))))))))
theorem gives91 {H:List (O U)} {p:Plc} {m:Mc} (h:MR H p m) (sm:SmM m) (hv:Vals m.sk) {x:api_Instr} (N:Needs x m):
  ∃H',GivesM 91 [.ptr (.g p.n) 0,inC x] H (.tup []) H'∧Nx H p.n (fp p) H' (oneM x m):=by
 obtain ⟨k,a,t⟩:=x
 have sk:=sm.sk
 have goes:∀{f:Nat} {args:List (C U)} {m':Mc},(∃H' p',GivesM f args H (.tup []) H'∧MR H' p' m'∧Goes H p H' p')→∃H',GivesM f args H (.tup []) H'∧Nx H p.n (fp p) H' m':=fun ⟨H',p',g,r,go⟩=>⟨H',g,.of go r⟩
 have ctl:∀{m':Mc},k ≠ 1→k ≠ 2→k ≠ 4→k ≠ 7→k ≠ 8→k ≠ 13→k ≠ 14→k ≠ 16→(∃H',GivesM 173 [.ptr (.g p.n) 0,inC ⟨k,a,t⟩] H (.tup []) H'∧Nx H p.n (fp p) H' m')→∃H',GivesM 91 [.ptr (.g p.n) 0,inC ⟨k,a,t⟩] H (.tup []) H'∧Nx H p.n (fp p) H' m':=by
  rintro m' a1 a2 a4 a7 a8 a13 a14 a16 ⟨H',g,nx⟩
  exact ⟨H',e91 _ ⟨k,a,t⟩ _ _ (ite_f (eqI_f.2 a1) (ite_f (eqI_f.2 a2) (ite_f (eqI_f.2 a4) (ite_f (eqI_f.2 a7) (ite_f (eqI_f.2 a8) (ite_f (eqI_f.2 a13) (ite_f (eqI_f.2 a14) (ite_f (eqI_f.2 a16) ⟨(),H',g,rfl,rfl⟩)))))))),nx⟩
 by_cases n1:k=1
 ·have o:=n1; subst o
  rw [one_1 (x:=⟨1,a,t⟩) rfl]
  obtain ⟨H',g,nx⟩:=goes (gives168 h [⟨1,0,a,bs []⟩] (by omega))
  exact ⟨H',e91 _ _ _ _ (ite_t rfl ⟨(),H',g,rfl,rfl⟩),nx⟩
 by_cases n2:k=2
 ·have o:=n2; subst o
  rw [one_2 (x:=⟨2,a,t⟩) rfl]
  obtain ⟨H',g,nx⟩:=goes (gives168 h [⟨2,0,0,t⟩] (by omega))
  exact ⟨H',e91 _ _ _ _ (ite_f rfl (ite_t rfl ⟨(),H',g,rfl,rfl⟩)),nx⟩
 by_cases n4:k=4
 ·have o:=n4; subst o
  rw [one_4 (x:=⟨4,a,t⟩) rfl]
  obtain ⟨l1,l2⟩:=N.load rfl
  have l1:0≤a:=l1
  have l2:a.toNat<m.lo.length:=l2
  obtain ⟨zs,hb,fr⟩:=h.hb
  have ea:a=(a.toNat:Int):=by omega
  have hlen:subLen p.sb (lenL (m.lo ++ zs))=m.lo.length:=fr.len
  have hidx:addN (subOff p.sb) (natI a)=a.toNat:=by rw [fr.off]; simp [addN,natI]
  have hel:rdN ([]:List api_Atom) (m.lo ++ zs) (addN (subOff p.sb) (natI a))=m.lo.getD a.toNat []:=by
   rw [hidx]; simp [rdN,List.getD_eq_getElem?_getD,List.getElem?_append_left l2]
  obtain ⟨H',g,nx⟩:=goes (gives168 h (rdN ([]:List api_Atom) (m.lo ++ zs) (addN (subOff p.sb) (natI a))) (by omega))
  rw [hel] at nx
  refine ⟨H',e91 _ _ _ _ (ite_f rfl (ite_f rfl (ite_t rfl ⟨msOf m p,h.hn,m.lo ++ zs,hb,and_t ?_ (and_t fr.fit ⟨m.lo ++ zs,hb,and_t ?_ ⟨(),H',g,rfl,rfl⟩⟩)⟩))),nx⟩
  ·show inB a (subLen p.sb (lenL (m.lo ++ zs)))=true
   rw [hlen,ea]; exact in_len l2
  ·show ltN (addN (subOff p.sb) (natI a)) (lenL (m.lo ++ zs))=true
   rw [hidx]; exact decide_eq_true (by rw [lenL_eq]; simp; omega)
 by_cases n7:k=7
 ·have o:=n7; subst o
  rw [one_7 (x:=⟨7,a,t⟩) rfl]
  obtain ⟨l1,l2⟩:=N.make rfl
  have l1:0≤a:=l1
  have ea:a=(a.toNat:Int):=by omega
  obtain ⟨H',g,nx⟩:=gives171 h sm (k:=5) (by omega) (by omega) (n:=a.toNat) l2
  rw [←ea] at g
  exact ⟨H',e91 _ _ _ _ (ite_f rfl (ite_f rfl (ite_f rfl (ite_t rfl ⟨(),H',g,rfl,rfl⟩)))),nx⟩
 by_cases n8:k=8
 ·have o:=n8; subst o
  rw [one_8 (x:=⟨8,a,t⟩) rfl]
  obtain ⟨l1,l2,l3⟩:=N.do' rfl
  have l1:6≤a:=l1
  have l2:a≤13:=l2
  have l3:(if a=11 then 1 else 2)≤m.sk.length:=l3
  obtain ⟨H',g,nx⟩:=gives171 h sm (k:=a) (by omega) l2 l3
  refine ⟨H',e91 _ _ _ _ (ite_f rfl (ite_f rfl (ite_f rfl (ite_f rfl (ite_t rfl (ite_w (fun e=>⟨(),H',?_,rfl,rfl⟩) (fun e=>⟨(),H',?_,rfl,rfl⟩))))))),nx⟩
  ·rw [if_pos (eqI_t.1 e)] at g; exact g
  ·rw [if_neg (eqI_f.1 e)] at g; exact g
 by_cases n13:k=13∨k=14
 ·have o:=n13
  rw [one_r (x:=⟨k,a,t⟩) o]
  obtain ⟨H',g,nx⟩:=gives172 h sm hv o (N.one (by rcases o with o|o; exact .inr (.inr (.inl o)); exact .inr (.inr (.inr (.inl o)))))
  refine ⟨H',?_,nx⟩
  rcases o with rfl|rfl
  ·exact e91 _ _ _ _ (ite_f rfl (ite_f rfl (ite_f rfl (ite_f rfl (ite_f rfl (ite_t rfl (ite_t rfl ⟨(),H',g,rfl,rfl⟩)))))))
  ·exact e91 _ _ _ _ (ite_f rfl (ite_f rfl (ite_f rfl (ite_f rfl (ite_f rfl (ite_f rfl (ite_t rfl ⟨(),H',g,rfl,rfl⟩)))))))
 by_cases n16:k=16
 ·have o:=n16; subst o
  rw [one_16 (x:=⟨16,a,t⟩) rfl]
  have l1:=N.one (.inr (.inr (.inr (.inr rfl))))
  obtain ⟨zs,ha,fr⟩:=h.ha
  have hlen:subLen p.sa (lenL (m.sk ++ zs))=m.sk.length:=fr.len
  have hidx:addN (subOff p.sa) (natI 0)=0:=by rw [fr.off]; rfl
  have hel:rdN ([]:List api_Atom) (m.sk ++ zs) (addN (subOff p.sa) (natI 0))=m.sk.headD []:=by
   rw [hidx]
   cases hsk:m.sk with
   | nil=>rw [hsk] at l1; simp at l1
   | cons v l=>rfl
  obtain ⟨H',g,nx⟩:=gives170 h ⟨1,rdN ([]:List api_Atom) (m.sk ++ zs) (addN (subOff p.sa) (natI 0)),[]⟩
  rw [hel] at nx
  refine ⟨H',e91 _ _ _ _ (ite_f rfl (ite_f rfl (ite_f rfl (ite_f rfl (ite_f rfl (ite_f rfl (ite_f rfl (ite_t rfl ⟨msOf m p,h.hn,m.sk ++ zs,ha,and_t ?_ (and_t fr.fit ⟨m.sk ++ zs,ha,and_t ?_ ⟨(),H',g,rfl,rfl⟩⟩)⟩)))))))),nx⟩
  ·show inB 0 (subLen p.sa (lenL (m.sk ++ zs)))=true
   rw [hlen]; exact in_len (i:=0) (by omega)
  ·show ltN (addN (subOff p.sa) (natI 0)) (lenL (m.sk ++ zs))=true
   rw [hidx]; exact decide_eq_true (by rw [lenL_eq]; simp; omega)
 have c13:k ≠ 13:=fun e=>n13 (.inl e)
 have c14:k ≠ 14:=fun e=>n13 (.inr e)
 by_cases n5:k=5
 ·have o:=n5; subst o
  rw [one_5 (x:=⟨5,a,t⟩) rfl]
  exact ctl (by decide) (by decide) (by decide) (by decide) (by decide) (by decide) (by decide) (by decide) (goes (ctl5 h sm (N.one (.inl rfl)) a t))
 by_cases n6:k=6
 ·have o:=n6; subst o
  rw [one_6 (x:=⟨6,a,t⟩) rfl]
  exact ctl (by decide) (by decide) (by decide) (by decide) (by decide) (by decide) (by decide) (by decide) (goes (ctl6 h sm (N.leave rfl) a t))
 by_cases n9:k=9
 ·have o:=n9; subst o
  rw [one_9 (x:=⟨9,a,t⟩) rfl]
  exact ctl (by decide) (by decide) (by decide) (by decide) (by decide) (by decide) (by decide) (by decide) (ctl9 h sm hv (N.one (.inr (.inl rfl))) a t)
 by_cases n10:k=10
 ·have o:=n10; subst o
  rw [one_10 (x:=⟨10,a,t⟩) rfl]
  exact ctl (by decide) (by decide) (by decide) (by decide) (by decide) (by decide) (by decide) (by decide) (goes (ctl10 h a t))
 by_cases n11:k=11
 ·have o:=n11; subst o
  rw [one_11 (x:=⟨11,a,t⟩) rfl]
  exact ctl (by decide) (by decide) (by decide) (by decide) (by decide) (by decide) (by decide) (by decide) (goes (ctl11 h sm a t))
 by_cases n12:k=12
 ·have o:=n12; subst o
  rw [one_12 (x:=⟨12,a,t⟩) rfl]
  exact ctl (by decide) (by decide) (by decide) (by decide) (by decide) (by decide) (by decide) (by decide) (goes (ctl12 h sm (N.done rfl) a t))
 rw [one_else (x:=⟨k,a,t⟩) n1 n2 n4 n7 n8 n13 n16 n5 n6 n9 n10 n11 n12]
 exact ctl n1 n2 n4 n7 n8 c13 c14 n16 (goes (ctlN h ⟨n5,n6,n9,n10,n11,n12⟩ a t))
def evC (e:api_Event):C U:=.agg [.d (.int .i64 e.gKind),.d (.str e.gName),.d (.int .i64 e.gOutcome.gKind),.d (.sl .api_Atom e.gOutcome.gValue),.d (.sl .api_Crack e.gOutcome.gFail)]
abbrev insM (m:Mc):api_Instr:=rdI m.c m.pc
def toldM (m:Mc):api_Event:=
 if m.st=3 then ⟨3,bs [],m.nx⟩
 else if (insM m).gOp=3 then ⟨1,(insM m).gText,⟨0,[],[]⟩⟩
 else ⟨2,(insM m).gText,⟨0,[],[]⟩⟩
theorem gives92 {H:List (O U)} {n:Nat} {m:Mc} {x y z:C U} (h:obj H n=some (mcO m x y z)) (hp:inB m.pc (lenL m.c)=true) (hn:SmO m.nx):
  GivesM 92 [.ptr (.g n) 0] H (evC (toldM m)) H:=by
 refine e92 _ _ _ ⟨moOf m x y z,h,moOf m x y z,h,and_t hp ⟨moOf m x y z,h,ite_w (fun e=>⟨moOf m x y z,h,m.nx,gives101 m.nx hn,?_,rfl⟩) (fun e=>ite_w (fun e2=>⟨?_,rfl⟩) (fun e2=>⟨?_,rfl⟩))⟩⟩
 ·unfold toldM; rw [if_pos (eqI_t.1 e)]; rfl
 ·unfold toldM; rw [if_neg (eqI_f.1 e),if_pos (eqI_t.1 e2)]; rfl
 ·unfold toldM; rw [if_neg (eqI_f.1 e),if_neg (eqI_f.1 e2)]; rfl
noncomputable def metM (m:Mc):Mc:=
 let m1:Mc:={ m with st:=0,nx:=⟨0,[],[]⟩ }
 if m.ps=true then { m1 with ps:=false,pc:=addW .i64 m.pc 1 }
 else if m.nx.gKind=1 then pushM m.nx.gValue m1
 else if m.nx.gKind=2 then failM m.nx.gFail m1
 else endM m.nx m1
theorem gives90 {H:List (O U)} {p:Plc} {m:Mc} (h:MR H p m) (sm:SmM m):
  ∃H',GivesM 90 [.ptr (.g p.n) 0] H (.tup []) H'∧Nx H p.n (fp p) H' (metM m):=by
 let m0:Mc:={ m with st:=0 }
 let m1:Mc:={ m with st:=0,nx:=⟨0,[],[]⟩ }
 have r0:MR (updO H p.n (mcP m0 p)) p m0:=h.set m0 rfl rfl rfl
 have r1:MR (updO (updO H p.n (mcP m0 p)) p.n (mcP m1 p)) p m1:=r0.set m1 rfl rfl rfl
 have g1:Goes H p (updO (updO H p.n (mcP m0 p)) p.n (mcP m1 p)) p:=Goes.set.trans .set
 have sm1:SmM m1:=⟨sm.sk,sm.lo,sm.tr,sm.trs⟩
 unfold metM
 simp only
 split
 ·rename_i hps
  let m2:Mc:={ m1 with ps:=false }
  have r2:=r1.set m2 rfl rfl rfl
  refine ⟨_,e90 _ _ _ ⟨msOf m p,h.hn,msOf m p,h.hn,msOf m0 p,r0.hn,msOf m1 p,r1.hn,ite_t hps ⟨msOf m1 p,r1.hn,msOf m2 p,r2.hn,msOf m2 p,r2.hn,rfl,rfl⟩⟩,?_⟩
  exact Nx.of (g1.trans (Goes.set.trans .set)) (r2.set { m1 with ps:=false,pc:=addW .i64 m.pc 1 } rfl rfl rfl)
 ·rename_i hps
  have hps:m.ps=false:=by simpa using hps
  split
  ·rename_i hk
   obtain ⟨H',p',g,r,go⟩:=gives168 r1 m.nx.gValue (by have:=sm1.sk; omega)
   exact ⟨H',e90 _ _ _ ⟨msOf m p,h.hn,msOf m p,h.hn,msOf m0 p,r0.hn,msOf m1 p,r1.hn,ite_f hps (ite_t (eqI_t.2 hk) ⟨(),H',g,rfl,rfl⟩)⟩,g1.nx (.of go r)⟩
  ·rename_i hk
   split
   ·rename_i hk2
    obtain ⟨H',g,nx⟩:=gives169 r1 sm1 m.nx.gFail
    exact ⟨H',e90 _ _ _ ⟨msOf m p,h.hn,msOf m p,h.hn,msOf m0 p,r0.hn,msOf m1 p,r1.hn,ite_f hps (ite_f (eqI_f.2 hk) (ite_t (eqI_t.2 hk2) ⟨(),H',g,rfl,rfl⟩))⟩,g1.nx nx⟩
   ·rename_i hk2
    obtain ⟨H',g,nx⟩:=gives170 r1 m.nx
    exact ⟨H',e90 _ _ _ ⟨msOf m p,h.hn,msOf m p,h.hn,msOf m0 p,r0.hn,msOf m1 p,r1.hn,ite_f hps (ite_f (eqI_f.2 hk) (ite_f (eqI_f.2 hk2) ⟨(),H',g,rfl,rfl⟩))⟩,g1.nx nx⟩
structure Inv (c:List api_Instr) (T:List code_state) (m:Mc):Prop where
 co:m.c=c
 place:∃i:Nat,m.pc=i∧i<c.length
 nx:SmO m.nx
 st:m.st=0∨m.st=1∨m.st=2∨m.st=3
 live:m.st ≠ 3→Stands c T m.pc m.sk m.lo m.tr
 wants:m.st=1→(insM m).gOp=3∨(insM m).gOp=15
 given:m.st=2→(m.ps=true∧(insM m).gOp=15)∨(m.ps=false∧(insM m).gOp=3∧(m.nx.gKind=1→valE m.nx.gValue=0))
 ps:m.st ≠ 2→m.ps=false
 over:m.st=3→m.sk=[]∧m.lo=[]∧m.tr=[]
section
variable {c:List api_Instr} {T:List code_state}
theorem Inv.in {m:Mc} (h:Inv c T m):inB m.pc (lenL m.c)=true:=by
 obtain ⟨i,e,hi⟩:=h.place
 rw [e,h.co]; exact in_len hi
theorem Inv.ins {m:Mc} (h:Inv c T m) {i:Nat} (e:m.pc=i) (hi:i<c.length):insM m=c[i]:=by
 show rdI m.c m.pc=_
 rw [h.co,e]; exact rd_at hi
theorem stands_place {pc:Int} {sk lo:List (List api_Atom)} {tr:List machine_catch} (h:Stands c T pc sk lo tr):∃i:Nat,pc=i∧i<c.length:=by
 obtain ⟨i,e,hi,_⟩:=h; exact ⟨i,e,hi⟩
theorem inv_after {m m':Mc} (h:After c T m m') (hc:m.c=c) (hst:m.st=0) (hn:SmO m.nx) (hps:m.ps=false) (hpl:∃i:Nat,m.pc=i∧i<c.length):Inv c T m'∧(m'.st=0→mu c.length m'.pc m'.tr<mu c.length m.pc m.tr)∧(m'.st=0∨m'.st=3):=by
 rcases h with h|h
 ·have e0:m'.st=0:=by rw [h.st,hst]
  exact ⟨⟨by rw [h.co,hc],stands_place h.at',by rw [h.nx]; exact hn,.inl e0,fun _=>h.at',fun e=>by omega,fun e=>by omega,(fun _=>by rw [h.ps,hps]),fun e=>by omega⟩,fun _=>h.less,.inl e0⟩
 ·exact ⟨⟨by rw [h.co,hc],by rw [h.pc]; exact hpl,h.nx,.inr (.inr (.inr h.st)),fun e=>absurd h.st e,(fun e=>by rw [h.st] at e; simp at e),(fun e=>by rw [h.st] at e; simp at e),(fun _=>by rw [h.ps,hps]),fun _=>h.em⟩,(fun e=>by rw [h.st] at e; simp at e),.inr h.st⟩
theorem met_ok (R:Right c T) {m:Mc} (h:Inv c T m) (h2:m.st=2):Inv c T (metM m):=by
 have hs:=h.live (by omega)
 have hg:=h.given h2
 obtain ⟨i,e,hi,k1,k2,k3,k4,k5⟩:=hs
 rw [h.ins e hi] at hg
 have tr:=R.tr i hi k1
 have hT:=R.tok.len
 have hN:=R.small
 have so:=R.tok.ok i (by omega)
 rw [←rdT_at (by omega)] at so
 have hpc1:addW .i64 m.pc 1=((i+1:Nat):Int):=by rw [e]; exact add_one (by omega)
 let m1:Mc:={ m with st:=0,nx:=⟨0,[],[]⟩ }
 have hn0:SmO (⟨0,[],[]⟩:api_Outcome):=by simp [SmO]
 unfold metM
 simp only
 rcases hg with ⟨g1,g2⟩|⟨g1,g2,g3⟩
 ·rw [if_pos g1]
  have hcm:=tr.next (by omega) (by omega) (by omega) (by omega)
  rw [beh_15 g2,←hpc1] at hcm
  have st:Stands c T (addW .i64 m.pc 1) m.sk m.lo m.tr:=stands_of hcm k2 (by
   show Fits c.length T ((rdT T i).gL ++ [(⟨15,0,(rdT T i).gHigh⟩:code_mark)]).reverse m.lo.length m.tr.reverse
   rw [List.reverse_append]
   simp only [List.reverse_cons,List.reverse_nil,List.nil_append,List.singleton_append,Fits]
   rw [if_neg (by decide),if_neg (by decide)]; exact k3) k4 k5
  exact ⟨h.co,stands_place st,hn0,.inl rfl,fun _=>st,(fun e=>by simp at e),(fun e=>by simp at e),fun _=>rfl,(fun e=>by simp at e)⟩
 ·rw [if_neg (by rw [g1]; decide)]
  split
  ·rename_i hk
   have hcm:=tr.next (by omega) (by omega) (by omega) (by omega)
   have hok:=tr.ok
   rw [beh_a (.inr (.inr g2))] at hcm hok
   rw [←hpc1] at hcm
   obtain ⟨t1,t2,t3,_⟩:=takes_ok (n:=0) (p:=1) (s':=(takesF (rdT T i) 0 1).1) so (by omega) (by omega) (by omega) (by rw [←hok])
   have st:Stands c T (addW .i64 m.pc 1) (m.sk ++ [m.nx.gValue]) m.lo m.tr:=stands_of hcm (by rw [t2]; simp; omega) (by rw [t1]; exact k3) (vals_app k4 (g3 hk)) k5
   exact ⟨h.co,stands_place st,hn0,.inl rfl,fun _=>st,(fun e=>by have e:(0:Int)=1:=e; omega),(fun e=>by have e:(0:Int)=2:=e; omega),fun _=>g1,(fun e=>by have e:(0:Int)=3:=e; omega)⟩
  ·split
   ·have:=fail_ok (c:=c) (T:=T) (m:=m1) (m0:=m1) (f:=m.nx.gFail) ⟨rfl,rfl,rfl,rfl,rfl,rfl,rfl⟩ h.nx.2 ⟨_,_,k3⟩
    exact (inv_after this h.co rfl hn0 g1 ⟨i,e,hi⟩).1
   ·exact (inv_after (.inr (end_ok (m:=m1) m.nx h.nx)) h.co rfl hn0 g1 ⟨i,e,hi⟩).1
noncomputable def runM:Nat→Mc→Mc
 | 0,m=>m
 | k+1,m=>if m.st=0 then (if (insM m).gOp=3∨(insM m).gOp=15 then { m with st:=1 } else runM k (oneM (insM m) { m with dn:=addW .i64 m.dn 1 })) else m
theorem run_st {k:Nat} {m:Mc} (h:m.st ≠ 0):runM k m=m:=by
 cases k with
 | zero=>rfl
 | succ k=>unfold runM; rw [if_neg h]
theorem run_spec (R:Right c T):∀(k:Nat) {H:List (O U)} {n:Nat} {F:List Nat} {m:Mc},Has H n F m→Inv c T m→(m.st=0→mu c.length m.pc m.tr≤k)→m.st ≠ 2→
  ∃H1,At K 30 (fun c' H'=>c'=evC (toldM (runM k m))∧H'=H1) t30_3 (s30_3 n 0 (bs []) 0 [] [] H)∧Nx H n F H1 (runM k m)∧Inv c T (runM k m)∧(runM k m).st ≠ 0∧(runM k m).st ≠ 2:=by
 intro k
 induction k with
 | zero=>
  intro H n F m hm hI hk h2
  by_cases h0:m.st=0
  ·have:=hk h0
   unfold mu at this
   have:=pow_pos' (a:=c.length - m.pc.toNat)
   omega
  ·rw [run_st h0]
   obtain ⟨x,y,z,ho⟩:=hm.obj
   exact ⟨H,l30_3 _ _ _ _ _ _ _ _ ⟨moOf m x y z,ho,ite_f (eqI_f.2 h0) ⟨toldM m,H,gives92 ho hI.in hI.nx,rfl,rfl⟩⟩,.refl hm,hI,h0,h2⟩
 | succ k ih=>
  intro H n F m hm hI hk h2
  by_cases h0:m.st=0
  ·obtain ⟨p,rfl,rfl,r⟩:=hm.live (by omega)
   obtain ⟨i,e,hi⟩:=hI.place
   have hins:=hI.ins e hi
   unfold runM
   rw [if_pos h0]
   by_cases ho:(insM m).gOp=3∨(insM m).gOp=15
   ·rw [if_pos ho]
    have r1:=r.set { m with st:=1 } rfl rfl rfl
    have I1:Inv c T { m with st:=1 }:=⟨hI.co,hI.place,hI.nx,.inr (.inl rfl),fun _=>hI.live (by omega),fun _=>ho,(fun e=>by simp at e),(fun _=>hI.ps (by omega)),(fun e=>by simp at e)⟩
    refine ⟨_,l30_3 _ _ _ _ _ _ _ _ ⟨moP m p,r.hn,ite_t (eqI_t.2 h0) ⟨moP m p,r.hn,moP m p,r.hn,and_t hI.in (or_of (b:=eqI (insM m).gOp 15) (fun _=>rfl) (ite_t ?_ ⟨msOf m p,r.hn,toldM { m with st:=1 },_,gives92 r1.hn I1.in I1.nx,rfl,rfl⟩))⟩⟩,.of .set r1,I1,(by show (1:Int) ≠ 0; omega),(by show (1:Int) ≠ 2; omega)⟩
    rcases ho with o|o
    ·rw [show eqI (insM m).gOp 3=true from eqI_t.2 o]; rfl
    ·rw [show eqI (insM m).gOp 15=true from eqI_t.2 o]; simp
   ·rw [if_neg ho]
    have o3:(insM m).gOp ≠ 3:=fun e=>ho (.inl e)
    have o15:(insM m).gOp ≠ 15:=fun e=>ho (.inr e)
    let m1:Mc:={ m with dn:=addW .i64 m.dn 1 }
    have r1:=r.set m1 rfl rfl rfl
    have hs1:Stands c T m1.pc m1.sk m1.lo m1.tr:=hI.live (by omega)
    have sm1:=stands_small R hs1
    have hv1:Vals m1.sk:=by obtain ⟨_,_,_,_,_,_,h,_⟩:=hs1; exact h
    obtain ⟨need,aft⟩:=one_ok R hs1 hi e (by rw [←hins]; exact o3) (by rw [←hins]; exact o15)
    obtain ⟨I2,ls,st2⟩:=inv_after aft hI.co h0 hI.nx (hI.ps (by omega)) hI.place
    rw [←hins] at need I2 ls st2
    obtain ⟨H2,g2,nx2⟩:=gives91 r1 sm1 hv1 need
    obtain ⟨F2,a1,a2,a3⟩:=(Goes.set (x:=mcP m1 p)).nx nx2
    obtain ⟨H3,b1,b2,b3⟩:=ih a1 I2 (fun e0=>by
     have l1:mu c.length (oneM (insM m) m1).pc (oneM (insM m) m1).tr<mu c.length m.pc m.tr:=ls e0
     have l2:=hk h0
     show mu c.length (oneM (insM m) m1).pc (oneM (insM m) m1).tr≤k
     omega) (by rcases st2 with e|e <;> rw [e] <;> omega)
    refine ⟨H3,l30_3 _ _ _ _ _ _ _ _ ⟨moP m p,r.hn,ite_t (eqI_t.2 h0) ⟨moP m p,r.hn,moP m p,r.hn,and_t hI.in (or_of (b:=eqI (insM m).gOp 15) (fun _=>rfl) (ite_f ?_ ⟨moP m p,r.hn,msOf m p,r.hn,(),H2,g2,b1⟩))⟩⟩,b2.trans a2 a3,b3⟩
    rw [show eqI (insM m).gOp 3=false from eqI_f.2 o3,show eqI (insM m).gOp 15=false from eqI_f.2 o15]; rfl
  ·rw [run_st h0]
   obtain ⟨x,y,z,ho⟩:=hm.obj
   exact ⟨H,l30_3 _ _ _ _ _ _ _ _ ⟨moOf m x y z,ho,ite_f (eqI_f.2 h0) ⟨toldM m,H,gives92 ho hI.in hI.nx,rfl,rfl⟩⟩,.refl hm,hI,h0,h2⟩
noncomputable def met2 (m:Mc):Mc:=if m.st=2 then metM m else m
noncomputable def stepM (m:Mc):Mc:=runM (mu m.c.length (met2 m).pc (met2 m).tr) (met2 m)
theorem gives30 (R:Right c T) {H:List (O U)} {n:Nat} {F:List Nat} {m:Mc} (h:Has H n F m) (hI:Inv c T m):
  ∃H',GivesM 30 [.ptr (.g n) 0] H (evC (toldM (stepM m))) H'∧Nx H n F H' (stepM m)∧Inv c T (stepM m)∧(stepM m).st ≠ 0∧(stepM m).st ≠ 2:=by
 have hc:=hI.co
 unfold stepM
 rw [hc]
 by_cases h2:m.st=2
 ·have e2:met2 m=metM m:=if_pos h2
  obtain ⟨p,rfl,rfl,r⟩:=h.live (by omega)
  have hs:=hI.live (by omega)
  obtain ⟨H1,g1,nx1⟩:=gives90 r (stands_small R hs)
  have I1:=met_ok R hI h2
  obtain ⟨F1,a1,a2,a3⟩:=nx1
  have n2:(metM m).st ≠ 2:=by
   have:∀{f:List api_Crack} {mm:Mc},mm.st=0→(failM f mm).st ≠ 2:=by
    intro f mm h0
    unfold failM
    split
    ·simp [endM]
    ·show mm.st ≠ 2; omega
   unfold metM
   simp only
   split
   ·show (0:Int) ≠ 2; omega
   ·split
    ·show (0:Int) ≠ 2; omega
    ·split
     ·exact this rfl
     ·show (3:Int) ≠ 2; omega
  rw [e2]
  obtain ⟨H2,b1,b2,b3⟩:=run_spec R (mu c.length (metM m).pc (metM m).tr) a1 I1 (fun _=>Nat.le_refl _) n2
  exact ⟨H2,e30 _ _ _ ⟨moP m p,r.hn,ite_t (eqI_t.2 h2) ⟨(),H1,g1,b1⟩⟩,b2.trans a2 a3,b3⟩
 ·have e2:met2 m=m:=if_neg h2
  rw [e2]
  obtain ⟨x,y,z,ho⟩:=h.obj
  obtain ⟨H2,b1,b2,b3⟩:=run_spec R (mu c.length m.pc m.tr) h hI (fun _=>Nat.le_refl _) h2
  exact ⟨H2,e30 _ _ _ ⟨moOf m x y z,ho,ite_f (eqI_f.2 h2) b1⟩,b2,b3⟩
noncomputable def rightF (o:api_Outcome):Bool:=
 if o.gKind=1 then eqI (intN (lenL o.gFail)) 0 && eqI (valE o.gValue) 0
 else if o.gKind=2∨o.gKind=3 then (eqI (intN (lenL o.gValue)) 0 && eqI (failE o.gFail) 0) && (eqI o.gKind 2 || eqI (rd (api_Crack.mk 0 0 (bs [])) o.gFail (subW .i64 (intN (lenL o.gFail)) 1)).1 2)
 else false
theorem failE_len {v:List api_Crack} (h:failE v=0):v.length≤1024∧v ≠ []:=by
 refine ⟨?_,fun e=>by subst e; revert h; decide⟩
 unfold failE at h
 split at h
 ·cases h
 ·omega
theorem gives100 (o:api_Outcome):Gives 100 [outC' o] (.d (.bool (rightF o))):=by
 refine e100 o _ ?_
 unfold rightF
 by_cases h1:o.gKind=1
 ·rw [if_pos h1]
  exact ite_t (eqI_t.2 h1) (and_of (fun _=>⟨_,gives177 o.gValue,rfl⟩) ⟨rfl,rfl⟩)
 ·rw [if_neg h1]
  refine ite_f (eqI_f.2 h1) ?_
  have body:(o.gKind=2∨o.gKind=3)→∃(v:Bool),iteP (eqI (intN (lenL o.gValue)) 0) (∃(x:Int),(Gives 178 [C.d (D.sl Ty.api_Crack o.gFail)] (C.d (D.int .i64 x)))∧eqI x 0=v) (false=v)∧∃(v_1:Bool),
    iteP v (∃(v:Bool),iteP (eqI o.gKind 2) (true=v) (andP (inB (subW .i64 (intN (lenL o.gFail)) 1) (lenL o.gFail)) (eqI (rd (api_Crack.mk 0 0 (bs [])) o.gFail (subW .i64 (intN (lenL o.gFail)) 1)).1 2=v))∧v=v_1) (false=v_1)∧
    ((.d (.bool v_1):C U)=.d (.bool ((eqI (intN (lenL o.gValue)) 0 && eqI (failE o.gFail) 0) && (eqI o.gKind 2 || eqI (rd (api_Crack.mk 0 0 (bs [])) o.gFail (subW .i64 (intN (lenL o.gFail)) 1)).1 2)))∧([]:List (O U))=[]):=by
   intro _
   refine and_of (fun _=>⟨_,gives178 o.gFail,rfl⟩) (and_of (fun hb=>or_of (fun _=>and_t ?_ rfl) rfl) ⟨rfl,rfl⟩)
   rw [Bool.and_eq_true] at hb
   obtain ⟨l1,l2⟩:=failE_len (eqI_t.1 hb.2)
   have hp:0<o.gFail.length:=List.length_pos_iff.2 l2
   have:subW .i64 (intN (lenL o.gFail)) 1=((o.gFail.length - 1:Nat):Int):=by rw [intN_eq,lenL_eq,subW_id (by omega) (by omega)]; omega
   rw [this]; exact in_len (by omega)
  by_cases h2:o.gKind=2
  ·rw [if_pos (.inl h2)]
   exact ite_t (eqI_t.2 h2) (ite_t (eqI_t.2 h2) (body (.inl h2)))
  ·by_cases h3:o.gKind=3
   ·rw [if_pos (.inr h3)]
    exact ite_f (eqI_f.2 h2) (ite_t (eqI_t.2 h3) (body (.inr h3)))
   ·rw [if_neg (by omega)]
    exact ite_f (eqI_f.2 h2) (ite_f (eqI_f.2 h3) ⟨rfl,rfl⟩)
theorem right_small {o:api_Outcome} (h:rightF o=true):SmO o∧(o.gKind=1→valE o.gValue=0):=by
 unfold rightF at h
 split at h
 ·rename_i h1
  rw [Bool.and_eq_true] at h
  have e1:(o.gFail.length:Int)=0:=eqI_t.1 h.1
  have e2:=eqI_t.1 h.2
  have:=valE_len e2
  exact ⟨⟨by omega,by omega⟩,fun _=>e2⟩
 ·rename_i h1
  split at h
  ·rw [Bool.and_eq_true,Bool.and_eq_true] at h
   have e1:(o.gValue.length:Int)=0:=eqI_t.1 h.1.1
   have:=failE_len (eqI_t.1 h.1.2)
   exact ⟨⟨by omega,by omega⟩,fun e=>absurd e h1⟩
  ·cases h
noncomputable def giveM (o:api_Outcome) (m:Mc):Mc×Int:=
 if m.st ≠ 1∨(insM m).gOp ≠ 3 then (m,7)
 else if rightF o=false then (m,5)
 else ({ m with st:=2,nx:=o,dn:=addW .i64 m.dn 1 },0)
theorem gives35 {H:List (O U)} {n:Nat} {F:List Nat} {m:Mc} (h:Has H n F m) (hI:Inv c T m) (o:api_Outcome):
  ∃H',GivesM 35 [.ptr (.g n) 0,outC' o] H (.d (.int .i64 (giveM o m).2)) H'∧Nx H n F H' (giveM o m).1∧Inv c T (giveM o m).1:=by
 obtain ⟨x,y,z,ho⟩:=h.obj
 unfold giveM
 by_cases h1:m.st=1
 ·by_cases h3:(insM m).gOp=3
  ·rw [if_neg (by omega)]
   cases hr:rightF o with
   | false=>
    rw [if_pos rfl]
    exact ⟨H,e35 _ _ _ _ ⟨moOf m x y z,ho,ite_f (notB_f.2 (eqI_t.2 h1)) ⟨moOf m x y z,ho,moOf m x y z,ho,and_t hI.in (ite_f (notB_f.2 (eqI_t.2 h3)) ⟨_,gives100 o,ite_t (notB_t.2 hr) ⟨rfl,rfl⟩⟩)⟩⟩,.refl h,hI⟩
   | true=>
    rw [if_neg (by decide)]
    obtain ⟨sm,sv⟩:=right_small hr
    obtain ⟨p,rfl,rfl,r⟩:=h.live (by omega)
    let m1:Mc:={ m with st:=2 }
    let m2:Mc:={ m with st:=2,nx:=o }
    have r1:=r.set m1 rfl rfl rfl
    have r2:=r1.set m2 rfl rfl rfl
    refine ⟨_,e35 _ _ _ _ ⟨moP m p,r.hn,ite_f (notB_f.2 (eqI_t.2 h1)) ⟨moP m p,r.hn,moP m p,r.hn,and_t hI.in (ite_f (notB_f.2 (eqI_t.2 h3)) ⟨_,gives100 o,ite_f (notB_f.2 hr) ⟨o,gives101 o sm,msOf m p,r.hn,msOf m1 p,r1.hn,moP m2 p,r2.hn,msOf m2 p,r2.hn,rfl,rfl⟩⟩)⟩⟩,.of (Goes.set.trans (Goes.set.trans .set)) (r2.set { m with st:=2,nx:=o,dn:=addW .i64 m.dn 1 } rfl rfl rfl),?_⟩
    exact ⟨hI.co,hI.place,sm,.inr (.inr (.inl rfl)),fun _=>hI.live (by omega),(fun e=>by simp at e),fun _=>.inr ⟨hI.ps (by omega),h3,sv⟩,fun e=>absurd rfl e,(fun e=>by simp at e)⟩
  ·rw [if_pos (.inr h3)]
   exact ⟨H,e35 _ _ _ _ ⟨moOf m x y z,ho,ite_f (notB_f.2 (eqI_t.2 h1)) ⟨moOf m x y z,ho,moOf m x y z,ho,and_t hI.in (ite_t (notB_t.2 (eqI_f.2 h3)) ⟨rfl,rfl⟩)⟩⟩,.refl h,hI⟩
 ·rw [if_pos (.inl h1)]
  exact ⟨H,e35 _ _ _ _ ⟨moOf m x y z,ho,ite_t (notB_t.2 (eqI_f.2 h1)) ⟨rfl,rfl⟩⟩,.refl h,hI⟩
noncomputable def passM (m:Mc):Mc×Int:=
 if m.st ≠ 1∨(insM m).gOp ≠ 15 then (m,7) else ({ m with st:=2,ps:=true,dn:=addW .i64 m.dn 1 },0)
theorem gives38 {H:List (O U)} {n:Nat} {F:List Nat} {m:Mc} (h:Has H n F m) (hI:Inv c T m):
  ∃H',GivesM 38 [.ptr (.g n) 0] H (.d (.int .i64 (passM m).2)) H'∧Nx H n F H' (passM m).1∧Inv c T (passM m).1:=by
 obtain ⟨x,y,z,ho⟩:=h.obj
 unfold passM
 by_cases h1:m.st=1
 ·by_cases h3:(insM m).gOp=15
  ·rw [if_neg (by omega)]
   obtain ⟨p,rfl,rfl,r⟩:=h.live (by omega)
   let m1:Mc:={ m with st:=2 }
   let m2:Mc:={ m with st:=2,ps:=true }
   have r1:=r.set m1 rfl rfl rfl
   have r2:=r1.set m2 rfl rfl rfl
   refine ⟨_,e38 _ _ _ ⟨moP m p,r.hn,ite_f (notB_f.2 (eqI_t.2 h1)) ⟨moP m p,r.hn,moP m p,r.hn,and_t hI.in (ite_f (notB_f.2 (eqI_t.2 h3)) ⟨msOf m p,r.hn,msOf m1 p,r1.hn,moP m2 p,r2.hn,msOf m2 p,r2.hn,rfl,rfl⟩)⟩⟩,.of (Goes.set.trans (Goes.set.trans .set)) (r2.set { m with st:=2,ps:=true,dn:=addW .i64 m.dn 1 } rfl rfl rfl),?_⟩
   exact ⟨hI.co,hI.place,hI.nx,.inr (.inr (.inl rfl)),fun _=>hI.live (by omega),(fun e=>by simp at e),fun _=>.inl ⟨rfl,h3⟩,fun e=>absurd rfl e,(fun e=>by simp at e)⟩
  ·rw [if_pos (.inr h3)]
   exact ⟨H,e38 _ _ _ ⟨moOf m x y z,ho,ite_f (notB_f.2 (eqI_t.2 h1)) ⟨moOf m x y z,ho,moOf m x y z,ho,and_t hI.in (ite_t (notB_t.2 (eqI_f.2 h3)) ⟨rfl,rfl⟩)⟩⟩,.refl h,hI⟩
 ·rw [if_pos (.inl h1)]
  exact ⟨H,e38 _ _ _ ⟨moOf m x y z,ho,ite_t (notB_t.2 (eqI_f.2 h1)) ⟨rfl,rfl⟩⟩,.refl h,hI⟩
theorem gives43 {H:List (O U)} {n:Nat} {F:List Nat} {m:Mc} (h:Has H n F m):GivesM 43 [.ptr (.g n) 0] H (.d (.int .i64 m.dn)) H:=by
 obtain ⟨x,y,z,ho⟩:=h.obj
 exact e43 _ _ _ ⟨moOf m x y z,ho,rfl,rfl⟩
theorem gives44 {H:List (O U)} {n:Nat} {F:List Nat} {m:Mc} (h:Has H n F m):GivesM 44 [.ptr (.g n) 0] H (.d (.int .i64 m.pc)) H:=by
 obtain ⟨x,y,z,ho⟩:=h.obj
 exact e44 _ _ _ ⟨moOf m x y z,ho,rfl,rfl⟩
end
noncomputable def eqv {α:Type} (a b:α):Bool:=@decide (a=b) (Classical.propDecidable _)
theorem eqv_t {α:Type} {a b:α}:eqv a b=true↔a=b:=by unfold eqv; exact @decide_eq_true_iff _ (Classical.propDecidable _)
theorem eqv_f {α:Type} {a b:α}:eqv a b=false↔a ≠ b:=by rw [←Bool.not_eq_true,eqv_t]
theorem eqv_self {α:Type} (a:α):eqv a a=true:=eqv_t.2 rfl
theorem atomE_iff {x y:api_Atom}:(andB (eqI x.1 y.1) (andB (eqI x.2 y.2) (andB (eqI x.3 y.3) (andB (strEq x.4 y.4) true))))=true↔x=y:=by
 obtain ⟨a,b,c,d⟩:=x
 obtain ⟨a',b',c',d'⟩:=y
 simp only [andB_true,eqI_t,strEq_iff',and_true,api_Atom.mk.injEq]
theorem crackE_iff {x y:api_Crack}:(andB (eqI x.1 y.1) (andB (eqI x.2 y.2) (andB (strEq x.3 y.3) true)))=true↔x=y:=by
 obtain ⟨a,b,c⟩:=x
 obtain ⟨a',b',c'⟩:=y
 simp only [andB_true,eqI_t,strEq_iff',and_true,api_Crack.mk.injEq]
theorem gives76 (a b:List api_Atom):Gives 76 [.d (.sl .api_Atom a),.d (.sl .api_Atom b)] (.d (.bool (eqv a b))):=by
 refine Runs.known fun hk _=>?_
 have hl:=known_atoms (hk _ (List.mem_cons_self ..))
 refine e76 _ _ _ (ite_w (fun h=>?_) (fun h=>?_))
 ·have h:=eqI_f.1 (notB_t.1 h)
  have:a ≠ b:=fun e=>h (by rw [e])
  rw [eqv_f.2 this]; exact ⟨rfl,rfl⟩
 ·have hn:a.length=b.length:=by
   have h:=eqI_t.1 (notB_f.1 h)
   simp only [intN_eq,lenL_eq] at h; omega
  have loop:∀i,i≤a.length→(∀j (h:j<a.length),j<i→a[j]=b[j]'(hn▸h))→At K 76 (fun c' H'=>c'=(.d (.bool (eqv a b)):C U)∧H'=[]) t76_4 (s76_4 a b i):=by
   refine upto ?_ fun i hi ih=>?_
   ·intro hb
    have:a=b:=List.ext_getElem hn fun j h _=>hb j h h
    rw [eqv_t.2 this]
    exact l76_4 _ _ _ _ (ite_f (lt_len_f (Nat.le_refl _)) ⟨rfl,rfl⟩)
   ·intro hb
    refine l76_4 _ _ _ _ (ite_t (lt_len hi) (and_t (in_len hi) (and_t (in_len (hn▸hi)) ?_)))
    rw [rd_at hi,rd_at (hn▸hi)]
    refine ite_w (fun h=>?_) (fun h=>?_)
    ·have:a ≠ b:=fun e=>by
      subst e
      have:=notB_t.1 h
      rw [atomE_iff.2 rfl] at this; cases this
     rw [eqv_f.2 this]; exact ⟨rfl,rfl⟩
    ·have h:=atomE_iff.1 (notB_f.1 h)
     rw [add_one (by omega)]
     refine ih fun j hj hji=>?_
     by_cases e:j=i
     ·subst e; exact h
     ·exact hb j hj (by omega)
  exact loop 0 (Nat.zero_le _) fun _ _ h=>absurd h (Nat.not_lt_zero _)
theorem gives103 (a b:List api_Crack):Gives 103 [.d (.sl .api_Crack a),.d (.sl .api_Crack b)] (.d (.bool (eqv a b))):=by
 refine Runs.known fun hk _=>?_
 have hl:=known_cracks (hk _ (List.mem_cons_self ..))
 refine e103 _ _ _ (ite_w (fun h=>?_) (fun h=>?_))
 ·have h:=eqI_f.1 (notB_t.1 h)
  have:a ≠ b:=fun e=>h (by rw [e])
  rw [eqv_f.2 this]; exact ⟨rfl,rfl⟩
 ·have hn:a.length=b.length:=by
   have h:=eqI_t.1 (notB_f.1 h)
   simp only [intN_eq,lenL_eq] at h; omega
  have loop:∀i,i≤a.length→(∀j (h:j<a.length),j<i→a[j]=b[j]'(hn▸h))→At K 103 (fun c' H'=>c'=(.d (.bool (eqv a b)):C U)∧H'=[]) t103_4 (s103_4 a b i):=by
   refine upto ?_ fun i hi ih=>?_
   ·intro hb
    have:a=b:=List.ext_getElem hn fun j h _=>hb j h h
    rw [eqv_t.2 this]
    exact l103_4 _ _ _ _ (ite_f (lt_len_f (Nat.le_refl _)) ⟨rfl,rfl⟩)
   ·intro hb
    refine l103_4 _ _ _ _ (ite_t (lt_len hi) (and_t (in_len hi) (and_t (in_len (hn▸hi)) ?_)))
    rw [rd_at hi,rd_at (hn▸hi)]
    refine ite_w (fun h=>?_) (fun h=>?_)
    ·have:a ≠ b:=fun e=>by
      subst e
      have:=notB_t.1 h
      rw [crackE_iff.2 rfl] at this; cases this
     rw [eqv_f.2 this]; exact ⟨rfl,rfl⟩
    ·have h:=crackE_iff.1 (notB_f.1 h)
     rw [add_one (by omega)]
     refine ih fun j hj hji=>?_
     by_cases e:j=i
     ·subst e; exact h
     ·exact hb j hj (by omega)
  exact loop 0 (Nat.zero_le _) fun _ _ h=>absurd h (Nat.not_lt_zero _)
theorem gives37 (a b:api_Outcome):Gives 37 [outC a,outC b] (.d (.bool (eqv a b))):=by
 have e:eqv a b=((eqI a.1 b.1 && eqv a.2 b.2) && eqv a.3 b.3):=by
  obtain ⟨x,y,z⟩:=a
  obtain ⟨x',y',z'⟩:=b
  rw [Bool.eq_iff_iff]
  simp only [Bool.and_eq_true,eqv_t,eqI_t,api_Outcome.mk.injEq,and_assoc]
 rw [e]
 exact e37 _ _ _ (and_of (fun _=>⟨_,gives76 _ _,rfl⟩) (and_of (fun _=>⟨_,gives103 _ _,rfl⟩) ⟨rfl,rfl⟩))
theorem gives98 (a:List api_Atom):Gives 98 [.d (.sl .api_Atom a)] (.d (.sl .api_Atom a)):=by
 refine Runs.known fun hk _=>?_
 have hl:=known_atoms (hk _ (List.mem_cons_self ..))
 exact e98 _ _ (and_t (roomB_t (by simp only [addN,lenL_eq,List.length_nil]; omega)) ⟨rfl,rfl⟩)
theorem gives99 (a:List api_Crack):Gives 99 [.d (.sl .api_Crack a)] (.d (.sl .api_Crack a)):=by
 refine Runs.known fun hk _=>?_
 have hl:=known_cracks (hk _ (List.mem_cons_self ..))
 exact e99 _ _ (and_t (roomB_t (by simp only [addN,lenL_eq,List.length_nil]; omega)) ⟨rfl,rfl⟩)
theorem gives34 (a:api_Outcome):Gives 34 [outC a] (outC a):=e34 _ _ ⟨_,gives98 _,_,gives99 _,rfl,rfl⟩
theorem Runs.optr {f n:Nat} {args:List (C U)} {H:List (O U)} {post:Post} (h:Runs K f (.ptr (.g n) 0 :: args) H post):Runs K f (.optr (some n) :: args) H post:=by
 intro w F pl vs hok M hr
 refine h w F pl vs hok M ?_
 simp only [RepCs,RepC] at hr ⊢
 exact hr
theorem Runs.ptrO {f n:Nat} {args:List (C U)} {H H':List (O U)} {c:C U} (h:GivesM f args H (.tup [.ptr (.g n) 0,c]) H'):GivesM f args H (.tup [.optr (some n),c]) H':=by
 intro w F pl vs hok M hr
 refine (h w F pl vs hok M hr).mono ?_
 rintro e w' ⟨v,rfl,c',H'',F',pl',own,⟨rfl,rfl⟩,Fi⟩
 refine ⟨v,rfl,_,_,F',pl',own,⟨rfl,rfl⟩,⟨?_,Fi.mem,Fi.fr,Fi.nodup,Fi.hok,Fi.mine⟩⟩
 have:=Fi.rep
 simp only [RepR,RepRs,RepR1,RepC] at this ⊢
 exact this
theorem Runs.nilO {f:Nat} {args:List (C U)} {H H':List (O U)} {c:C U} (h:GivesM f args H (.tup [.d .nilp,c]) H'):GivesM f args H (.tup [.optr none,c]) H':=by
 intro w F pl vs hok M hr
 refine (h w F pl vs hok M hr).mono ?_
 rintro e w' ⟨v,rfl,c',H'',F',pl',own,⟨rfl,rfl⟩,Fi⟩
 refine ⟨v,rfl,_,_,F',pl',own,⟨rfl,rfl⟩,⟨?_,Fi.mem,Fi.fr,Fi.nodup,Fi.hok,Fi.mine⟩⟩
 have hq:∀u:Value,RepC F' w' (obH H'') pl' (C.d D.nilp:C U) u→RepC F' w' (obH H'') pl' (C.optr none:C U) u:=by
  exact fun u hu=>repC_nilO (K:=K) hu
 have hf:=Fi.rep
 simp only [RepR,RepRs,RepR1] at hf ⊢
 obtain ⟨ws,e1,v1,rest,o1,o2,e2,e3,⟨e4,e5⟩,e6⟩:=hf
 exact ⟨ws,e1,v1,rest,o1,o2,e2,e3,⟨e4,hq _ e5⟩,e6⟩
def newM (c:List api_Instr):Mc:=⟨c,0,0,0,[],[],[],⟨0,[],[]⟩,false⟩
theorem gives88 (c:List api_Instr) (hl:c.length * 32≤140737488355328):Gives 88 [.d (.sl .api_Instr c)] (.d (.sl .api_Instr c)):=by
 refine e88 _ _ ⟨and_t (roomB_t (by simpa [addN,lenL,nilL] using hl)) ⟨rfl,rfl⟩,ite_w (fun h=>?_) (fun _=>trivial)⟩
 cases c with
 | nil=>exact ⟨rfl,rfl⟩
 | cons _ _=>cases h
theorem new_inv {c:List api_Instr} {T:List code_state} (R:Right c T):Inv c T (newM c):=by
 have st:Stands c T 0 [] [] []:=⟨0,rfl,R.pos,by rw [R.first],by rw [R.first]; rfl,by rw [R.first]; exact ⟨rfl,rfl⟩,(fun v hv=>by cases hv),(fun v hv=>by cases hv)⟩
 exact ⟨rfl,⟨0,rfl,R.pos⟩,by simp [SmO,newM],.inl rfl,fun _=>st,(fun e=>by simp [newM] at e),(fun e=>by simp [newM] at e),fun _=>rfl,fun _=>⟨rfl,rfl,rfl⟩⟩
theorem gives26 (H:List (O U)) (c:List api_Instr):
  (chkC c ≠ 0∧GivesM 26 [.d (.sl .api_Instr c)] H (.tup [.optr none,.d (.int .i64 (chkC c))]) H)∨
  (chkC c=0∧∃n F H',GivesM 26 [.d (.sl .api_Instr c)] H (.tup [.optr (some n),.d (.int .i64 0)]) H'∧Has H' n F (newM c)∧Fm [] H H'∧∀j∈F,lenO H≤j):=by
 by_cases h:chkC c=0
 ·right
  obtain ⟨T,R⟩:=right_of h
  have hs:=R.small
  let H1:=pushO H (aV 0 [])
  let H2:=pushO H1 (aV 0 [])
  let H3:=pushO H2 (aC 0 [])
  let p:Plc:=⟨lenO H3,lenO H,0,none,lenO H1,0,none,lenO H2,0,none⟩
  have l1:lenO H1=lenO H+1:=len_push
  have l2:lenO H2=lenO H+2:=by show lenO (pushO H1 _)=_; rw [len_push,l1]
  have l3:lenO H3=lenO H+3:=by show lenO (pushO H2 _)=_; rw [len_push,l2]
  refine ⟨h,lenO H3,fp p,pushO H3 (mcP (newM c) p),?_,.inl ⟨p,rfl,rfl,?_⟩,?_,?_⟩
  ·exact Runs.ptrO (e26 _ _ _ ⟨_,gives87 c,ite_f (notB_f.2 (eqI_t.2 h)) ⟨c,gives88 c (by omega),rfl,rfl⟩⟩)
  ·refine ⟨obj_push,.new ?_,.new ?_,.new ?_,?_,?_,?_,?_,?_,?_⟩
   ·show obj (pushO H3 _) (lenO H)=_
    rw [obj_push_lt (by omega)]
    show obj (pushO H2 _) (lenO H)=_
    rw [obj_push_lt (by omega)]
    show obj (pushO H1 _) (lenO H)=_
    rw [obj_push_lt (by omega)]; exact obj_push
   ·show obj (pushO H3 _) (lenO H1)=_
    rw [obj_push_lt (by omega)]
    show obj (pushO H2 _) (lenO H1)=_
    rw [obj_push_lt (by omega)]; exact obj_push
   ·show obj (pushO H3 _) (lenO H2)=_
    rw [obj_push_lt (by omega)]; exact obj_push
   ·show lenO H ≠ lenO H1; omega
   ·show lenO H ≠ lenO H3; omega
   ·show lenO H1 ≠ lenO H3; omega
   ·show lenO H2 ≠ lenO H3; omega
   ·show lenO H ≠ lenO H2; omega
   ·show lenO H1 ≠ lenO H2; omega
  ·exact ((Fm.push.trans .push fun _ h=>.inl h).trans .push fun _ h=>.inl h).trans .push fun _ h=>.inl h
  ·intro j hj
   simp only [fp,List.mem_cons,List.not_mem_nil,or_false] at hj
   rcases hj with rfl|rfl|rfl|rfl
   ·show lenO H≤lenO H3; omega
   ·exact Nat.le_refl _
   ·show lenO H≤lenO H1; omega
   ·show lenO H≤lenO H2; omega
 ·exact .inl ⟨h,Runs.nilO (e26 _ _ _ ⟨_,gives87 c,ite_t (notB_t.2 (eqI_f.2 h)) ⟨rfl,rfl⟩⟩)⟩
theorem eq85 {v w:List api_Atom} (e:w=v) (h:Gives 85 [.d (.sl .api_Atom v)] (.d (.sl .api_Atom v))):Gives 85 [.d (.sl .api_Atom w)] (.d (.sl .api_Atom w)):=by subst e; exact h
theorem gives46 {c:List api_Instr} {T:List code_state} (R:Right c T) {H:List (O U)} {n:Nat} {F:List Nat} {m:Mc} (h:Has H n F m) (hI:Inv c T m):GivesM 46 [.ptr (.g n) 0] H (.d (.sl .sl_api_Atom m.sk)) H:=by
 have sm:m.sk.length≤2000∧Vals m.sk:=by
  by_cases h3:m.st=3
  ·rw [(hI.over h3).1]; exact ⟨by simp,fun v hv=>by cases hv⟩
  ·have hs:=hI.live h3
   have:=stands_small R hs
   obtain ⟨_,_,_,_,_,_,hv,_⟩:=hs
   exact ⟨this.sk,hv⟩
 rcases h with ⟨p,rfl,rfl,r⟩|⟨rfl,ho,e,_⟩
 ·obtain ⟨zs,ha,fr⟩:=r.ha
  have hlen:subLen p.sa (lenL (m.sk ++ zs))=m.sk.length:=fr.len
  have loop:∀i,i≤m.sk.length→At K 46 (fun c' H'=>c'=(.d (.sl .sl_api_Atom m.sk):C U)∧H'=H) t46_3 (s46_3 p.a p.ga p.sa (intN m.sk.length) i (m.sk.take i) H):=by
   refine upto ?_ fun i hi ih=>?_
   ·refine l46_3 _ _ _ _ _ _ _ _ (ite_f (decide_eq_false (by rw [intN_eq]; omega)) ⟨?_,rfl⟩)
    rw [List.take_length]
   ·have hidx:addN (subOff p.sa) (natI (i:Int))=i:=by rw [fr.off]; simp [addN,natI]
    have hel:rdN ([]:List api_Atom) (m.sk ++ zs) (addN (subOff p.sa) (natI (i:Int)))=m.sk[i]:=by
     rw [hidx]; simp only [rdN,List.getD_eq_getElem?_getD]; rw [List.getElem?_append_left hi,List.getElem?_eq_getElem hi]; rfl
    have g:Gives 85 [.d (.sl .api_Atom m.sk[i])] (.d (.sl .api_Atom m.sk[i])):=clone85 _ (by have:=valE_len (sm.2 _ (List.getElem_mem hi)); omega)
    have g':=eq85 hel g
    refine l46_3 _ _ _ _ _ _ _ _ (ite_t (decide_eq_true (by rw [intN_eq]; omega)) ⟨m.sk ++ zs,ha,and_t ?_ (and_t fr.fit ⟨m.sk ++ zs,ha,and_t ?_ ⟨_,g',and_t ?_ ?_⟩⟩)⟩)
    ·show inB (i:Int) (subLen p.sa (lenL (m.sk ++ zs)))=true
     rw [hlen]; exact in_len hi
    ·show ltN (addN (subOff p.sa) (natI (i:Int))) (lenL (m.sk ++ zs))=true
     rw [hidx]; exact decide_eq_true (by rw [lenL_eq]; simp; omega)
    ·exact roomB_t (by show ((m.sk.take i).length+1) * 24≤_; simp; omega)
    ·have ea:=add_one (i:=i) (by omega)
     have et:m.sk.take i ++ [rdN ([]:List api_Atom) (m.sk ++ zs) (addN (subOff p.sa) (natI (i:Int)))]=m.sk.take (i+1):=by rw [hel,List.take_succ_eq_append_getElem hi]
     show At K 46 _ t46_3 (s46_3 p.a p.ga p.sa (intN m.sk.length) (addW .i64 i 1) (m.sk.take i ++ [rdN ([]:List api_Atom) (m.sk ++ zs) (addN (subOff p.sa) (natI (i:Int)))]) H)
     rw [ea,et]; exact ih
  refine e46 _ _ _ ⟨msOf m p,r.hn,m.sk ++ zs,ha,?_⟩
  show At K 46 _ t46_3 (s46_3 p.a p.ga p.sa (intN (subLen p.sa (lenL (m.sk ++ zs)))) 0 [] H)
  rw [hlen]
  exact loop 0 (Nat.zero_le _)
 ·rw [e]
  exact e46n _ _ _ ⟨⟨m.c,m.pc,m.st,m.dn,m.nx.gKind,m.nx.gValue,m.nx.gFail,m.ps⟩,ho,l46n_3 _ _ _ (ite_f rfl ⟨rfl,rfl⟩)⟩
theorem gives32 (a b:api_Event):∃v,Gives 32 [evC a,evC b] (.d (.bool v))∧(a=b→v=true):=by
 refine ⟨_,e32 a b _ (and_of (fun _=>rfl) (and_of (fun _=>⟨_,gives37 a.gOutcome b.gOutcome,rfl⟩) ⟨rfl,rfl⟩)),fun e=>?_⟩
 subst e
 simp [eqI,strEq_self,eqv_self]
theorem gives45 (l:List (List api_Atom)) (hl:l.length≤2000):Gives 45 [.d (.sl .sl_api_Atom l),.d (.sl .sl_api_Atom l)] (.d (.bool true)):=by
 refine e45 _ _ _ (ite_f (notB_f.2 (eqI_t.2 rfl)) ?_)
 have loop:∀i,i≤l.length→At K 45 (fun c' H'=>c'=(.d (.bool true):C U)∧H'=[]) t45_4 (s45_4 l l (intN (lenL l)) i):=by
  refine upto ?_ fun i hi ih=>?_
  ·exact l45_4 _ _ _ _ _ (ite_f (lt_len_f (Nat.le_refl _)) ⟨rfl,rfl⟩)
  ·refine l45_4 _ _ _ _ _ (ite_t (lt_len hi) (and_t (in_len hi) (and_t (in_len hi) ⟨_,gives76 _ _,ite_f (notB_f.2 (eqv_self _)) ?_⟩)))
   rw [add_one (by omega)]; exact ih
 exact loop 0 (Nat.zero_le _)
noncomputable def nxM (outs:List api_Outcome) (k:Nat) (m:Mc):api_Event×Bool×Mc:=
 if (toldM (stepM m)).gKind=1 then (if outs.length=0 then (toldM (stepM m),false,stepM m)
  else (toldM (stepM m),eqI (giveM (rd ⟨0,[],[]⟩ outs ((k % outs.length:Nat):Int)) (stepM m)).2 0,(giveM (rd ⟨0,[],[]⟩ outs ((k % outs.length:Nat):Int)) (stepM m)).1))
 else if (toldM (stepM m)).gKind=2 then (toldM (stepM m),eqI (passM (stepM m)).2 0,(passM (stepM m)).1)
 else (toldM (stepM m),false,stepM m)
theorem gives42 {c:List api_Instr} {T:List code_state} (R:Right c T) {H:List (O U)} {n:Nat} {F:List Nat} {m:Mc} (h:Has H n F m) (hI:Inv c T m) (outs:List api_Outcome) (ho:outs.length<4611686018427387904) (k:Nat) (hk:k<4611686018427387904):
  ∃H',GivesM 42 [.ptr (.g n) 0,.d (.sl .api_Outcome outs),.d (.int .i64 k)] H (.tup [evC (nxM outs k m).1,.d (.bool (nxM outs k m).2.1)]) H'∧Nx H n F H' (nxM outs k m).2.2∧Inv c T (nxM outs k m).2.2:=by
 obtain ⟨H1,g1,nx1,I1,_,_⟩:=gives30 R h hI
 unfold nxM
 by_cases c1:(toldM (stepM m)).gKind=1
 ·rw [if_pos c1]
  by_cases c2:outs.length=0
  ·rw [if_pos c2]
   exact ⟨H1,e42 _ _ _ _ _ ⟨toldM (stepM m),H1,g1,ite_t (eqI_t.2 c1) (ite_t (eqI_t.2 (by rw [lenL_eq,c2]; rfl)) ⟨rfl,rfl⟩)⟩,nx1,I1⟩
  ·rw [if_neg c2]
   obtain ⟨F1,a1,a2,a3⟩:=nx1
   have hr:remW (k:Int) (intN (lenL outs))=((k % outs.length:Nat):Int):=by
    rw [intN_eq,lenL_eq]
    unfold remW
    rw [Int.tmod_eq_emod_of_nonneg (by omega)]
    exact (Int.natCast_emod _ _).symm
   have hlt:k % outs.length<outs.length:=Nat.mod_lt _ (by omega)
   generalize hq:rd (⟨0,[],[]⟩:api_Outcome) outs ((k % outs.length:Nat):Int)=o
   obtain ⟨H2,g2,nx2,I2⟩:=gives35 a1 I1 o
   have g34:=gives34 (rd (⟨0,[],[]⟩:api_Outcome) outs ((k % outs.length:Nat):Int))
   have g35:GivesM 35 [.ptr (.g n) 0,outC' (rd (⟨0,[],[]⟩:api_Outcome) outs ((k % outs.length:Nat):Int))] H1 (.d (.int .i64 (giveM o (stepM m)).2)) H2:=by rw [hq]; exact g2
   refine ⟨H2,e42 _ _ _ _ _ ⟨toldM (stepM m),H1,g1,ite_t (eqI_t.2 c1) (ite_f (eqI_f.2 (by rw [lenL_eq,intN_eq]; omega)) (and_t (notB_t.2 (eqI_f.2 (by rw [lenL_eq,intN_eq]; omega))) ?_))⟩,nx2.trans a2 a3,I2⟩
   simp only [hr]
   refine and_t (in_len hlt) ⟨_,g34,_,H2,g35,ite_w (fun e=>?_) (fun e=>?_)⟩
   ·rw [notB_t.1 e]; exact ⟨rfl,rfl⟩
   ·rw [notB_f.1 e]; exact ⟨rfl,rfl⟩
 ·rw [if_neg c1]
  by_cases c2:(toldM (stepM m)).gKind=2
  ·rw [if_pos c2]
   obtain ⟨F1,a1,a2,a3⟩:=nx1
   obtain ⟨H2,g2,nx2,I2⟩:=gives38 a1 I1
   exact ⟨H2,e42 _ _ _ _ _ ⟨toldM (stepM m),H1,g1,ite_f (eqI_f.2 c1) (ite_t (eqI_t.2 c2) ⟨_,H2,g2,rfl,rfl⟩)⟩,nx2.trans a2 a3,I2⟩
  ·rw [if_neg c2]
   exact ⟨H1,e42 _ _ _ _ _ ⟨toldM (stepM m),H1,g1,ite_f (eqI_f.2 c1) (ite_f (eqI_f.2 c2) ⟨rfl,rfl⟩)⟩,nx1,I1⟩
theorem gives40 {c:List api_Instr} {T:List code_state} (R:Right c T) {H:List (O U)} {n:Nat} {F:List Nat} {m:Mc} (h:Has H n F m) (hI:Inv c T m):
  ∃n' F' H',GivesM 40 [.ptr (.g n) 0] H (.ptr (.g n') 0) H'∧Has H' n' F' m∧Fm [] H H'∧∀j∈F',lenO H≤j:=by
 have sm:m.sk.length≤2000∧m.lo.length≤2000∧m.tr.length≤2000:=by
  by_cases h3:m.st=3
  ·obtain ⟨e1,e2,e3⟩:=hI.over h3
   rw [e1,e2,e3]; simp
  ·have:=stands_small R (hI.live h3)
   exact ⟨this.sk,this.lo,this.tr⟩
 have g101:=gives101 m.nx hI.nx
 let N:=lenO H
 rcases h with ⟨p,rfl,rfl,r⟩|⟨rfl,ho,e1,e2,e3,e4⟩
 ·let z:Mc:=newM []
  have kz:obj (pushO H (mcO z (.d .nils) (.d .nils) (.d .nils))) N=some (mcO z (.d .nils) (.d .nils) (.d .nils)):=obj_push
  let H1:=updO (pushO H (mcO z (.d .nils) (.d .nils) (.d .nils))) N (mcP m p)
  have l1:lenO H1=lenO H+1:=by show lenO (updO _ _ _)=_; rw [len_upd,len_push]
  have kN1:obj H1 N=some (mcP m p):=obj_upd kz
  have q1:∀j,j<lenO H→obj H1 j=obj H j:=fun j hj=>by
   show obj (updO _ _ _) j=_
   rw [obj_upd_ne (show j ≠ lenO H by omega)]; exact obj_push_lt hj
  have k1:obj H1 p.n=some (mcP m p):=by rw [q1 _ (obj_len r.hn)]; exact r.hn
  let H2:=pushO H1 (aV 0 m.sk)
  let H3:=pushO H2 (aV 0 m.lo)
  let H4:=pushO H3 (aC 0 m.tr)
  have l2:lenO H2=lenO H+2:=by show lenO (pushO H1 _)=_; rw [len_push,l1]
  have l3:lenO H3=lenO H+3:=by show lenO (pushO H2 _)=_; rw [len_push,l2]
  have l4:lenO H4=lenO H+4:=by show lenO (pushO H3 _)=_; rw [len_push,l3]
  have q2:∀j,j<lenO H1→obj H2 j=obj H1 j:=fun j hj=>obj_push_lt hj
  have q3:∀j,j<lenO H2→obj H3 j=obj H2 j:=fun j hj=>obj_push_lt hj
  have q4:∀j,j<lenO H3→obj H4 j=obj H3 j:=fun j hj=>obj_push_lt hj
  have ln:=obj_len r.hn
  have k2:obj H2 p.n=some (mcP m p):=by rw [q2 _ (by omega)]; exact k1
  have k3:obj H3 p.n=some (mcP m p):=by rw [q3 _ (by omega)]; exact k2
  have k4:obj H4 p.n=some (mcP m p):=by rw [q4 _ (by omega)]; exact k3
  have kN4:obj H4 N=some (mcP m p):=by rw [q4 _ (show lenO H<_ by omega),q3 _ (show lenO H<_ by omega),q2 _ (show lenO H<_ by omega)]; exact kN1
  have d1:=(clone104 (r.ha.keep (q1 _ r.ha.lt)) (by omega)).1
  have hb2:ArV H2 p.b p.gb p.sb m.lo:=r.hb.keep (by rw [q2 _ (by have:=r.hb.lt; omega)]; exact q1 _ r.hb.lt)
  have d2:=(clone104 hb2 (by omega)).1
  have ht3:ArC H3 p.t p.gt p.su m.tr:=r.ht.keep (by rw [q3 _ (by have:=r.ht.lt; omega),q2 _ (by have:=r.ht.lt; omega)]; exact q1 _ r.ht.lt)
  have d3:=(clone105 ht3 (by omega)).1
  let p5:Plc:={ p with a:=lenO H1,ga:=0,sa:=none }
  let p6:Plc:={ p5 with b:=lenO H2,gb:=0,sb:=none }
  let p7:Plc:={ p6 with t:=lenO H3,gt:=0,su:=none }
  have k5:=obj_upd (o:=mcP m p5) kN4
  have k6:=obj_upd (o:=mcP m p6) k5
  have k7:=obj_upd (o:=mcP m p7) k6
  let p8:Plc:={ p7 with n:=N }
  refine ⟨N,fp p8,updO (updO (updO (updO H4 N (mcP m p5)) N (mcP m p6)) N (mcP m p7)) N (mcP m p7),e40m _ _ _ ⟨msOf m p,r.hn,msOf z p,kz,msOf m p,k1,msOf m p,k1,msOf m p,k1,msOf m p,k1,lenO H1,H2,d1,⟨msOf m p,msOf m p,k1,k2,rfl⟩,⟨msOf m p,msOf m p,k1,k2,rfl⟩,⟨msOf m p,msOf m p,k1,k2,rfl⟩,lenO H2,H3,d2,
   ⟨msOf m p,msOf m p,k2,k3,rfl⟩,⟨msOf m p,msOf m p,k2,k3,rfl⟩,lenO H3,H4,d3,⟨msOf m p,msOf m p,k3,k4,rfl⟩,m.nx,g101,msOf m p,kN4,msOf m p5,k5,msOf m p6,k6,msOf m p7,k7,rfl,rfl⟩,?_,?_,?_⟩
  ·simp only [upd2]
   refine .inl ⟨p8,rfl,rfl,obj_upd kN4,.new ?_,.new ?_,.new ?_,?_,?_,?_,?_,?_,?_⟩
   ·rw [obj_upd_ne (show p8.a ≠ N from show lenO H1 ≠ lenO H by omega)]
    show obj H4 (lenO H1)=_
    rw [q4 _ (by omega),q3 _ (by omega)]; exact obj_push
   ·rw [obj_upd_ne (show p8.b ≠ N from show lenO H2 ≠ lenO H by omega)]
    show obj H4 (lenO H2)=_
    rw [q4 _ (by omega)]; exact obj_push
   ·rw [obj_upd_ne (show p8.t ≠ N from show lenO H3 ≠ lenO H by omega)]
    exact obj_push
   ·show lenO H1 ≠ lenO H2; omega
   ·show lenO H1 ≠ lenO H; omega
   ·show lenO H2 ≠ lenO H; omega
   ·show lenO H3 ≠ lenO H; omega
   ·show lenO H1 ≠ lenO H3; omega
   ·show lenO H2 ≠ lenO H3; omega
  ·simp only [upd2]
   refine ⟨by rw [len_upd]; omega,fun j hj _=>?_⟩
   rw [obj_upd_ne (show j ≠ lenO H by omega),q4 _ (by omega),q3 _ (by omega),q2 _ (by omega)]; exact q1 _ hj
  ·intro j hj
   simp only [fp,List.mem_cons,List.not_mem_nil,or_false] at hj
   rcases hj with rfl|rfl|rfl|rfl
   ·exact Nat.le_refl _
   ·show lenO H≤lenO H1; omega
   ·show lenO H≤lenO H2; omega
   ·show lenO H≤lenO H3; omega
 ·let z:Mc:=newM []
  have kz:obj (pushO H (mcO z (.d .nils) (.d .nils) (.d .nils))) N=some (mcO z (.d .nils) (.d .nils) (.d .nils)):=obj_push
  let M0:O U:=mcO m (.d .nils) (.d .nils) (.d .nils)
  let H1:=updO (pushO H (mcO z (.d .nils) (.d .nils) (.d .nils))) N M0
  have l1:lenO H1=lenO H+1:=by show lenO (updO _ _ _)=_; rw [len_upd,len_push]
  have kN1:obj H1 N=some M0:=obj_upd kz
  have q1:∀j,j<lenO H→obj H1 j=obj H j:=fun j hj=>by
   show obj (updO _ _ _) j=_
   rw [obj_upd_ne (show j ≠ lenO H by omega)]; exact obj_push_lt hj
  have ln:=obj_len ho
  have k1:obj H1 n=some M0:=by rw [q1 _ ln]; exact ho
  let H2:=pushO H1 (aV 0 [])
  let H3:=pushO H2 (aV 0 [])
  let H4:=pushO H3 (aC 0 [])
  have l2:lenO H2=lenO H+2:=by show lenO (pushO H1 _)=_; rw [len_push,l1]
  have l3:lenO H3=lenO H+3:=by show lenO (pushO H2 _)=_; rw [len_push,l2]
  have l4:lenO H4=lenO H+4:=by show lenO (pushO H3 _)=_; rw [len_push,l3]
  have q2:∀j,j<lenO H1→obj H2 j=obj H1 j:=fun j hj=>obj_push_lt hj
  have q3:∀j,j<lenO H2→obj H3 j=obj H2 j:=fun j hj=>obj_push_lt hj
  have q4:∀j,j<lenO H3→obj H4 j=obj H3 j:=fun j hj=>obj_push_lt hj
  have k2:obj H2 n=some M0:=by rw [q2 _ (by omega)]; exact k1
  have k3:obj H3 n=some M0:=by rw [q3 _ (by omega)]; exact k2
  have k4:obj H4 n=some M0:=by rw [q4 _ (by omega)]; exact k3
  have kN4:obj H4 N=some M0:=by rw [q4 _ (show lenO H<_ by omega),q3 _ (show lenO H<_ by omega),q2 _ (show lenO H<_ by omega)]; exact kN1
  have d1:GivesM 104 [.d .nils] H1 (.asl (.g (lenO H1)) 0 none false) H2:=nil104
  have d2:GivesM 104 [.d .nils] H2 (.asl (.g (lenO H2)) 0 none false) H3:=nil104
  have d3:GivesM 105 [.d .nils] H3 (.asl (.g (lenO H3)) 0 none false) H4:=nil105
  let p8:Plc:=⟨N,lenO H1,0,none,lenO H2,0,none,lenO H3,0,none⟩
  let mn:MachN:=⟨m.c,m.pc,m.st,m.dn,m.nx.gKind,m.nx.gValue,m.nx.gFail,m.ps⟩
  let zn:MachN:=⟨[],0,0,0,0,[],[],false⟩
  let ma:MachNa:=⟨m.c,m.pc,m.st,m.dn,lenO H1,0,none,m.nx.gKind,m.nx.gValue,m.nx.gFail,m.ps⟩
  let mb:MachNb:=⟨m.c,m.pc,m.st,m.dn,lenO H1,0,none,lenO H2,0,none,m.nx.gKind,m.nx.gValue,m.nx.gFail,m.ps⟩
  have k5:=obj_upd (o:=mcO m (.asl (.g (lenO H1)) 0 none false) (.d .nils) (.d .nils)) kN4
  have k6:=obj_upd (o:=mcO m (.asl (.g (lenO H1)) 0 none false) (.asl (.g (lenO H2)) 0 none false) (.d .nils)) k5
  have k7:=obj_upd (o:=mcP m p8) k6
  refine ⟨N,fp p8,updO (updO (updO (updO H4 N (mcO m (.asl (.g (lenO H1)) 0 none false) (.d .nils) (.d .nils))) N (mcO m (.asl (.g (lenO H1)) 0 none false) (.asl (.g (lenO H2)) 0 none false) (.d .nils))) N (mcP m p8)) N (mcP m p8),e40n _ _ _ ⟨mn,ho,zn,kz,mn,k1,mn,k1,mn,k1,mn,k1,lenO H1,H2,d1,⟨mn,mn,k1,k2,rfl⟩,⟨mn,mn,k1,k2,rfl⟩,⟨mn,mn,k1,k2,rfl⟩,lenO H2,H3,d2,
   ⟨mn,mn,k2,k3,rfl⟩,⟨mn,mn,k2,k3,rfl⟩,lenO H3,H4,d3,⟨mn,mn,k3,k4,rfl⟩,m.nx,g101,mn,kN4,ma,k5,mb,k6,msOf m p8,k7,rfl,rfl⟩,?_,?_,?_⟩
  ·simp only [upd2]
   refine .inl ⟨p8,rfl,rfl,obj_upd kN4,?_,?_,?_,?_,?_,?_,?_,?_,?_⟩
   ·rw [e1]
    refine .new ?_
    rw [obj_upd_ne (show p8.a ≠ N from show lenO H1 ≠ lenO H by omega)]
    show obj H4 (lenO H1)=_
    rw [q4 _ (by omega),q3 _ (by omega)]; exact obj_push
   ·rw [e2]
    refine .new ?_
    rw [obj_upd_ne (show p8.b ≠ N from show lenO H2 ≠ lenO H by omega)]
    show obj H4 (lenO H2)=_
    rw [q4 _ (by omega)]; exact obj_push
   ·rw [e3]
    refine .new ?_
    rw [obj_upd_ne (show p8.t ≠ N from show lenO H3 ≠ lenO H by omega)]
    exact obj_push
   ·show lenO H1 ≠ lenO H2; omega
   ·show lenO H1 ≠ lenO H; omega
   ·show lenO H2 ≠ lenO H; omega
   ·show lenO H3 ≠ lenO H; omega
   ·show lenO H1 ≠ lenO H3; omega
   ·show lenO H2 ≠ lenO H3; omega
  ·simp only [upd2]
   refine ⟨by rw [len_upd]; omega,fun j hj _=>?_⟩
   rw [obj_upd_ne (show j ≠ lenO H by omega),q4 _ (by omega),q3 _ (by omega),q2 _ (by omega)]; exact q1 _ hj
  ·intro j hj
   simp only [fp,List.mem_cons,List.not_mem_nil,or_false] at hj
   rcases hj with rfl|rfl|rfl|rfl
   ·exact Nat.le_refl _
   ·show lenO H≤lenO H1; omega
   ·show lenO H≤lenO H2; omega
   ·show lenO H≤lenO H3; omega
theorem known_instrs {l:List api_Instr} (h:C.Known K (.d (.sl (U:=U) .api_Instr l))):l.length * 32≤140737488355328:=h.d.sl.1
theorem gives25 (c:List api_Instr):Gives 25 [.d (.sl .api_Instr c)] (.d (.sl .api_Instr c)):=by
 refine Runs.known fun hk _=>?_
 have hl:=known_instrs (hk _ (List.mem_cons_self ..))
 exact e25 _ _ (and_t (roomB_t (by simp only [addN,lenL_eq,List.length_nil]; omega)) ⟨rfl,rfl⟩)
def code0:List api_Instr:=[⟨11,4,bs []⟩,⟨3,0,bs [97]⟩,⟨12,0,bs []⟩,⟨10,5,bs []⟩,⟨1,7,bs []⟩,⟨16,0,bs []⟩]
def out0:api_Outcome:=⟨2,[],[⟨1,0,bs [120]⟩]⟩
noncomputable def w1:Mc:=stepM (newM code0)
noncomputable def w2:Mc:=stepM (giveM out0 w1).1
theorem code0_ok:chkC code0=0:=by kernel_rfl
theorem w1_kind:(toldM w1).gKind=1:=by kernel_rfl
theorem w1_name:strEq (toldM w1).gName (bs [97])=true:=by kernel_rfl
theorem w1_give:(giveM out0 w1).2=0:=by kernel_rfl
theorem w2_kind:(toldM w2).gKind=3:=by kernel_rfl
theorem w2_val:(toldM w2).gOutcome.gValue=[⟨1,0,7,bs []⟩]:=by kernel_rfl
theorem w2_dn:w2.dn=4:=by kernel_rfl
theorem gives24:Gives 24 [] (.d (.bool true)):=by
 obtain ⟨T,R⟩:=right_of code0_ok
 rcases gives26 [] code0 with ⟨h,_⟩|⟨_,n,F,H1,g1,h1,_,_⟩
 ·exact absurd code0_ok h
 obtain ⟨H2,g2,⟨F2,h2,_,_⟩,I2,_,_⟩:=gives30 R h1 (new_inv R)
 obtain ⟨H3,g3,⟨F3,h3,_,_⟩,I3⟩:=gives35 h2 I2 out0
 obtain ⟨H4,g4,⟨F4,h4,_,_⟩,I4,_,_⟩:=gives30 R h3 I3
 have g5:=gives43 h4
 have g6:Gives 76 [.d (.sl .api_Atom (toldM w2).gOutcome.gValue),.d (.sl .api_Atom [⟨1,0,7,bs []⟩])] (.d (.bool true)):=by
  have:=gives76 (toldM w2).gOutcome.gValue [⟨1,0,7,bs []⟩]
  rwa [eqv_t.2 w2_val] at this
 exact e24 _ ⟨(some n,0),H1,g1,false,rfl,toldM w1,H2,Runs.optr g2,(giveM out0 w1).2,H3,Runs.optr g3,toldM w2,H4,Runs.optr g4,ite_t (eqI_t.2 w1_kind) (ite_t w1_name (ite_t (eqI_t.2 w1_give) (ite_t (eqI_t.2 w2_kind)
  ⟨true,g6,w2.dn,H4,Runs.optr g5,by rw [show eqI w2.dn 4=true from eqI_t.2 w2_dn],rfl⟩)))⟩
section
variable (outs:List api_Outcome) (k:Nat)
noncomputable def goN (m:Mc):Nat→Mc
 | 0=>m
 | j+1=>(nxM outs (k+j) (goN m j)).2.2
noncomputable def evN (m:Mc) (j:Nat):api_Event:=(nxM outs (k+j) (goN outs k m j)).1
noncomputable def evs (m:Mc) (j:Nat):List api_Event:=(List.range j).map (evN outs k m)
end
theorem evs_succ {outs:List api_Outcome} {k j:Nat} {m:Mc}:evs outs k m j ++ [evN outs k m j]=evs outs k m (j+1):=by
 simp [evs,List.range_succ]
theorem evs_len {outs:List api_Outcome} {k j:Nat} {m:Mc}:(evs outs k m j).length=j:=by simp [evs]
theorem gives6 (c:List api_Instr) (outs:List api_Outcome) (at':Int):Gives 6 [.d (.sl .api_Instr c),.d (.sl .api_Outcome outs),.d (.int .i64 at')] (.d (.bool true)):=by
 refine Runs.known fun hk _=>?_
 have ho:outs.length<4611686018427387904:=by
  have:=(hk (.d (.sl .api_Outcome outs)) (List.mem_cons_of_mem _ (List.mem_cons_self ..))).d.sl.1
  have:outs.length * 56≤140737488355328:=this
  omega
 refine e6 _ _ _ _ ⟨true,gives24,ite_f rfl ⟨c,gives25 c,?_⟩⟩
 rcases gives26 [] c with ⟨h,g⟩|⟨h,n,F,H1,g,h1,_,_⟩
 ·have hz:notB (eqI (chkC c) 0)=true:=notB_t.2 (eqI_f.2 h)
  exact ⟨(none,chkC c),[],g,true,ite_t hz rfl,ite_t rfl ⟨true,ite_t rfl hz,rfl,rfl⟩⟩
 obtain ⟨T,R⟩:=right_of h
 have hN:=R.small
 have g29:∃b:Nat,b<30∧Gives 29 [.d (.int .i64 at'),.d (.int .i64 30)] (.d (.int .i64 b)):=by
  have q1:-30<at'.tmod 30∧at'.tmod 30<30:=⟨Int.lt_tmod_of_pos _ (by decide),Int.tmod_lt_of_pos _ (by decide)⟩
  have q2:addW .i64 (at'.tmod 30) 30=at'.tmod 30+30:=addW_id (by omega) (by omega)
  have q3:0≤(at'.tmod 30+30).tmod 30:=Int.tmod_nonneg _ (by omega)
  have q4:(at'.tmod 30+30).tmod 30<30:=Int.tmod_lt_of_pos _ (by decide)
  refine ⟨((at'.tmod 30+30).tmod 30).toNat,by omega,e29 _ _ _ (and_t rfl (and_t rfl ⟨?_,rfl⟩))⟩
  show (.d (.int .i64 ((addW .i64 (at'.tmod 30) 30).tmod 30)):C U)=_
  rw [q2,Int.toNat_of_nonneg q3]
 obtain ⟨b,hb,g29⟩:=g29
 have third:∀{k:Nat} {m:Mc} {J:Nat} {no:Nat} {Fo:List Nat},k≤30→J≤1026→Inv c T (goN outs k m J)→∀i,i≤J→∀(H:List (O U)) (F:List Nat),Has H n F (goN outs k m i)→Inv c T (goN outs k m i)→Has H no Fo (goN outs k m J)→(∀j∈Fo,j ∉ F)→
   At K 6 (fun c' H'=>c'=(.d (.bool true):C U)∧H'=[]) t6_25 (s6_25 outs (some n) k no (intN (lenL (evs outs k m J))) i (evs outs k m J) H):=by
  intro k m J no Fo hk30 hJ IJ
  refine upto ?_ fun i hi ih=>?_
  ·intro H F hm Im hno _
   have s1:=gives46 R hm Im
   have sk:(goN outs k m J).sk.length≤2000:=by
    by_cases h3:(goN outs k m J).st=3
    ·rw [(Im.over h3).1]; simp
    ·exact (stands_small R (Im.live h3)).sk
   refine l6_25 _ _ _ _ _ _ _ _ _ (ite_f ?_ ⟨_,H,Runs.optr (gives43 hm),_,H,gives43 hno,ite_t (eqI_t.2 rfl) ⟨_,H,Runs.optr (gives44 hm),_,H,gives44 hno,ite_t (eqI_t.2 rfl) ⟨_,H,Runs.optr s1,_,H,gives46 R hno Im,true,gives45 _ sk,rfl,rfl⟩⟩⟩)
   rw [lenL_eq,evs_len,intN_eq]; exact decide_eq_false (by omega)
  ·intro H F hm Im hno hd
   obtain ⟨H',g,⟨F',a1,a2,a3⟩,I'⟩:=gives42 R hm Im outs ho (k+i) (by omega)
   have hno':Has H' no Fo (goN outs k m J):=hno.frame a2 hd
   have hd':∀j∈Fo,j ∉ F':=fun j hj hj'=>by
    rcases a3 j hj' with q|q
    ·exact hd j hj q
    ·have:=hno.lt j hj; omega
   have next:=ih H' F' a1 I' hno' hd'
   obtain ⟨v,g32,hv⟩:=gives32 (evN outs k m i) (rdN (api_Event.mk 0 (bs []) (api_Outcome.mk 0 [] [])) (evs outs k m J) (natI (i:Int)))
   have hel:rdN (api_Event.mk 0 (bs []) (api_Outcome.mk 0 [] [])) (evs outs k m J) (natI (i:Int))=evN outs k m i:=by
    have:natI (i:Int)=i:=by simp [natI]
    rw [this]
    simp only [rdN,List.getD_eq_getElem?_getD]
    rw [List.getElem?_eq_getElem (by rw [evs_len]; exact hi)]
    simp [evs]
   have ev:v=true:=hv hel.symm
   have ea:=add_one (i:=i) (by omega)
   have ek:addW .i64 (k:Int) (i:Int)=((k+i:Nat):Int):=by rw [addW_id (by omega) (by omega)]; omega
   refine l6_25 _ _ _ _ _ _ _ _ _ (ite_t ?_ ⟨((nxM outs (k+i) (goN outs k m i)).1,(nxM outs (k+i) (goN outs k m i)).2.1),H',?_,and_t (in_len (by rw [evs_len]; exact hi)) (and_t ?_ ⟨v,g32,ite_f (notB_f.2 ev) ?_⟩)⟩)
   ·rw [lenL_eq,evs_len,intN_eq]; exact decide_eq_true (by omega)
   ·rw [ek]; exact Runs.optr g
   ·have:natI (i:Int)=i:=by simp [natI]
    rw [this]; exact decide_eq_true (by rw [lenL_eq,evs_len]; exact hi)
   ·rw [ea]; exact next
 have second:∀{k:Nat} {m:Mc} {F:List Nat},k≤30→Inv c T m→∀j,j≤c.length+1→∀(H:List (O U)) (no:Nat) (Fo:List Nat),Has H n F m→Has H no Fo (goN outs k m j)→Inv c T (goN outs k m j)→(∀q∈Fo,q ∉ F)→
   At K 6 (fun c' H'=>c'=(.d (.bool true):C U)∧H'=[]) t6_18 (s6_18 c outs (some n) k no m.dn m.pc ((k+j:Nat):Int) (evs outs k m j) H):=by
  intro k m F hk30 Im
  have body:∀j,j≤c.length+1→∀(H:List (O U)) (no:Nat) (Fo:List Nat),Has H n F m→Has H no Fo (goN outs k m j)→Inv c T (goN outs k m j)→(∀q∈Fo,q ∉ F)→
    (j<c.length+1→∀(H:List (O U)) (no:Nat) (Fo:List Nat),Has H n F m→Has H no Fo (goN outs k m (j+1))→Inv c T (goN outs k m (j+1))→(∀q∈Fo,q ∉ F)→
     At K 6 (fun c' H'=>c'=(.d (.bool true):C U)∧H'=[]) t6_18 (s6_18 c outs (some n) k no m.dn m.pc ((k+(j+1):Nat):Int) (evs outs k m (j+1)) H))→
    At K 6 (fun c' H'=>c'=(.d (.bool true):C U)∧H'=[]) t6_18 (s6_18 c outs (some n) k no m.dn m.pc ((k+j:Nat):Int) (evs outs k m j) H):=by
   intro j hj H no Fo hm hno Io hd ih
   obtain ⟨H',g,⟨Fo',a1,a2,a3⟩,I'⟩:=gives42 R hno Io outs ho (k+j) (by omega)
   have hm':Has H' n F m:=hm.frame a2 fun q hq hq'=>hd q hq' hq
   have hd':∀q∈Fo',q ∉ F:=fun q hq hq'=>by
    rcases a3 q hq with r|r
    ·exact hd q r hq'
    ·have:=hm.lt q hq'; omega
   have ea:=add_one (i:=k+j) (by omega)
   have eb:addW .i64 (addW .i64 (k:Int) (intN (lenL c))) 1=((k+c.length+1:Nat):Int):=by
    rw [lenL_eq,intN_eq,addW_id (a:=(k:Int)) (by omega) (by omega),addW_id (by omega) (by omega)]; omega
   refine l6_18 _ _ _ _ _ _ _ _ _ _ _ ⟨((nxM outs (k+j) (goN outs k m j)).1,(nxM outs (k+j) (goN outs k m j)).2.1),H',g,and_t (roomB_t ?_) ?_⟩
   ·show ((evs outs k m j).length+1) * 80≤_
    rw [evs_len]; omega
   ·rw [eb,ea]
    show ∃v:Bool,_∧iteP v (∃(x_1:Int),∃(y_1:List (O U)),GivesM 43 [C.optr (some n)] H' (C.d (D.int .i64 x_1)) y_1∧iteP (notB (eqI x_1 m.dn)) _ (∃(x_2:Int),∃(y:List (O U)),GivesM 44 [C.optr (some n)] y_1 (C.d (D.int .i64 x_2)) y∧iteP (notB (eqI x_2 m.pc)) _ (At K 6 _ t6_25 (s6_25 outs (some n) k no (intN (lenL (evs outs k m j ++ [evN outs k m j]))) 0 (evs outs k m j ++ [evN outs k m j]) y))))
     (At K 6 _ t6_18 (s6_18 c outs (some n) k no m.dn m.pc ((k+j+1:Nat):Int) (evs outs k m j ++ [evN outs k m j]) H'))
    rw [evs_succ]
    refine or_of (fun _=>rfl) (ite_w (fun _=>⟨_,H',Runs.optr (gives43 hm'),ite_f (notB_f.2 (eqI_t.2 rfl)) ⟨_,H',Runs.optr (gives44 hm'),ite_f (notB_f.2 (eqI_t.2 rfl)) ?_⟩⟩) (fun hv=>?_))
    ·exact third (J:=j+1) hk30 (by omega) I' 0 (Nat.zero_le _) H' F hm' Im a1 hd'
    ·have hv2:ltI ((k+c.length+1:Nat):Int) ((k+j+1:Nat):Int)=false:=(Bool.or_eq_false_iff.1 hv).2
     have:=of_decide_eq_false hv2
     exact ih (by omega) H' no Fo' hm' a1 I' hd'
  refine upto ?_ fun j hj ih=>?_
  ·intro H no Fo a b d e
   exact body _ (Nat.le_refl _) H no Fo a b d e fun h=>by omega
  ·intro H no Fo a b d e
   exact body j (by omega) H no Fo a b d e fun _=>ih
 have mid:∀{k:Nat} {m:Mc} {F:List Nat} {H:List (O U)},k≤30→Has H n F m→Inv c T m→∃(x:Nat),∃(y:List (O U)),GivesM 40 [C.optr (some n)] H (C.ptr (Rf.g x) 0) y∧Has y n F m∧
   At K 6 (fun c' H'=>c'=(.d (.bool true):C U)∧H'=[]) t6_18 (s6_18 c outs (some n) k x m.dn m.pc k [] y):=by
  intro k m F H hk30 hm Im
  obtain ⟨no,Fo,H',g,h1,f,o⟩:=gives40 R hm Im
  have hm':Has H' n F m:=hm.frame f fun j _ hj=>by cases hj
  exact ⟨no,H',Runs.optr g,hm',second (F:=F) hk30 Im 0 (Nat.zero_le _) H' no Fo hm' h1 Im fun q hq hq'=>by have:=o q hq; have:=hm.lt q hq'; omega⟩
 have first:∀i,i≤b→∀(H:List (O U)) (F:List Nat) (m:Mc),Has H n F m→Inv c T m→At K 6 (fun c' H'=>c'=(.d (.bool true):C U)∧H'=[]) t6_8 (s6_8 c outs b (some n) i H):=by
  refine upto ?_ fun i hi ih=>?_
  ·intro H F m hm Im
   obtain ⟨x,y,g,hm',a⟩:=mid (k:=b) (by omega) hm Im
   exact l6_8 _ _ _ _ _ _ _ (ite_f (decide_eq_false (by omega)) ⟨x,y,g,m.dn,y,Runs.optr (gives43 hm'),m.pc,y,Runs.optr (gives44 hm'),a⟩)
  ·intro H F m hm Im
   obtain ⟨H',g,⟨F',a1,a2,a3⟩,I'⟩:=gives42 R hm Im outs ho i (by omega)
   refine l6_8 _ _ _ _ _ _ _ (ite_t (decide_eq_true (by omega)) ⟨((nxM outs i m).1,(nxM outs i m).2.1),H',Runs.optr g,ite_w (fun _=>?_) (fun _=>?_)⟩)
   ·obtain ⟨x,y,g,hm',a⟩:=mid (k:=i) (by omega) a1 I'
    exact ⟨x,y,g,_,y,Runs.optr (gives43 hm'),_,y,Runs.optr (gives44 hm'),a⟩
   ·rw [add_one (by omega)]
    exact ih H' F' _ a1 I'
 exact ⟨(some n,0),H1,g,false,rfl,ite_f rfl ⟨b,g29,first 0 (Nat.zero_le _) H1 F (newM c) h1 (new_inv R)⟩⟩
theorem o3:Opens K 3 fun ds=>∃n,ds=[.int .i64 n]:=opens_int laws (i:=⟨.int .i64,1,8,[.int .i64]⟩) (by kernel_rfl) rfl
theorem o9:Opens K 9 fun ds=>∃s,ds=[.str s]:=opens_str laws (i:=⟨.str,1,16,[.str]⟩) (by kernel_rfl) rfl
theorem o66:Opens K 66 fun ds=>∃x:api_Instr,ds=enc .api_Instr x:=
 (opens_struct laws (i:=⟨.strct [(3,0),(3,1),(9,2)],3,32,[.int .i64,.int .i64,.str]⟩) (by kernel_rfl) rfl (.cons o3 (.cons o3 (.cons o9 .nil))) (by kernel_rfl)).weaken (by
  rintro ds ⟨_,_,rfl,⟨a,rfl⟩,_,_,rfl,⟨b,rfl⟩,_,_,rfl,⟨c,rfl⟩,rfl⟩
  exact ⟨⟨a,b,c⟩,rfl⟩)
theorem o51:Opens K 51 fun ds=>∃xs:List api_Instr,ds=[.sl .api_Instr xs]:=
 opens_slice (c:=.api_Instr) laws (i:=⟨.slice 66,1,24,[.nils]⟩) (j:=⟨.strct [(3,0),(3,1),(9,2)],3,32,[.int .i64,.int .i64,.str]⟩) (by kernel_rfl) rfl (by kernel_rfl) o66 (fun _ h=>h) rfl rfl (by decide)
theorem o84:Opens K 84 fun ds=>∃x:api_Atom,ds=enc .api_Atom x:=
 (opens_struct laws (i:=⟨.strct [(3,0),(3,1),(3,2),(9,3)],4,40,[.int .i64,.int .i64,.int .i64,.str]⟩) (by kernel_rfl) rfl (.cons o3 (.cons o3 (.cons o3 (.cons o9 .nil)))) (by kernel_rfl)).weaken (by
  rintro ds ⟨_,_,rfl,⟨a,rfl⟩,_,_,rfl,⟨b,rfl⟩,_,_,rfl,⟨c,rfl⟩,_,_,rfl,⟨d,rfl⟩,rfl⟩
  exact ⟨⟨a,b,c,d⟩,rfl⟩)
theorem o37:Opens K 37 fun ds=>∃xs:List api_Atom,ds=[.sl .api_Atom xs]:=
 opens_slice (c:=.api_Atom) laws (i:=⟨.slice 84,1,24,[.nils]⟩) (j:=⟨.strct [(3,0),(3,1),(3,2),(9,3)],4,40,[.int .i64,.int .i64,.int .i64,.str]⟩) (by kernel_rfl) rfl (by kernel_rfl) o84 (fun _ h=>h) rfl rfl (by decide)
theorem o163:Opens K 163 fun ds=>∃x:api_Crack,ds=enc .api_Crack x:=
 (opens_struct laws (i:=⟨.strct [(3,0),(3,1),(9,2)],3,32,[.int .i64,.int .i64,.str]⟩) (by kernel_rfl) rfl (.cons o3 (.cons o3 (.cons o9 .nil))) (by kernel_rfl)).weaken (by
  rintro ds ⟨_,_,rfl,⟨a,rfl⟩,_,_,rfl,⟨b,rfl⟩,_,_,rfl,⟨c,rfl⟩,rfl⟩
  exact ⟨⟨a,b,c⟩,rfl⟩)
theorem o39:Opens K 39 fun ds=>∃xs:List api_Crack,ds=[.sl .api_Crack xs]:=
 opens_slice (c:=.api_Crack) laws (i:=⟨.slice 163,1,24,[.nils]⟩) (j:=⟨.strct [(3,0),(3,1),(9,2)],3,32,[.int .i64,.int .i64,.str]⟩) (by kernel_rfl) rfl (by kernel_rfl) o163 (fun _ h=>h) rfl rfl (by decide)
theorem o41:Opens K 41 fun ds=>∃x:api_Outcome,ds=enc .api_Outcome x:=
 (opens_struct laws (i:=⟨.strct [(3,0),(37,1),(39,2)],3,56,[.int .i64,.nils,.nils]⟩) (by kernel_rfl) rfl (.cons o3 (.cons o37 (.cons o39 .nil))) (by kernel_rfl)).weaken (by
  rintro ds ⟨_,_,rfl,⟨a,rfl⟩,_,_,rfl,⟨b,rfl⟩,_,_,rfl,⟨c,rfl⟩,rfl⟩
  exact ⟨⟨a,b,c⟩,rfl⟩)
theorem o87:Opens K 87 fun ds=>∃xs:List api_Outcome,ds=[.sl .api_Outcome xs]:=
 opens_slice (c:=.api_Outcome) laws (i:=⟨.slice 41,1,24,[.nils]⟩) (j:=⟨.strct [(3,0),(37,1),(39,2)],3,56,[.int .i64,.nils,.nils]⟩) (by kernel_rfl) rfl (by kernel_rfl) o41 (fun _ h=>h) rfl rfl (by decide)
def keysU:List (List UInt8):=[[99,101,108,108],[97,103,97,105,110],[116,114,105,101,115],[98,97,115,101],[102,97,99,116,111,114],[99,97,112],[99,108,111,115,101],[102,105,110,101],[102,97,105,108],[112,97,110,105,99],[105,102],[116,104,101,110],[101,108,115,101],[116,114,121],[119,97,105,116],[108,101,116],[105,110],[105,116,101,109],[115,105,122,101]]
def sortsU:List Int:=[0,1,1,1,1,1,1,1,2,3,4,1]
def valuesU:List (List UInt8):=[[108,105,115,116],[97,100,100],[115,117,98],[109,117,108],[106,111,105,110],[105,116,101,109],[115,105,122,101],[105,102],[102,97,105,108],[112,97,110,105,99]]
theorem glob0:K.glob 0=some (keysU.map fun s=>.str ⟨s.toArray⟩):=by rfl
theorem glob1:K.glob 1=some (sortsU.map fun s=>.int .i64 s):=by rfl
theorem glob2:K.glob 2=some (valuesU.map fun s=>.str ⟨s.toArray⟩):=by rfl
theorem globN (n:Nat):K.glob (n+3)=none:=by rfl
theorem gKeys : Tryz.prog.globalNamed "onceweb/lex.keys" = some 0 := by kernel_rfl
theorem gSorts : Tryz.prog.globalNamed "onceweb/fail.sorts" = some 1 := by kernel_rfl
theorem gValues : Tryz.prog.globalNamed "onceweb/fail.values" = some 2 := by kernel_rfl
theorem tKeys:(Tryz.prog.globals[0]?).map (·.type)=some 349:=by kernel_rfl
theorem tSorts:(Tryz.prog.globals[1]?).map (·.type)=some 380:=by kernel_rfl
theorem tValues:(Tryz.prog.globals[2]?).map (·.type)=some 381:=by kernel_rfl
theorem szK (s:List UInt8) (h:s∈keysU):(⟨s.toArray⟩:ByteArray).size≤maxStr:=by
 have:∀s∈keysU,s.length≤100:=by decide
 have:=this s h
 show s.toArray.size≤maxStr
 rw [List.size_toArray,maxStr_eq]; omega
theorem szV (s:List UInt8) (h:s∈valuesU):(⟨s.toArray⟩:ByteArray).size≤maxStr:=by
 have:∀s∈valuesU,s.length≤100:=by decide
 have:=this s h
 show s.toArray.size≤maxStr
 rw [List.size_toArray,maxStr_eq]; omega
theorem glob_of {W : World} (h : laidMetH Tryz.prog [("onceweb/lex.keys", Rows.laid_onceweb_lex_keys), ("onceweb/fail.sorts", Rows.laid_onceweb_fail_sorts), ("onceweb/fail.values", Rows.laid_onceweb_fail_values)] W) :
  ∀g cells,K.glob g=some cells→Old W g∧∀(j:Nat) d,cells[j]?=some d→∃u,W.cell? (at' g j)=some u∧RepD K (Old W) W d u:=by
 rw [MakeChecks.laidMetH_plain _ _ _ (by kernel_rfl)] at h
 obtain ⟨ps,⟨g0,t0,cs0,f0,p0,q0,hg0,ht0,hv0,hd0,⟨g1,t1,cs1,f1,p1,q1,hg1,ht1,hv1,hd1,⟨g2,t2,cs2,f2,p2,q2,hg2,ht2,hv2,hd2,_,_⟩,_⟩,_⟩,_,_⟩:=h
 obtain rfl:=Option.some.inj (gKeys.symm.trans hg0)
 obtain rfl:=Option.some.inj (gSorts.symm.trans hg1)
 obtain rfl:=Option.some.inj (gValues.symm.trans hg2)
 obtain rfl:=Option.some.inj (tKeys.symm.trans ht0)
 obtain rfl:=Option.some.inj (tSorts.symm.trans ht1)
 obtain rfl:=Option.some.inj (tValues.symm.trans ht2)
 have e0:∀j s,keysU[j]?=some s→W.cell? ⟨0,j,none⟩=some (.string ⟨s.toArray⟩):=laid_texts hg0 hv0 Tryz.underlying349 Tryz.underlying9 (by kernel_rfl) hd0
 have e1:∀j s,sortsU[j]?=some s→W.cell? ⟨1,j,none⟩=some (.int .i64 s):=laid_ints hg1 hv1 Tryz.underlying380 Tryz.underlying3 (by kernel_rfl) hd1
 have e2:∀j s,valuesU[j]?=some s→W.cell? ⟨2,j,none⟩=some (.string ⟨s.toArray⟩):=laid_texts hg2 hv2 Tryz.underlying381 Tryz.underlying9 (by kernel_rfl) hd2
 have old:∀{g j u},W.cell? ⟨g,j,none⟩=some u→Old W g:=fun {g j u} h=>by
  unfold Old
  simp only [World.cell?] at h
  by_cases hlt:g<W.heap.size
  ·exact hlt
  ·rw [Array.getElem?_eq_none (by omega)] at h; cases h
 intro g cells hg
 match g with
 | 0=>
  rw [glob0] at hg
  cases hg
  refine ⟨old (e0 0 _ rfl),fun j d hd=>?_⟩
  rw [List.getElem?_map,Option.map_eq_some_iff] at hd
  obtain ⟨s,hs,rfl⟩:=hd
  exact ⟨_,e0 j s hs,.str _ (szK s (List.mem_of_getElem? hs))⟩
 | 1=>
  rw [glob1] at hg
  cases hg
  refine ⟨old (e1 0 _ rfl),fun j d hd=>?_⟩
  rw [List.getElem?_map,Option.map_eq_some_iff] at hd
  obtain ⟨s,hs,rfl⟩:=hd
  exact ⟨_,e1 j s hs,.int _ _⟩
 | 2=>
  rw [glob2] at hg
  cases hg
  refine ⟨old (e2 0 _ rfl),fun j d hd=>?_⟩
  rw [List.getElem?_map,Option.map_eq_some_iff] at hd
  obtain ⟨s,hs,rfl⟩:=hd
  exact ⟨_,e2 j s hs,.str _ (szV s (List.mem_of_getElem? hs))⟩
 | n+3=>rw [globN] at hg; cases hg
end Go.Proofs.YtopifagbbmhgfaaGreatDoor.V
