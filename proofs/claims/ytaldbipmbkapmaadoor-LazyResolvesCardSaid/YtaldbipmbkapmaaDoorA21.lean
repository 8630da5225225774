/- LEMMAS: operations and calls touch nothing but what they say. Conditions: none. -/
import Derived.Test.YtaldbipmbkapmaaDoorA20
namespace Go.Abs
set_option linter.unusedVariables false
set_option linter.unusedSimpArgs false
section
variable {K:Cfg}
theorem evs_congr {f f':Operand→Option (C K.U)}:∀{l:List Operand},(∀x∈l,f x=f' x)→evs f l=evs f' l
 | [],_=>rfl
 | x :: l,h=>by simp only [evs]; rw [h x (by simp),evs_congr fun y hy=>h y (by simp [hy])]
theorem evsN_congr {f f':Operand→Option (C K.U)}:∀{l:List (Nat×Operand)},(∀x∈l,f x.2=f' x.2)→evsN f l=evsN f' l
 | [],_=>rfl
 | (i,x) :: l,h=>by simp only [evsN]; rw [h (i,x) (by simp),evsN_congr fun y hy=>h y (by simp [hy])]
theorem evO_congr {f f':Operand→Option (C K.U)} {x:Option Operand} (h:∀y,x=some y→f y=f' y):evO f x=evO f' x:=by
 cases x with
 | none=>rfl
 | some y=>simp only [evO]; rw [h y rfl]
theorem aopAt_f {slot:Option Nat} {an:OpAnn K.U} {o:Oper} {f f':Operand→Option (C K.U)} {loc:Loc K.U} {H:List (O K.U)} (h:∀x∈o.op.operands,f x=f' x):K.aopAt slot an o f loc H=K.aopAt slot an o f' loc H:=by
 obtain ⟨dst,op,type,pos,after,guard⟩:=o
 cases op <;> simp only [Op.operands] at h <;> simp only [Cfg.aopAt]
 case build t ps=>rw [evsN_congr fun x hx=>h x.2 (List.mem_toArray.2 (List.mem_map.2 ⟨x,hx,rfl⟩))]
 case buildSlice t n ps=>rw [evsN_congr fun x hx=>h x.2 (List.mem_toArray.2 (List.mem_map.2 ⟨x,hx,rfl⟩))]
 case makeFunc fn a b=>
  have e1:evs f a.toList=evs f' a.toList:=evs_congr fun x hx=>h x (by simp only [Array.mem_append]; left; simpa using hx)
  have e2:evs f b.toList=evs f' b.toList:=evs_congr fun x hx=>h x (by simp only [Array.mem_append]; right; simpa using hx)
  cases fn <;> first|rfl|(dsimp only; rw [e1,e2])
 case slice t x lo hi mx=>
  have hx:f x=f' x:=h x (by simp)
  have h1:evO f lo=evO f' lo:=evO_congr fun y e=>h y (by subst e; simp)
  have h2:evO f hi=evO f' hi:=evO_congr fun y e=>h y (by subst e; simp)
  have h3:evO f mx=evO f' mx:=evO_congr fun y e=>h y (by subst e; simp)
  rw [hx,h1,h2,h3]
 case call c=>
  have h1:evs f c.args.toList=evs f' c.args.toList:=evs_congr fun x hx=>h x (by simp only [Call.operands,Array.mem_append]; right; simpa using hx)
  rw [h1]
  cases hc:c.callee with
  | builtin b=>rfl
  | value g=>
   have hg:f g=f' g:=h g (by simp [Call.operands,hc])
   cases g <;> first|rfl|simp only [hg]
  | invoke x nm=>
   have hx:f x=f' x:=h x (by simp [Call.operands,hc])
   simp only [hx]
 case makeMap t r=>cases r <;> rfl
 all_goals (first|rfl|(simp_all; done))
section
variable {loc loc':Loc K.U} {H H':List (O K.U)}
theorem ownAll_frame:∀{own:List (Nat×Option Nat×Vc K.U)} {loc loc':Loc K.U} {H H':List (O K.U)} {cs ds:List (C K.U)} {wr:List (Rf×O K.U)},ownAll loc H own cs=some (ds,wr)→Agree (wr.map fun x=>x.1.tok) loc H loc' H'→ownAll loc' H' own cs=some (ds,wr)
 | [],loc,loc',H,H',cs,ds,wr,h,_=>by simpa [ownAll] using h
 | (i,slot,v) :: own,loc,loc',H,H',cs,ds,wr,h,A=>by
  simp only [ownAll] at h ⊢
  split at h
  ·rename_i hi
   (try simp only [hi])
   split at h
   ·rename_i r hnew
    split at h
    ·rename_i ds' wr' hrec
     simp only [Option.some.injEq,Prod.mk.injEq] at h
     obtain ⟨rfl,rfl⟩:=h
     have A':Agree (wr'.map fun x=>x.1.tok) (apL loc [(r,.arr 0 v [])]) (apH H [(r,.arr 0 v [])]) (apL loc' [(r,.arr 0 v [])]) (apH H' [(r,.arr 0 v [])]):=by
      refine ⟨fun s hs=>?_,fun hn=>?_⟩
      ·have:=A.l s (by simp [hs])
       cases r <;> simp only [apL] <;> rw [this]
      ·rw [A.g (by simp [hn])]
     rw [A.newO hnew (by simp)]
     simp only
     rw [ownAll_frame hrec A']
    ·cases h
   ·cases h
  ·cases h
theorem ownOut_frame {own:List (Nat×Option Nat×Vc K.U)} {v:C K.U} {r:Out K.U} (h:ownOut loc H own v=some (.out r)) (A:Agree (touch r) loc H loc' H'):ownOut loc' H' own v=some (.out r):=by
 unfold ownOut at h ⊢
 split at h
 ·exact h
 ·split at h
  ·rename_i cs wr ho
   have key:r.wr=wr→ownAll loc' H' own v.cells=some (cs,wr):=fun e=>ownAll_frame ho (A.sub fun t ht=>List.mem_append_right _ (by rw [e]; exact ht))
   split at h
   ·simp only [Option.some.injEq,Step.out.injEq] at h; subst h
    rw [key rfl]
   ·rename_i hna
    split at h
    ·simp only [Option.some.injEq,Step.out.injEq] at h; subst h
     rw [key rfl]
    ·cases h
  ·cases h
theorem aop_frame {slot:Option Nat} {an:OpAnn K.U} {o:Oper} {f:Operand→Option (C K.U)} {r:Out K.U} (h:K.aopAt slot an o f loc H=some (.out r)) (A:Agree (touch r) loc H loc' H'):K.aopAt slot an o f loc' H'=some (.out r):=by
 have stp:∀{x x':Option (Out K.U)},stepOut x=some (.out r)→(x=some r→x'=some r)→stepOut x'=some (.out r):=by
  intro x x' h hx
  rw [hx (stepOut_out h)]; rfl
 obtain ⟨dst,op,type,pos,after,guard⟩:=o
 cases op <;> simp only [Cfg.aopAt] at h ⊢
 case move x=>
  split at h
  ·rename_i v hv; (try simp only [hv]); exact ownOut_frame h A
  ·cases h
 case assign x=>
  split at h
  ·rename_i v hv; (try simp only [hv]); exact ownOut_frame h A
  ·cases h
 case alloc t=>
  split at h
  ·rename_i i hi
   split at h
   ·rename_i hw
    split at h
    ·rename_i q hnew
     simp only [Option.some.injEq,Step.out.injEq] at h; subst h
     (try simp only [hw,if_true])
     rw [A.newO hnew (touch_wr (List.mem_singleton.2 rfl))]
    ·cases h
   ·cases h
  ·cases h
 case box t x=>
  split at h
  ·rename_i v hv
   split at h
   ·rename_i hw
    split at h
    ·rename_i q hnew
     simp only [Option.some.injEq,Step.out.injEq] at h; subst h
     (try simp only [hv,hw,if_true])
     rw [A.newO hnew (touch_wr (List.mem_singleton.2 rfl))]
    ·cases h
   ·cases h
  ·cases h
 case build t ps=>
  split at h
  ·rename_i vs hv
   split at h
   ·rename_i v hb; (try simp only [hv,hb]); exact ownOut_frame h A
   ·cases h
  ·cases h
 case buildSlice t n ps=>
  split at h
  ·rename_i vs hv
   (try simp only [hv])
   cases hfz:an.frz with
   | false=>rw [hfz] at h; exact stp h fun h=>buildSlice_frame h A
   | true=>rw [hfz] at h; exact h
  ·cases h
 case load t x=>
  split at h
  ·rename_i v hv
   (try simp only [hv])
   have h':=stepOut_out h
   rw [show K.load loc' H' t v=K.load loc H t v by
    unfold Cfg.load
    rw [cellsAt_same (loc:=loc) (H:=H) (A.same fun q hq=>touch_rd (by rw [load_rd h']; exact hq))]]
   exact h
  ·cases h
 case store t x y=>
  split at h
  ·rename_i v u hv hu
   (try simp only [hv,hu])
   have h':=stepOut_out h
   cases hfz:an.frz with
   | false=>
    rw [hfz] at h h'
    have e:K.storeX false loc' H' t v u=K.storeX false loc H t v u:=store_same (loc:=loc) (H:=H) (A.same fun q hq=>by obtain ⟨x,hx⟩:=store_wr h' q hq; exact touch_wr hx)
    rw [e]
    exact h
   | true=>
    rw [hfz] at h h'
    have h2:K.storeFrz loc H t v u=some r:=h'
    have e:K.storeX true loc' H' t v u=some r:=by
     show K.storeFrz loc' H' t v u=some r
     unfold Cfg.storeFrz at h2 ⊢
     split at h2
     ·rename_i s gen sub cl
      split at h2
      ·rename_i ok dd oo hnow
       split at h2
       ·rename_i r1 hr1
        simp only [Option.some.injEq] at h2
        subst h2
        have hs:getO loc' H' (.l s)=getO loc H (.l s):=(A.same (rs:=[.l s]) fun q hq=>by rw [List.mem_singleton.1 hq]; exact touch_wr (x:=oo) (by simp)) _ (by simp)
        have e1:K.now loc' H' (.l s) gen sub=K.now loc H (.l s) gen sub:=by unfold Cfg.now; rw [hs]
        simp only [e1,hnow]
        have hsa:SameAt (apL loc [(.l s,oo)]) H (apL loc' [(.l s,oo)]) H' v.ref:=by
         intro q hq
         obtain ⟨x,hx⟩:=store_wr hr1 q hq
         have:=(A.same (rs:=[q]) fun q' hq'=>by rw [List.mem_singleton.1 hq']; exact touch_wr (x:=x) (by simp [hx])) q (by simp)
         cases q with
         | g n=>exact this
         | l s'=>
          simp only [getO,apL] at this ⊢
          cases Nat.beq s' s
          ·exact this
          ·rfl
        rw [store_same hsa,hr1]
       ·cases h2
      ·cases h2
     ·cases h2
    rw [e]
    exact h'.symm▸h
  ·cases h
 case makeMap t r'=>
  cases r' with
  | some _=>cases h
  | none=>
   try simp only at h ⊢
   split at h
   ·rename_i i hi
    split at h
    ·rename_i kt e hk
     split at h
     ·rename_i _ _ q h1 h2 hnew
      simp only [Option.some.injEq,Step.out.injEq] at h; subst h
      (try simp only [h1,h2])
      rw [A.newO hnew (touch_wr (List.mem_singleton.2 rfl))]
     ·cases h
    ·cases h
   ·cases h
 case makeSlice t x y=>
  split at h
  ·rename_i v u hv hu; (try simp only [hv,hu]); refine stp h fun h=>?_
   split at h
   ·exact makeRows_frame h A
   ·exact makeSlice_frame h A
  ·cases h
 case slice t x lo hi mx=>
  split at h
  ·rename_i v l u m h1 h2 h3 h4
   (try simp only [h1,h2,h3,h4])
   split at h
   ·rename_i ok y hy
    have:=outV_out h; subst this
    rw [slice_same (loc:=loc) (H:=H) (A.same fun q hq=>touch_rd hq),hy]
    rfl
   ·cases h
  ·cases h
 case indexAddr t x i=>
  split at h
  ·rename_i v k n h1 h2
   (try simp only [h1,h2])
   split at h
   ·rename_i ok y hy
    have:=outV_out h; subst this
    rw [indexAddr_same (loc:=loc) (H:=H) (A.same fun q hq=>touch_rd hq),hy]
    rfl
   ·cases h
  ·cases h
 case lookup t m k ok=>
  split at h
  ·rename_i v u hv hu
   (try simp only [hv,hu])
   have h':=stepOut_out h
   rw [lookup_same (loc:=loc) (H:=H) (A.same fun q hq=>touch_rd (by rw [lookup_rd h']; exact hq))]
   exact h
  ·cases h
 case mapUpdate t m k x=>
  split at h
  ·rename_i v u y hv hu hy
   (try simp only [hv,hu,hy])
   have h':=stepOut_out h
   rw [mapUpdate_same (loc:=loc) (H:=H) (A.same fun q hq=>by obtain ⟨x,hx⟩:=mapUpdate_wr h' q hq; exact touch_wr hx)]
   exact h
  ·cases h
 case insert t m k x=>
  split at h
  ·rename_i v u y hv hu hy
   (try simp only [hv,hu,hy])
   have h':=stepOut_out h
   rw [mapUpdate_same (loc:=loc) (H:=H) (A.same fun q hq=>by obtain ⟨x,hx⟩:=mapUpdate_wr h' q hq; exact touch_wr hx)]
   exact h
  ·cases h
 case mapEntry t m k=>
  split at h
  ·rename_i v u hv hu
   (try simp only [hv,hu])
   have h':=stepOut_out h
   rw [mapEntry_same (loc:=loc) (H:=H) (A.same fun q hq=>by obtain ⟨x,hx⟩:=mapEntry_wr h' q hq; exact touch_wr hx)]
   exact h
  ·cases h
 case entryStore t m k x=>
  split at h
  ·rename_i v u y hv hu hy
   (try simp only [hv,hu,hy])
   have h':=stepOut_out h
   rw [entryStore_same (loc:=loc) (H:=H) (A.same fun q hq=>by obtain ⟨x,hx⟩:=entryStore_wr h' q hq; exact touch_wr hx)]
   exact h
  ·cases h
 case call c=>
  split at h
  ·rename_i args hargs
   (try simp only [hargs])
   split at h
   ·rename_i b hb
    have h':=stepOut_out h
    refine stp h fun _=>?_
    unfold Cfg.builtin at h' ⊢
    split at h'
    ·rename_i t ts x hts
     split at h'
     ·rename_i i hi
      split at h'
      ·rename_i ok n hl
       simp only [Option.some.injEq] at h'; subst h'
       rw [lenOf_same (loc:=loc) (H:=H) (A.same fun q hq=>touch_rd hq),hl]
      ·cases h'
     ·cases h'
    ·split at h'
     ·split at h'
      ·exact append_frame h' A
      ·exact appZeros_frame h' A
      ·cases h'
     ·cases h'
    ·exact h'
    ·exact h'
    ·exact h'
    ·cases h'
   ·exact h
   ·exact h
   ·exact h
  ·cases h
 case makeFunc fn a b=>cases fn <;> exact h
 all_goals exact h
theorem aop_call_any {slot:Option Nat} {an:OpAnn K.U} {o:Oper} {f:Operand→Option (C K.U)} {g:FuncId} {args:List (C K.U)} (h:K.aopAt slot an o f loc H=some (.call g args)):K.aopAt slot an o f loc' H'=some (.call g args):=by
 have hown:∀(own:List (Nat×Option Nat×Vc K.U)) (v:C K.U),ownOut loc H own v ≠ some (.call g args):=by
  intro own v h
  unfold ownOut at h
  repeat' split at h
  all_goals cases h
 have hst:∀x:Option (Out K.U),stepOut x ≠ some (.call g args):=by
  intro x h
  cases x <;> cases h
 obtain ⟨dst,op,type,pos,after,guard⟩:=o
 cases op
 case call c=>
  simp only [Cfg.aopAt] at h ⊢
  split at h
  ·rename_i as has
   (try simp only [has])
   split at h
   ·exact absurd h (hst _)
   ·exact h
   ·exact h
   ·exact h
  ·cases h
 case makeFunc fn a b=>
  cases fn <;> simp only [Cfg.aopAt] at h
  all_goals
   repeat' split at h
   all_goals cases h
 case makeMap t r=>
  cases r <;> simp only [Cfg.aopAt] at h
  all_goals
   repeat' split at h
   all_goals cases h
 all_goals
  simp only [Cfg.aopAt] at h
  repeat' split at h
  all_goals first
   | cases h
   | exact absurd h (hown _ _)
   | exact absurd h (hst _)
mutual
theorem frz_same:∀{c:C K.U},SameAt loc H loc' H' c.refs→K.frz loc' H' c=K.frz loc H c
 | .d _,_|.clip _ _,_|.ep _,_|.osl _ _,_|.mp _,_|.ptr _ _,_|.pa _ _ _ _,_|.fp _ _ _,_|.optr _,_|.dead,_=>by simp [Cfg.frz]
 | .asl r g sub cl,h=>by
  simp only [Cfg.frz,Cfg.now]
  rw [h r (by simp [C.refs])]
 | .fn f a b,h=>by
  simp only [Cfg.frz]
  rw [frzAll_same (cs:=a) fun r hr=>h r (by simp [C.refs,hr]),frzAll_same (cs:=b) fun r hr=>h r (by simp [C.refs,hr])]
 | .agg cs,h=>by simp only [Cfg.frz]; rw [frzAll_same (cs:=cs) fun r hr=>h r (by simpa [C.refs] using hr)]
 | .tup cs,h=>by simp only [Cfg.frz]; rw [frzAll_same (cs:=cs) fun r hr=>h r (by simpa [C.refs] using hr)]
 | .ifc t x,h=>by simp only [Cfg.frz]; rw [frz_same (c:=x) fun r hr=>h r (by simpa [C.refs] using hr)]
theorem frzAll_same:∀{cs:List (C K.U)},SameAt loc H loc' H' (C.refsL cs)→K.frzAll loc' H' cs=K.frzAll loc H cs
 | [],_=>by simp [Cfg.frzAll]
 | c :: cs,h=>by
  simp only [Cfg.frzAll]
  rw [frz_same (c:=c) fun r hr=>h r (by simp [C.refsL,hr]),frzAll_same (cs:=cs) fun r hr=>h r (by simp [C.refsL,hr])]
end
mutual
theorem down_same:∀{c:C K.U},SameAt loc H loc' H' c.refs→K.down loc' H' c=K.down loc H c
 | .d _,_|.clip _ _,_|.ep _,_|.osl _ _,_|.mp (.g _),_|.mp (.l _),_|.ptr (.g _) _,_|.ptr (.l _) _,_|.pa (.g _) _ _ _,_|.pa (.l _) _ _ _,_|.fp _ _ _,_|.optr _,_|.dead,_|.asl (.g _) _ _ _,_=>by simp [Cfg.down]
 | .asl (.l s) g sub cl,h=>by
  simp only [Cfg.down,Cfg.now]
  rw [h (.l s) (by simp [C.refs])]
 | .fn f a b,h=>by
  simp only [Cfg.down]
  rw [downAll_same (cs:=a) fun r hr=>h r (by simp [C.refs,hr]),downAll_same (cs:=b) fun r hr=>h r (by simp [C.refs,hr])]
 | .agg cs,h=>by simp only [Cfg.down]; rw [downAll_same (cs:=cs) fun r hr=>h r (by simpa [C.refs] using hr)]
 | .tup cs,h=>by simp only [Cfg.down]; rw [downAll_same (cs:=cs) fun r hr=>h r (by simpa [C.refs] using hr)]
 | .ifc t x,h=>by simp only [Cfg.down]; rw [down_same (c:=x) fun r hr=>h r (by simpa [C.refs] using hr)]
theorem downAll_same:∀{cs:List (C K.U)},SameAt loc H loc' H' (C.refsL cs)→K.downAll loc' H' cs=K.downAll loc H cs
 | [],_=>by simp [Cfg.downAll]
 | c :: cs,h=>by
  simp only [Cfg.downAll]
  rw [down_same (c:=c) fun r hr=>h r (by simp [C.refsL,hr]),downAll_same (cs:=cs) fun r hr=>h r (by simp [C.refsL,hr])]
end
mutual
theorem frz_refs:∀{c y:C K.U} {ok:Bool} {wr:List (Rf×O K.U)},K.frz loc H c=some (ok,y,wr)→∀p∈wr,p.1∈c.refs
 | .d _,y,ok,wr,h,p,hp|.clip _ _,y,ok,wr,h,p,hp|.ep _,y,ok,wr,h,p,hp=>by
  simp only [Cfg.frz,Option.some.injEq,Prod.mk.injEq] at h
  obtain ⟨_,_,rfl⟩:=h
  simp at hp
 | .asl r g sub cl,y,ok,wr,h,p,hp=>by
  simp only [Cfg.frz] at h
  split at h
  ·simp only [Option.some.injEq,Prod.mk.injEq] at h
   obtain ⟨_,_,rfl⟩:=h
   simp only [List.mem_singleton] at hp; subst hp
   simp [C.refs]
  ·cases h
 | .fn f a b,y,ok,wr,h,p,hp=>by
  simp only [Cfg.frz] at h
  split at h
  ·rename_i h1 h2
   simp only [Option.some.injEq,Prod.mk.injEq] at h
   obtain ⟨_,_,rfl⟩:=h
   rcases List.mem_append.1 hp with hp|hp
   ·simp [C.refs,frzAll_refs h1 p hp]
   ·simp [C.refs,frzAll_refs h2 p hp]
  ·cases h
 | .agg cs,y,ok,wr,h,p,hp=>by
  simp only [Cfg.frz] at h
  split at h
  ·rename_i h1
   simp only [Option.some.injEq,Prod.mk.injEq] at h
   obtain ⟨_,_,rfl⟩:=h
   simpa [C.refs] using frzAll_refs h1 p hp
  ·cases h
 | .tup cs,y,ok,wr,h,p,hp=>by
  simp only [Cfg.frz] at h
  split at h
  ·rename_i h1
   simp only [Option.some.injEq,Prod.mk.injEq] at h
   obtain ⟨_,_,rfl⟩:=h
   simpa [C.refs] using frzAll_refs h1 p hp
  ·cases h
 | .ifc t x,y,ok,wr,h,p,hp=>by
  simp only [Cfg.frz] at h
  split at h
  ·rename_i h1
   simp only [Option.some.injEq,Prod.mk.injEq] at h
   obtain ⟨_,_,rfl⟩:=h
   simpa [C.refs] using frz_refs h1 p hp
  ·cases h
 | .ptr _ _,_,_,_,h,_,_|.pa _ _ _ _,_,_,_,h,_,_|.osl _ _,_,_,_,h,_,_|.mp _,_,_,_,h,_,_|.fp _ _ _,_,_,_,h,_,_|.optr _,_,_,_,h,_,_|.dead,_,_,_,h,_,_=>by simp [Cfg.frz] at h
theorem frzAll_refs:∀{cs ys:List (C K.U)} {ok:Bool} {wr:List (Rf×O K.U)},K.frzAll loc H cs=some (ok,ys,wr)→∀p∈wr,p.1∈C.refsL cs
 | [],ys,ok,wr,h,p,hp=>by
  simp only [Cfg.frzAll,Option.some.injEq,Prod.mk.injEq] at h
  obtain ⟨_,_,rfl⟩:=h
  simp at hp
 | c :: cs,ys,ok,wr,h,p,hp=>by
  simp only [Cfg.frzAll] at h
  split at h
  ·rename_i h1 h2
   simp only [Option.some.injEq,Prod.mk.injEq] at h
   obtain ⟨_,_,rfl⟩:=h
   rcases List.mem_append.1 hp with hp|hp
   ·simp [C.refsL,frz_refs h1 p hp]
   ·simp [C.refsL,frzAll_refs h2 p hp]
  ·cases h
end
end
end
end Go.Abs
