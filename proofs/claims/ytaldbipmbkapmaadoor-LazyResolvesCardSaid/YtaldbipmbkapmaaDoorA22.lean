/- LEMMAS: operations that draw their order come to the same in each order. Conditions: none. -/
import Derived.Test.YtaldbipmbkapmaaDoorA21
namespace Go.Abs
set_option linter.unusedVariables false
set_option linter.unusedSimpArgs false
section
variable {K:Cfg} {Rs:Res K}
theorem forceN_eq.{u} {α:Sort u} (n:Nat) (k:Nat→α):forceN n k=k n:=by cases n <;> rfl
structure Dl (U:Univ) where
 v:C U
 wr:List (Rf×O U)
 hn:Option (List (O U))
def Dl.app {U:Univ} (δ:Dl U) (dst:Option Tmp) (st:St U):St U:=⟨put st.tmps dst δ.v,apL st.loc δ.wr,δ.hn.getD st.H⟩
def newH {U:Univ} (H:List (O U)) (wr:List (Rf×O U)):Option (List (O U)):=if wr.all (fun x=>x.1.isL) then none else some (apH H wr)
theorem newH_eq {U:Univ} (H:List (O U)) (wr:List (Rf×O U)):(newH H wr).getD H=apH H wr:=by
 unfold newH
 split
 ·rename_i h
  have:AllL wr:=by
   intro p hp
   have:=List.all_eq_true.1 h p hp
   obtain ⟨r,o⟩:=p
   cases r with
   | l s=>exact ⟨s,rfl⟩
   | g n=>simp [Rf.isL] at this
  rw [this.apH]; rfl
 ·rfl
theorem newH_none {U:Univ} {H:List (O U)} {wr:List (Rf×O U)} (h:newH H wr ≠ none):(none:Tok)∈wr.map fun x=>x.1.tok:=by
 unfold newH at h
 split at h
 ·exact absurd rfl h
 ·rename_i h'
  rw [Bool.not_eq_true,List.all_eq_false] at h'
  obtain ⟨p,hp,hl⟩:=h'
  obtain ⟨r,o⟩:=p
  cases r with
  | l s=>simp [Rf.isL] at hl
  | g n=>exact List.mem_map.2 ⟨(.g n,o),hp,rfl⟩
def CallE (Rs:Res K) (slot:Option Nat) (g:FuncId) (args:List (C K.U)) (loc:Loc K.U) (H:List (O K.U)) (δ:Dl K.U):Prop:=
 match (K.ann g).pure with
 | true=>match K.frzAll loc H args with
  | some (ok,as,wr)=>ok=true∧∃x:Rs.R g,Runs K g (C.coVs (K.ann g).pco as) [] (fun c H'=>c=Rs.enc g x∧H'=[])∧
   match (K.ann g).scalar with
   | true=>((wr.isEmpty || K.lent (Rs.enc g x)) && ((K.ann g).own || (Rs.enc g x).noOsl))=true∧
    match (K.ann g).own with
    | false=>δ=⟨Rs.enc g x,[],none⟩
    | true=>∃w wr1,adoptV loc slot (Rs.enc g x)=some (w,wr1)∧δ=⟨w,wr1,none⟩
   | false=>(Rs.enc g x).noOsl=true∧δ=⟨Rs.enc g x,wr,newH H wr⟩
  | none=>False
 | false=>match K.downAll loc H args with
  | some (ok,as,wr)=>ok=true∧∃(x:Rs.R g) (y:Rs.RH g),Runs K g (C.coVs (K.ann g).pco as) (apH H wr) (fun c H'=>c=Rs.enc g x∧H'=Rs.encH g (apH H wr) y)∧(Rs.enc g x).noOsl=true∧
   δ=⟨Rs.enc g x,wr,some (Rs.encH g (apH H wr) y)⟩
  | none=>False
theorem callP_E {slot:Option Nat} {g:FuncId} {args:List (C K.U)} {loc:Loc K.U} {H:List (O K.U)} {k:C K.U→Loc K.U→List (O K.U)→Prop} (h:callP Rs (Runs K) false slot g args loc H k):
  ∃δ,CallE Rs slot g args loc H δ∧k δ.v (apL loc δ.wr) (δ.hn.getD H):=by
 unfold callP at h
 unfold CallE
 split at h
 ·rename_i hp
  simp only [hp]
  split at h
  ·rename_i ok as wr hf
   simp only [hf]
   simp only [Bool.false_and,Bool.false_eq_true,if_false,andP_iff] at h
   obtain ⟨hok,h⟩:=h
   split at h
   ·rename_i hs
    obtain ⟨x,hr,h⟩:=h
    split at h
    ·rename_i hc
     unfold gotP at h
     split at h
     ·rename_i ho
      exact ⟨⟨Rs.enc g x,[],none⟩,⟨hok,x,hr,by simp only [hs]; exact ⟨hc,by simp only [ho]⟩⟩,h⟩
     ·rename_i ho
      split at h
      ·rename_i w wr1 had
       exact ⟨⟨w,wr1,none⟩,⟨hok,x,hr,by simp only [hs]; exact ⟨hc,by simp only [ho]; exact ⟨w,wr1,had,rfl⟩⟩⟩,h⟩
      ·exact h.elim
    ·exact h.elim
   ·rename_i hs
    obtain ⟨x,hr,h⟩:=h
    split at h
    ·rename_i hc
     exact ⟨⟨Rs.enc g x,wr,newH H wr⟩,⟨hok,x,hr,by simp only [hs]; exact ⟨hc,trivial⟩⟩,by rw [newH_eq]; exact h⟩
    ·exact h.elim
  ·exact h.elim
 ·rename_i hp
  simp only [hp]
  simp only [Bool.false_eq_true,if_false] at h
  split at h
  ·rename_i ok as wr hf
   simp only [hf]
   rw [andP_iff] at h
   obtain ⟨hok,x,y,hr,h⟩:=h
   split at h
   ·rename_i hc
    exact ⟨⟨Rs.enc g x,wr,some _⟩,⟨hok,x,y,hr,hc,rfl⟩,h⟩
   ·exact h.elim
  ·exact h.elim
theorem callE_P {slot:Option Nat} {g:FuncId} {args:List (C K.U)} {loc:Loc K.U} {H:List (O K.U)} {k:C K.U→Loc K.U→List (O K.U)→Prop} {δ:Dl K.U} (h:CallE Rs slot g args loc H δ) (hk:k δ.v (apL loc δ.wr) (δ.hn.getD H)):
  callP Rs (Runs K) false slot g args loc H k:=by
 unfold CallE at h
 unfold callP
 split at h
 ·rename_i hp
  simp only [hp]
  split at h
  ·rename_i ok as wr hf
   simp only [hf]
   simp only [Bool.false_and,Bool.false_eq_true,if_false,andP_iff]
   obtain ⟨hok,x,hr,h⟩:=h
   refine ⟨hok,?_⟩
   split at h
   ·rename_i hs
    simp only [hs]
    obtain ⟨hc,h⟩:=h
    refine ⟨x,hr,?_⟩
    rw [if_pos hc]
    unfold gotP
    split at h
    ·rename_i ho
     subst h
     simp only [ho]; exact hk
    ·rename_i ho
     obtain ⟨w,wr1,had,rfl⟩:=h
     simp only [ho,had]; exact hk
   ·rename_i hs
    simp only [hs]
    obtain ⟨hc,rfl⟩:=h
    refine ⟨x,hr,?_⟩
    rw [if_pos hc]
    rw [newH_eq] at hk; exact hk
  ·exact h.elim
 ·rename_i hp
  simp only [hp]
  simp only [Bool.false_eq_true,if_false]
  split at h
  ·rename_i ok as wr hf
   simp only [hf]
   rw [andP_iff]
   obtain ⟨hok,x,y,hr,hc,rfl⟩:=h
   refine ⟨hok,x,y,hr,?_⟩
   rw [if_pos hc]
   exact hk
  ·exact h.elim
mutual
theorem down_refs {loc:Loc K.U} {H:List (O K.U)}:∀{c y:C K.U} {ok:Bool} {wr:List (Rf×O K.U)},K.down loc H c=some (ok,y,wr)→∀p∈wr,p.1∈c.refs
 | .d _,y,ok,wr,h,p,hp|.clip _ _,y,ok,wr,h,p,hp|.ep _,y,ok,wr,h,p,hp|.ptr (.g _) _,y,ok,wr,h,p,hp|.pa (.g _) _ _ _,y,ok,wr,h,p,hp|.mp (.g _),y,ok,wr,h,p,hp
 | .asl (.g _) _ _ _,y,ok,wr,h,p,hp|.optr _,y,ok,wr,h,p,hp|.fp _ _ _,y,ok,wr,h,p,hp=>by
  simp only [Cfg.down,Option.some.injEq,Prod.mk.injEq] at h
  obtain ⟨_,_,rfl⟩:=h
  simp at hp
 | .asl (.l s) g sub cl,y,ok,wr,h,p,hp=>by
  simp only [Cfg.down] at h
  split at h
  ·simp only [Option.some.injEq,Prod.mk.injEq] at h
   obtain ⟨_,_,rfl⟩:=h
   simp only [List.mem_singleton] at hp; subst hp
   simp [C.refs]
  ·cases h
 | .fn f a b,y,ok,wr,h,p,hp=>by
  simp only [Cfg.down] at h
  split at h
  ·rename_i h1 h2
   simp only [Option.some.injEq,Prod.mk.injEq] at h
   obtain ⟨_,_,rfl⟩:=h
   rcases List.mem_append.1 hp with hp|hp
   ·simp [C.refs,downAll_refs h1 p hp]
   ·simp [C.refs,downAll_refs h2 p hp]
  ·cases h
 | .agg cs,y,ok,wr,h,p,hp=>by
  simp only [Cfg.down] at h
  split at h
  ·rename_i h1
   simp only [Option.some.injEq,Prod.mk.injEq] at h
   obtain ⟨_,_,rfl⟩:=h
   simpa [C.refs] using downAll_refs h1 p hp
  ·cases h
 | .tup cs,y,ok,wr,h,p,hp=>by
  simp only [Cfg.down] at h
  split at h
  ·rename_i h1
   simp only [Option.some.injEq,Prod.mk.injEq] at h
   obtain ⟨_,_,rfl⟩:=h
   simpa [C.refs] using downAll_refs h1 p hp
  ·cases h
 | .ifc t x,y,ok,wr,h,p,hp=>by
  simp only [Cfg.down] at h
  split at h
  ·rename_i h1
   simp only [Option.some.injEq,Prod.mk.injEq] at h
   obtain ⟨_,_,rfl⟩:=h
   simpa [C.refs] using down_refs h1 p hp
  ·cases h
 | .ptr (.l _) _,_,_,_,h,_,_|.pa (.l _) _ _ _,_,_,_,h,_,_|.osl _ _,_,_,_,h,_,_|.mp (.l _),_,_,_,h,_,_|.dead,_,_,_,h,_,_=>by simp [Cfg.down] at h
theorem downAll_refs {loc:Loc K.U} {H:List (O K.U)}:∀{cs ys:List (C K.U)} {ok:Bool} {wr:List (Rf×O K.U)},K.downAll loc H cs=some (ok,ys,wr)→∀p∈wr,p.1∈C.refsL cs
 | [],ys,ok,wr,h,p,hp=>by
  simp only [Cfg.downAll,Option.some.injEq,Prod.mk.injEq] at h
  obtain ⟨_,_,rfl⟩:=h
  simp at hp
 | c :: cs,ys,ok,wr,h,p,hp=>by
  simp only [Cfg.downAll] at h
  split at h
  ·rename_i h1 h2
   simp only [Option.some.injEq,Prod.mk.injEq] at h
   obtain ⟨_,_,rfl⟩:=h
   rcases List.mem_append.1 hp with hp|hp
   ·simp [C.refsL,down_refs h1 p hp]
   ·simp [C.refsL,downAll_refs h2 p hp]
  ·cases h
end
theorem apL_agree {loc loc':Loc K.U} {wr:List (Rf×O K.U)} {s:Nat} (h:loc' s=loc s):apL loc' wr s=apL loc wr s:=by
 induction wr generalizing loc loc' with
 | nil=>exact h
 | cons p wr ih=>
  obtain ⟨r,o⟩:=p
  cases r with
  | l t=>
   simp only [apL]
   exact ih (by simp only [h])
  | g n=>simp only [apL]; exact ih h
theorem adopt_frame {loc loc':Loc K.U}:∀{n s:Nat} {cs ws:List (C K.U)} {wr:List (Rf×O K.U)},adopt loc n s cs=some (ws,wr)→(∀j,j<n→loc' (s+1000 * j)=loc (s+1000 * j))→
  adopt loc' n s cs=some (ws,wr)∧∀p∈wr,∃j,j<n∧p.1=.l (s+1000 * j)
 | 0,s,[],ws,wr,h,_|_+1,s,[],ws,wr,h,_=>by
  simp only [adopt,Option.some.injEq,Prod.mk.injEq] at h
  obtain ⟨rfl,rfl⟩:=h
  exact ⟨by simp [adopt],by simp⟩
 | 0,s,_ :: _,ws,wr,h,_=>by simp [adopt] at h
 | n+1,s,x :: xs,ws,wr,h,hl=>by
  simp only [adopt] at h ⊢
  split at h
  ·cases h
  ·rename_i ys wr' hrec
   obtain ⟨ih,hw⟩:=adopt_frame (loc':=loc') hrec fun j hj=>by
    have:=hl (j+1) (by omega)
    rw [show s+1000+1000 * j=s+1000 * (j+1) by omega]; exact this
   have hw':∀p∈wr',∃j,j<n+1∧p.1=.l (s+1000 * j):=fun p hp=>by
    obtain ⟨j,h1,h2⟩:=hw p hp
    exact ⟨j+1,by omega,by rw [h2]; congr 1; omega⟩
   rw [ih]
   have h0:=hl 0 (by omega)
   simp only [Nat.mul_zero,Nat.add_zero] at h0
   split at h
   ·split at h
    ·rename_i hs
     simp only [Option.some.injEq,Prod.mk.injEq] at h
     obtain ⟨rfl,rfl⟩:=h
     simp only [h0,hs]
     refine ⟨trivial,fun p hp=>?_⟩
     rcases List.mem_append.1 hp with hp|hp
     ·exact hw' p hp
     ·simp only [List.mem_singleton] at hp; subst hp
      exact ⟨0,by omega,rfl⟩
    ·cases h
   ·rename_i hno
    simp only [Option.some.injEq,Prod.mk.injEq] at h
    obtain ⟨rfl,rfl⟩:=h
    refine ⟨?_,hw'⟩
    cases x <;> first|rfl|exact absurd rfl (hno _ _)
theorem adoptV_frame {loc loc':Loc K.U} {slot:Option Nat} {c d:C K.U} {wr:List (Rf×O K.U)} (h:adoptV loc slot c=some (d,wr)) (hl:∀s j,slot=some s→j<4→loc' (s+1000 * j)=loc (s+1000 * j)):
  adoptV loc' slot c=some (d,wr)∧∀p∈wr,∃s j,slot=some s∧j<4∧p.1=.l (s+1000 * j):=by
 cases slot with
 | none=>cases c <;> cases h
 | some s=>
  have one:∀x:C K.U,(∀vs,x ≠ .tup vs)→x=c→adoptV loc' (some s) c=some (d,wr)∧∀p∈wr,∃s' j,some s=some s'∧j<4∧p.1=.l (s'+1000 * j):=by
   intro x hx e
   subst e
   have e1:∀l:Loc K.U,adoptV l (some s) x=match adopt l 4 s [x] with|some ([y],wr)=>some (y,wr)|_=>none:=by
    intro l
    cases x <;> first|(simp only [adoptV]; rcases adopt l 4 s _ with _|⟨_|⟨_,_|_⟩,_⟩ <;> rfl)|exact absurd rfl (hx _)
   rw [e1] at h ⊢
   split at h
   ·rename_i y wr' hrec
    simp only [Option.some.injEq,Prod.mk.injEq] at h
    obtain ⟨rfl,rfl⟩:=h
    obtain ⟨h1,h2⟩:=adopt_frame hrec fun j hj=>hl s j rfl hj
    rw [h1]
    exact ⟨rfl,fun p hp=>by obtain ⟨j,k1,k2⟩:=h2 p hp; exact ⟨s,j,rfl,k1,k2⟩⟩
   ·cases h
  cases c with
  | tup vs=>
   simp only [adoptV] at h ⊢
   split at h
   ·rename_i ws wr' hrec
    simp only [Option.some.injEq,Prod.mk.injEq] at h
    obtain ⟨rfl,rfl⟩:=h
    obtain ⟨h1,h2⟩:=adopt_frame hrec fun j hj=>hl s j rfl hj
    simp only [h1]
    exact ⟨trivial,fun p hp=>by obtain ⟨j,k1,k2⟩:=h2 p hp; exact ⟨s,j,rfl,k1,k2⟩⟩
   ·cases h
  | _=>exact one _ (by simp) rfl
theorem mem_callToks_rs {slot:Option Nat} {g:FuncId} {args:List (C K.U)} {r:Rf} (h:r∈C.refsL args):r.tok∈(callToks (K:=K) slot g args).1 ++ (callToks (K:=K) slot g args).2:=by
 have h':r.tok∈(C.refsL args).map Rf.tok:=List.mem_map_of_mem h
 unfold callToks
 cases (K.ann g).pure <;> cases (K.ann g).scalar <;> simp_all
theorem callE_frame {slot:Option Nat} {g:FuncId} {args:List (C K.U)} {loc loc':Loc K.U} {H H':List (O K.U)} {δ:Dl K.U} (h:CallE Rs slot g args loc H δ)
  (A:Agree ((callToks (K:=K) slot g args).1 ++ (callToks (K:=K) slot g args).2) loc H loc' H'):CallE Rs slot g args loc' H' δ∧
   (∀p∈δ.wr,p.1.tok∈(callToks (K:=K) slot g args).2)∧(δ.hn ≠ none→(none:Tok)∈(callToks (K:=K) slot g args).2):=by
 have hsame:SameAt loc H loc' H' (C.refsL args):=A.same fun r hr=>mem_callToks_rs hr
 have hdn:∀{ys:List (C K.U)} {ok:Bool} {wr:List (Rf×O K.U)},K.downAll loc H args=some (ok,ys,wr)→∀p∈wr,p.1∈C.refsL args:=fun h=>downAll_refs h
 unfold CallE at h ⊢
 split at h
 ·rename_i hp
  (try simp only [hp])
  rw [frzAll_same hsame]
  split at h
  ·rename_i ok as wr hf
   (try simp only [hf])
   obtain ⟨hok,x,hr,h⟩:=h
   split at h
   ·rename_i hs
    (try simp only [hs])
    obtain ⟨hc,h⟩:=h
    split at h
    ·rename_i ho
     subst h
     exact ⟨⟨hok,x,hr,hc,by simp only [ho]⟩,by simp,fun h=>absurd rfl h⟩
    ·rename_i ho
     obtain ⟨w,wr1,had,rfl⟩:=h
     have e2:(callToks (K:=K) slot g args).2=(List.range 4).map fun j=>slot.map (·+1000 * j):=by unfold callToks; simp [hp,hs,ho]
     obtain ⟨k1,k2⟩:=adoptV_frame (loc':=loc') had fun s j hs' hj=>A.l _ (by
      rw [e2]; exact List.mem_append_right _ (List.mem_map.2 ⟨j,List.mem_range.2 hj,by rw [hs']; rfl⟩))
     refine ⟨⟨hok,x,hr,hc,by (try simp only [ho]); exact ⟨w,wr1,k1,rfl⟩⟩,fun p hp'=>?_,fun h=>absurd rfl h⟩
     obtain ⟨s,j,q1,q2,q3⟩:=k2 p hp'
     rw [e2,q3,q1]
     exact List.mem_map.2 ⟨j,List.mem_range.2 q2,rfl⟩
   ·rename_i hs
    (try simp only [hs])
    obtain ⟨hc,rfl⟩:=h
    have e2:∀r∈C.refsL args,r.tok∈(callToks (K:=K) slot g args).2:=fun r hr'=>by
     have h':r.tok∈(C.refsL args).map Rf.tok:=List.mem_map_of_mem hr'
     unfold callToks; simp_all
    have hwr:∀p∈wr,p.1.tok∈(callToks (K:=K) slot g args).2:=fun p hp'=>e2 _ (frzAll_refs hf p hp')
    have hH:newH H' wr=newH H wr:=by
     by_cases hn:newH H wr=none
     ·unfold newH at hn ⊢
      split at hn
      ·rename_i ha; rw [if_pos ha,if_pos ha]
      ·cases hn
     ·have:=newH_none hn
      simp only [List.mem_map] at this
      obtain ⟨p,hp',e⟩:=this
      have hg:=A.g (List.mem_append_right _ (e▸hwr p hp'))
      rw [hg]
    refine ⟨⟨hok,x,hr,hc,by rw [hH]⟩,hwr,fun hn=>?_⟩
    have:=newH_none hn
    simp only [List.mem_map] at this
    obtain ⟨p,hp',e⟩:=this
    exact e▸hwr p hp'
  ·exact h.elim
 ·rename_i hp
  (try simp only [hp])
  rw [downAll_same hsame]
  split at h
  ·rename_i ok as wr hf
   (try simp only [hf])
   obtain ⟨hok,x,y,hr,hc,rfl⟩:=h
   have hnn:(none:Tok)∈(callToks (K:=K) slot g args).2:=by unfold callToks; simp [hp]
   have hg:=A.g (List.mem_append_right _ hnn)
   subst hg
   refine ⟨⟨hok,x,y,hr,hc,rfl⟩,fun p hp'=>?_,fun _=>hnn⟩
   have h':p.1.tok∈(C.refsL args).map Rf.tok:=List.mem_map_of_mem (hdn hf p hp')
   unfold callToks; simp_all
  ·exact h.elim
def EffOp (Rs:Res K) (an:OpAnn K.U) (o:Oper) (st:St K.U) (δ:Dl K.U) (rd wr:List Tok):Prop:=
 (∃r,K.aop an o (K.ev st.tmps) st.loc st.H=some (.out r)∧r.ok=true∧r.wr.all okW=true∧rd=r.rd.map Rf.tok∧wr=(r.wr.map fun x=>x.1.tok)∧δ=⟨r.v,r.wr,newH st.H r.wr⟩)∨
 (∃g args,K.aop an o (K.ev st.tmps) st.loc st.H=some (.call g args)∧rd=(callToks (K:=K) (slotOf an o) g args).1∧wr=(callToks (K:=K) (slotOf an o) g args).2∧CallE Rs (slotOf an o) g args st.loc st.H δ)
theorem effOp_P {an:OpAnn K.U} {o:Oper} {st:St K.U} {δ:Dl K.U} {rd wr:List Tok} (h:EffOp Rs an o st δ rd wr) {k:St K.U→Prop} (hk:k (δ.app o.dst st)):opP Rs (Runs K) false an o st k:=by
 unfold opP
 rcases h with ⟨r,h1,h2,h3,_,_,rfl⟩|⟨g,args,h1,_,_,h2⟩
 ·rw [h1]
  simp only [Bool.false_and,h3,Bool.not_true,Bool.or_self,Bool.false_eq_true,if_false,andP_iff]
  refine ⟨h2,?_⟩
  simp only [Dl.app,newH_eq] at hk
  exact hk
 ·rw [h1]
  exact callE_P h2 hk
theorem effOp_frame {an:OpAnn K.U} {o:Oper} {st st':St K.U} {δ:Dl K.U} {rd wr:List Tok} (h:EffOp Rs an o st δ rd wr) (ht:∀t,.tmp t∈o.op.operands→st'.tmps t=st.tmps t) (A:Agree (rd ++ wr) st.loc st.H st'.loc st'.H):
  EffOp Rs an o st' δ rd wr∧(∀p∈δ.wr,p.1.tok∈wr)∧(δ.hn ≠ none→(none:Tok)∈wr):=by
 have hf:∀x∈o.op.operands,K.ev st.tmps x=K.ev st'.tmps x:=by
  intro x hx
  cases x with
  | tmp t=>simp only [Cfg.ev]; rw [ht t hx]
  | _=>rfl
 have hev:∀loc H,K.aop an o (K.ev st'.tmps) loc H=K.aop an o (K.ev st.tmps) loc H:=fun loc H=>(aopAt_f hf).symm
 rcases h with ⟨r,h1,h2,h3,rfl,rfl,rfl⟩|⟨g,args,h1,rfl,rfl,h2⟩
 ·have h4:=aop_frame h1 A
  have hwr:∀p∈r.wr,p.1.tok∈r.wr.map fun x=>x.1.tok:=fun p hp=>List.mem_map_of_mem hp
  have hH:newH st.H r.wr=newH st'.H r.wr:=by
   by_cases hn:newH st.H r.wr=none
   ·unfold newH at hn ⊢
    split at hn
    ·rename_i ha; rw [if_pos ha,if_pos ha]
    ·cases hn
   ·rw [A.g (List.mem_append_right _ (newH_none hn))]
  exact ⟨.inl ⟨r,by rw [hev]; exact h4,h2,h3,rfl,rfl,by rw [hH]⟩,hwr,fun hn=>newH_none hn⟩
 ·obtain ⟨k1,k2,k3⟩:=callE_frame h2 A
  exact ⟨.inr ⟨g,args,by rw [hev]; exact aop_call_any h1,rfl,rfl,k1⟩,k2,k3⟩
def Eff (Rs:Res K) (id:Nat) (an:FAnn K.U) (ops:Array Oper) (i:Nat) (o:Oper) (st:St K.U) (δ:Dl K.U) (rd wr:List Tok):Prop:=
 match o.guard with
 | none=>EffOp Rs (an.op id i) o st δ rd wr
 | some (j,want)=>∃dj b,(ops[j]?).bind (·.dst)=some dj∧st.tmps dj=.d (.bool b)∧((b=want∧EffOp Rs (an.op id i) o st δ rd wr)∨(b ≠ want∧δ=⟨.dead,[],none⟩∧rd=[]∧wr=[]))
theorem eff_frame {id:Nat} {an:FAnn K.U} {ops:Array Oper} {i:Nat} {o:Oper} {st st':St K.U} {δ:Dl K.U} {rd wr:List Tok} (h:Eff Rs id an ops i o st δ rd wr) (ht:∀t∈o.looksAt ops,st'.tmps t=st.tmps t)
  (A:Agree (rd ++ wr) st.loc st.H st'.loc st'.H):Eff Rs id an ops i o st' δ rd wr∧(∀p∈δ.wr,p.1.tok∈wr)∧(δ.hn ≠ none→(none:Tok)∈wr):=by
 have ht':∀t,.tmp t∈o.op.operands→st'.tmps t=st.tmps t:=fun t hm=>ht t (List.mem_append_left _ (List.mem_filterMap.2 ⟨.tmp t,by simpa using hm,rfl⟩))
 unfold Eff at h ⊢
 split at h
 ·exact effOp_frame h ht' A
 ·rename_i j want hg
  obtain ⟨dj,b,h1,h2,h3⟩:=h
  have hdj:st'.tmps dj=.d (.bool b):=by
   rw [ht dj (List.mem_append_right _ (by simp [hg,h1]))]; exact h2
  rcases h3 with ⟨h3,h4⟩|⟨h3,rfl,rfl,rfl⟩
  ·obtain ⟨k1,k2,k3⟩:=effOp_frame h4 ht' A
   exact ⟨⟨dj,b,h1,hdj,.inl ⟨h3,k1⟩⟩,k2,k3⟩
  ·exact ⟨⟨dj,b,h1,hdj,.inr ⟨h3,rfl,rfl,rfl⟩⟩,by simp,fun h=>absurd rfl h⟩
theorem app_agree {δ:Dl K.U} {dst:Option Tmp} {st:St K.U} {T wr:List Tok} (h1:∀p∈δ.wr,p.1.tok∈wr) (h2:δ.hn ≠ none→(none:Tok)∈wr) (hap:∀t∈T,t ∉ wr):Agree T st.loc st.H (δ.app dst st).loc (δ.app dst st).H:=by
 refine ⟨fun s hs=>?_,fun hn=>?_⟩
 ·have hno:∀p∈δ.wr,p.1.tok ≠ some s:=fun p hp e=>hap _ hs (e▸h1 p hp)
  show apL st.loc δ.wr s=st.loc s
  generalize δ.wr=l at hno
  generalize st.loc=loc
  induction l generalizing loc with
  | nil=>rfl
  | cons p l ih=>
   obtain ⟨r,o⟩:=p
   have hno':∀p∈l,p.1.tok ≠ some s:=fun p hp=>hno p (by simp [hp])
   cases r with
   | l t=>
    have:t ≠ s:=fun e=>hno (.l t,o) (by simp) (by rw [e]; rfl)
    simp only [apL]
    rw [ih hno' _,beqF (Ne.symm this)]; rfl
   | g n=>simp only [apL]; exact ih hno' _
 ·show δ.hn.getD st.H=st.H
  cases hh:δ.hn with
  | none=>rfl
  | some x=>exact absurd (h2 (by rw [hh]; simp)) (hap _ hn)
theorem app_tmps {δ:Dl K.U} {dst:Option Tmp} {st:St K.U} {t:Nat} (h:dst ≠ some t):(δ.app dst st).tmps t=st.tmps t:=by
 cases dst with
 | none=>rfl
 | some d=>
  show (bif Nat.beq t d then δ.v else st.tmps t)=st.tmps t
  rw [beqF (fun e=>h (by rw [e]))]; rfl
theorem apL_comm {loc:Loc K.U} {l l':List (Rf×O K.U)} (h:∀p∈l,∀q∈l',p.1.tok ≠ q.1.tok∨p.1.tok=none):apL (apL loc l) l'=apL (apL loc l') l:=by
 funext s
 have val:∀(l:List (Rf×O K.U)) (loc:Loc K.U),(∀p∈l,p.1.tok ≠ some s)→apL loc l s=loc s:=by
  intro l
  induction l with
  | nil=>intro _ _; rfl
  | cons p l ih=>
   intro loc hno
   obtain ⟨r,o⟩:=p
   have hno':∀p∈l,p.1.tok ≠ some s:=fun p hp=>hno p (by simp [hp])
   cases r with
   | l t=>
    have:t ≠ s:=fun e=>hno (.l t,o) (by simp) (by rw [e]; rfl)
    simp only [apL]
    rw [ih _ hno',beqF (Ne.symm this)]; rfl
   | g n=>simp only [apL]; exact ih _ hno'
 by_cases h1:∀p∈l,p.1.tok ≠ some s
 ·rw [val l _ h1]
  exact apL_agree (val l loc h1)
 ·have h2:∀q∈l',q.1.tok ≠ some s:=by
   intro q hq e
   apply h1
   intro p hp e'
   rcases h p hp q hq with k|k
   ·exact k (e'.trans e.symm)
   ·rw [e'] at k; cases k
  rw [val l' _ h2]
  exact (apL_agree (loc:=loc) (loc':=apL loc l') (wr:=l) (val l' loc h2)).symm
theorem app_comm {δ ε:Dl K.U} {d e:Option Tmp} {st:St K.U} {wr wr':List Tok} (hde:∀t,d=some t→e ≠ some t) (h1:∀p∈δ.wr,p.1.tok∈wr) (h2:δ.hn ≠ none→(none:Tok)∈wr) (k1:∀p∈ε.wr,p.1.tok∈wr')
  (k2:ε.hn ≠ none→(none:Tok)∈wr') (hap:∀t∈wr,t ∉ wr'):ε.app e (δ.app d st)=δ.app d (ε.app e st):=by
 unfold Dl.app
 congr 1
 ·cases d with
  | none=>rfl
  | some d=>
   cases e with
   | none=>rfl
   | some e=>
    have:d ≠ e:=fun h=>hde d rfl (by rw [h])
    funext t
    simp only [put]
    cases hd:Nat.beq t d <;> cases he:Nat.beq t e <;> first|rfl|skip
    exact absurd ((Nat.eq_of_beq_eq_true hd).symm.trans (Nat.eq_of_beq_eq_true he)) this
 ·exact apL_comm fun p hp q hq=>.inl fun e=>hap _ (h1 p hp) (e▸k1 q hq)
 ·cases hh:δ.hn with
  | none=>cases ε.hn <;> rfl
  | some x=>
   cases hh':ε.hn with
   | none=>rfl
   | some y=>exact absurd (k2 (by rw [hh']; simp)) (hap _ (h2 (by rw [hh]; simp)))
end
end Go.Abs
