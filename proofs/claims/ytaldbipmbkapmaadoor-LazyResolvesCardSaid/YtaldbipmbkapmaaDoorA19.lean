/- LEMMAS: what lives on; what a call answers. Conditions: none. -/
import Derived.Test.YtaldbipmbkapmaaDoorA18
namespace Go.Abs
set_option linter.unusedVariables false
set_option linter.unusedSimpArgs false
section
variable {K:Cfg} {β:Base K} {nt:Nat} {st:St K.U} {a:Act} {F:Nat→Prop} {pl:Rf→Pl} {w:World}
theorem ofList_map {α γ:Type} (d:γ) (f:Nat→α→γ):∀(l:List (Nat×α)) (t:Nat),(hasKey l t=false∧ofList d (l.map fun p=>(p.1,f p.1 p.2)) t=d)∨∃c,(t,c)∈l∧hasKey l t=true∧ofList d (l.map fun p=>(p.1,f p.1 p.2)) t=f t c
 | [],t=>.inl ⟨rfl,rfl⟩
 | (k,c) :: l,t=>by
  simp only [List.map_cons,ofList,hasKey]
  cases h:Nat.beq t k with
  | true=>
   have:=Nat.eq_of_beq_eq_true h
   subst this
   exact .inr ⟨c,by simp,by simp,by simp⟩
  | false=>
   rcases ofList_map d f l t with ⟨h1,h2⟩|⟨c',h1,h2,h3⟩
   ·exact .inl ⟨by simp [h1],by simpa using h2⟩
   ·exact .inr ⟨c',by simp [h1],by simp [h2],by simpa using h3⟩
def clearLoc {U:Univ} (objs:List (Nat×List (Option U.Ty))) (loc:Loc U):Loc U:=ofList none (objs.map fun (s,c)=>(s,(loc s).map fun o=>(o.regen loc).coO c))
theorem clearLoc_spec (objs:List (Nat×List (Option K.U.Ty))) (loc:Loc K.U) (s:Nat):
  (hasKey objs s=false∧clearLoc objs loc s=none)∨∃c,(s,c)∈objs∧hasKey objs s=true∧clearLoc objs loc s=(loc s).map fun o=>(o.regen loc).coO c:=
 ofList_map none (fun (s:Nat) (c:List (Option K.U.Ty))=>(loc s).map fun (o:O K.U)=>(o.regen loc).coO c) objs s
theorem arrI_coO {o:O K.U} {c:List (Option K.U.Ty)}:K.arrI (o.coO c)=K.arrI o:=by cases o <;> rfl
theorem arrI_regen {o:O K.U} {loc:Loc K.U} {g n wd:Nat} (h:K.arrI o=some (g,n,wd)):K.arrI (o.regen loc)=some (0,n,wd):=by
 cases o <;> simp_all [Cfg.arrI,O.regen]
theorem genOf_arrI {loc:Loc K.U} {s:Nat} {o:O K.U} {g n wd:Nat} (h:loc s=some o) (hi:K.arrI o=some (g,n,wd)):genOf loc s=some g:=by
 cases o <;> simp_all [Cfg.arrI,genOf]
theorem owns_clear {o:O K.U} {loc:Loc K.U} {c:List (Option K.U.Ty)} {p:Pl}:Owns K ((o.regen loc).coO c) p↔Owns K o p:=by cases o <;> rfl
mutual
theorem RepC.regen {loc:Loc K.U} {H:List (O K.U)} {objs:List (Nat×List (Option K.U.Ty))}:∀{c:C K.U} {v:Value},c.refsOk (hasKey objs)=true→RepC F w (getO loc H) pl c v→
  RepC F w (getO (clearLoc objs loc) H) pl (c.regen loc) v
 | .d x,v,_,h=>by simp only [C.regen,RepC] at h ⊢; exact h
 | .clip c xs,v,_,h=>by simp only [C.regen,RepC] at h ⊢; exact h
 | .ep cs,v,_,h=>by simp only [C.regen,RepC] at h ⊢; exact h
 | .ptr (.g n) off,v,_,h=>by simp only [C.regen,RepC] at h ⊢; exact h
 | .ptr (.l s) off,v,hk,h=>by
  simp only [C.regen,RepC] at h ⊢
  simp only [C.refsOk] at hk
  obtain ⟨⟨cs,hr⟩,hv⟩:=h
  refine ⟨?_,hv⟩
  rcases clearLoc_spec objs loc s with ⟨h1,_⟩|⟨c,_,_,h3⟩
  ·rw [hk] at h1; cases h1
  ·have hr:loc s=some (.cells cs):=hr
   rw [hr] at h3
   exact ⟨_,h3⟩
 | .pa (.l _) _ _ _,v,_,_=>by simp only [C.regen]; exact repC_dead v
 | .pa (.g n) g i j,v,_,h=>by simp only [C.regen,RepC] at h ⊢; exact h
 | .asl (.g n) g sub cl,v,_,h=>by simp only [C.regen,RepC] at h ⊢; exact h
 | .asl (.l s) g sub cl,v,hk,h=>by
  simp only [C.regen]
  split
  ·rename_i g' hg'
   cases hb:Nat.beq g g' with
   | false=>exact repC_dead v
   | true=>
    have:=Nat.eq_of_beq_eq_true hb
    subst this
    simp only [RepC] at h ⊢
    simp only [C.refsOk] at hk
    obtain ⟨hs,o,g0,n,wd,hr,hi,hg,hv⟩:=h
    have hr:loc s=some o:=hr
    have e:=genOf_arrI hr hi
    rw [hg'] at e; cases e
    refine ⟨hs,?_⟩
    rcases clearLoc_spec objs loc s with ⟨h1,_⟩|⟨c,_,_,h3⟩
    ·rw [hk] at h1; cases h1
    ·rw [hr] at h3
     exact ⟨_,0,n,wd,h3,by rw [arrI_coO]; exact arrI_regen hi,Nat.le_refl _,fun _=>hv rfl⟩
  ·exact repC_dead v
 | .osl _ _,_,_,h=>by simp only [RepC] at h
 | .mp (.g n),v,_,h=>by simp only [C.regen,RepC] at h ⊢; exact h
 | .mp (.l s),v,hk,h=>by
  simp only [C.regen,RepC] at h ⊢
  simp only [C.refsOk] at hk
  obtain ⟨⟨ag,kc,vc,es,hr⟩,hv⟩:=h
  refine ⟨?_,hv⟩
  rcases clearLoc_spec objs loc s with ⟨h1,_⟩|⟨c,_,_,h3⟩
  ·rw [hk] at h1; cases h1
  ·have hr:loc s=some (.map ag kc vc es):=hr
   rw [hr] at h3
   exact ⟨ag,kc,vc,es,h3⟩
 | .fn f x y,v,hk,h=>by
  simp only [C.regen,RepC] at h ⊢
  simp only [C.refsOk,Bool.and_eq_true] at hk
  obtain ⟨p,q,hv,h1,h2⟩:=h
  exact ⟨p,q,hv,RepCs.regen hk.1 h1,RepCs.regen hk.2 h2⟩
 | .fp f x y,v,_,h=>by
  simp only [C.regen,RepC] at h ⊢
  rw [gOnly_obH] at h ⊢
  exact h
 | .optr none,v,_,h=>by simp only [C.regen,RepC] at h ⊢; exact h
 | .optr (some n),v,_,h=>by simp only [C.regen,RepC] at h ⊢; exact h
 | .agg cs,v,hk,h=>by
  simp only [C.regen,RepC] at h ⊢
  obtain ⟨vs,hv,h1⟩:=h
  exact ⟨vs,hv,RepCs.regen hk h1⟩
 | .tup cs,v,hk,h=>by
  simp only [C.regen,RepC] at h ⊢
  obtain ⟨vs,hv,h1⟩:=h
  exact ⟨vs,hv,RepCs.regen hk h1⟩
 | .ifc t x,v,hk,h=>by
  simp only [C.regen,RepC] at h ⊢
  obtain ⟨u,hv,h1⟩:=h
  exact ⟨u,hv,RepC.regen hk h1⟩
 | .dead,v,_,_=>repC_dead v
theorem RepCs.regen {loc:Loc K.U} {H:List (O K.U)} {objs:List (Nat×List (Option K.U.Ty))}:∀{cs:List (C K.U)} {vs:List Value},C.refsAll (hasKey objs) cs=true→RepCs F w (getO loc H) pl cs vs→
  RepCs F w (getO (clearLoc objs loc) H) pl (C.regenL loc cs) vs
 | [],vs,_,h=>by simp only [C.regenL,RepCs] at h ⊢; exact h
 | c :: cs,vs,hk,h=>by
  simp only [C.regenL,RepCs] at h ⊢
  simp only [C.refsAll,Bool.and_eq_true] at hk
  obtain ⟨v,rest,e,h1,h2⟩:=h
  exact ⟨v,rest,e,RepC.regen hk.1 h1,RepCs.regen hk.2 h2⟩
end
theorem clear_g {loc:Loc K.U} {H:List (O K.U)} {objs:List (Nat×List (Option K.U.Ty))}:∀r o,r.kept (fun _=>false)=true→getO loc H r=some o→∃o',getO (clearLoc objs loc) H r=some o'∧Compat K o (pl r) o' (pl r):=by
 intro r o hr h
 cases r with
 | l s=>simp [Rf.kept] at hr
 | g n=>exact ⟨o,h,.refl _ _⟩
theorem RepO.clear {loc:Loc K.U} {H:List (O K.U)} {objs:List (Nat×List (Option K.U.Ty))} {o:O K.U} {p:Pl} {c:List (Option K.U.Ty)} (hk:o.refsOk (hasKey objs)=true) (h:RepO F w (getO loc H) pl p o):
  RepO F w (getO (clearLoc objs loc) H) pl p ((o.regen loc).coO c):=by
 cases o with
 | cells cs=>
  obtain ⟨vs,e,h1,h2,h3⟩:=h
  exact ⟨vs,e,h1,coL_sound (RepCs.regen hk h2),h3⟩
 | arr g v xs=>
  have hv:∀n,v ≠ .raw n:=by rintro n rfl; simp [O.refsOk] at hk
  rcases h with h|⟨vs,e,h1,h2,h3,h4,h5⟩
  ·exact .inl h
  ·exact .inr ⟨vs,e,h1,h2,h3,h4,fun i x hx=>RepCs.mono' (fun _ h=>h) (fun _ _=>rfl) clear_g (refsAll_encV x hv) (h5 i x hx)⟩
 | fro g c xs=>exact h
 | map ag kc v es=>
  have hv:∀n,v ≠ .raw n:=by rintro n rfl; simp [O.refsOk] at hk
  obtain ⟨en,cl,h1,h2,hbn,hcl,h3⟩:=h
  refine ⟨en,cl,h1,h2,hbn,hcl,fun i k x hx=>?_⟩
  obtain ⟨e,k1,k2,k3,k4,k5⟩:=h3 i k x hx
  exact ⟨e,k1,k2,k3,RepCs.mono' (fun _ h=>h) (fun _ _=>rfl) clear_g (refsAll_d _) k4,RepCs.mono' (fun _ h=>h) (fun _ _=>rfl) clear_g (refsAll_encV x hv) k5⟩
theorem Sim.clear (S:Sim K β nt st a F pl w) (hg:β.plain) {live objs:List (Nat×List (Option K.U.Ty))} (h:st.clearOk live objs=true):Sim K β nt (st.clear live objs) a F pl w:=by
 simp only [St.clearOk,Bool.and_eq_true,List.all_eq_true] at h
 obtain ⟨hl,ho⟩:=h
 have back:∀r o,getO (clearLoc objs st.loc) st.H r=some o→(∃s o' c,r=.l s∧st.loc s=some o'∧o=(o'.regen st.loc).coO c∧o'.refsOk (hasKey objs)=true)∨(∃n,r=.g n∧st.H[n]?=some o):=by
  intro r o h
  cases r with
  | g n=>exact .inr ⟨n,rfl,h⟩
  | l s=>
   left
   rcases clearLoc_spec objs st.loc s with ⟨_,h1⟩|⟨c,hm,_,h1⟩
   ·have h:clearLoc objs st.loc s=some o:=h
    rw [h1] at h; cases h
   ·have h:clearLoc objs st.loc s=some o:=h
    rw [h1] at h
    simp only [Option.map_eq_some_iff] at h
    obtain ⟨o',h2,rfl⟩:=h
    have:=ho (s,c) hm
    simp only [h2] at this
    exact ⟨s,o',c,rfl,h2,rfl,this⟩
 have own:∀r o,getO (clearLoc objs st.loc) st.H r=some o→Owns K o (pl r)→∃o',st.obs r=some o'∧Owns K o' (pl r):=by
  intro r o h hw
  rcases back r o h with ⟨s,o',c,rfl,h1,rfl,_⟩|⟨n,rfl,h1⟩
  ·exact ⟨o',h1,owns_clear.1 hw⟩
  ·exact ⟨o,h1,hw⟩
 refine ⟨S.size,S.defers,S.pins,fun t=>by rw [hg]; exact repC_dead _,fun t=>?_,⟨fun r o h=>?_,fun r r' o o' h h' hw hw' e=>?_,fun r o h hw=>?_,S.mem.frozen,S.mem.glob,fun r o h=>?_⟩,⟨S.fr.os,S.fr.tape,S.fr.output,S.fr.size,S.fr.old,S.fr.Fsub,S.fr.Fnew,fun r o h hw=>?_,S.fr.glob⟩,S.hok⟩
 ·show RepC F w (getO (clearLoc objs st.loc) st.H) pl (ofList .dead (live.map fun (t,c)=>(t,((st.tmps t).regen st.loc).coV c)) t) _
  rcases ofList_map .dead (fun t c=>((st.tmps t).regen st.loc).coV c) live t with ⟨_,h1⟩|⟨c,hm,_,h1⟩
  ·rw [h1]; exact repC_dead _
  ·rw [h1]
   exact coV_sound (RepC.regen (hl (t,c) hm) (S.tmps t))
 ·have h:getO (clearLoc objs st.loc) st.H r=some o:=h
  rcases back r o h with ⟨s,o',c,rfl,h1,rfl,h2⟩|⟨n,rfl,h1⟩
  ·exact RepO.clear h2 (S.mem.rep (.l s) o' h1)
  ·refine (S.mem.rep (.g n) o h1).keep (keep:=fun _=>false) (fun _ h=>h) (fun _ _=>rfl) clear_g (S.hok n o h1) fun _=>rfl
 ·obtain ⟨o1,k1,k2⟩:=own r o h hw
  obtain ⟨o2,k3,k4⟩:=own r' o' h' hw'
  exact S.mem.apart r r' o1 o2 k1 k3 k2 k4 e
 ·obtain ⟨o1,k1,k2⟩:=own r o h hw
  exact S.mem.free r o1 k1 k2
 ·rcases back r o h with ⟨s,o',c,rfl,h1,rfl,_⟩|⟨n,rfl,h1⟩
  ·have:=S.mem.bnd (.l s) o' h1
   cases o' <;> first|trivial|exact this
  ·exact S.mem.bnd (.g n) o h1
 ·obtain ⟨o1,k1,k2⟩:=own r o h hw
  exact S.fr.own r o1 k1 k2
def resRun (tmps:Array Value):ResultVar→Sem Value
 | .tmp t=>pure (tmps.getD t undef)
 | .cell x t=>do loadVar t (←asAddr (tmps.getD x undef))
def oneV:List Value→Value
 | [v]=>v
 | vs=>.tuple vs.toArray
theorem resultAll_sound (L:Laws K) (S:Sim K β nt st a F pl w):∀{rs:List ResultVar} {ok:Bool} {cs:List (C K.U)},resultAll st.loc st.H st.tmps rs=some (ok,cs)→ok=true→
  ∃vs,RepCs F w st.obs pl cs vs∧(rs.mapM (m:=Sem) (resRun a.tmps)).run K.P w=.ok vs w
 | [],ok,cs,h,_=>by
  simp only [resultAll,Option.some.injEq,Prod.mk.injEq] at h
  obtain ⟨_,rfl⟩:=h
  exact ⟨[],by simp [RepCs],by simp⟩
 | r :: rs,ok,cs,h,hok=>by
  simp only [resultAll] at h
  split at h
  ·rename_i ok1 x ok2 xs h1 h2
   simp only [Option.some.injEq,Prod.mk.injEq] at h
   obtain ⟨rfl,rfl⟩:=h
   rw [andB_true] at hok
   obtain ⟨vs,k1,k2⟩:=resultAll_sound L S h2 hok.2
   cases r with
   | tmp t=>
    simp only [resultOne,Option.some.injEq,Prod.mk.injEq] at h1
    obtain ⟨_,rfl⟩:=h1
    refine ⟨a.tmps.getD t undef :: vs,by simp only [RepCs]; exact ⟨_,_,rfl,S.tmps t,k1⟩,?_⟩
    simp only [List.mapM_cons,Sem.run_bind,resRun,Sem.run_pure,Result.andThen_ok,k2]
   | cell y t=>
    simp only [resultOne,Option.map_eq_some_iff,Prod.mk.injEq] at h1
    obtain ⟨o,ho,rfl,rfl⟩:=h1
    obtain ⟨b,off,u,e,hl,hr,_⟩:=S.mem.load L (S.tmps y) ho hok.1
    refine ⟨u :: vs,by simp only [RepCs]; exact ⟨_,_,rfl,hr,k1⟩,?_⟩
    have e1:(resRun a.tmps (.cell y t)).run K.P w=.ok u w:=by simp only [resRun,Sem.run_bind,e,asAddr,Sem.run_pure,Result.andThen_ok,hl]
    simp only [List.mapM_cons,Sem.run_bind,e1,Sem.run_pure,Result.andThen_ok,k2]
  ·cases h
theorem results_run {fn:Func} {tmps:Array Value} {P:Program} {vs:List Value} (h:(fn.results.toList.mapM (m:=Sem) (resRun tmps)).run P w=.ok vs w):(results fn tmps).run P w=.ok (oneV vs) w:=by
 have e:(fun|.tmp t=>pure (tmps.getD t undef)|.cell a t=>do loadVar t (←asAddr (tmps.getD a undef)):ResultVar→Sem Value)=resRun tmps:=by
  funext x; cases x <;> rfl
 have h2:(fn.results.mapM (m:=Sem) (resRun tmps)).run P w=.ok vs.toArray w:=by
  rw [Array.mapM_eq_mapM_toList,Sem.run_map,h]; rfl
 unfold results
 rw [Sem.run_bind]
 have h3:(fn.results.mapM (m:=Sem) (fun|.tmp t=>pure (tmps.getD t undef)|.cell a t=>do loadVar t (←asAddr (tmps.getD a undef)):ResultVar→Sem Value)).run P w=.ok vs.toArray w:=by rw [e]; exact h2
 refine (congrArg (fun r=>Result.andThen r _) h3).trans ?_
 simp only [Result.andThen_ok,Sem.run_pure]
 match vs with
 | []=>rfl
 | [v]=>rfl
 | _ :: _ :: _=>rfl
theorem repC_repR1 {ob:Obs K} {c:C K.U} {v:Value} (h:RepC F w ob pl c v):RepR1 F w ob pl c v []:=by
 cases c <;> first|exact ⟨rfl,h⟩|(simp only [RepC] at h)
theorem repCs_repRs {ob:Obs K}:∀{cs:List (C K.U)} {vs:List Value},RepCs F w ob pl cs vs→RepRs F w ob pl cs vs []
 | [],vs,h=>by simp only [RepCs] at h; simp only [RepRs]; exact ⟨h,trivial⟩
 | c :: cs,vs,h=>by
  simp only [RepCs] at h
  obtain ⟨v,rest,rfl,h1,h2⟩:=h
  simp only [RepRs]
  exact ⟨v,rest,[],[],rfl,rfl,repC_repR1 h1,repCs_repRs h2⟩
theorem repR1_repR {ob:Obs K} {c:C K.U} {v:Value} {own:List Nat} (h:RepR1 F w ob pl c v own):RepR F w ob pl c v own:=by
 cases c with
 | tup cs=>
  obtain ⟨rfl,h⟩:=h
  simp only [RepC] at h
  obtain ⟨vs,rfl,h⟩:=h
  exact ⟨vs,rfl,repCs_repRs h⟩
 | _=>exact h
theorem one_sound {ob:Obs K}:∀{cs:List (C K.U)} {vs:List Value} {own:List Nat},RepRs F w ob pl cs vs own→RepR F w ob pl (oneC cs) (oneV vs) own
 | [],vs,own,h=>by
  simp only [RepRs] at h
  obtain ⟨rfl,rfl⟩:=h
  exact ⟨[],rfl,by simp [RepRs]⟩
 | [c],vs,own,h=>by
  simp only [RepRs] at h
  obtain ⟨v,rest,o1,o2,rfl,rfl,h1,rfl,rfl⟩:=h
  simp only [List.append_nil]
  exact repR1_repR h1
 | c :: c' :: cs,vs,own,h=>by
  have h':=h
  simp only [RepRs] at h
  obtain ⟨v,rest,o1,o2,rfl,rfl,h1,v',rest',o3,o4,rfl,rfl,h3,h4⟩:=h
  exact ⟨_,rfl,h'⟩
theorem repR1_coV {ob:Obs K} {os:List (Option K.U.Ty)} {c:C K.U} {v:Value} {own:List Nat} (h:RepR1 F w ob pl c v own):RepR1 F w ob pl (c.coV os) v own:=by
 have hne:∀cd xs,c ≠ .osl cd xs→True:=fun _ _ _=>trivial
 cases c with
 | osl cd xs=>
  have e:(C.osl cd xs:C K.U).coV os=.osl cd xs:=by
   cases os with
   | nil=>rfl
   | cons o os=>cases o <;> rfl
  rw [e]; exact h
 | _=>
  obtain ⟨rfl,h⟩:=h
  exact repC_repR1 (coV_sound h)
theorem repRs_coVs {ob:Obs K}:∀{os:List (List (Option K.U.Ty))} {cs:List (C K.U)} {vs:List Value} {own:List Nat},RepRs F w ob pl cs vs own→RepRs F w ob pl (C.coVs os cs) vs own
 | [],cs,vs,own,h=>by simpa [C.coVs] using h
 | o :: os,[],vs,own,h=>by simpa [C.coVs] using h
 | o :: os,c :: cs,vs,own,h=>by
  simp only [RepRs] at h
  obtain ⟨v,rest,o1,o2,e1,e2,h1,h2⟩:=h
  simp only [C.coVs,RepRs]
  exact ⟨v,rest,o1,o2,e1,e2,repR1_coV h1,repRs_coVs h2⟩
theorem repCs_d {ob ob':Obs K} {pl':Rf→Pl}:∀{ds:List (D K.U)} {vs:List Value},RepCs F w ob pl (ds.map .d) vs→RepCs F w ob' pl' (ds.map .d) vs
 | [],vs,h=>by simpa [RepCs] using h
 | d :: ds,vs,h=>by
  simp only [List.map_cons,RepCs] at h ⊢
  obtain ⟨v,rest,e,h1,h2⟩:=h
  exact ⟨v,rest,e,by simpa only [RepC] using h1,repCs_d h2⟩
def ownB (loc:Loc K.U) (pl:Rf→Pl) (r:Rf):List Nat:=if (pl r).cap=0 then [] else [(pl r).blk]
theorem give_sound {loc:Loc K.U} {H:List (O K.U)} (M:Mem K F w (getO loc H) pl) {c d:C K.U} {ok:Bool} {rs:List Rf} {v:Value} (h:K.give loc H c=some (ok,d,rs)) (hok:ok=true) (hv:RepC F w (getO loc H) pl c v):
  RepR1 F w (obH []) pl d v (rs.flatMap (ownB loc pl))∧∀r∈rs,∃s g cd xs,r=.l s∧loc s=some (.arr g (.pure cd) xs):=by
 unfold Cfg.give at h
 split at h
 ·rename_i s gen
  split at h
  ·rename_i g cd ys hr
   simp only [Option.some.injEq,Prod.mk.injEq] at h
   obtain ⟨rfl,rfl,rfl⟩:=h
   refine ⟨?_,fun r hr'=>by simp only [List.mem_singleton] at hr'; subst hr'; exact ⟨s,g,cd,ys,rfl,hr⟩⟩
   simp only [beq_iff_eq] at hok
   obtain ⟨ad,rfl,ha,hlen⟩:=M.slice hr rfl hok hv
   simp only [sub?,Option.getD_none,Bool.false_eq_true,if_false,Nat.sub_zero,Nat.zero_mul] at ha ⊢
   simp only [RepR1]
   have hm:([Rf.l s].flatMap (ownB loc pl))=ownB loc pl (.l s):=by simp
   rw [hm]
   unfold ownB
   by_cases h0:(pl (.l s)).cap=0
   ·left
    rw [if_pos h0]
    have:ys=[]:=by
     rcases M.rep _ _ hr with ⟨_,e⟩|⟨_,_,_,_,h3,_⟩
     ·exact e
     ·have:List.length (α:=K.U.El cd) ys=0:=by have h3:List.length (α:=K.U.El cd) ys≤(pl (.l s)).cap:=h3; omega
      exact List.eq_nil_of_length_eq_zero this
    subst this
    exact ⟨rfl,rfl,ad,by rw [h0]; rfl⟩
   ·right
    rw [if_neg h0]
    rcases M.rep _ _ hr with ⟨e,_⟩|⟨vs,e,h1,h2,h3,h4,h5⟩
    ·exact absurd e h0
    ·refine ⟨(pl (.l s)).blk,(pl (.l s)).cap,vs,e,h0,rfl,by rw [ha h0],h1,h2,h3,h4,fun i x hx=>?_,M.bnd _ _ hr⟩
     exact repCs_d (h5 i x hx)
  ·cases h
 ·rename_i s gen n
  split at h
  ·rename_i g cd ys hr
   simp only [Option.some.injEq,Prod.mk.injEq] at h
   obtain ⟨rfl,rfl,rfl⟩:=h
   refine ⟨?_,fun r hr'=>by simp only [List.mem_singleton] at hr'; subst hr'; exact ⟨s,g,cd,ys,rfl,hr⟩⟩
   simp only [andB_true,beq_iff_eq] at hok
   obtain ⟨hok,hn⟩:=hok
   have hn:n≤List.length (α:=K.U.El cd) ys:=of_decide_eq_true hn
   obtain ⟨ad,rfl,ha,hlen⟩:=M.slice hr rfl hok hv
   simp only [sub?,Option.getD_some,Bool.false_eq_true,if_false,Nat.sub_zero,Nat.zero_mul] at ha ⊢
   simp only [RepR1]
   have hm:([Rf.l s].flatMap (ownB loc pl))=ownB loc pl (.l s):=by simp
   rw [hm]
   unfold ownB
   have hl:List.length (α:=K.U.El cd) (takeL n ys)=n:=by unfold takeL; rw [List.length_take]; omega
   by_cases h0:(pl (.l s)).cap=0
   ·left
    rw [if_pos h0]
    have:ys=[]:=by
     rcases M.rep _ _ hr with ⟨_,e⟩|⟨_,_,_,_,h3,_⟩
     ·exact e
     ·have:List.length (α:=K.U.El cd) ys=0:=by have h3:List.length (α:=K.U.El cd) ys≤(pl (.l s)).cap:=h3; omega
      exact List.eq_nil_of_length_eq_zero this
    subst this
    have hn0:n=0:=by simpa using hn
    subst hn0
    exact ⟨rfl,rfl,ad,by rw [h0]⟩
   ·right
    rw [if_neg h0]
    rcases M.rep _ _ hr with ⟨e,_⟩|⟨vs,e,h1,h2,h3,h4,h5⟩
    ·exact absurd e h0
    ·have h3:List.length (α:=K.U.El cd) ys≤(pl (.l s)).cap:=h3
     refine ⟨(pl (.l s)).blk,(pl (.l s)).cap,vs,e,h0,rfl,by rw [ha h0,hl],h1,h2,by rw [hl]; omega,h4,fun i x hx=>?_,?_⟩
     ·have hx':ys[i]?=some x:=by
       unfold takeL at hx
       rw [List.getElem?_take] at hx
       split at hx
       ·exact hx
       ·cases hx
      exact repCs_d (h5 i x hx')
     ·have hb:=M.bnd _ _ hr
      have hb:List.length (α:=K.U.El cd) ys * K.bytesC cd≤room:=hb
      rw [hl]
      exact Nat.le_trans (Nat.mul_le_mul_right _ hn) hb
  ·cases h
 ·rename_i cs
  split at h
  ·rename_i hb
   simp only [Option.some.injEq,Prod.mk.injEq] at h
   obtain ⟨_,rfl,rfl⟩:=h
   refine ⟨?_,by simp⟩
   simp only [RepC] at hv
   obtain ⟨vs,rfl,hr⟩:=hv
   refine ⟨rfl,?_⟩
   simp only [RepC]
   exact ⟨vs,rfl,bare_anys hb hr⟩
  ·cases h
 ·split at h
  ·rename_i hb
   simp only [Option.some.injEq,Prod.mk.injEq] at h
   obtain ⟨_,rfl,rfl⟩:=h
   refine ⟨?_,by simp⟩
   exact repC_repR1 (bare_any hb hv)
  ·cases h
theorem giveAll_sound {loc:Loc K.U} {H:List (O K.U)} (M:Mem K F w (getO loc H) pl):∀{cs ds:List (C K.U)} {ok:Bool} {rs:List Rf} {vs:List Value},K.giveAll loc H cs=some (ok,ds,rs)→ok=true→RepCs F w (getO loc H) pl cs vs→
  RepRs F w (obH []) pl ds vs (rs.flatMap (ownB loc pl))∧(∀r∈rs,∃s g cd xs,r=.l s∧loc s=some (.arr g (.pure cd) xs))∧rs.Nodup
 | [],ds,ok,rs,vs,h,_,hv=>by
  simp only [Cfg.giveAll,Option.some.injEq,Prod.mk.injEq] at h
  obtain ⟨_,rfl,rfl⟩:=h
  simp only [RepCs] at hv
  exact ⟨by simp [RepRs,hv],by simp,by simp⟩
 | c :: cs,ds,ok,rs,vs,h,hok,hv=>by
  simp only [Cfg.giveAll] at h
  split at h
  ·rename_i ok1 y r1 ok2 ys r2 h1 h2
   split at h
   ·rename_i hall
    simp only [Option.some.injEq,Prod.mk.injEq] at h
    obtain ⟨rfl,rfl,rfl⟩:=h
    rw [andB_true] at hok
    simp only [RepCs] at hv
    obtain ⟨v,rest,rfl,hc,hr⟩:=hv
    obtain ⟨k1,k2⟩:=give_sound M h1 hok.1 hc
    obtain ⟨k3,k4,k5⟩:=giveAll_sound M h2 hok.2 hr
    refine ⟨?_,fun r hr'=>(List.mem_append.1 hr').elim (k2 r) (k4 r),?_⟩
    ·simp only [RepRs]
     exact ⟨v,rest,_,_,rfl,by simp,k1,k3⟩
    ·rw [List.nodup_append]
     refine ⟨?_,k5,fun a ha b hb e=>?_⟩
     ·unfold Cfg.give at h1
      repeat' split at h1
      all_goals first
       | (simp only [Option.some.injEq,Prod.mk.injEq] at h1; obtain ⟨_,_,rfl⟩:=h1; simp; done)
       | cases h1
     ·subst e
      have:=List.all_eq_true.1 hall a ha
      simp at this
      exact this hb
   ·cases h
  ·cases h
theorem ownB_nodup {loc:Loc K.U} {H:List (O K.U)} (M:Mem K F w (getO loc H) pl):∀{rs:List Rf},(∀r∈rs,∃s g cd xs,r=.l s∧loc s=some (.arr g (.pure cd) xs))→rs.Nodup→(rs.flatMap (ownB loc pl)).Nodup
 | [],_,_=>by simp
 | r :: rs,h,hn=>by
  rw [List.nodup_cons] at hn
  simp only [List.flatMap_cons]
  rw [List.nodup_append]
  refine ⟨?_,ownB_nodup M (fun r hr=>h r (by simp [hr])) hn.2,fun a ha b hb e=>?_⟩
  ·unfold ownB; split <;> simp
  ·subst e
   obtain ⟨s,g,cd,xs,rfl,hl⟩:=h r (by simp)
   simp only [List.mem_flatMap] at hb
   obtain ⟨r',hr',hb⟩:=hb
   obtain ⟨s',g',cd',xs',rfl,hl'⟩:=h r' (by simp [hr'])
   unfold ownB at ha hb
   split at ha
   ·simp at ha
   ·rename_i h0
    split at hb
    ·simp at hb
    ·rename_i h0'
     simp only [List.mem_singleton] at ha hb
     have:=M.apart (.l s) (.l s') _ _ hl hl' h0 h0' (ha.symm.trans hb)
     rw [this] at hn
     exact hn.1 hr'
theorem Fr.down {loc:Loc K.U} {H:List (O K.U)} (f:Fr K β F w (getO loc H) pl):Fr K β F w (obH H) pl:=by
 refine ⟨f.os,f.tape,f.output,f.size,f.old,f.Fsub,f.Fnew,fun r o h hw=>?_,f.glob⟩
 obtain ⟨n,rfl,_,h2⟩:=obH_some (loc:=loc) h
 exact f.own _ o h2 hw
theorem Fr.noObs {loc:Loc K.U} {H:List (O K.U)} (f:Fr K β F w (getO loc H) pl) (hb:β.H=[]):Fr K β F w (obH []) pl:=by
 refine ⟨f.os,f.tape,f.output,f.size,f.old,f.Fsub,f.Fnew,fun r o h hw=>?_,fun n o h=>?_⟩
 ·rw [obH_nil] at h; cases h
 ·rw [hb] at h; simp at h
theorem endP_sound (L:Laws K) (S:Sim K β nt st a F pl w) {f:FuncId} {fn:Func} {post:C K.U→List (O K.U)→Prop} (hp:(K.ann f).pure=true→β.H=[]) (h:endP f fn st post):
  ∃v,(results fn a.tmps).run K.P w=.ok v w∧∃c H' F' pl' own,post c H'∧Fin K β c v H' F' pl' w own:=by
 unfold endP at h
 split at h
 ·exact h.elim
 ·rename_i ok vs hres
  have go:ok=true→∃us,RepCs F w st.obs pl vs us∧(results fn a.tmps).run K.P w=.ok (oneV us) w:=by
   intro hok
   obtain ⟨us,k1,k2⟩:=resultAll_sound L S hres hok
   exact ⟨us,k1,results_run k2⟩
  split at h
  ·rename_i hpure
   have hb:=hp hpure
   split at h
   ·split at h
    ·rename_i ok' ws rs hg
     rw [andP_iff,andP_iff] at h
     obtain ⟨hok,hok',h⟩:=h
     obtain ⟨us,k1,k2⟩:=go hok
     obtain ⟨g1,g2,g3⟩:=giveAll_sound S.mem hg hok' k1
     refine ⟨_,k2,_,[],F,pl,_,h,⟨one_sound (repRs_coVs g1),S.mem.noObs,S.fr.noObs hb,ownB_nodup S.mem g2 g3,hok_nil,fun b hbm=>?_⟩⟩
     simp only [List.mem_flatMap] at hbm
     obtain ⟨r,hr,hbm⟩:=hbm
     obtain ⟨s,g,cd,xs,rfl,hl⟩:=g2 r hr
     unfold ownB at hbm
     split at hbm
     ·simp at hbm
     ·rename_i h0
      simp only [List.mem_singleton] at hbm
      subst hbm
      have hl:st.obs (.l s)=some (.arr g (.pure cd) xs):=hl
      refine ⟨?_,(S.mem.free _ _ hl h0).2,(S.mem.free _ _ hl h0).1,fun r o hr=>by rw [obH_nil] at hr; cases hr⟩
      rcases S.fr.own _ _ hl h0 with k|⟨n,o,k,_⟩
      ·exact k
      ·rw [hb] at k; simp at k
    ·exact h.elim
   ·split at h
    ·rename_i ok' ws wr hg
     rw [andP_iff,andP_iff] at h
     obtain ⟨hok,hok',h⟩:=h
     obtain ⟨us,k1,k2⟩:=go hok
     obtain ⟨W,V⟩:=frzAll_sound S.mem hg hok' k1
     obtain ⟨F1,M1,f1,G1,hk1,R1,_⟩:=frz_apply L W S.mem S.fr S.hok
     have has:=V F1 ⟨G1.hF,fun p hp=>⟨_,pl,R1 p hp⟩⟩ (obH []) pl
     exact ⟨_,k2,_,[],F1,pl,[],h,⟨one_sound (repRs_coVs (repCs_repRs has)),M1.noObs,f1.noObs hb,by simp,hok_nil,by simp⟩⟩
    ·exact h.elim
  ·split at h
   ·rename_i ok' ws wr hg
    rw [andP_iff,andP_iff] at h
    obtain ⟨hok,hok',h⟩:=h
    obtain ⟨us,k1,k2⟩:=go hok
    obtain ⟨W,hl,V⟩:=downAll_sound S.mem hg hok' k1
    obtain ⟨F1,M1,f1,G1,hk1,R1,_⟩:=frz_apply L W S.mem S.fr S.hok
    rw [hl.apH] at M1 f1 G1 R1 hk1 h
    have has:=V F1 ⟨G1.hF,fun p hp=>⟨_,pl,R1 p hp⟩⟩
    exact ⟨_,k2,_,st.H,F1,pl,[],h,⟨one_sound (repRs_coVs (repCs_repRs has)),M1.down S.hok,f1.down,by simp,S.hok,by simp⟩⟩
   ·exact h.elim
end
end Go.Abs
