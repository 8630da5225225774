/- LEMMAS: an operation, whatever it is. Conditions: none. -/
import Derived.Test.YtaldbipmbkapmaaDoorA12
namespace Go.Abs
set_option linter.unusedVariables false
set_option linter.unusedSimpArgs false
section
variable {K:Cfg}
section
variable {F:Nat→Prop} {w:World} {ob:Obs K} {pl:Rf→Pl}
theorem co_sound {o:Option K.U.Ty} {c:C K.U} {v:Value} (h:RepC F w ob pl c v):RepC F w ob pl (c.co o) v:=by
 unfold C.co
 split
 ·rw [repC_nils] at h; subst h
  simp only [RepC]; exact .sl0 _ _ _
 ·exact h
theorem coL_sound:∀{os:List (Option K.U.Ty)} {cs:List (C K.U)} {vs:List Value},RepCs F w ob pl cs vs→RepCs F w ob pl (C.coL os cs) vs
 | [],cs,vs,h=>by simpa [C.coL] using h
 | o :: os,[],vs,h=>by simpa [C.coL] using h
 | o :: os,c :: cs,vs,h=>by
  simp only [RepCs] at h
  obtain ⟨v,rest,rfl,h1,h2⟩:=h
  simp only [C.coL,RepCs]
  exact ⟨v,rest,rfl,co_sound h1,coL_sound h2⟩
theorem coV_sound {os:List (Option K.U.Ty)} {c:C K.U} {v:Value} (h:RepC F w ob pl c v):RepC F w ob pl (c.coV os) v:=by
 unfold C.coV
 split
 ·simp only [RepC] at h ⊢
  obtain ⟨vs,rfl,h⟩:=h
  exact ⟨vs,rfl,coL_sound h⟩
 ·split
  ·exact co_sound h
  ·exact h
end
structure Ext (w w':World):Prop where
 os:w'.os=w.os
 tape:w'.tape=w.tape
 output:w'.output=w.output
 size:w.heap.size≤w'.heap.size
 old:∀b,b<w.heap.size→w'.heap[b]?=w.heap[b]?
theorem Ext.refl (w:World):Ext w w:=⟨rfl,rfl,rfl,Nat.le_refl _,fun _ _=>rfl⟩
theorem Ext.trans {w w' w'':World} (h:Ext w w') (h':Ext w' w''):Ext w w'':=
 ⟨h'.os.trans h.os,h'.tape.trans h.tape,h'.output.trans h.output,Nat.le_trans h.size h'.size,fun b hb=>(h'.old b (Nat.lt_of_lt_of_le hb h.size)).trans (h.old b hb)⟩
structure Goes (K:Cfg) (F:Nat→Prop) (w:World) (ob:Obs K) (pl:Rf→Pl) (F':Nat→Prop) (w':World) (ob':Obs K) (pl':Rf→Pl):Prop where
 hF:∀b,F b→F' b
 hw:∀b,F b→w'.heap[b]?=w.heap[b]?
 ho:∀r o,ob r=some o→∃o',ob' r=some o'∧Compat K o (pl r) o' (pl' r)
section
variable {F F' F'':Nat→Prop} {w w' w'':World} {ob ob' ob'':Obs K} {pl pl' pl'':Rf→Pl}
theorem Goes.refl:Goes K F w ob pl F w ob pl:=⟨fun _ h=>h,fun _ _=>rfl,fun _ o h=>⟨o,h,.refl _ _⟩⟩
theorem Goes.trans (h:Goes K F w ob pl F' w' ob' pl') (h':Goes K F' w' ob' pl' F'' w'' ob'' pl''):Goes K F w ob pl F'' w'' ob'' pl'':=
 ⟨fun b hb=>h'.hF b (h.hF b hb),fun b hb=>(h'.hw b (h.hF b hb)).trans (h.hw b hb),fun r o hr=>
  let ⟨o',h1,h2⟩:=h.ho r o hr
  let ⟨o'',h3,h4⟩:=h'.ho r o' h1
  ⟨o'',h3,h2.trans h4⟩⟩
theorem Goes.repC (h:Goes K F w ob pl F' w' ob' pl') {c:C K.U} {v:Value} (hr:RepC F w ob pl c v):RepC F' w' ob' pl' c v:=hr.mono h.hF h.hw h.ho
theorem Goes.repCs (h:Goes K F w ob pl F' w' ob' pl') {c:List (C K.U)} {v:List Value} (hr:RepCs F w ob pl c v):RepCs F' w' ob' pl' c v:=hr.mono h.hF h.hw h.ho
theorem Upd.goesAll {r:Rf} {x:O K.U} {p:Pl} (U:Upd K F w ob pl r x p w') (M:Mem K F w ob pl):Goes K F w ob pl F w' (setOb ob r x) (setPl pl r p):=
 ⟨fun _ h=>h,fun _ h=>U.heapF M h,U.goes⟩
theorem Upd.ext {r:Rf} {x:O K.U} {p:Pl} (U:Upd K F w ob pl r x p w') (h:ob r=none):Ext w w':=
 ⟨U.os,U.tape,U.output,U.size,fun b hb=>U.old b hb (by
  rcases U.where' with ⟨e,_⟩|⟨o,h1,_⟩
  ·omega
  ·rw [h] at h1; cases h1)⟩
end
section
variable {β:Base K} {nt:Nat} {st:St K.U} {a:Act} {F F':Nat→Prop} {pl pl':Rf→Pl} {w w':World}
theorem Sim.goes (S:Sim K β nt st a F pl w) {loc':Loc K.U} {H':List (O K.U)} (G:Goes K F w st.obs pl F' w' (getO loc' H') pl') (M:Mem K F' w' (getO loc' H') pl') (f:Fr K β F' w' (getO loc' H') pl') (hk:HOk H'):
  Sim K β nt ⟨st.tmps,loc',H'⟩ a F' pl' w':=
 ⟨S.size,S.defers,fun b o h=>⟨G.hF _ (S.pins b o h).1,(G.hw _ (S.pins b o h).1).trans (S.pins b o h).2⟩,fun t=>G.repC (S.ghosts t),fun t=>G.repC (S.tmps t),M,f,hk⟩
def Done (K:Cfg) (β:Base K) (nt:Nat) (st:St K.U) (a:Act) (F:Nat→Prop) (o:Oper) (r:Out K.U) (w:World):Prop:=
 ∃v w' F' pl',((execOp a.eval o).run K.P w=.ok (.value v) w'∨((execOp a.eval o).run K.P w=.ok .skip w'∧v=undef))∧
  Sim K β nt ⟨put st.tmps o.dst r.v,apL st.loc r.wr,apH st.H r.wr⟩ (a.put o.dst v) F' pl' w'∧((mild o && r.wr.all fun x=>x.1.isL)=true→Ext w w')
theorem Sim.done0 (S:Sim K β nt st a F pl w) {o:Oper} (hd:∀d,o.dst=some d→d<nt) {r:Out K.U} {v:Value} (run:(execOp a.eval o).run K.P w=.ok (.value v) w) (hw:r.wr=[]) (hr:RepC F w st.obs pl r.v v):
  Done K β nt st a F o r w:=by
 refine ⟨v,w,F,pl,.inl run,?_,fun _=>Ext.refl w⟩
 rw [hw]
 exact S.put hd hr
theorem Sim.done1 (S:Sim K β nt st a F pl w) {o:Oper} (hd:∀d,o.dst=some d→d<nt) {r:Out K.U} {v:Value} (run:(execOp a.eval o).run K.P w=.ok (.value v) w') (D:Did1 K F w st.loc st.H pl r.v r.wr v w')
  (hm:mild o=true→∀x∈r.wr,st.obs x.1=none) (hk:r.wr.all okW=true):Done K β nt st a F o r w:=by
 obtain ⟨ref,x,p,e,hg,U,R,hc,hbx⟩:=D.ex
 have S1:=S.upd U R hg (by rw [e] at hk; simpa using hk) hbx
 have ho:St.obs ⟨st.tmps,apL st.loc [(ref,x)],apH st.H [(ref,x)]⟩=setOb st.obs ref x:=getO_ap1 hg
 refine ⟨v,w',F,setPl pl ref p,.inl run,?_,fun h=>U.ext ?_⟩
 ·rw [e]
  exact S1.put hd (by rw [ho]; exact hc)
 ·simp only [Bool.and_eq_true] at h
  exact hm h.1 (ref,x) (by rw [e]; simp)
theorem Sim.doneU (S:Sim K β nt st a F pl w) {o:Oper} (hd:∀d,o.dst=some d→d<nt) {r:Out K.U} (run:(execOp a.eval o).run K.P w=.ok .skip w') {ref:Rf} {x:O K.U} (hv:r.v=.tup []) (hwr:r.wr=[(ref,x)])
  (hex:∃o,st.obs ref=some o) (U:Upd K F w st.obs pl ref x (pl ref) w') (R:RepO F w' (setOb st.obs ref x) (setPl pl ref (pl ref)) (pl ref) x) (hbx:K.bnd x) (hm:mild o=false) (hk:r.wr.all okW=true):Done K β nt st a F o r w:=by
 have hg:∀n,ref=.g n→n≤st.H.length:=by
  rintro n rfl
  obtain ⟨o,ho⟩:=hex
  have:=(List.getElem?_eq_some_iff.1 (show st.H[n]?=some o from ho)).1
  omega
 have S1:=S.upd U R hg (by rw [hwr] at hk; simpa using hk) hbx
 refine ⟨undef,w',F,setPl pl ref (pl ref),.inr ⟨run,rfl⟩,?_,fun h=>by rw [hm] at h; simp at h⟩
 rw [hwr,hv]
 refine S1.put hd ?_
 simp only [RepC]
 exact ⟨[],rfl,by simp [RepCs]⟩
theorem ownAll_sound:∀{own:List (Nat×Option Nat×Vc K.U)} {loc:Loc K.U} {H:List (O K.U)} {pl:Rf→Pl} {cs ds:List (C K.U)} {wr:List (Rf×O K.U)} {us:List Value},Mem K F w (getO loc H) pl→Fr K β F w (getO loc H) pl→
  ownAll loc H own cs=some (ds,wr)→RepCs F w (getO loc H) pl cs us→∃pl',Mem K F w (getO (apL loc wr) (apH H wr)) pl'∧Fr K β F w (getO (apL loc wr) (apH H wr)) pl'∧
   Goes K F w (getO loc H) pl F w (getO (apL loc wr) (apH H wr)) pl'∧RepCs F w (getO (apL loc wr) (apH H wr)) pl' ds us∧(wr.all okW=true→HOk H→HOk (apH H wr))
 | [],loc,H,pl,cs,ds,wr,us,M,f,h,hr=>by
  simp only [ownAll,Option.some.injEq,Prod.mk.injEq] at h
  obtain ⟨rfl,rfl⟩:=h
  exact ⟨pl,M,f,.refl,hr,fun _ h=>h⟩
 | (i,slot,v) :: own,loc,H,pl,cs,ds,wr,us,M,f,h,hr=>by
  simp only [ownAll] at h
  split at h
  ·rename_i hi
   split at h
   ·rename_i r hnew
    split at h
    ·rename_i ds' wr' hrec
     simp only [Option.some.injEq,Prod.mk.injEq] at h
     obtain ⟨rfl,rfl⟩:=h
     obtain ⟨h1,h2⟩:=newO_spec hnew
     obtain ⟨U,R⟩:=new_empty (F:=F) (w:=w) (pl:=pl) h1 v
     have M1:=U.mem M R (bnd_nil v)
     have f1:=U.fr f
     rw [←getO_ap1 h2] at M1 f1
     have G1:=U.goesAll M
     rw [←getO_ap1 h2] at G1
     obtain ⟨u,hu,hun⟩:=hr.get hi
     rw [repC_nils] at hun; subst hun
     have hcell:RepC F w (getO (apL loc [(r,.arr 0 v [])]) (apH H [(r,.arr 0 v [])])) (setPl pl r ⟨w.heap.size,0⟩) (.asl r 0 none false) (.slice none 0 0):=by
      rw [getO_ap1 h2]
      exact repC_asl (p:=⟨w.heap.size,0⟩) (a:=none) (xs:=([]:List v.El)) fun h=>absurd rfl h
     have hr1:=G1.repCs hr
     have hr2:RepCs F w (getO (apL loc [(r,.arr 0 v [])]) (apH H [(r,.arr 0 v [])])) (setPl pl r ⟨w.heap.size,0⟩) (cs.set i (.asl r 0 none false)) us:=by
      obtain ⟨hl,hp⟩:=repCs_iff.1 hr1
      refine repCs_iff.2 ⟨by simpa using hl,fun j c v' hc hv'=>?_⟩
      rw [List.getElem?_set] at hc
      by_cases e:i=j
      ·subst e
       simp only [if_true] at hc
       split at hc
       ·cases hc
        rw [hu] at hv'; cases hv'
        exact hcell
       ·cases hc
      ·rw [if_neg e] at hc
       exact hp j c v' hc hv'
     obtain ⟨pl',M2,f2,G2,R2,K2⟩:=ownAll_sound M1 f1 hrec hr2
     have e1:apL loc ((r,.arr 0 v []) :: wr')=apL (apL loc [(r,.arr 0 v [])]) wr':=by cases r <;> rfl
     have e2:apH H ((r,.arr 0 v []) :: wr')=apH (apH H [(r,.arr 0 v [])]) wr':=by cases r <;> rfl
     rw [e1,e2]
     refine ⟨pl',M2,f2,G1.trans G2,R2,fun ha hk=>?_⟩
     simp only [List.all_cons,Bool.and_eq_true] at ha
     exact K2 ha.2 (hk.ap1 ha.1 h2)
    ·cases h
   ·cases h
  ·cases h
theorem ownOut_sound (S:Sim K β nt st a F pl w) {o:Oper} (hd:∀d,o.dst=some d→d<nt) {own:List (Nat×Option Nat×Vc K.U)} {c:C K.U} {v:Value} {r:Out K.U} (h:ownOut st.loc st.H own c=some (.out r))
  (run:(execOp a.eval o).run K.P w=.ok (.value v) w) (hr:RepC F w st.obs pl c v) (hW:r.wr.all okW=true):Done K β nt st a F o r w:=by
 unfold ownOut at h
 split at h
 ·simp only [Option.some.injEq,Step.out.injEq] at h; subst h
  exact S.done0 hd run rfl hr
 ·split at h
  ·rename_i cs wr hown
   have fin:∀(x:C K.U) (us:List Value),wr.all okW=true→RepCs F w st.obs pl c.cells us→(∀(ob':Obs K) (pl':Rf→Pl),RepCs F w ob' pl' cs us→RepC F w ob' pl' x v)→
     Done K β nt st a F o { ok:=true,v:=x,wr:=wr } w:=by
    intro x us hW h1 h2
    obtain ⟨pl',M,f,G,R,hk⟩:=ownAll_sound S.mem S.fr hown h1
    refine ⟨v,w,F,pl',.inl run,?_,fun _=>Ext.refl w⟩
    exact (S.goes G M f (hk hW S.hok)).put hd (h2 _ _ R)
   have one:c.cells=[c]→RepCs F w st.obs pl c.cells [v]:=fun e=>by rw [e]; simp only [RepCs]; exact ⟨v,[],rfl,hr,rfl⟩
   have one':∀x,cs=[x]→∀(ob':Obs K) (pl':Rf→Pl),RepCs F w ob' pl' cs [v]→RepC F w ob' pl' x v:=by
    rintro x rfl ob' pl' hx
    simp only [RepCs] at hx
    obtain ⟨u,_,e,hu,_⟩:=hx
    simp only [List.cons.injEq] at e
    rw [e.1]; exact hu
   split at h
   ·simp only [Option.some.injEq,Step.out.injEq] at h; subst h
    simp only [RepC] at hr
    obtain ⟨vs,rfl,hr⟩:=hr
    exact fin _ vs hW hr fun ob' pl' hx=>by simp only [RepC]; exact ⟨vs,rfl,hx⟩
   ·rename_i hna
    split at h
    ·rename_i x
     simp only [Option.some.injEq,Step.out.injEq] at h; subst h
     have e:c.cells=[c]:=by cases c <;> first|rfl|exact absurd rfl (hna _)
     exact fin x [v] hW (one e) (one' x rfl)
    ·cases h
  ·cases h
theorem stepOut_out {x:Option (Out K.U)} {r:Out K.U} (h:stepOut x=some (.out r)):x=some r:=by
 simp only [stepOut,Option.map_eq_some_iff,Step.out.injEq] at h
 obtain ⟨y,h1,rfl⟩:=h
 exact h1
theorem outV_out {ok:Bool} {v:C K.U} {rd:List Rf} {r:Out K.U} (h:outV ok v rd=some (.out r)):r={ ok:=ok,v:=v,rd:=rd }:=by
 simp only [outV,Option.some.injEq,Step.out.injEq] at h
 exact h.symm
theorem Sim.evO (S:Sim K β nt st a F pl w) {x:Option Operand} {c:Option (C K.U)} (h:Go.Abs.evO (K.ev st.tmps) x=some c):boundV c (x.map a.eval) F w st.obs pl:=by
 cases x with
 | none=>simp only [Go.Abs.evO,Option.some.injEq] at h; subst h; simp [boundV]
 | some x=>
  simp only [Go.Abs.evO,Option.map_eq_some_iff] at h
  obtain ⟨y,h,rfl⟩:=h
  have:=S.ev h
  simpa [boundV] using this
end
end
end Go.Abs
