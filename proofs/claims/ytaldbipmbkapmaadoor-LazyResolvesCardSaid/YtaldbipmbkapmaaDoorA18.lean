/- LEMMAS: an operation as the machine does it; regions in their order. Conditions: none. -/
import Derived.Test.YtaldbipmbkapmaaDoorA17
namespace Go.Abs
set_option linter.unusedVariables false
set_option linter.unusedSimpArgs false
section
variable {K:Cfg} {Rs:Res K} {β:Base K} {nt:Nat} {st:St K.U} {a:Act} {F:Nat→Prop} {pl:Rf→Pl} {w:World} {Q:Exit→Act→World→Prop}
theorem run_callFunc (L:Laws K) {g:FuncId} {fn:Func} {c:Code} (hf:K.P.funcs[g]?=some fn) (hb:fn.body=some c) (args:Array Value):(callFunc g args).run K.P w=.ok (.enter g args) w:=by
 have hn : ¬ fn.name = "runtime.NumGoroutine" := by simpa using L.name g fn hf
 simp [callFunc,hf,hn,hb]
theorem aop_call (L:Laws K) (S:Sim K β nt st a F pl w) {an:OpAnn K.U} {o:Oper} {g:FuncId} {args:List (C K.U)} (h:K.aop an o (K.ev st.tmps) st.loc st.H=some (.call g args)):
  ∃vs,RepCs F w st.obs pl args vs∧∀fn c,K.P.funcs[g]?=some fn→fn.body=some c→(execOp a.eval o).run K.P w=.ok (.enter g vs.toArray) w:=by
 unfold Cfg.aop Cfg.aopAt at h
 generalize (if an.glob then none else match an.slot with|some s=>some s|none=>o.dst:Option Nat)=slot at h
 have hown:∀(own:List (Nat×Option Nat×Vc K.U)) (v:C K.U),ownOut st.loc st.H own v ≠ some (.call g args):=by
  intro own v h
  unfold ownOut at h
  repeat' split at h
  all_goals cases h
 have hst:∀x:Option (Out K.U),stepOut x ≠ some (.call g args):=by
  intro x h
  cases x <;> cases h
 have hov:∀(ok:Bool) (v:C K.U) (rd:List Rf),outV ok v rd ≠ some (.call g args):=fun ok v rd h=>by cases h
 split at h
 case h_29=>
  rename_i c ho
  split at h
  ·rename_i as has
   have hv:=S.evs has
   split at h
   ·exact absurd h (hst _)
   ·rename_i g' hc
    simp only [Option.some.injEq,Step.call.injEq] at h
    obtain ⟨rfl,rfl⟩:=h
    refine ⟨_,hv,fun fn c' hf hb=>?_⟩
    have e:c.args.map a.eval=(c.args.toList.map a.eval).toArray:=by apply Array.ext'; simp
    simp only [execOp,ho,Sem.run_bind,resolve,hc,Act.eval,Deferred.ofValue,Sem.run_pure,Result.andThen_ok,invoke,Array.empty_append,Array.append_empty]
    rw [run_callFunc L hf hb]
    congr 2
   ·rename_i x _ hc
    split at h
    ·rename_i g' first caps hx
     split at h
     ·simp only [Option.some.injEq,Step.call.injEq] at h
      obtain ⟨rfl,rfl⟩:=h
      have hr:=S.ev hx
      simp only [RepC] at hr
      obtain ⟨va,vb,e,h1,h2⟩:=hr
      refine ⟨va ++ (c.args.toList.map a.eval ++ vb),?_,fun fn c' hf hb=>?_⟩
      ·have:=repCs_append (repCs_append h1 hv) h2
       rw [List.append_assoc va] at this
       exact this
      ·simp only [execOp,ho,Sem.run_bind,resolve,hc,e,Deferred.ofValue,Sem.run_pure,Result.andThen_ok,invoke]
       rw [run_callFunc L hf hb]
       congr 2
       apply Array.ext'; simp
     ·cases h
    ·cases h
    ·cases h
   ·rename_i x nm hc
    split at h
    ·rename_i t v hx
     split at h
     ·rename_i g' hm
      simp only [Option.some.injEq,Step.call.injEq] at h
      obtain ⟨rfl,rfl⟩:=h
      have hr:=S.ev hx
      simp only [RepC] at hr
      obtain ⟨u,e,hu⟩:=hr
      refine ⟨u :: c.args.toList.map a.eval,by simp only [RepCs]; exact ⟨_,_,rfl,hu,hv⟩,fun fn c' hf hb=>?_⟩
      have hmm:=L.meth t nm g' hm u w
      have e1:(#[a.eval x] ++ c.args.map a.eval)[0]?=some (.iface t u):=by rw [Array.getElem?_append_left (by simp)]; simp [e]
      have e2:(#[u] ++ (#[a.eval x] ++ c.args.map a.eval).extract 1 (#[a.eval x] ++ c.args.map a.eval).size)=(u :: c.args.toList.map a.eval).toArray:=by
       apply Array.ext'
       simp only [Array.toList_append,Array.toList_extract,Array.size_append,List.extract_eq_take_drop]
       rw [List.take_of_length_le (by simp)]
       simp
      simp only [execOp,ho,Sem.run_bind,resolve,hc,Sem.run_pure,Result.andThen_ok,invoke,e1,callMethod,run_program,hmm]
      rw [run_callFunc L hf hb,e2]
     ·cases h
    ·cases h
  ·cases h
 all_goals
  repeat' split at h
  all_goals first
   | cases h
   | exact absurd h (hown _ _)
   | exact absurd h (hst _)
   | exact absurd h (hov _ _ _)
theorem aop_dyn (L:Laws K) (S:Sim K β nt st a F pl w) {an:OpAnn K.U} {o:Oper} {g:FuncId} {pre args post:List (C K.U)} (h:K.aop an o (K.ev st.tmps) st.loc st.H=some (.dyn g pre args post)):
  ∃vpre vs vpost,RepCs F w (obH st.H) pl pre vpre∧RepCs F w st.obs pl args vs∧RepCs F w (obH st.H) pl post vpost∧
   ∀fn c,K.P.funcs[g]?=some fn→fn.body=some c→(execOp a.eval o).run K.P w=.ok (.enter g (vpre ++ (vs ++ vpost)).toArray) w:=by
 unfold Cfg.aop Cfg.aopAt at h
 generalize (if an.glob then none else match an.slot with|some s=>some s|none=>o.dst:Option Nat)=slot at h
 have hown:∀(own:List (Nat×Option Nat×Vc K.U)) (v:C K.U),ownOut st.loc st.H own v ≠ some (.dyn g pre args post):=by
  intro own v h
  unfold ownOut at h
  repeat' split at h
  all_goals cases h
 have hst:∀x:Option (Out K.U),stepOut x ≠ some (.dyn g pre args post):=by
  intro x h
  cases x <;> cases h
 have hov:∀(ok:Bool) (v:C K.U) (rd:List Rf),outV ok v rd ≠ some (.dyn g pre args post):=fun ok v rd h=>by cases h
 split at h
 case h_29=>
  rename_i c ho
  split at h
  ·rename_i as has
   have hv:=S.evs has
   split at h
   ·exact absurd h (hst _)
   ·cases h
   ·rename_i x _ hc
    have run:∀(va vb:List Value),a.eval x=.func (.func g) va.toArray vb.toArray→∀fn c',K.P.funcs[g]?=some fn→fn.body=some c'→
      (execOp a.eval o).run K.P w=.ok (.enter g (va ++ (c.args.toList.map a.eval ++ vb)).toArray) w:=by
     intro va vb e fn c' hf hb
     simp only [execOp,ho,Sem.run_bind,resolve,hc,e,Deferred.ofValue,Sem.run_pure,Result.andThen_ok,invoke]
     rw [run_callFunc L hf hb]
     congr 2
     apply Array.ext'; simp
    split at h
    ·rename_i g' first caps hx
     split at h
     ·cases h
     simp only [Option.some.injEq,Step.dyn.injEq] at h
     obtain ⟨rfl,rfl,rfl,rfl⟩:=h
     have hr:=S.ev hx
     simp only [RepC] at hr
     obtain ⟨va,vb,e,h1,h2⟩:=hr
     refine ⟨[],va ++ (c.args.toList.map a.eval ++ vb),[],by simp [RepCs],?_,by simp [RepCs],fun fn c' hf hb=>?_⟩
     ·have:=repCs_append (repCs_append h1 hv) h2
      rw [List.append_assoc va] at this
      exact this
     ·rw [run va vb e fn c' hf hb]; simp
    ·rename_i g' first caps hx
     simp only [Option.some.injEq,Step.dyn.injEq] at h
     obtain ⟨rfl,rfl,rfl,rfl⟩:=h
     have hr:=S.ev hx
     simp only [RepC] at hr
     obtain ⟨va,vb,e,h1,h2⟩:=hr
     rw [show gOnly st.obs=obH st.H from gOnly_obH _ _] at h1 h2
     exact ⟨va,_,vb,h1,hv,h2,run va vb e⟩
    ·cases h
   ·repeat' split at h
    all_goals cases h
  ·cases h
 all_goals
  repeat' split at h
  all_goals first
   | cases h
   | exact absurd h (hown _ _)
   | exact absurd h (hst _)
   | exact absurd h (hov _ _ _)
theorem nil_row (L:Laws K) {t e:TypeId} {i:TI} (h:K.ti t=some i) (hk:i.kind=.slice e) (x:Option Addr) (l c:Nat):(Op.equal t (.slice x l c) (.slice none 0 0)).run K.P w=.ok x.isNone w:=by
 obtain ⟨d,h1,h2⟩:=kind_is L h
 rw [hk] at h2
 cases d <;> first|exact (Bool.false_ne_true h2).elim|skip
 refine run_equal fun d=>?_
 cases x <;> simp [Op.equalIn,run_underlying h1]
theorem two_sound (L:Laws K) (S:Sim K β nt st a F pl w) {o:Oper} (hd:∀d,o.dst=some d→d<nt) {r r':Out K.U} (h:K.appTwo o (K.ev st.tmps) st.loc st.H=some (r,r')) (hok:r.ok=true):
  ∃v w' F' pl',(execOp a.eval o).run K.P w=.ok (.value v) w'∧(Sim K β nt ⟨put st.tmps o.dst r.v,apL st.loc r.wr,st.H⟩ (a.put o.dst v) F' pl' w'∨Sim K β nt ⟨put st.tmps o.dst r'.v,apL st.loc r'.wr,st.H⟩ (a.put o.dst v) F' pl' w'):=by
 unfold Cfg.appTwo at h
 split at h
 ·rename_i c ho
  obtain ⟨callee,args,ts⟩:=c
  dsimp only at h
  split at h
  ·rename_i s gen p n y t u he hts
   split at h
   ·rename_i i iu hi hiu
    split at h
    ·rename_i e eu hk hku
     split at h
     ·rename_i j g v xs hj hs
      split at h
      ·rename_i ok ys hro
       split at h
       ·rename_i hcd
        simp only [Option.some.injEq,Prod.mk.injEq] at h
        obtain ⟨rfl,rfl⟩:=h
        simp only [andB_true,beq_iff_eq] at hok
        obtain ⟨hok1,rfl,hok3,hok4⟩:=hok
        have hv:=S.evs he
        simp only [RepCs] at hv
        obtain ⟨vx,_,e1,hx,vy,_,rfl,hy,rfl⟩:=hv
        have hargs:(args.map a.eval).toList=args.toList.map a.eval:=by simp
        have e':args.map a.eval=#[vx,vy]:=by apply Array.ext'; rw [hargs,e1]
        have e2:ts=#[t,u]:=by apply Array.ext'; simpa using hts
        have T:AppT K t u e j v:=⟨ti_slice L hi hk,⟨_,ti_slice L hiu hku,by simp⟩,hj,(fitsV_spec hcd.1).1,(fitsV_spec hcd.1).2,hcd.2.1,hcd.2.2⟩
        obtain ⟨a1,c1,rfl,us,k1,k2⟩:=rowsOf_sound L S.mem hro hok1 hy
        obtain ⟨val,w',h1,h2⟩:=app_piece (ty:=o.type) (c:=c1) (a:=a1) L S.mem T hs hok3 hx (k1 w.drew rfl) (k1 w rfl) k2 hok4
        have run:(execOp a.eval o).run K.P w=.ok (.value val) w':=by
         have hb:∀cs,builtin .append ts o.type cs (args.map a.eval)=(do pure (.value (←Builtin.append_ ts o.type (args.map a.eval)))):=fun _=>rfl
         have h1:(Builtin.append_ ts o.type (args.map a.eval)).run K.P w=.ok val w':=by rw [e',e2]; exact h1
         simp only [execOp,ho,Sem.run_bind,resolve_builtin,Result.andThen_ok,invoke,hb,h1,Sem.run_pure]
        have fin:∀{cc:C K.U} {xx:O K.U},Did1 K F w st.loc st.H pl cc [(.l s,xx)] val w'→∃F' pl',Sim K β nt ⟨put st.tmps o.dst cc,apL st.loc [(.l s,xx)],st.H⟩ (a.put o.dst val) F' pl' w':=by
         intro cc xx D
         obtain ⟨ref,x,p,e,hg,U,R,hc,hbx⟩:=D.ex
         simp only [List.cons.injEq,Prod.mk.injEq,and_true] at e
         obtain ⟨rfl,rfl⟩:=e
         have S1:=S.upd U R hg rfl hbx
         have ho:St.obs ⟨st.tmps,apL st.loc [(.l s,xx)],apH st.H [(.l s,xx)]⟩=setOb st.obs (.l s) xx:=getO_ap1 hg
         exact ⟨F,_,S1.put hd (by rw [ho]; exact hc)⟩
        rcases h2 with D|D
        ·obtain ⟨F',pl',S'⟩:=fin D
         exact ⟨val,w',F',pl',run,.inl S'⟩
        ·obtain ⟨F',pl',S'⟩:=fin D
         exact ⟨val,w',F',pl',run,.inr S'⟩
       ·cases h
      ·cases h
     ·cases h
    ·cases h
   ·cases h
  ·cases h
 ·cases h
theorem Sim.mayNil {β:Base K} {nt:Nat} {st:St K.U} {a:Act} {F:Nat→Prop} {pl:Rf→Pl} {w:World} (S:Sim K β nt st a F pl w) {c:C K.U} {v:Value} {e:Bool} (h:K.mayNil st.loc st.H c=some e) (hr:RepC F w st.obs pl c v):
  ∃p l cap,v=.slice p l cap∧(e=false→p.isNone=false):=by
 unfold Cfg.mayNil at h
 split at h
 ·rename_i c' xs
  cases h
  simp only [RepC] at hr
  cases hr with
  | sl0 _ p cap=>exact ⟨p,0,cap,rfl,fun h=>by cases h⟩
  | sl=>exact ⟨_,_,_,rfl,fun _=>rfl⟩
 ·rename_i r gen sub cl
  split at h
  ·rename_i g vc xs ho
   cases h
   simp only [RepC] at hr
   obtain ⟨⟨q,l,cap,hv⟩,o,g',n,wd,h1,h2,h3,h4⟩:=hr
   refine ⟨q,l,cap,hv,fun he=>?_⟩
   have ho':st.obs r=some (.arr g vc xs):=ho
   rw [ho'] at h1; cases h1
   simp only [Cfg.arrI,Option.some.injEq,Prod.mk.injEq] at h2
   obtain ⟨rfl,rfl,rfl⟩:=h2
   have he:(notB (g == gen) || (notB (subOk sub (lenL xs)) || emptyL (subBy sub xs)))=false:=he
   simp only [Bool.or_eq_false_iff] at he
   obtain ⟨e1,e2,e3⟩:=he
   have e1:g=gen:=by simpa [notB] using e1
   have e2:subOk sub (lenL xs)=true:=by simpa [notB] using e2
   obtain ⟨q',hq,hq'⟩:=h4 e1.symm
   rw [hv] at hq
   simp only [Value.slice.injEq] at hq
   obtain ⟨rfl,hl,hc⟩:=hq
   have hcap:List.length xs≤(pl r).cap∨List.length xs=0:=by
    rcases S.mem.rep r _ ho' with ⟨_,h⟩|⟨_,_,_,_,h,_⟩
    ·right; rw [h]; rfl
    ·exact .inl h
   have hne:(if cl then (sub? sub (List.length xs)).2 else (pl r).cap - (sub? sub (List.length xs)).1) ≠ 0:=by
    cases sub with
    | none=>
     have h1:xs ≠ []:=fun h=>by rw [h] at e3; cases e3
     have h2:0<List.length xs:=List.length_pos_iff.2 h1
     simp only [sub?]
     split <;> simp <;> omega
    | some q=>
     obtain ⟨u,m⟩:=q
     have hm:0<m:=by
      rcases Nat.eq_zero_or_pos m with rfl|h
      ·exact absurd (show emptyL (takeL 0 (dropL u xs))=true by simp [takeL,emptyL]) (by rw [show emptyL (takeL 0 (dropL u xs))=false from e3]; decide)
      ·exact h
     have hok:u+m≤List.length xs:=by
      have:=subOk_le e2
      exact this
     simp only [sub?]
     split <;> simp <;> omega
   rw [hq' hne]; rfl
  ·cases h
 ·cases h
theorem opP_sound (L:Laws K) (S:Sim K β nt st a F pl w) {quiet:Bool} {an:OpAnn K.U} {o:Oper} {k:St K.U→Prop} (hd:∀d,o.dst=some d→d<nt) (h:opP Rs (Runs K) quiet an o st k) {next:Act→World→Prop}
  (hn:∀v st' F' pl' w',Sim K β nt st' (a.put o.dst v) F' pl' w'→k st'→(quiet=true→Ext w w')→next (a.put o.dst v) w'):o.wp K.P a w next Q:=by
 have back:∀{q:Bool} {g:FuncId} {vs:List Value} {kk:C K.U→Loc K.U→List (O K.U)→Prop},(∀v l h',kk v l h'→k ⟨put st.tmps o.dst v,l,h'⟩)→(q=false→quiet=false)→
   Calls K.P g vs.toArray w (Back K β F w st.obs pl q kk)→(∀fn c,K.P.funcs[g]?=some fn→fn.body=some c→(execOp a.eval o).run K.P w=.ok (.enter g vs.toArray) w)→o.wp K.P a w next Q:=by
  intro q g vs kk hkk hq hc hrun
  obtain ⟨fn,c,hf,hb⟩:=calls_fn hc fun e w' ⟨v,he,_⟩=>⟨v,he⟩
  unfold Oper.wp
  rw [hrun fn c hf hb,Oper.upon_enter]
  refine hc.mono ?_
  rintro e w' ⟨v,rfl,c,l',H',F',pl',h1,h2,h3,h4,h5,h6,h7⟩
  have S1:=(S.goes h3 h4 h5 h6).put (dst:=o.dst) hd h2
  exact hn v _ F' pl' w' S1 (hkk _ _ _ h1) fun hqt=>h7 (by cases q with|true=>rfl|false=>rw [hq rfl] at hqt; cases hqt)
 unfold opP at h
 split at h
 ·rename_i r hr
  split at h
  ·exact h.elim
  ·rename_i hc
   simp only [Bool.or_eq_true,Bool.and_eq_true,Bool.not_eq_true',not_or,not_and,Bool.not_eq_false] at hc
   rw [andP_iff] at h
   obtain ⟨v,w',F',pl',hrun,S',hE⟩:=aop_out L S hr h.1 hd hc.2
   have fin:=hn v _ F' pl' w' S' h.2 fun hq=>hE (by simpa using hc.1 hq)
   unfold Oper.wp
   rcases hrun with e|⟨e,rfl⟩
   ·rw [e,Oper.upon_value]; exact fin
   ·rw [e,Oper.upon_skip]; exact fin
 ·rename_i g args hr
  obtain ⟨vs,h1,h2⟩:=aop_call L S hr
  exact back (fun _ _ _ h=>h) (fun h=>h) (callP_sound L S h h1) h2
 ·rename_i g pre args post hr
  split at h
  ·exact h.elim
  ·rename_i hq
   obtain ⟨vpre,vs,vpost,h1,h2,h3,h4⟩:=aop_dyn L S hr
   exact back (q:=false) (fun _ _ _ h=>h) (fun _=>by simpa using hq) (dynP_sound L S h h1 h2 h3) h4
 ·split at h
  ·rename_i neg e hnt
   unfold Cfg.nilTest at hnt
   split at hnt
   ·rename_i op t x y ty ho
    split at hnt
    ·rename_i i hi
     split at hnt
     ·rename_i el vx hk hx hy
      have rx:=S.ev hx
      have ry:=S.ev hy
      rw [repC_nils] at ry
      split at hnt
      ·rename_i e0 hmn
       obtain ⟨p,l,cap,hv,hp⟩:=S.mayNil hmn rx
       have he:=nil_row (w:=w) L hi hk p l cap
       have he':(Op.equal t (a.eval x) (a.eval y)).run K.P w=.ok p.isNone w:=by rw [hv,ry]; exact he
       obtain ⟨e1,e2⟩:=binOp_eq he' (by rw [hv]; simp) (by rw [hv]; simp) (by rw [hv]; simp) (by rw [hv]; simp)
       have fin:∀b:Bool,(execOp a.eval o).run K.P w=.ok (.value (.bool b)) w→k ⟨put st.tmps o.dst (.d (.bool b)),st.loc,st.H⟩→o.wp K.P a w next Q:=by
        intro b hrun hk
        unfold Oper.wp
        rw [hrun,Oper.upon_value]
        exact hn (.bool b) _ F pl w (S.put (dst:=o.dst) hd (c:=.d (.bool b)) (repC_bool.2 rfl)) hk fun _=>Ext.refl w
       have pick:∀{kk:Bool→Prop},nilP e0 kk→kk p.isNone:=by
        intro kk hk
        obtain ⟨k1,k2⟩:=hk
        rw [iteP_iff] at k2
        cases hpn:p.isNone with
        | false=>exact k1
        | true=>
         cases e0 with
         | false=>rw [hp rfl] at hpn; cases hpn
         | true=>simpa using k2
       have g0:∀op',(eqGuard op' t x y (a.eval x) (a.eval y)).run K.P w=.ok () w:=fun op'=>eqGuard_atom op' t x y (x:=a.eval x) (by rw [hv]; simp) (by rw [hv]; simp) K.P
       cases hnt
       exact fin _ (by simp only [execOp,ho,Sem.run_bind,g0,Sem.run_pure,Result.andThen_ok,e1]) (pick h)
      ·rename_i e0 hmn
       obtain ⟨p,l,cap,hv,hp⟩:=S.mayNil hmn rx
       have he:=nil_row (w:=w) L hi hk p l cap
       have he':(Op.equal t (a.eval x) (a.eval y)).run K.P w=.ok p.isNone w:=by rw [hv,ry]; exact he
       obtain ⟨e1,e2⟩:=binOp_eq he' (by rw [hv]; simp) (by rw [hv]; simp) (by rw [hv]; simp) (by rw [hv]; simp)
       have fin:∀b:Bool,(execOp a.eval o).run K.P w=.ok (.value (.bool b)) w→k ⟨put st.tmps o.dst (.d (.bool b)),st.loc,st.H⟩→o.wp K.P a w next Q:=by
        intro b hrun hk
        unfold Oper.wp
        rw [hrun,Oper.upon_value]
        exact hn (.bool b) _ F pl w (S.put (dst:=o.dst) hd (c:=.d (.bool b)) (repC_bool.2 rfl)) hk fun _=>Ext.refl w
       have pick:∀{kk:Bool→Prop},nilP e0 kk→kk p.isNone:=by
        intro kk hk
        obtain ⟨k1,k2⟩:=hk
        rw [iteP_iff] at k2
        cases hpn:p.isNone with
        | false=>exact k1
        | true=>
         cases e0 with
         | false=>rw [hp rfl] at hpn; cases hpn
         | true=>simpa using k2
       have g0:∀op',(eqGuard op' t x y (a.eval x) (a.eval y)).run K.P w=.ok () w:=fun op'=>eqGuard_atom op' t x y (x:=a.eval x) (by rw [hv]; simp) (by rw [hv]; simp) K.P
       cases hnt
       exact fin _ (by simp only [execOp,ho,Sem.run_bind,g0,Sem.run_pure,Result.andThen_ok,e2]) (pick h)
      ·cases hnt
     ·cases hnt
    ·cases hnt
   ·cases hnt
  ·split at h
   ·rename_i r r' htwo
    split at h
    ·exact h.elim
    ·rename_i hq
     rw [andP_iff] at h
     obtain ⟨hok,hk1,hk2⟩:=h
     obtain ⟨v,w',F',pl',hrun,S'⟩:=two_sound L S hd htwo hok
     have fin:next (a.put o.dst v) w':=by
      rcases S' with S'|S'
      ·exact hn v _ F' pl' w' S' hk1 fun hqt=>absurd hqt hq
      ·exact hn v _ F' pl' w' S' hk2 fun hqt=>absurd hqt hq
     unfold Oper.wp
     rw [hrun,Oper.upon_value]; exact fin
   ·exact h.elim
theorem Sim.kill {l:List (Nat×Oper)}:∀{st:St K.U} {a:Act},Sim K β nt st a F pl w→Sim K β nt ⟨Go.Abs.kill l st.tmps,st.loc,st.H⟩ a F pl w:=by
 induction l with
 | nil=>intro st a S; exact S
 | cons p l ih=>
  intro st a S
  obtain ⟨i,o⟩:=p
  have S1:Sim K β nt ⟨Go.Abs.put st.tmps o.dst .dead,st.loc,st.H⟩ a F pl w:=by
   refine ⟨S.size,S.defers,S.pins,S.ghosts,fun t=>?_,S.mem,S.fr,S.hok⟩
   cases o.dst with
   | none=>exact S.tmps t
   | some d=>
    show RepC F w st.obs pl (bif Nat.beq t d then .dead else st.tmps t) _
    cases Nat.beq t d
    ·exact S.tmps t
    ·exact repC_dead _
  exact ih S1
theorem tmps_at (S:Sim K β nt st a F pl w) {t:Tmp} {b:Bool} (h:boolAt st (.tmp t)=some b):a.tmps[t]?=some (.bool b):=by
 unfold boolAt at h
 simp only [Cfg.ev] at h
 split at h
 ·rename_i b' hb
  simp only [Option.some.injEq] at h hb
  subst h
  have:=S.tmps t
  rw [hb,repC_bool] at this
  rw [Array.getD_eq_getD_getElem?] at this
  cases hg:a.tmps[t]? with
  | none=>rw [hg] at this; cases this
  | some v=>rw [hg] at this; simp only [Option.getD_some] at this; rw [this]
 ·cases h
theorem eval_bool (S:Sim K β nt st a F pl w) {x:Operand} {b:Bool} (h:isB? (boolAt st x) b):a.eval x=.bool b:=by
 unfold boolAt at h
 split at h
 ·rename_i b' hb
  simp only [isB?] at h
  subst h
  exact repC_bool.1 (S.ev hb)
 ·exact h.elim
theorem put_other {a:Act} {dst:Option Tmp} {v:Value} {t:Nat} (h:∀d,dst=some d→d ≠ t):(a.put dst v).tmps[t]?=a.tmps[t]?:=by
 cases dst with
 | none=>rfl
 | some d=>simp only [Act.put]; exact Array.getElem?_setIfInBounds_ne (h d rfl)
theorem skip_sound {ops:Array Oper} {j dj:Nat} {want b:Bool} (hj:(ops[j]?).bind (·.dst)=some dj) (hb:b ≠ want) {rest:List Nat}:
  ∀{l:List (Nat×Oper)} {seen:List Nat} {st:St K.U} {a:Act},Sim K β nt st a F pl w→(∀p∈l,ops[p.1]?=some p.2)→(∀p∈l,∀d,p.2.dst=some d→d<nt)→innerOk j want dj l seen=true→
   a.tmps[dj]?=some (.bool b)→(∀i∈seen,yielded ops a.tmps i=none)→
   (∀a',(∀st0 F0 pl0,Sim K β nt st0 a F0 pl0 w→Sim K β nt ⟨Go.Abs.kill l st0.tmps,st0.loc,st0.H⟩ a' F0 pl0 w)→a'.tmps[dj]?=some (.bool b)→(∀t,(∀p∈l,p.2.dst ≠ some t)→a'.tmps[t]?=a.tmps[t]?)→wpOps K.P ops Q rest a' w)→
   wpOps K.P ops Q (l.map (·.1) ++ rest) a w:=by
 intro l
 induction l with
 | nil=>intro seen st a S _ _ _ hdj _ hn; exact hn a (fun _ _ _ S0=>S0) hdj fun _ _=>rfl
 | cons p l ih=>
  intro seen st a S hops hnt hin hdj hseen hn
  obtain ⟨i,o⟩:=p
  have hio:ops[i]?=some o:=hops (i,o) (by simp)
  simp only [innerOk,Bool.and_eq_true] at hin
  obtain ⟨⟨hd,hg⟩,hin⟩:=hin
  have hdd:∀d,o.dst=some d→d ≠ dj:=by
   intro d e
   rw [e] at hd
   simp only [Bool.not_eq_true'] at hd
   exact fun e'=>by rw [e',Nat.beq_refl] at hd; cases hd
  have hyj:yielded ops a.tmps j=some b:=by simp [yielded,hj,hdj]
  have hw:Region.wanted o (yielded ops a.tmps)=false:=by
   unfold Region.wanted
   split at hg
   ·rename_i j' w' hgo
    simp only [hgo]
    simp only [Bool.or_eq_true,Bool.and_eq_true,beq_iff_eq,List.contains_iff_mem] at hg
    rcases hg with ⟨e1,e2⟩|hm
    ·have e1:=Nat.eq_of_beq_eq_true e1
     subst e1; subst e2
     rw [hyj]; simpa using hb
    ·rw [hseen _ hm]; rfl
   ·cases hg
  have hne:∀(d:Nat),o.dst=some d→d ≠ dj:=hdd
  have S1:=S.put (dst:=o.dst) (hnt (i,o) (by simp)) (c:=.dead) (v:=undef) (repC_dead _)
  simp only [List.map_cons,List.cons_append,wpOps,hio,hw,Bool.false_eq_true,if_false]
  refine ih (seen:=i :: seen) S1 (fun p hp=>hops p (by simp [hp])) (fun p hp=>hnt p (by simp [hp])) hin (by rw [put_other hne]; exact hdj) (fun m hm=>?_) fun a' h1 h2 h3=>hn a' (fun st0 F0 pl0 S0=>h1 _ F0 pl0 (S0.put (dst:=o.dst) (hnt (i,o) (by simp)) (c:=.dead) (v:=undef) (repC_dead _))) h2 fun t ht=>?_
  ·rcases List.mem_cons.1 hm with rfl|hm
   ·unfold yielded
    rw [hio]
    cases ho:o.dst with
    | none=>simp [ho]
    | some d=>
     have hlt:=hnt (m,o) (by simp) d ho
     simp only [Option.bind_some,ho,Act.put]
     rw [Array.getElem?_setIfInBounds]
     have:d<a.tmps.size:=by rw [S.size]; exact hlt
     simp [this,undef]
   ·have h0:=hseen m hm
    unfold yielded at h0 ⊢
    cases hmd:(ops[m]?).bind (·.dst) with
    | none=>rfl
    | some d=>
     rw [hmd] at h0
     simp only [Option.bind_some] at h0 ⊢
     by_cases e:o.dst=some d
     ·have hlt:=hnt (i,o) (by simp) d e
      rw [e]
      simp only [Act.put]
      rw [Array.getElem?_setIfInBounds]
      have:d<a.tmps.size:=by rw [S.size]; exact hlt
      simp [this,undef]
     ·rw [put_other (fun d' e' h'=>e (by rw [e',h']))]
      exact h0
  ·rw [h3 t fun p hp=>ht p (by simp [hp]),put_other (fun d e h'=>ht (i,o) (by simp) (by rw [e,h']))]
def LvOk (ops:Array Oper) (a:Act):Option (Nat×Bool)→List (Nat×Oper)→Prop
 | none,_=>True
 | some (j,want),l=>∃dj,(ops[j]?).bind (·.dst)=some dj∧a.tmps[dj]?=some (.bool want)∧∀p∈l,p.2.dst ≠ some dj
theorem LvOk.wanted {ops:Array Oper} {lv:Option (Nat×Bool)} {l:List (Nat×Oper)} (h:LvOk ops a lv l) {o:Oper} (ho:o.guard=none∨o.guard=lv):Region.wanted o (yielded ops a.tmps)=true:=by
 unfold Region.wanted
 split
 ·rfl
 ·rename_i j want hg
  rcases ho with e|e
  ·rw [e] at hg; cases hg
  ·rw [hg] at e
   subst e
   obtain ⟨dj,h1,h2,_⟩:=h
   simp [yielded,h1,h2]
theorem LvOk.sub {ops:Array Oper} {lv:Option (Nat×Bool)} {l l':List (Nat×Oper)} (h:LvOk ops a lv l) (hl:∀p∈l',p∈l):LvOk ops a lv l':=by
 cases lv with
 | none=>trivial
 | some jw=>obtain ⟨dj,h1,h2,h3⟩:=h; exact ⟨dj,h1,h2,fun p hp=>h3 p (hl p hp)⟩
theorem LvOk.put {ops:Array Oper} {lv:Option (Nat×Bool)} {i:Nat} {o:Oper} {l:List (Nat×Oper)} (h:LvOk ops a lv ((i,o) :: l)) (v:Value):LvOk ops (a.put o.dst v) lv l:=by
 cases lv with
 | none=>trivial
 | some jw=>
  obtain ⟨dj,h1,h2,h3⟩:=h
  exact ⟨dj,h1,by rw [put_other fun d e h'=>h3 (i,o) (by simp) (by rw [e,h'])]; exact h2,fun p hp=>h3 p (by simp [hp])⟩
theorem innerOk_dst {j dj:Nat} {want:Bool}:∀{l:List (Nat×Oper)} {seen:List Nat},innerOk j want dj l seen=true→∀p∈l,p.2.dst ≠ some dj
 | [],_,_,_,hp=>by simp at hp
 | (i,o) :: l,seen,h,p,hp=>by
  simp only [innerOk,Bool.and_eq_true] at h
  rcases List.mem_cons.1 hp with rfl|hp
  ·intro e
   rw [e] at h
   simp at h
  ·exact innerOk_dst h.2 p hp
def Stay (a a':Act) (l:List (Nat×Oper)):Prop:=∀t,(∀p∈l,p.2.dst ≠ some t)→a'.tmps[t]?=a.tmps[t]?
theorem LvOk.stay {ops:Array Oper} {lv:Option (Nat×Bool)} {l l':List (Nat×Oper)} {a a':Act} (h:LvOk ops a lv (l ++ l')) (hs:Stay a a' l):LvOk ops a' lv l':=by
 cases lv with
 | none=>trivial
 | some jw=>
  obtain ⟨dj,h1,h2,h3⟩:=h
  exact ⟨dj,h1,by rw [hs dj fun p hp=>h3 p (by simp [hp])]; exact h2,fun p hp=>h3 p (by simp [hp])⟩
theorem rgnP_sound (L : Laws K) {id : Nat} {an : FAnn K.U} {ops : Array Oper} : ∀ (n : Nat) {quiet : Bool} {lv : Option (Nat × Bool)} {l : List (Nat × Oper)} {st : St K.U} {a : Act} {F : Nat → Prop} {pl : Rf → Pl} {w : World} {k : St K.U → Prop} {rest : List Nat},
    Sim K β nt st a F pl w → (∀ p ∈ l, ops[p.1]? = some p.2) → (∀ p ∈ l, ∀ d, p.2.dst = some d → d < nt) → LvOk ops a lv l → rgnP Rs (Runs K) id an ops n quiet lv l st k →
    (∀ st' a' F' pl' w', Sim K β nt st' a' F' pl' w' → k st' → Stay a a' l → (quiet = true → Ext w w' ∧ ∀ st0 F0 pl0, Sim K β nt st0 a F0 pl0 w → Sim K β nt ⟨Go.Abs.kill l st0.tmps, st0.loc, st0.H⟩ a' F0 pl0 w') → wpOps K.P ops Q rest a' w') →
    wpOps K.P ops Q (l.map (·.1) ++ rest) a w := by
  intro n
  induction n with
  | zero => intro quiet lv l st a F pl w k rest _ _ _ _ h; simp only [rgnP] at h
  | succ n ih =>
    intro quiet lv l st a F pl w k rest S hops hnt hlv h hn
    cases l with
    | nil => simp only [rgnP] at h; exact hn st a F pl w S h (fun _ _ => rfl) fun _ => ⟨Ext.refl w, fun st0 F0 pl0 S0 => S0⟩
    | cons p l =>
      obtain ⟨i, o⟩ := p
      have hio : ops[i]? = some o := hops (i, o) (by simp)
      simp only [rgnP] at h
      split at h
      · rename_i hg
        have hw := hlv.wanted hg
        simp only [List.map_cons, List.cons_append, wpOps, hio, hw, if_true]
        left
        refine opP_sound L S (hnt (i, o) (by simp)) h fun v st' F' pl' w' S' hk hE => ?_
        refine ih S' (fun p hp => hops p (by simp [hp])) (fun p hp => hnt p (by simp [hp])) (hlv.put v) hk fun st2 a2 F2 pl2 w2 S2 hk2 hst hE2 => ?_
        refine hn st2 a2 F2 pl2 w2 S2 hk2 (fun t ht => ?_) fun hq => ⟨(hE hq).trans (hE2 hq).1, fun st0 F0 pl0 S0 => ?_⟩
        · rw [hst t fun p hp => ht p (by simp [hp]), put_other fun d e h' => ht (i, o) (by simp) (by rw [e, h'])]
        · exact (hE2 hq).2 _ F0 pl0 ((S0.ext (hE hq)).put (hnt (i, o) (by simp)) (c := .dead) (v := v) (repC_dead _))
      · split at h
        · exact h.elim
        · rename_i j want hg
          split at h
          · rename_i dj q pk after hdj hdrop
            split at h
            · rename_i c x y b hpk hb
              split at h
              · rename_i hc
                obtain ⟨rfl, hin⟩ := hc
                generalize hinner : (fun p : Nat × Oper => decide (¬ (p.2.guard = none ∨ p.2.guard = lv))) = inner at h hdrop hin
                have hcut : l = l.takeWhile inner ++ (q, pk) :: after := by rw [← hdrop]; exact (List.takeWhile_append_dropWhile).symm
                have hpkg : pk.guard = none ∨ pk.guard = lv := by
                  have := List.head?_dropWhile_not inner l
                  rw [hdrop] at this
                  simp only [List.head?_cons, Bool.not_eq_true'] at this
                  rw [← hinner] at this
                  simp only [decide_eq_false_iff_not, Classical.not_not] at this
                  exact this
                have hmem1 : ∀ p ∈ (i, o) :: l.takeWhile inner, p ∈ (i, o) :: l := by
                  intro p hp
                  rcases List.mem_cons.1 hp with e | hp
                  · simp [e]
                  · rw [hcut]; simp [hp]
                have hmem2 : ∀ p ∈ (q, pk) :: after, p ∈ (i, o) :: l := fun p hp => by
                  rw [hcut]
                  exact List.mem_cons_of_mem _ (List.mem_append_right _ hp)
                have hpk' : ops[q]? = some pk := hops (q, pk) (hmem2 _ (by simp))
                have hb' := tmps_at S hb
                have elist : ((i, o) :: l).map (·.1) ++ rest = ((i, o) :: l.takeWhile inner).map (·.1) ++ (q :: (after.map (·.1) ++ rest)) := by
                  conv => lhs; rw [hcut]
                  simp
                rw [elist]
                split at h
                · rename_i hsp
                  simp only [Bool.and_eq_true, Bool.not_eq_true'] at hsp
                  obtain ⟨_, rfl⟩ := hsp
                  have tail : ∀ (z : Operand) (st' : St K.U) (a' : Act) (F' : Nat → Prop) (pl' : Rf → Pl) (w' : World), z = (if b then x else y) → Sim K β nt st' a' F' pl' w' → a'.tmps[c]? = some (.bool b) → Stay a a' ((i, o) :: l.takeWhile inner) →
                      (match boolAt st' z with
                        | some v => rgnP Rs (Runs K) id an ops n false lv after ⟨put st'.tmps pk.dst (.d (.bool v)), st'.loc, st'.H⟩ k
                        | none => False) → wpOps K.P ops Q (q :: (after.map (·.1) ++ rest)) a' w' := by
                    intro z st' a' F' pl' w' hz S' hdj' hst h
                    split at h
                    · rename_i v hbv
                      have hev : a'.eval (if b then x else y) = .bool v := by rw [← hz]; exact eval_bool S' (by rw [hbv]; rfl)
                      have hlv' : LvOk ops a' lv ((q, pk) :: after) := by
                        refine LvOk.stay (l := (i, o) :: l.takeWhile inner) ?_ hst
                        have e : ((i, o) :: l.takeWhile inner) ++ (q, pk) :: after = (i, o) :: l := by rw [List.cons_append, ← hcut]
                        rw [e]; exact hlv
                      have hw' := hlv'.wanted hpkg
                      have hev2 : a'.eval (.tmp c) = .bool b := by simp only [Act.eval, Array.getD_eq_getD_getElem?, hdj', Option.getD_some]
                      have hrun : (execOp a'.eval pk).run K.P w' = .ok (.value (.bool v)) w' := by
                        simp only [execOp, hpk, Sem.run_bind, hev2, asBool, Sem.run_pure, Result.andThen_ok]
                        cases b
                        · simp only [Bool.false_eq_true, if_false] at hev ⊢; rw [hev]
                        · simp only [if_true] at hev ⊢; rw [hev]
                      simp only [wpOps, hpk', hw', if_true]
                      left
                      unfold Oper.wp
                      rw [hrun, Oper.upon_value]
                      have S2 := S'.put (dst := pk.dst) (hnt (q, pk) (hmem2 _ (by simp))) (c := .d (.bool v)) (v := .bool v) (repC_bool.2 rfl)
                      refine ih S2 (fun p hp => hops p (hmem2 p (by simp [hp]))) (fun p hp => hnt p (hmem2 p (by simp [hp]))) (hlv'.put _) h fun st2 a2 F2 pl2 w2 S3 hk2 hst2 _ => ?_
                      refine hn st2 a2 F2 pl2 w2 S3 hk2 (fun t ht => ?_) fun hq => by cases hq
                      rw [hst2 t fun p hp => ht p (hmem2 p (by simp [hp])), put_other fun d e h' => ht (q, pk) (hmem2 _ (by simp)) (by rw [e, h']), hst t fun p hp => ht p (hmem1 p hp)]
                    · exact h.elim
                  have run : ∀ (z : Operand), b = want → z = (if b then x else y) → rgnP Rs (Runs K) id an ops n false (some (j, want)) ((i, o) :: l.takeWhile inner) st (fun st' => match boolAt st' z with
                        | some v => rgnP Rs (Runs K) id an ops n false lv after ⟨put st'.tmps pk.dst (.d (.bool v)), st'.loc, st'.H⟩ k
                        | none => False) →
                      wpOps K.P ops Q (((i, o) :: l.takeWhile inner).map (·.1) ++ (q :: (after.map (·.1) ++ rest))) a w := by
                    intro z hbw hz hr
                    refine ih (lv := some (j, want)) S (fun p hp => hops p (hmem1 p hp)) (fun p hp => hnt p (hmem1 p hp)) ⟨c, hdj, by rw [← hbw]; exact hb', innerOk_dst hin⟩ hr fun st' a' F' pl' w' S' hk hst _ => ?_
                    exact tail z st' a' F' pl' w' hz S' (by rw [hst c (innerOk_dst hin)]; exact hb') hst hk
                  have skip : ∀ (z : Operand), b ≠ want → z = (if b then x else y) → (match boolAt ⟨Go.Abs.kill ((i, o) :: l.takeWhile inner) st.tmps, st.loc, st.H⟩ z with
                        | some v => rgnP Rs (Runs K) id an ops n false lv after ⟨put (Go.Abs.kill ((i, o) :: l.takeWhile inner) st.tmps) pk.dst (.d (.bool v)), st.loc, st.H⟩ k
                        | none => False) →
                      wpOps K.P ops Q (((i, o) :: l.takeWhile inner).map (·.1) ++ (q :: (after.map (·.1) ++ rest))) a w := by
                    intro z hbw hz hk
                    refine skip_sound hdj hbw S (fun p hp => hops p (hmem1 p hp)) (fun p hp => hnt p (hmem1 p hp)) hin hb' (by simp) fun a' hS hdj' hst => ?_
                    exact tail z _ a' F pl w hz (hS st F pl S) hdj' hst hk
                  cases want with
                  | true =>
                    simp only [iteP_iff] at h
                    cases b with
                    | true => exact run x rfl rfl h
                    | false => exact skip y (by simp) rfl h
                  | false =>
                    simp only [iteP_iff] at h
                    cases b with
                    | true => exact skip x (by simp) rfl h
                    | false => exact run y rfl rfl h
                · obtain ⟨v, hch, h⟩ := h
                  have tail : ∀ (a' : Act) (w' : World), Sim K β nt ⟨Go.Abs.kill ((i, o) :: l.takeWhile inner) st.tmps, st.loc, st.H⟩ a' F pl w' → a'.tmps[c]? = some (.bool b) → a'.eval (if b then x else y) = .bool v → Ext w w' →
                      Stay a a' ((i, o) :: l.takeWhile inner) → (quiet = true → ∀ st0 F0 pl0, Sim K β nt st0 a F0 pl0 w → Sim K β nt ⟨Go.Abs.kill ((i, o) :: l.takeWhile inner) st0.tmps, st0.loc, st0.H⟩ a' F0 pl0 w') →
                      wpOps K.P ops Q (q :: (after.map (·.1) ++ rest)) a' w' := by
                    intro a' w' S' hdj' hev hE hst hS0
                    have hlv' : LvOk ops a' lv ((q, pk) :: after) := by
                      refine LvOk.stay (l := (i, o) :: l.takeWhile inner) ?_ hst
                      have e : ((i, o) :: l.takeWhile inner) ++ (q, pk) :: after = (i, o) :: l := by rw [List.cons_append, ← hcut]
                      rw [e]; exact hlv
                    have hw' := hlv'.wanted hpkg
                    have hev2 : a'.eval (.tmp c) = .bool b := by simp only [Act.eval, Array.getD_eq_getD_getElem?, hdj', Option.getD_some]
                    have hrun : (execOp a'.eval pk).run K.P w' = .ok (.value (.bool v)) w' := by
                      simp only [execOp, hpk, Sem.run_bind, hev2, asBool, Sem.run_pure, Result.andThen_ok]
                      cases b
                      · simp only [Bool.false_eq_true, if_false] at hev ⊢; rw [hev]
                      · simp only [if_true] at hev ⊢; rw [hev]
                    simp only [wpOps, hpk', hw', if_true]
                    left
                    unfold Oper.wp
                    rw [hrun, Oper.upon_value]
                    have S2 := S'.put (dst := pk.dst) (hnt (q, pk) (hmem2 _ (by simp))) (c := .d (.bool v)) (v := .bool v) (repC_bool.2 rfl)
                    refine ih S2 (fun p hp => hops p (hmem2 p (by simp [hp]))) (fun p hp => hnt p (hmem2 p (by simp [hp]))) (hlv'.put _) h fun st2 a2 F2 pl2 w2 S3 hk2 hst2 hE2 => ?_
                    refine hn st2 a2 F2 pl2 w2 S3 hk2 (fun t ht => ?_) fun hq => ⟨hE.trans (hE2 hq).1, fun st0 F0 pl0 S0 => ?_⟩
                    · rw [hst2 t fun p hp => ht p (hmem2 p (by simp [hp])), put_other fun d e h' => ht (q, pk) (hmem2 _ (by simp)) (by rw [e, h']), hst t fun p hp => ht p (hmem1 p hp)]
                    · have e : Go.Abs.kill ((i, o) :: l) st0.tmps = Go.Abs.kill after (put (Go.Abs.kill ((i, o) :: l.takeWhile inner) st0.tmps) pk.dst .dead) := by
                        have happ : ∀ (l1 l2 : List (Nat × Oper)) (tm : Nat → C K.U), Go.Abs.kill (l1 ++ l2) tm = Go.Abs.kill l2 (Go.Abs.kill l1 tm) := by
                          intro l1
                          induction l1 with
                          | nil => intro l2 tm; rfl
                          | cons p l1 ih' => intro l2 tm; obtain ⟨i', o'⟩ := p; exact ih' l2 _
                        conv => lhs; rw [hcut, ← List.cons_append, happ]
                        rfl
                      rw [e]
                      exact (hE2 hq).2 _ F0 pl0 ((hS0 hq st0 F0 pl0 S0).put (hnt (q, pk) (hmem2 _ (by simp))) (c := .dead) (v := .bool v) (repC_dead _))
                  have run : ∀ (z : Operand) (qq : Prop), b = want → z = (if b then x else y) → rgnP Rs (Runs K) id an ops n true (some (j, want)) ((i, o) :: l.takeWhile inner) st (fun st' => isB? (boolAt st' z) v) →
                      wpOps K.P ops Q (((i, o) :: l.takeWhile inner).map (·.1) ++ (q :: (after.map (·.1) ++ rest))) a w := by
                    intro z _ hbw hz hr
                    refine ih (lv := some (j, want)) S (fun p hp => hops p (hmem1 p hp)) (fun p hp => hnt p (hmem1 p hp)) ⟨c, hdj, by rw [← hbw]; exact hb', innerOk_dst hin⟩ hr fun st' a' F' pl' w' S' hk hst hE => ?_
                    obtain ⟨hE1, hE2⟩ := hE rfl
                    exact tail a' w' (hE2 st F pl S) (by rw [hst c (innerOk_dst hin)]; exact hb') (by rw [← hz]; exact eval_bool S' hk) hE1 hst fun _ => hE2
                  have skip : b ≠ want → isB? (boolAt ⟨Go.Abs.kill ((i, o) :: l.takeWhile inner) st.tmps, st.loc, st.H⟩ (if b then x else y)) v →
                      wpOps K.P ops Q (((i, o) :: l.takeWhile inner).map (·.1) ++ (q :: (after.map (·.1) ++ rest))) a w := by
                    intro hbw hk
                    refine skip_sound hdj hbw S (fun p hp => hops p (hmem1 p hp)) (fun p hp => hnt p (hmem1 p hp)) hin hb' (by simp) fun a' hS hdj' hst => ?_
                    exact tail a' w (hS st F pl S) hdj' (eval_bool (hS st F pl S) hk) (Ext.refl w) hst fun _ => hS
                  cases want with
                  | true =>
                    simp only [iteP_iff] at hch
                    cases b with
                    | true => exact run x True rfl rfl (by simpa using hch)
                    | false => exact skip (by simp) (by simpa using hch)
                  | false =>
                    simp only [iteP_iff] at hch
                    cases b with
                    | true => exact skip (by simp) (by simpa using hch)
                    | false => exact run y True rfl rfl (by simpa using hch)
              · exact h.elim
            · exact h.elim
          · exact h.elim
end
end Go.Abs
