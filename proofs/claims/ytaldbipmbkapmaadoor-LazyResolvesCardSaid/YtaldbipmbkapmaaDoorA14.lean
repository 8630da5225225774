/- LEMMAS: every operation that is no call. Conditions: none. -/
import Derived.Test.YtaldbipmbkapmaaDoorA15
namespace Go.Abs
set_option linter.unusedVariables false
set_option linter.unusedSimpArgs false
section
variable {K:Cfg} {β:Base K} {nt:Nat} {st:St K.U} {a:Act} {F:Nat→Prop} {pl:Rf→Pl} {w:World}
theorem resolve_builtin {P:Program} (ρ:Operand→Value) (b:Builtin) (args:Array Operand) (ts:Array TypeId) (ty:TypeId) (w:World):
  (resolve ρ { callee:=.builtin b,args:=args,argTypes:=ts } ty).run P w=
   .ok { target:=.builtin b ts ty (args.map fun|.const _=>true|_=>false),args:=args.map ρ } w:=rfl
theorem builtin_out (L:Laws K) (S:Sim K β nt st a F pl w) {o:Oper} (hd:∀d,o.dst=some d→d<nt) {slot:Option Nat} {b:Builtin} {ts:Array TypeId} {args:Array Operand} {r:Out K.U} {as:List (C K.U)}
  (ho:o.op=.call { callee:=.builtin b,args:=args,argTypes:=ts }) (he:evs (K.ev st.tmps) args.toList=some as)
  (h:K.builtin slot b ts.toList as st.loc st.H=some r) (hok:r.ok=true) (hW:r.wr.all okW=true):Done K β nt st a F o r w:=by
 have hv:=S.evs he
 have hargs:(args.map a.eval).toList=args.toList.map a.eval:=by simp
 have run:∀(s:Sem Value) (v:Value) (w':World),(∀cs,builtin b ts o.type cs (args.map a.eval)=(do pure (.value (←s))))→s.run K.P w=.ok v w'→(execOp a.eval o).run K.P w=.ok (.value v) w':=by
  intro s v w' h1 h2
  simp only [execOp,ho,Sem.run_bind,resolve_builtin,Result.andThen_ok,invoke,h1,h2,Sem.run_pure]
 unfold Cfg.builtin at h
 split at h
 ·rename_i t ts' x hts
  split at h
  ·rename_i i hi
   split at h
   ·rename_i ok n hl
    simp only [Option.some.injEq] at h; subst h
    simp only [RepCs] at hv
    obtain ⟨v,_,e,hx,rfl⟩:=hv
    have e':args.map a.eval=#[v]:=by apply Array.ext'; rw [hargs,e]
    have:=len_sound (ty:=o.type) (ts:=ts') L S.mem hi hl hok hx
    have e2:ts=(t :: ts').toArray:=by apply Array.ext'; simpa using hts
    refine S.done0 hd (run (Builtin.len_ ts o.type (args.map a.eval)) _ _ (fun _=>rfl) ?_) rfl (repC_int.2 rfl)
    rw [e',e2]; exact this
   ·cases h
  ·cases h
 ·rename_i t u x y hts
  split at h
  ·rename_i i hi
   split at h
   ·rename_i e hk _
    simp only [RepCs] at hv
    obtain ⟨v,_,e,hx,v2,_,rfl,hy,rfl⟩:=hv
    have e':args.map a.eval=#[v,v2]:=by apply Array.ext'; rw [hargs,e]
    have e2:ts=#[t,u]:=by apply Array.ext'; simpa using hts
    obtain ⟨val,w',k1,k2⟩:=append_sound (ty:=o.type) L S.mem (fun n o' ho'=>by
     have:=(List.getElem?_eq_some_iff.1 (show st.H[n]?=some o' from ho')).1; omega) h hok ⟨_,ti_slice L hi hk,by simp⟩ hx hy
    refine S.done1 hd (run (Builtin.append_ ts o.type (args.map a.eval)) _ _ (fun _=>rfl) (by rw [e',e2]; exact k1)) k2 (fun hm=>?_) hW
    simp [mild,ho] at hm
   ·rename_i k hk _
    simp only [RepCs] at hv
    obtain ⟨v,_,e,hx,v2,_,rfl,hy,rfl⟩:=hv
    have e':args.map a.eval=#[v,v2]:=by apply Array.ext'; rw [hargs,e]
    have e2:ts=#[t,u]:=by apply Array.ext'; simpa using hts
    obtain ⟨val,w',k1,k2⟩:=appZeros_sound (ty:=o.type) L S.mem (ti_int L hi hk) h hok hx hy
    refine S.done1 hd (run (Builtin.append_ ts o.type (args.map a.eval)) _ _ (fun _=>rfl) (by rw [e',e2]; exact k1)) k2 (fun hm=>?_) hW
    simp [mild,ho] at hm
   ·cases h
  ·cases h
 ·rename_i t ts' hts
  split at h
  ·rename_i i hi
   split at h
   ·rename_i e hk
    simp only [Option.some.injEq] at h; subst h
    simp only [RepCs] at hv
    obtain ⟨v,_,e,hx,rfl⟩:=hv
    rw [repC_nils] at hx; subst hx
    have e':args.map a.eval=#[.slice none 0 0]:=by apply Array.ext'; rw [hargs,e]
    have e2:ts=(t :: ts').toArray:=by apply Array.ext'; simpa using hts
    refine S.done0 hd (run (Builtin.cap_ ts o.type (args.map a.eval)) _ _ (fun _=>rfl) ?_) rfl (repC_int.2 rfl)
    rw [e',e2]
    simp [Builtin.cap_,run_underlying (ti_slice L hi hk),goInt]
   ·cases h
  ·cases h
 ·rename_i k n rest
  split at h
  ·rename_i l hl
   simp only [Option.some.injEq] at h; subst h
   simp only [RepCs] at hv
   obtain ⟨v,vs,e,hx,hvs⟩:=hv
   rw [repC_int] at hx; subst hx
   have:=ints_sound hl hvs
   subst this
   refine S.done0 hd (run (Builtin.max_ ts o.type (args.map a.eval)) _ _ (fun _=>rfl) ?_) rfl (repC_int.2 rfl)
   have e':(args.map a.eval).toList=.int k n :: l.map (.int k):=by rw [hargs,e]
   simp only [Builtin.max_,e']
   exact run_max k K.P l n
  ·cases h
 ·rename_i k n rest
  split at h
  ·rename_i l hl
   simp only [Option.some.injEq] at h; subst h
   simp only [RepCs] at hv
   obtain ⟨v,vs,e,hx,hvs⟩:=hv
   rw [repC_int] at hx; subst hx
   have:=ints_sound hl hvs
   subst this
   refine S.done0 hd (run (Builtin.min_ ts o.type (args.map a.eval)) _ _ (fun _=>rfl) ?_) rfl (repC_int.2 rfl)
   have e':(args.map a.eval).toList=.int k n :: l.map (.int k):=by rw [hargs,e]
   simp only [Builtin.min_,e']
   exact run_min k K.P l n
  ·cases h
 ·cases h
theorem newO_obs {slot:Option Nat} {r:Rf} (h:newO st.loc st.H slot=some r):st.obs r=none:=(newO_spec h).1
theorem repC_pure {F:Nat→Prop} {w:World} {ob ob':Obs K} {pl pl':Rf→Pl} {c:C K.U} {v:Value} (hc:c.pureC=true) (h:RepC F w ob pl c v):RepC F w ob' pl' c v:=by
 cases c with
 | d x=>simp only [RepC] at h ⊢; exact h
 | clip cd xs=>simp only [RepC] at h ⊢; exact h
 | agg cs=>
  simp only [RepC] at h ⊢
  obtain ⟨vs,rfl,h⟩:=h
  refine ⟨vs,rfl,?_⟩
  simp only [C.pureC] at hc
  induction cs generalizing vs with
  | nil=>simp only [RepCs] at h ⊢; exact h
  | cons x cs ih=>
   simp only [RepCs] at h ⊢
   simp only [List.all_cons,Bool.and_eq_true] at hc
   obtain ⟨v,rest,rfl,h1,h2⟩:=h
   refine ⟨v,rest,rfl,?_,ih hc.2 rest h2⟩
   have hx:=hc.1
   split at hx
   ·simp only [RepC] at h1 ⊢; exact h1
   ·simp only [RepC] at h1 ⊢; exact h1
   ·cases hx
 | _=>simp [C.pureC] at hc
theorem repP_pure {F:Nat→Prop} {w:World} {ob:Obs K} {pl:Rf→Pl}:∀{ps:List (Nat×C K.U)} {vs:List (Nat×Value)},RepP F w ob pl ps vs→ps.all (fun p=>p.2.pureC)=true→∀ob':Obs K,RepP F w ob' pl ps vs
 | [],vs,h,_,_=>h
 | (i,c) :: cs,vs,h,hp,ob'=>by
  simp only [RepP] at h ⊢
  simp only [List.all_cons,Bool.and_eq_true] at hp
  obtain ⟨v,rest,rfl,h1,h2⟩:=h
  exact ⟨v,rest,rfl,repC_pure hp.1 h1,repP_pure h2 hp.2 ob'⟩
theorem frozen_made (L:Laws K) {F:Nat→Prop} {w w':World} {pl:Rf→Pl} {v:C K.U} {wr:List (Rf×O K.U)} {val:Value} {s g:Nat} {c:K.U.Ty} {xs:List (K.U.El c)} (M:Mem K F w (obH []) pl) (D:Did1 K F w (fun _=>none) [] pl v wr val w')
  (hwr:wr=[(.l s,.arr g (.pure c) xs)]) (hv:v=.asl (.l s) g none false):∃F2:Nat→Prop,Ext w w'∧(∀b,F b→F2 b)∧(∀b,F2 b→F b∨w.heap.size≤b)∧(∀b,F2 b→b<w'.heap.size)∧RepD K F2 w' (.sl c xs) val:=by
 obtain ⟨ref,x,p,e,hg,U,R,hc,hb⟩:=D.ex
 rw [hwr] at e
 simp only [List.cons.injEq,Prod.mk.injEq,and_true] at e
 obtain ⟨rfl,rfl⟩:=e
 subst hv
 have E:Ext w w':=U.ext rfl
 have M1:Mem K F w' (setOb (getO (fun _=>none) []) (.l s) (.arr g (.pure c) xs)) (setPl pl (.l s) p):=U.mem M R hb
 have e0:getO (apL (fun _=>none) [(.l s,.arr g (.pure c) xs)]) ([]:List (O K.U))=setOb (getO (fun _=>none) []) (.l s) (.arr g (.pure c) xs):=getO_ap1 (H:=[]) (loc:=fun _=>none) hg
 have hget:getO (apL (fun _=>none) [(.l s,(.arr g (.pure c) xs:O K.U))]) ([]:List (O K.U)) (.l s)=some (.arr g (.pure c) xs):=by rw [e0]; exact setOb_same _ _ _
 have hnow:K.now (apL (fun _=>none) [(.l s,.arr g (.pure c) xs)]) [] (.l s) g none=some (andB (g == g) (subOk none (lenL xs)),.sl c (subBy none xs),.fro g c xs):=by
  unfold Cfg.now; rw [hget]
 rw [←e0] at M1 hc
 obtain ⟨W,V⟩:=now_sound M1 hnow (by simp [andB,subOk]) hc
 have f1:Fr K (.of w F [] pl) F w' (getO (apL (fun _=>none) [(.l s,.arr g (.pure c) xs)]) []) (setPl pl (.l s) p):=by
  rw [e0]
  exact (U.fr ⟨rfl,rfl,rfl,Nat.le_refl _,fun _ _ _=>rfl,fun _ h=>h,fun _ h=>.inl h,fun r o h ho=>(by have h:obH [] r=some o:=h; rw [obH_nil] at h; cases h),fun n o h=>(by have h:([]:List (O K.U))[n]?=some o:=h; simp at h)⟩)
 obtain ⟨F2,M2,f2,G2,_,R2,_⟩:=frz_apply L W M1 f1 (by intro n o h; simp at h)
 refine ⟨F2,E,G2.hF,fun b hb=>?_,M2.frozen,?_⟩
 ·rcases f2.Fnew b hb with h|h|⟨n,o,h,_⟩
  ·exact .inl h
  ·exact .inr h
  ·cases h
 ·have:=V F2 _ _ (R2 (.l s,.fro g c xs) (List.mem_singleton.2 rfl)) (obH []) pl
  simp only [RepC] at this
  exact this
theorem buildSlice_val {loc:Loc K.U} {H:List (O K.U)} {t:TypeId} {n s g:Nat} {ps:List (Nat×C K.U)} {r:Out K.U} {c:K.U.Ty} {xs:List (K.U.El c)} {q:Nat} (h:K.buildSlice loc H (some q) t n ps=some r) (hw:r.wr=[(.l s,.arr g (.pure c) xs)]):r.v=.asl (.l s) g none false:=by
  unfold Cfg.buildSlice at h
  repeat' split at h
  all_goals first
    | (simp only [Option.some.injEq] at h
       subst h
       simp only [List.cons.injEq,Prod.mk.injEq,and_true] at hw
       obtain ⟨rfl,h2⟩:=hw
       injection h2 with h3
       rw [←h3])
    | cases h
theorem pickC_t {U:Univ} (a b:C U):pickC true a b=some a:=by
 unfold pickC; split <;> rfl
theorem pickC_f {U:Univ} (a b:C U):pickC false a b=some b:=by
 unfold pickC; split <;> rfl
theorem aop_out (L:Laws K) (S:Sim K β nt st a F pl w) {an:OpAnn K.U} {o:Oper} {r:Out K.U} (h:K.aop an o (K.ev st.tmps) st.loc st.H=some (.out r)) (hok:r.ok=true) (hd:∀d,o.dst=some d→d<nt) (hW:r.wr.all okW=true):
  Done K β nt st a F o r w:=by
 unfold Cfg.aop Cfg.aopAt at h
 generalize (if an.glob then none else match an.slot with|some s=>some s|none=>o.dst:Option Nat)=slot at h
 split at h
 ·-- move
  rename_i x ho
  split at h
  ·rename_i v hv
   exact ownOut_sound S hd h (by simp only [execOp,ho,Sem.run_pure]) (S.ev hv) hW
  ·cases h
 ·rename_i x ho
  split at h
  ·rename_i v hv
   exact ownOut_sound S hd h (by simp only [execOp,ho,Sem.run_pure]) (S.ev hv) hW
  ·cases h
 ·-- pick
  rename_i c x y ho
  split at h
  ·rename_i c' x' y' hc hx hy
   split at h
   ·rename_i v hv
    have:=outV_out h
    subst this
    have h1:=S.ev hc
    have h2:=S.ev hx
    have h3:=S.ev hy
    rw [repC_bool] at h1
    cases c' <;> simp only [pickC_t,pickC_f,Option.some.injEq] at hv <;> subst hv
    ·refine S.done0 hd (v:=a.eval y) ?_ rfl h3
     simp only [execOp,ho,Sem.run_bind,h1,asBool,Sem.run_pure,Result.andThen_ok,Bool.false_eq_true,if_false]
    ·refine S.done0 hd (v:=a.eval x) ?_ rfl h2
     simp only [execOp,ho,Sem.run_bind,h1,asBool,Sem.run_pure,Result.andThen_ok,if_true]
   ·cases h
  ·cases h
 ·-- alloc
  rename_i t ho
  split at h
  ·rename_i i hi
   split at h
   ·rename_i hw
    split at h
    ·rename_i ref hnew
     simp only [Option.some.injEq,Step.out.injEq] at h; subst h
     obtain ⟨hk,_⟩:=whole_spec hw
     obtain ⟨k1,k2⟩:=newO_spec hnew
     obtain ⟨z,j,g1,g2,g3,g4,g5,g6,g7,_⟩:=zero_sound (F:=F) (w:=w) (pl:=pl) L hi hk (getO st.loc st.H)
     obtain ⟨U,R⟩:=new_cells S.mem k1 t (coL_sound (os:=an.co) g5) g6
     refine S.done1 hd (v:=.pointer (some ⟨w.heap.size,0,none⟩)) (w':=w.alloc (.cells z.cells t)) ?_ ⟨ref,_,_,rfl,k2,U,R,?_,trivial⟩ (fun _ x hx=>?_) hW
     ·simp only [execOp,ho,Sem.run_bind,Instr.alloc,run_zeroValue g1 g2,Result.andThen_ok,newVar,newRow,run_newObj,Sem.run_pure]
      rfl
     ·simp only [RepC,setPl_same]
      exact ⟨⟨_,setOb_same _ _ _⟩,trivial⟩
     ·simp only [List.mem_singleton] at hx; subst hx; exact newO_obs hnew
    ·cases h
   ·cases h
  ·cases h
 ·-- box
  rename_i t x ho
  split at h
  ·rename_i v hv
   split at h
   ·rename_i h1
    split at h
    ·rename_i ref hnew
     simp only [Option.some.injEq,Step.out.injEq] at h; subst h
     obtain ⟨k1,k2⟩:=newO_spec hnew
     obtain ⟨c1,c2⟩:=(S.ev hv).cells h1
     obtain ⟨U,R⟩:=new_cells S.mem k1 t c1 c2
     refine S.done1 hd (v:=.pointer (some ⟨w.heap.size,0,none⟩)) (w':=w.alloc (.cells (a.eval x).cells t)) ?_ ⟨ref,_,_,rfl,k2,U,R,?_,trivial⟩ (fun _ x hx=>?_) hW
     ·simp only [execOp,ho,Sem.run_bind,Instr.box,newVar,newRow,run_newObj,Result.andThen_ok,Sem.run_pure]
      rfl
     ·simp only [RepC,setPl_same]
      exact ⟨⟨_,setOb_same _ _ _⟩,trivial⟩
     ·simp only [List.mem_singleton] at hx; subst hx; exact newO_obs hnew
    ·cases h
   ·cases h
  ·cases h
 ·-- build
  rename_i t parts ho
  split at h
  ·rename_i ps hps
   split at h
   ·rename_i v hv
    obtain ⟨u,k1,k2⟩:=build_sound (w:=w) L (vps:=parts.map fun (i,x)=>(i,a.eval x)) hv (by simpa using S.evsN hps)
    exact ownOut_sound S hd h (by simp only [execOp,ho,Sem.run_bind,k1,Result.andThen_ok,Sem.run_pure]) (coV_sound k2) hW
   ·cases h
  ·cases h
 ·-- buildSlice
  rename_i t n parts ho
  split at h
  ·rename_i ps hps
   have h:=stepOut_out h
   cases hfz:an.frz with
   | false=>
    rw [hfz] at h
    replace h:K.buildSlice st.loc st.H slot t n ps=some r:=h
    obtain ⟨val,w',k1,k2⟩:=buildSlice_sound L S.mem (vps:=parts.map fun (i,x)=>(i,a.eval x)) h (by have:=S.evsN hps; simpa [St.obs] using this)
    refine S.done1 hd (by simp only [execOp,ho,Sem.run_bind,k1,Result.andThen_ok,Sem.run_pure]) k2 (fun _ x hx=>?_) hW
    unfold Cfg.buildSlice at h
    repeat' split at h
    all_goals first|cases h|skip
    rename_i hnew
    simp only [List.mem_singleton] at hx; subst hx; exact newO_obs hnew
   | true=>
    rw [hfz] at h
    replace h:K.buildSliceX true st.loc st.H slot t n ps=some r:=h
    unfold Cfg.buildSliceX at h
    simp only at h
    split at h
    ·rename_i hpure
     split at h
     ·rename_i r0 hr0
      split at h
      ·rename_i s g c xs hwr
       simp only [Option.some.injEq] at h; subst h
       have hp:=S.evsN hps
       have hp':RepP F w (obH []) pl ps (parts.map fun (i,x)=>(i,a.eval x)).toList:=by
        have:=repP_pure hp hpure (obH [])
        simpa using this
       obtain ⟨val,w',k1,k2⟩:=buildSlice_sound (loc:=fun _=>none) (H:=[]) L S.mem.noObs hr0 hp'
       obtain ⟨F2,E,g1,g2,g3,g4⟩:=frozen_made L S.mem.noObs k2 hwr (buildSlice_val hr0 hwr)
       refine ⟨val,w',F2,pl,.inl (by simp only [execOp,ho,Sem.run_bind,k1,Result.andThen_ok,Sem.run_pure]),?_,fun _=>E⟩
       have M2:=(S.mem.ext E).growF (N:=w.heap.size) g1 g2 g3 fun r o h ho=>(S.mem.free r o h ho).2
       have f2:=(S.fr.ext E).growF g1 fun b hb=>(g2 b hb).imp id fun h=>Nat.le_trans S.fr.size h
       exact (S.goes ((Goes.ext S.mem E).trans (Goes.growF g1)) M2 f2 S.hok).put hd (by simp only [RepC]; exact g4)
      ·cases h
     ·cases h
    ·cases h
  ·cases h
 ·-- load
  rename_i t x ho
  split at h
  ·rename_i c hc
   have h:=stepOut_out h
   obtain ⟨b,off,u,k1,k2,k3,k4⟩:=S.mem.load L (S.ev hc) h hok
   refine S.done0 hd (v:=u) ?_ k4 k3
   simp only [execOp,ho,Sem.run_bind,k1,Instr.loadAt,Instr.sureAddr,Sem.run_pure,Result.andThen_ok,k2]
  ·cases h
 ·-- store
  rename_i t x y ho
  split at h
  ·rename_i c d hc hd'
   have h:=stepOut_out h
   cases hfz:an.frz with
   | false=>
    rw [hfz] at h
    obtain ⟨w',ref,o',k1,k2,k3,k4,k5,k6,k7⟩:=S.mem.store L (S.ev hc) (S.ev hd') h hok
    exact S.doneU hd (by simp only [execOp,ho,Sem.run_bind,k1,Result.andThen_ok,Sem.run_pure]) k2 k3 k4 k5 k6 k7 (by simp [mild,ho]) hW
   | true=>
    rw [hfz] at h
    have h:K.storeFrz st.loc st.H t c d=some r:=h
    unfold Cfg.storeFrz at h
    split at h
    ·rename_i s gen sub cl _ _
     split at h
     ·rename_i ok dd oo hnow
      split at h
      ·rename_i r1 hr1
       simp only [Option.some.injEq] at h
       subst h
       simp only [andB_true] at hok
       obtain ⟨W,V⟩:=now_sound S.mem hnow hok.1 (S.ev hd')
       obtain ⟨F1,M1,f1,G1,hk1,R1,_⟩:=frz_apply L W S.mem S.fr S.hok
       have S1:Sim K β nt ⟨st.tmps,apL st.loc [(.l s,oo)],st.H⟩ a F1 pl w:=
        ⟨S.size,S.defers,fun b o h=>⟨G1.hF _ (S.pins b o h).1,(G1.hw _ (S.pins b o h).1).trans (S.pins b o h).2⟩,fun q=>(S.ghosts q).mono G1.hF G1.hw G1.ho,fun q=>(S.tmps q).mono G1.hF G1.hw G1.ho,M1,f1,hk1⟩
       have hv:=V F1 _ _ (R1 (.l s,oo) (by simp)) (getO (apL st.loc [(.l s,oo)]) st.H) pl
       have hW1:r1.wr.all okW=true:=by simp only [List.all_cons,Bool.and_eq_true] at hW; exact hW.2
       obtain ⟨w',ref,o',k1,k2,k3,k4,k5,k6,k7⟩:=S1.mem.store L (S1.ev (x:=x) hc) hv hr1 hok.2
       obtain ⟨v',w2,F2,pl2,j1,j2,_⟩:=S1.doneU (r:=r1) hd (by simp only [execOp,ho,Sem.run_bind,k1,Result.andThen_ok,Sem.run_pure]) k2 k3 k4 k5 k6 k7 (by simp [mild,ho]) hW1
       refine ⟨v',w2,F2,pl2,j1,?_,fun hm=>by simp [mild,ho] at hm⟩
       show Sim K β nt ⟨put st.tmps o.dst r1.v,apL st.loc ((.l s,oo) :: r1.wr),apH st.H ((.l s,oo) :: r1.wr)⟩ _ F2 pl2 w2
       rw [apL_cons,apH_cons]
       exact j2
      ·cases h
     ·cases h
    ·cases h
  ·cases h
 ·-- nilCheck
  rename_i x ho
  have run:∀v,a.eval x=v→(∀p,v=.pointer p→p.isSome)→v ≠ .nilIface→v ≠ .nilFunc→(∀n f c,v ≠ .func (.method n) f c)→(execOp a.eval o).run K.P w=.ok (.value v) w:=by
   intro v e h1 h2 h3 h4
   simp only [execOp,ho,e]
   split
   ·exact absurd (h1 _ rfl) (by simp)
   ·exact absurd rfl h2
   ·exact absurd rfl h3
   ·exact absurd rfl (h4 _ _ _)
   ·rfl
  split at h
  ·rename_i hx
   have:=outV_out h; subst this
   have hr:=S.ev hx
   refine S.done0 hd (run _ rfl ?_ ?_ ?_ ?_) rfl hr <;> (simp only [RepC] at hr; obtain ⟨_,e⟩:=hr; simp [e])
  ·rename_i hx
   have:=outV_out h; subst this
   have hr:=S.ev hx
   refine S.done0 hd (run _ rfl ?_ ?_ ?_ ?_) rfl hr <;> (simp only [RepC] at hr; obtain ⟨_,_,e,_⟩:=hr; simp [e])
  ·rename_i hx
   have:=outV_out h; subst this
   have hr:=S.ev hx
   refine S.done0 hd (run _ rfl ?_ ?_ ?_ ?_) rfl hr <;> (simp only [RepC] at hr; obtain ⟨⟨_,e⟩,_⟩:=hr; simp [e])
  ·rename_i q hx
   have:=outV_out h; subst this
   have hr:=S.ev hx
   cases q with
   | none=>cases hok
   | some n=>
    simp only [RepC] at hr
    obtain ⟨k1,k2⟩:=hr
    refine S.done0 hd (run _ rfl ?_ ?_ ?_ ?_) rfl ?_ <;> simp only [k2]
    ·simp
    ·simp
    ·simp
    ·simp
    ·simp only [RepC,getO',Option.getD_some]
     exact ⟨k1,trivial⟩
  ·rename_i hx
   have:=outV_out h; subst this
   have hr:=S.ev hx
   refine S.done0 hd (run _ rfl ?_ ?_ ?_ ?_) rfl hr <;> (simp only [RepC] at hr; obtain ⟨_,_,e,_⟩:=hr; simp [e])
  ·rename_i hx
   have:=outV_out h; subst this
   have hr:=S.ev hx
   refine S.done0 hd (run _ rfl ?_ ?_ ?_ ?_) rfl hr <;> (simp only [RepC] at hr; obtain ⟨_,_,e,_⟩:=hr; simp [e])
  ·cases h
 ·-- binOp
  rename_i op t x y ty ho
  split at h
  ·rename_i c d hc hd'
   split at h
   ·rename_i ok v hv
    have:=outV_out h; subst this
    obtain ⟨z,k1,k2⟩:=binOp_sound (X:=x) (Y:=y) (w:=w) L hv hok (S.ev hc) (S.ev hd')
    exact S.done0 hd (by simp only [execOp,ho]; rw [Sem.run_bind,k1]; rfl) rfl k2
   ·cases h
  ·cases h
 ·-- unOp
  rename_i op t x ho
  split at h
  ·rename_i c hc
   split at h
   ·rename_i v hv
    have:=outV_out h; subst this
    obtain ⟨z,k1,k2⟩:=unOp_sound (w:=w) hv (S.ev hc) K.P
    exact S.done0 hd (by simp only [execOp,ho,Sem.run_bind,k1,Result.andThen_ok,Sem.run_pure]) rfl k2
   ·cases h
  ·cases h
 ·-- convert
  rename_i s t x ho
  split at h
  ·rename_i c hc
   split at h
   ·rename_i v hv
    have:=outV_out h; subst this
    obtain ⟨z,k1,k2⟩:=convert_sound (w:=w) L hv (S.ev hc)
    exact S.done0 hd (by simp only [execOp,ho,Sem.run_bind,k1,Result.andThen_ok,Sem.run_pure]) rfl k2
   ·cases h
  ·cases h
 ·-- makeFunc
  rename_i g first caps ho
  split at h
  ·rename_i c d hc hd'
   have:=outV_out h; subst this
   refine S.done0 hd (v:=.func (.func g) (first.map a.eval) (caps.map a.eval)) (by simp only [execOp,ho,Sem.run_bind,Instr.makeFunc,Result.andThen_ok,Sem.run_pure]) rfl ?_
   simp only [RepC]
   exact ⟨_,_,by simp only [Value.func.injEq,true_and]; constructor <;> (apply Array.ext'; simp),S.evs hc,S.evs hd'⟩
  ·cases h
 ·-- makeInterface
  rename_i t x ho
  split at h
  ·rename_i v hv
   split at h
   ·rename_i hc
    have:=outV_out h; subst this
    refine S.done0 hd (v:=.iface t (a.eval x)) (by simp only [execOp,ho,Sem.run_bind,run_makeInterface w t _ hc,Result.andThen_ok,Sem.run_pure]) rfl ?_
    simp only [RepC]
    exact ⟨_,rfl,S.ev hv⟩
   ·cases h
  ·cases h
 ·-- makeMap
  rename_i t ho
  split at h
  ·rename_i ti hti
   split at h
   ·rename_i kt e hk
    split at h
    ·rename_i i j ref hi hj hnew
     simp only [Option.some.injEq,Step.out.injEq] at h; subst h
     obtain ⟨k1,k2⟩:=newO_spec hnew
     have U:Upd K F w (getO st.loc st.H) pl ref (.map (i.agg,j.agg) (K.kc t) (K.vc e) []) ⟨w.heap.size,0⟩ (w.alloc (.map #[] 0)):=.alloc _ k1 rfl
     refine S.done1 hd (v:=.map (some w.heap.size)) (w':=w.alloc (.map #[] 0)) ?_ ⟨ref,_,_,rfl,k2,U,⟨#[],0,heap_alloc_new w _,rfl,by simp⟩,?_,trivial⟩ (fun _ x hx=>?_) hW
     ·simp only [execOp,ho,Option.map_none,Sem.run_bind,Instr.makeMap,run_newObj,Result.andThen_ok,Sem.run_pure]
      rfl
     ·simp only [RepC,setPl_same]
      exact ⟨⟨_,_,_,_,setOb_same _ _ _⟩,trivial⟩
     ·simp only [List.mem_singleton] at hx; subst hx; exact newO_obs hnew
    ·cases h
   ·cases h
  ·cases h
 ·-- makeSlice
  rename_i t x y ho
  split at h
  ·rename_i c d hc hd'
   have h:=stepOut_out h
   split at h
   ·obtain ⟨v,q,hwr,go⟩:=makeRows_sound L S.mem h hok (S.ev hc) (S.ev hd')
    have hn:getO st.loc st.H (.g st.H.length)=none:=by simp [getO]
    obtain ⟨U1,R1⟩:=new_empty (F:=F) (w:=w) (pl:=pl) hn v
    have hle:∀n,(Rf.g st.H.length)=.g n→n≤st.H.length:=fun n e=>by injection e with e; omega
    have M1:=U1.mem S.mem R1 (bnd_nil v)
    have f1:=U1.fr S.fr
    have G1:=U1.goesAll S.mem
    rw [←getO_ap1 hle] at M1 f1 G1
    have eH:apH st.H [(.g st.H.length,.arr 0 v [])]=st.H ++ [.arr 0 v (nilL _)]:=by simp only [apH,Nat.beq_refl]; rfl
    have eL:apL st.loc [(.g st.H.length,(.arr 0 v []:O K.U))]=st.loc:=rfl
    rw [eH,eL] at M1 f1 G1
    have hW':=hW
    rw [hwr] at hW'
    simp only [List.all_cons,List.all_nil,Bool.and_true,Bool.and_eq_true] at hW'
    have S1:=S.goes (loc':=st.loc) (H':=st.H ++ [O.arr 0 v (nilL v.El)]) G1 M1 f1 (by
     have:=S.hok.ap1 hW'.1 hle
     rw [eH] at this; exact this)
    obtain ⟨val,w',k1,k2⟩:=go M1
    have D:=S1.done1 hd (o:=o) (r:={ ok:=true,v:=r.v,wr:=[(.g (st.H.length+1),q)] }) (by simp only [execOp,ho,Sem.run_bind,k1,Result.andThen_ok,Sem.run_pure]) k2 (fun _ x hx=>by
     simp only [List.mem_singleton] at hx; subst hx
     simp [St.obs,getO]) (by simpa using hW'.2)
    unfold Done at D ⊢
    obtain ⟨v1,w1,F1,pl1,d1,d2,d3⟩:=D
    refine ⟨v1,w1,F1,pl1,d1,?_,fun hm=>?_⟩
    ·have e1:apL st.loc r.wr=apL st.loc [(.g (st.H.length+1),q)]:=by rw [hwr]; rfl
     have e2:apH st.H r.wr=apH (st.H ++ [.arr 0 v (nilL _)]) [(.g (st.H.length+1),q)]:=by
      rw [hwr]
      show apH (apH st.H [(.g st.H.length,.arr 0 v [])]) _=_
      rw [eH]
     rw [e1,e2]; exact d2
    ·rw [hwr] at hm; simp [Rf.isL] at hm
   obtain ⟨val,w',k1,k2⟩:=makeSlice_sound L S.mem h hok (S.ev hc) (S.ev hd')
   refine S.done1 hd (by simp only [execOp,ho,Sem.run_bind,k1,Result.andThen_ok,Sem.run_pure]) k2 (fun _ x hx=>?_) hW
   unfold Cfg.makeSlice at h
   repeat' split at h
   all_goals first|cases h|skip
   rename_i hnew
   simp only [List.mem_singleton] at hx; subst hx; exact newO_obs hnew
  ·cases h
 ·-- slice
  rename_i t x lo hi mx ho
  split at h
  ·rename_i c l h' m hc hl hh hm
   split at h
   ·rename_i ok v hv
    have:=outV_out h; subst this
    obtain ⟨u,k1,k2⟩:=slice_sound L S.mem hv hok (S.ev hc) (S.evO hl) (S.evO hh) (S.evO hm)
    exact S.done0 hd (by simp only [execOp,ho,Sem.run_bind,k1,Result.andThen_ok,Sem.run_pure]) rfl k2
   ·cases h
  ·cases h
 ·-- fieldAddr
  rename_i s x i ho
  split at h
  ·rename_i c hc
   split at h
   ·rename_i v hv
    have:=outV_out h; subst this
    obtain ⟨u,k1,k2⟩:=fieldAddr_sound (w:=w) L hv (S.ev hc)
    exact S.done0 hd (by simp only [execOp,ho,Sem.run_bind,k1,Result.andThen_ok,Sem.run_pure]) rfl k2
   ·cases h
  ·cases h
 ·-- field
  rename_i t x i ho
  split at h
  ·rename_i cs ti hx hti
   split at h
   ·rename_i fs hk
    split at h
    ·rename_i ft off hn
     split at h
     ·rename_i j hj
      split at h
      ·rename_i v hv
       have:=outV_out h; subst this
       obtain ⟨u,k1,k2⟩:=field_sound (w:=w) L hti hk hn hj hv (S.ev hx)
       exact S.done0 hd (by simp only [execOp,ho,Sem.run_bind,k1,Result.andThen_ok,Sem.run_pure]) rfl k2
      ·cases h
     ·cases h
    ·cases h
   ·cases h
  ·cases h
 ·-- indexAddr
  rename_i t x i ho
  split at h
  ·rename_i c k n hc hi
   split at h
   ·rename_i ok v hv
    have:=outV_out h; subst this
    have hn:=S.ev hi
    rw [repC_int] at hn
    obtain ⟨u,k1,k2⟩:=indexAddr_sound (k:=k) L S.mem hv hok (S.ev hc)
    exact S.done0 hd (by simp only [execOp,ho,Sem.run_bind,hn,k1,Result.andThen_ok,Sem.run_pure]) rfl k2
   ·cases h
  ·cases h
 ·-- index
  rename_i t x i ho
  split at h
  ·rename_i s k n ti hx hi hti
   split at h
   ·rename_i hk
    have:=outV_out h; subst this
    have hs:=S.ev hx
    have hn:=S.ev hi
    have hs:=(repC_str.1 hs).1
    rw [repC_int] at hn
    have k1:=index_sound (w:=w) (k:=k) L hti hk hok
    exact S.done0 hd (by simp only [execOp,ho,Sem.run_bind,hs,hn,k1,Result.andThen_ok,Sem.run_pure]) rfl (repC_int.2 rfl)
   ·cases h
  ·cases h
 ·-- lookup
  rename_i t m k ok ho
  split at h
  ·rename_i c d hc hd'
   have h:=stepOut_out h
   obtain ⟨u,k1,k2,k3⟩:=lookup_sound L S.mem h (S.ev hc) (S.ev hd')
   exact S.done0 hd (by simp only [execOp,ho,Sem.run_bind,k1,Result.andThen_ok,Sem.run_pure]) k3 k2
  ·cases h
 ·-- mapUpdate
  rename_i t m k x ho
  split at h
  ·rename_i c d e hc hd' he
   have h:=stepOut_out h
   obtain ⟨w',ref,y,k1,k2,k3,k4,k5,k6,k7⟩:=mapUpdate_sound L S.mem h (S.ev hc) (S.ev hd') (S.ev he)
   exact S.doneU hd (by simp only [execOp,ho,Sem.run_bind,k1,Result.andThen_ok,Sem.run_pure]) k2 k3 k4 k5 k6 k7 (by simp [mild,ho]) hW
  ·cases h
 ·rename_i t m k x ho
  split at h
  ·rename_i c d e hc hd' he
   have h:=stepOut_out h
   obtain ⟨w',ref,y,k1,k2,k3,k4,k5,k6,k7⟩:=mapUpdate_sound L S.mem h (S.ev hc) (S.ev hd') (S.ev he)
   exact S.doneU hd (by simp only [execOp,ho,Sem.run_bind,k1,Result.andThen_ok,Sem.run_pure]) k2 k3 k4 k5 k6 k7 (by simp [mild,ho]) hW
  ·cases h
 ·-- mapEntry
  rename_i t m k ho
  split at h
  ·rename_i c d hc hd'
   have h:=stepOut_out h
   obtain ⟨w',ref,y,u,k1,k2,k3,k4,k5,k6,k7⟩:=mapEntry_sound L S.mem h (S.ev hc) (S.ev hd')
   refine S.done1 hd (v:=u) (by simp only [execOp,ho,Sem.run_bind,k1,Result.andThen_ok,Sem.run_pure]) ⟨ref,y,pl ref,k2,fun n hn=>?_,k4,k5,k7,k6⟩ (fun hm=>by simp [mild,ho] at hm) hW
   subst hn
   obtain ⟨o1,ho1⟩:=k3
   have:=(List.getElem?_eq_some_iff.1 (show st.H[n]?=some o1 from ho1)).1
   omega
  ·cases h
 ·-- entryStore
  rename_i t m s x ho
  split at h
  ·rename_i c d e hc hd' he
   have h:=stepOut_out h
   obtain ⟨w',ref,y,k1,k2,k3,k4,k5,k6,k7⟩:=entryStore_sound L S.mem h hok (S.ev hc) (S.ev hd') (S.ev he)
   exact S.doneU hd (by simp only [execOp,ho,Sem.run_bind,k1,Result.andThen_ok,Sem.run_pure]) k2 k3 k4 k5 k6 k7 (by simp [mild,ho]) hW
  ·cases h
 ·-- extract
  rename_i x i ho
  split at h
  ·rename_i vs hx
   split at h
   ·rename_i v hv
    have:=outV_out h; subst this
    have hr:=S.ev hx
    simp only [RepC] at hr
    obtain ⟨us,e,hr⟩:=hr
    obtain ⟨u,k1,k2⟩:=hr.get hv
    refine S.done0 hd (v:=u) ?_ rfl k2
    have e1:(us.toArray)[i]?=some u:=by simpa using k1
    simp only [execOp,ho,Sem.run_bind,e,Instr.extract,e1,Sem.run_pure,Result.andThen_ok]
   ·cases h
  ·cases h
 ·-- call
  rename_i c ho
  split at h
  ·rename_i args hargs
   split at h
   ·rename_i b hb
    have h:=stepOut_out h
    obtain ⟨callee,as,ts⟩:=c
    simp only at hb hargs
    subst hb
    exact builtin_out L S hd ho hargs h hok hW
   ·cases h
   ·repeat' split at h
    all_goals cases h
   ·repeat' split at h
    all_goals cases h
  ·cases h
 ·cases h
end
end Go.Abs
