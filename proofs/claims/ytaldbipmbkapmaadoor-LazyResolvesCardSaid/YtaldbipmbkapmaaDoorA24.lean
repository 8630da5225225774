/- LEMMAS: **the walk is true of the program.** Conditions: none. -/
import Derived.Test.YtaldbipmbkapmaaDoorA39
namespace Go.Abs
set_option linter.unusedVariables false
set_option linter.unusedSimpArgs false
section
variable {K:Cfg} {Rs:Res K}
theorem Sim.drewN {β:Base K} {nt:Nat} {st:St K.U} {a:Act} {F:Nat→Prop} {pl:Rf→Pl} {w:World} (S:Sim K β nt st a F pl w):Sim K β nt st a F pl { w with drawn:=w.drawn+1 }:=
 S.ext ⟨rfl,rfl,rfl,Nat.le_refl _,fun _ _=>rfl⟩
theorem zip_range {α:Type} (l:List α):((List.range l.length).zip l).map (·.1)=List.range l.length:=by
 rw [List.map_fst_zip]; simp
theorem mem_zip_range {ops:Array Oper} {p:Nat×Oper} (h:p∈(List.range ops.size).zip ops.toList):ops[p.1]?=some p.2:=by
 obtain ⟨n,hn,e⟩:=List.getElem_of_mem h
 have h1:((List.range ops.size).zip ops.toList)[n]?=some p:=by rw [←e]; exact List.getElem?_eq_getElem hn
 rw [List.getElem?_zip_eq_some] at h1
 obtain ⟨h2,h3⟩:=h1
 have:=List.getElem?_eq_some_iff.1 h2
 simp only [List.length_range,List.getElem_range] at this
 obtain ⟨_,e⟩:=this
 rw [←e]
 simpa using h3
theorem Sim.trunc {β:Base K} {nt:Nat} {st:St K.U} {a:Act} {F:Nat→Prop} {pl:Rf→Pl} {w:World} (S:Sim K β nt st a F pl w) {s g n:Nat} {v:Vc K.U} {xs:List v.El} (hs:st.loc s=some (.arr g v xs)) (hn:n≤xs.length):
  ∃p,Sim K β nt ⟨st.tmps,apL st.loc [(.l s,.arr (g+1) v (xs.take n))],st.H⟩ a F (setPl pl (.l s) p) w∧((pl (.l s)).cap ≠ 0→p=pl (.l s))∧p.cap=(pl (.l s)).cap:=by
 have hr:st.obs (.l s)=some (.arr g v xs):=hs
 have hb:=S.mem.bnd _ _ hr
 have hbx:K.bnd (.arr (g+1) v (xs.take n)):=by
  have hle:(xs.take n).length≤xs.length:=by simp; omega
  cases v with
  | pure c=>exact Nat.le_trans (Nat.mul_le_mul_right _ hle) hb
  | ptr=>trivial
  | raw k=>trivial
  | row=>trivial
 rcases S.mem.rep _ _ hr with ⟨h0,hx⟩|⟨vs,e,hbk,hvl,hxl,h1,hin⟩
 ·have U:Upd K F w st.obs pl (.l s) (.arr (g+1) v (xs.take n)) ⟨w.heap.size,0⟩ w:=
   ⟨fun o h=>by rw [hr] at h; cases h; exact .arr rfl rfl (Nat.le_succ _) fun e=>absurd e (by omega),rfl,rfl,rfl,Nat.le_refl _,fun _ _ _=>rfl,.inl ⟨rfl,fun h=>absurd rfl h⟩⟩
  exact ⟨_,S.upd U (.inl ⟨rfl,by rw [hx]; simp⟩) (fun n e=>by cases e) rfl hbx,fun h=>absurd h0 h,h0.symm⟩
 ·by_cases h0:(pl (.l s)).cap=0
  ·have hx:xs=[]:=List.eq_nil_of_length_eq_zero (by omega)
   have U:Upd K F w st.obs pl (.l s) (.arr (g+1) v (xs.take n)) ⟨w.heap.size,0⟩ w:=
    ⟨fun o h=>by rw [hr] at h; cases h; exact .arr rfl rfl (Nat.le_succ _) fun e=>absurd e (by omega),rfl,rfl,rfl,Nat.le_refl _,fun _ _ _=>rfl,.inl ⟨rfl,fun h=>absurd rfl h⟩⟩
   exact ⟨_,S.upd U (.inl ⟨rfl,by rw [hx]; simp⟩) (fun n e=>by cases e) rfl hbx,fun h=>absurd h0 h,h0.symm⟩
  ·have U:Upd K F w st.obs pl (.l s) (.arr (g+1) v (xs.take n)) (pl (.l s)) w:=
    ⟨fun o h=>by rw [hr] at h; cases h; exact .arr rfl rfl (Nat.le_succ _) fun e=>absurd e (by omega),rfl,rfl,rfl,Nat.le_refl _,fun _ _ _=>rfl,.inr ⟨_,hr,h0,rfl⟩⟩
   refine ⟨_,S.upd U (.inr ⟨vs,e,hbk,hvl,by simp; omega,h1,fun i x hi=>?_⟩) (fun n e=>by cases e) rfl hbx,fun _=>rfl,rfl⟩
   have hi':xs[i]?=some x:=by
    rw [List.getElem?_take] at hi
    split at hi
    ·exact hi
    ·cases hi
   exact U.repCs S.mem (hin i x hi')
theorem trim1_sound (L:Laws K) {β:Base K} {nt:Nat} {st:St K.U} {a:Act} {F:Nat→Prop} {pl:Rf→Pl} {w:World} (S:Sim K β nt st a F pl w) {t m:Nat} (h:(st.trim1 t m).1=true):
  ∃F' pl',Sim K β nt (st.trim1 t m).2 a F' pl' w:=by
 unfold St.trim1 at h ⊢
 split
 ·split
  ·rename_i ok y wr hfr
   simp only [hfr] at h
   obtain ⟨W,V⟩:=frz_sound S.mem hfr h (S.tmps t)
   obtain ⟨F1,M1,f1,G1,hk1,R1,_⟩:=frz_apply L W S.mem S.fr S.hok
   refine ⟨F1,pl,S.size,S.defers,fun b o h=>⟨G1.hF _ (S.pins b o h).1,(G1.hw _ (S.pins b o h).1).trans (S.pins b o h).2⟩,fun q=>(S.ghosts q).mono G1.hF G1.hw G1.ho,fun t'=>?_,M1,f1,hk1⟩
   by_cases e:t'=t
   ·subst e
    simp only [put,Nat.beq_refl,cond_true]
    exact V F1 ⟨G1.hF,fun p hp=>⟨_,_,R1 p hp⟩⟩ _ _
   ·simp only [put,beqF e,cond_false]
    exact (S.tmps t').mono G1.hF G1.hw G1.ho
  ·exact ⟨F,pl,S⟩
 rename_i m hm
 split
 ·rename_i s g sub ht
  simp only [ht] at h
  split
  ·rename_i g' v xs hs
   simp only [hs] at h
   have hv:=S.tmps t
   rw [ht] at hv
   have hr:st.obs (.l s)=some (.arr g' v xs):=hs
   split
   ·rename_i hg
    have hg:=Nat.eq_of_beq_eq_true hg
    subst hg
    refine ⟨F,pl,?_⟩
    refine ⟨S.size,S.defers,S.pins,S.ghosts,fun t'=>?_,S.mem,S.fr,S.hok⟩
    by_cases e:t'=t
    ·subst e
     simp only [put,Nat.beq_refl,cond_true]
     simp only [RepC] at hv ⊢
     obtain ⟨h1,o,g2,n,wd,h2,h3,h4,h5⟩:=hv
     refine ⟨h1,o,g2,n,wd,h2,h3,h4,fun e=>?_⟩
     rw [hr] at h2; cases h2
     cases h3
     exact h5 e
    ·simp only [put,beqF e,cond_false]; exact S.tmps t'
   ·rename_i n hg
    simp only [hg] at h
    have hg:=Nat.eq_of_beq_eq_true hg
    subst hg
    have hn:n≤xs.length:=of_decide_eq_true h
    obtain ⟨p,S1,hp,hcap⟩:=S.trunc hs hn
    refine ⟨F,setPl pl (.l s) p,?_⟩
    have ho:St.obs ⟨st.tmps,apL st.loc [(.l s,.arr (g+1) v (xs.take n))],st.H⟩=setOb st.obs (.l s) (.arr (g+1) v (xs.take n)):=getO_ap1 (H:=st.H) (fun n e=>by cases e)
    refine ⟨S1.size,S1.defers,S1.pins,S1.ghosts,fun t'=>?_,S1.mem,S1.fr,S1.hok⟩
    by_cases e:t'=t
    ·subst e
     simp only [put,Nat.beq_refl,cond_true]
     have ho':St.obs ⟨fun t=>bif Nat.beq t t' then C.asl (.l s) (g+1) none false else st.tmps t,apL st.loc [(.l s,.arr (g+1) v (takeL n xs))],st.H⟩=setOb st.obs (.l s) (.arr (g+1) v (xs.take n)):=ho
     rw [ho']
     simp only [RepC] at hv ⊢
     obtain ⟨h1,o,g2,m,wd,h2,h3,h4,h5⟩:=hv
     rw [hr] at h2; cases h2
     cases h3
     refine ⟨h1,_,g+1,(xs.take n).length,K.widthV v,setOb_same _ _ _,rfl,Nat.le_refl _,fun _=>?_⟩
     obtain ⟨ad,e1,e2⟩:=h5 rfl
     have hl:(xs.take n).length=n:=by simp; omega
     refine ⟨ad,?_,?_⟩
     ·rw [e1]; simp [sub?,setPl_same,hcap,hl]
     ·intro hc
      have hc:(pl (.l s)).cap ≠ 0:=by simpa [sub?,setPl_same,hcap] using hc
      have:=e2 (by simpa [sub?] using hc)
      rw [this,setPl_same,hp hc]; simp [sub?]
    ·simp only [put,beqF e,cond_false]; exact S1.tmps t'
   ·exact ⟨F,pl,S⟩
  ·exact ⟨F,pl,S⟩
 ·exact ⟨F,pl,S⟩
theorem trimAll_sound (L:Laws K) {β:Base K} {nt:Nat} {a:Act} {w:World} {k:St K.U→Prop}:∀{l:List (Nat×Nat)} {st:St K.U} {F:Nat→Prop} {pl:Rf→Pl},Sim K β nt st a F pl w→trimAll l st k→∃st' F' pl',Sim K β nt st' a F' pl' w∧k st'
 | [],st,F,pl,S,h=>⟨st,F,pl,S,h⟩
 | (t,wd) :: l,st,F,pl,S,h=>by
  simp only [trimAll,andP_iff] at h
  obtain ⟨F',pl',S'⟩:=trim1_sound L S h.1
  exact trimAll_sound L S' h.2
theorem walkP_sound (L:Laws K) {Leaf:List Item→St K.U→Prop} {f:FuncId} {fn:Func} {post:C K.U→List (O K.U)→Prop} (hfn:K.P.funcs[f]?=some fn) (hLeaf:∀todo st,Leaf todo st→At K f post todo st):
  ∀(n:Nat) {first:Bool} {todo:List Item} {st:St K.U},walkP Rs (Runs K) Leaf f fn post n first todo st→At K f post todo st:=by
 intro n
 induction n with
 | zero=>intro first todo st h; simp only [walkP] at h
 | succ n ih=>
  intro first todo st h fn' hfn' β b a w F pl cs hb hk hp hg S
  rw [hfn] at hfn'; cases hfn'
  have ends:∀todo',step K.P (lone (b.at a todo) cs w)=.next (lone { b.at a todo' with mode:=.returning } cs w)→endP f fn st post→
    ∃v w' fr,Steps K.P (lone (b.at a todo) cs w) (lone fr cs w')∧fr.fn=f∧fr.leaving K.P w' (.returned v)∧∃c H' F' pl' own,post c H'∧Fin K β c v H' F' pl' w' own:=by
   intro todo' hs he
   obtain ⟨β',w1,hs1,S1,hA⟩:=marks_out a.defers rfl S b cs todo'
   obtain ⟨v,h1,c,H',F',pl',own,h2,h3⟩:=endP_sound L S1 (fun hpp=>hA.H.trans (hp hpp)) he
   exact ⟨v,w1,_,.head hs hs1,hb,⟨rfl,rfl,hk,fn,by rw [←hfn,←hb]; rfl,h1⟩,c,H',F',pl',own,h2,hA.symm.fin h3⟩
  have goes:∀{todo':List Item} {st':St K.U} {first':Bool} {a':Act} {F':Nat→Prop} {pl':Rf→Pl} {w':World},Steps K.P (lone (b.at a todo) cs w) (lone (b.at a' todo') cs w')→Sim K β fn.ntmps st' a' F' pl' w'→
    walkP Rs (Runs K) Leaf f fn post n first' todo' st'→
    ∃v w' fr,Steps K.P (lone (b.at a todo) cs w) (lone fr cs w')∧fr.fn=f∧fr.leaving K.P w' (.returned v)∧∃c H' F' pl' own,post c H'∧Fin K β c v H' F' pl' w' own:=by
   intro todo' st' first' a' F' pl' w' hs S' hw
   obtain ⟨v,w2,fr,h1,h2⟩:=ih hw fn hfn β b a' w' F' pl' cs hb hk hp hg S'
   exact ⟨v,w2,fr,hs.trans h1,h2⟩
  cases todo with
  | nil=>simp only [walkP] at h; exact ends _ step_end h
  | cons x k=>
   cases x with
   | inBlock id=>simp only [walkP] at h; exact goes (.one step_inBlock) S h
   | inScope c=>
    simp only [walkP] at h
    exact goes (todo':=k) (.one (step_lone_go (by simp [stepG,stepG.exec,Frame.at]))) S h
   | inLoop c=>simp only [walkP] at h; exact goes (.one step_inLoop) S h
   | code c=>
    cases c with
    | ret=>simp only [walkP] at h; exact ends _ step_ret h
    | skip=>simp only [walkP] at h; exact goes (.one step_skip) S h
    | label l=>simp only [walkP] at h; exact goes (.one step_label) S h
    | seq x y=>simp only [walkP] at h; exact goes (.one step_seq) S h
    | block id x=>simp only [walkP] at h; exact goes (.one step_block) S h
    | loop x=>simp only [walkP] at h; exact goes (.one step_loop) S h
    | exit id=>
     simp only [walkP] at h
     split at h
     ·rename_i k' hk'
      exact goes (.one (step_exit hk')) S h
     ·exact h.elim
    | cond c x y=>
     simp only [walkP] at h
     split at h
     ·rename_i t ht
      have he:=eval_bool S (x:=c) (b:=t) (by rw [ht]; rfl)
      have hs:=step_cond (P:=K.P) (b:=b) (k:=k) (cs:=cs) (w:=w) (x:=x) (y:=y) he
      rw [iteP_iff] at h
      cases t with
      | true=>exact goes (.one hs) S (by simpa using h)
      | false=>exact goes (.one hs) S (by simpa using h)
     ·exact h.elim
    | region id ops draw=>
     simp only [walkP] at h
     split at h
     ·exact h.elim
     ·rename_i hnt
      have hnt':∀(i:Nat) (o:Oper),ops[i]?=some o→∀d,o.dst=some d→d<fn.ntmps:=by
       intro i o ho d hd
       simp only [Bool.not_eq_false] at hnt
       have:=List.all_eq_true.1 hnt o (by simpa using Array.mem_of_getElem? ho)
       simpa [hd] using this
      split at h
      ·obtain ⟨st',F',pl',S',h⟩:=trimAll_sound L S h
       split at h
       ·rename_i hc
        have hl:=hLeaf _ _ h
        exact hl fn hfn β b a w F' pl' cs hb hk hp hg (S'.clear hg hc)
       ·exact h.elim
      ·cases draw with
       | true=>
        simp only [if_true] at h
        split at h
        ·rename_i hB
         simp only [Bool.and_eq_true] at hB
         have hw:=wp_region_any (P:=K.P) (id:=id) (ops:=ops) (a:=a) (w:=w) (Q:=fun e a' w'=>e=.normal∧∃st' F' pl',Sim K β fn.ntmps st' a' F' pl' w'∧walkP Rs (Runs K) Leaf f fn post n false k st') hB.2
          (drawP_sound (an:=K.ann f) L hB.1.1 hB.1.2 hnt' S.drewN h fun st' a' F' pl' w' S' hk'=>⟨rfl,st',F',pl',S',hk'⟩)
         obtain ⟨e,a',w',⟨rfl,st',F',pl',S',hk'⟩,harr⟩:=hw b k cs
         exact goes harr S' hk'
        ·exact h.elim
       | false=>
        simp only [Bool.false_eq_true,if_false] at h
        have hw:=rgnP_sound (Q:=fun e a' w'=>e=.normal∧∃st' F' pl',Sim K β fn.ntmps st' a' F' pl' w'∧walkP Rs (Runs K) Leaf f fn post n false k st') (rest:=[]) L _ S (fun p hp=>mem_zip_range hp)
         (fun p hp=>hnt' _ _ (mem_zip_range hp)) (by trivial) h fun st' a' F' pl' w' S' hk' _ _=>⟨rfl,st',F',pl',S',hk'⟩
        have e1:((List.range ops.size).zip ops.toList).map (·.1) ++ []=List.range ops.size:=by
         rw [List.append_nil]
         have:=zip_range ops.toList
         simpa using this
        rw [e1] at hw
        obtain ⟨e,a',w',⟨rfl,st',F',pl',S',hk'⟩,harr⟩:=wp_ops _ a w hw b k cs
        exact goes (.head step_region harr) S' hk'
    | rangeFunc g ps assign body=>
     simp only [walkP] at h
     have hw:=wpIn_wide.1 (rangeP_sound L (rgn_ok (Rs:=Rs) L (K.ann f)) h hg S)
     obtain ⟨e,a',w',hq,harr⟩:=hw b k cs
     rcases hq with ⟨rfl,β',st',F',pl',hA,hg',S',hk'⟩|⟨rfl,β',st',F',pl',hA,S',he⟩
     ·obtain ⟨v,w2,fr,h1,h2,h3,c,H',F2,pl2,own,h4,h5⟩:=ih hk' fn hfn β' b a' w' F' pl' cs hb hk (fun e=>hA.H.trans (hp e)) hg' S'
      exact ⟨v,w2,fr,harr.trans h1,h2,h3,c,H',F2,pl2,own,h4,hA.symm.fin h5⟩
     ·obtain ⟨todo',hs⟩:=harr
      obtain ⟨β2,w1,hs1,S1,hA1⟩:=marks_out a'.defers rfl S' b cs todo'
      obtain ⟨v,h1,c,H',F2,pl2,own,h2,h3⟩:=endP_sound L S1 (fun hpp=>(hA.trans hA1).H.trans (hp hpp)) he
      exact ⟨v,w1,_,hs.trans hs1,hb,⟨rfl,rfl,hk,fn,by rw [←hfn,←hb]; rfl,h1⟩,c,H',F2,pl2,own,h2,(hA.trans hA1).symm.fin h3⟩
    | _=>simp only [walkP] at h
   | _=>simp only [walkP] at h
theorem At.of_walk (L:Laws K) (Rs:Res K) {f:FuncId} {fn:Func} {post:C K.U→List (O K.U)→Prop} (n:Nat) (hfn:K.P.funcs[f]?=some fn) {first:Bool} {todo:List Item} {st:St K.U}
  (h:walkP Rs (Runs K) (At K f post) f fn post n first todo st):At K f post todo st:=walkP_sound L hfn (fun _ _ h=>h) n h
theorem fin_refl {F:Nat→Prop} {H:List (O K.U)} {pl:Rf→Pl} {w:World}:Fr K (.of w F H pl) F w (obH H) pl:=
 ⟨rfl,rfl,rfl,Nat.le_refl _,fun _ _ _=>rfl,fun _ h=>h,fun _ h=>.inl h,fun r o h ho=>by
  obtain ⟨n,rfl,h1,_⟩:=obH_some (loc:=fun _=>none) h
  exact .inr ⟨n,o,h1,ho,rfl⟩,fun n o h=>⟨o,h,.refl _ _⟩⟩
theorem Runs.of_walk (L:Laws K) (Rs:Res K) {f:FuncId} {fn:Func} {body:Code} {args:List (C K.U)} {H:List (O K.U)} {post:C K.U→List (O K.U)→Prop} (n:Nat) (hfn:K.P.funcs[f]?=some fn) (hbody:fn.body=some body)
  (hlen:Nat.ble args.length fn.ntmps=true) (hp:(K.ann f).pure=true→H=[])
  (h:walkP Rs (Runs K) (At K f post) f fn post n true [.code body] ⟨fun t=>args.getD t .dead,fun _=>none,H⟩):Runs K f args H post:=by
 intro w F pl vs hok M hr cs
 have hl:args.length≤fn.ntmps:=Nat.le_of_ble_eq_true hlen
 have hlv:=hr.length
 have hat:=At.of_walk L Rs n hfn h
 have S:Sim K (.of w F H pl) fn.ntmps ⟨fun t=>args.getD t .dead,fun _=>none,H⟩ ⟨vs.toArray ++ Array.replicate (fn.ntmps - vs.toArray.size) undef,[]⟩ F pl w:=by
  refine ⟨by simp; omega,⟨fun _ h=>by simp at h,List.nodup_nil⟩,fun _ _ h=>(by cases h),fun _=>repC_dead _,fun t=>?_,M,fin_refl,hok⟩
  by_cases ht:t<args.length
  ·obtain ⟨v,hv,hc⟩:=hr.get (List.getElem?_eq_getElem ht)
   have e1:args.getD t .dead=args[t]:=by rw [List.getD_eq_getElem?_getD,List.getElem?_eq_getElem ht]; rfl
   have e2:(vs.toArray ++ Array.replicate (fn.ntmps - vs.toArray.size) undef).getD t undef=v:=by
    rw [Array.getD_eq_getD_getElem?,Array.getElem?_append_left (by simp; omega),List.getElem?_toArray,hv]; rfl
   show RepC F w (obH H) pl (args.getD t .dead) _
   rw [e1,e2]; exact hc
  ·have e1:args.getD t .dead=.dead:=by rw [List.getD_eq_getElem?_getD,List.getElem?_eq_none (by omega)]; rfl
   show RepC F w (obH H) pl (args.getD t .dead) _
   rw [e1]; exact repC_dead _
 obtain ⟨v,w',fr,h1,h2,h3,h4⟩:=hat fn hfn (.of w F H pl) (Frame.enter K.P f vs.toArray .normal) _ w F pl cs rfl rfl hp rfl S
 refine ⟨.returned v,w',fr,⟨v,rfl,h4⟩,?_,h2,h3⟩
 have e:(Frame.enter K.P f vs.toArray .normal)=(Frame.enter K.P f vs.toArray .normal).at ⟨vs.toArray ++ Array.replicate (fn.ntmps - vs.toArray.size) undef,[]⟩ [.code body]:=by
  simp [Frame.enter,Frame.at,hfn,hbody]
 show Steps K.P (lone (Frame.enter K.P f vs.toArray .normal) cs w) (lone fr cs w')
 rw [e]; exact h1
end
end Go.Abs
