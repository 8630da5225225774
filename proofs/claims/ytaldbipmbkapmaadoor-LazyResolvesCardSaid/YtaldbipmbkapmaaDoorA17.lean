/- LEMMAS: calls. Conditions: none. -/
import Derived.Test.YtaldbipmbkapmaaDoorA16
namespace Go.Abs
set_option linter.unusedVariables false
set_option linter.unusedSimpArgs false
section
variable {K:Cfg} {β:Base K} {F F' F1 F2:Nat→Prop} {pl pl' pl2:Rf→Pl} {w w' w2:World} {ob ob':Obs K}
def plJ (pl pl2:Rf→Pl):Rf→Pl
 | .l s=>pl (.l s)
 | .g n=>pl2 (.g n)
theorem after_down {loc:Loc K.U} {H H2:List (O K.U)} {c:C K.U} {v:Value} {own:List Nat} (M:Mem K F1 w (getO loc H) pl) (f:Fr K β F1 w (getO loc H) pl) (Fi:Fin K (.of w F1 H pl) c v H2 F2 pl2 w2 own):
  Mem K F2 w2 (getO loc H2) (plJ pl pl2)∧Fr K β F2 w2 (getO loc H2) (plJ pl pl2)∧Goes K F1 w (getO loc H) pl F2 w2 (getO loc H2) (plJ pl pl2)∧
   ∀(c':C K.U) (v':Value),RepC F2 w2 (obH H2) pl2 c' v'→RepC F2 w2 (getO loc H2) (plJ pl pl2) c' v':=by
 have hG:∀b,Base.G (.of w F1 H pl) b→∃n o,getO loc H (.g n)=some o∧Owns K o (pl (.g n))∧b=(pl (.g n)).blk:=fun b ⟨n,o,h1,h2,h3⟩=>⟨n,o,h1,h2,h3⟩
 have hl:∀s o,getO loc H (.l s)=some o→Owns K o (pl (.l s))→¬Base.G (.of w F1 H pl) (pl (.l s)).blk:=by
  intro s o h ho hg
  obtain ⟨n,o',h1,h2,h3⟩:=hG _ hg
  have:=M.apart _ _ _ _ h h1 ho h2 h3
  cases this
 have hFG:∀b,F1 b→¬Base.G (.of w F1 H pl) b:=by
  rintro b hb hg
  obtain ⟨n,o',h1,h2,rfl⟩:=hG _ hg
  exact (M.free _ _ h1 h2).1 hb
 have hw:∀b,F1 b→w2.heap[b]?=w.heap[b]?:=fun b hb=>Fi.fr.old b (M.frozen b hb) (hFG b hb)
 have hgo:Goes K F1 w (getO loc H) pl F2 w2 (getO loc H2) (plJ pl pl2):=by
  refine ⟨Fi.fr.Fsub,hw,fun r o h=>?_⟩
  cases r with
  | l s=>exact ⟨o,h,.refl _ _⟩
  | g n=>exact Fi.fr.glob n o h
 have hup:∀r o,obH H2 r=some o→∃o',getO loc H2 r=some o'∧Compat K o (pl2 r) o' (plJ pl pl2 r):=by
  intro r o h
  obtain ⟨n,rfl,_,h2⟩:=obH_some (loc:=loc) h
  exact ⟨o,h2,.refl _ _⟩
 have hnew:∀b,F2 b→F1 b∨β.w.heap.size≤b∨β.G b:=by
  intro b hb
  rcases Fi.fr.Fnew b hb with h|h|h
  ·exact .inl h
  ·exact .inr (.inl (Nat.le_trans f.size h))
  ·obtain ⟨n,o,h1,h2,rfl⟩:=hG _ h
   exact .inr (f.own _ _ h1 h2)
 refine ⟨⟨fun r o h=>?_,fun r r' o o' h h' ho ho' e=>?_,fun r o h ho=>?_,Fi.mem.frozen,Fi.mem.glob,fun r o h=>?_⟩,⟨Fi.fr.os.trans f.os,Fi.fr.tape.trans f.tape,Fi.fr.output.trans f.output,Nat.le_trans f.size Fi.fr.size,fun b hb hg=>?_,fun b hb=>Fi.fr.Fsub b (f.Fsub b hb),fun b hb=>?_,fun r o h ho=>?_,fun n o h=>?_⟩,hgo,fun c' v' h=>h.mono (fun _ h=>h) (fun _ _=>rfl) hup⟩
 ·cases r with
  | l s=>exact (M.rep (.l s) o h).mono hgo.hF hgo.hw hgo.ho fun ho=>Fi.fr.old _ (M.free (.l s) o h ho).2 (hl s o h ho)
  | g n=>exact (Fi.mem.rep (.g n) o h).mono (fun _ h=>h) (fun _ _=>rfl) hup fun _=>rfl
 ·cases r with
  | l s=>
   cases r' with
   | l t=>exact M.apart _ _ _ _ h h' ho ho' e
   | g n=>
    exfalso
    have e:(pl (.l s)).blk=(pl2 (.g n)).blk:=e
    rcases Fi.fr.own (.g n) o' h' ho' with k|k
    ·have:=(M.free (.l s) o h ho).2
     have k:w.heap.size≤(pl2 (.g n)).blk:=k
     omega
    ·rw [←e] at k; exact hl s o h ho k
  | g m=>
   cases r' with
   | l t=>
    exfalso
    have e:(pl2 (.g m)).blk=(pl (.l t)).blk:=e
    rcases Fi.fr.own (.g m) o h ho with k|k
    ·have:=(M.free (.l t) o' h' ho').2
     have k:w.heap.size≤(pl2 (.g m)).blk:=k
     omega
    ·rw [e] at k; exact hl t o' h' ho' k
   | g n=>exact Fi.mem.apart (.g m) (.g n) o o' h h' ho ho' e
 ·cases r with
  | l s=>
   refine ⟨fun hb=>?_,Nat.lt_of_lt_of_le (M.free (.l s) o h ho).2 Fi.fr.size⟩
   rcases Fi.fr.Fnew _ hb with k|k|k
   ·exact (M.free (.l s) o h ho).1 k
   ·have:=(M.free (.l s) o h ho).2
    have k:w.heap.size≤(pl (.l s)).blk:=k
    omega
   ·exact hl s o h ho k
  | g n=>exact Fi.mem.free (.g n) o h ho
 ·cases r with
  | l s=>exact M.bnd (.l s) o h
  | g n=>exact Fi.mem.bnd (.g n) o h
 ·have hng:¬Base.G (.of w F1 H pl) b:=by
   rintro hgb
   obtain ⟨n,o,h1,h2,rfl⟩:=hG _ hgb
   rcases f.own _ _ h1 h2 with k|k
   ·omega
   ·exact hg k
  exact (Fi.fr.old b (Nat.lt_of_lt_of_le hb f.size) hng).trans (f.old b hb hg)
 ·rcases hnew b hb with k|k|k
  ·exact f.Fnew b k
  ·exact .inr (.inl k)
  ·exact .inr (.inr k)
 ·cases r with
  | l s=>exact f.own (.l s) o h ho
  | g n=>
   rcases Fi.fr.own (.g n) o h ho with k|k
   ·exact .inl (Nat.le_trans f.size k)
   ·obtain ⟨m,o',h1,h2,e⟩:=hG _ k
    have e:(plJ pl pl2 (.g n)).blk=(pl (.g m)).blk:=e
    rw [e]
    exact f.own _ _ h1 h2
 ·obtain ⟨o',h1,h2⟩:=f.glob n o h
  obtain ⟨o'',h3,h4⟩:=hgo.ho _ o' h1
  exact ⟨o'',h3,h2.trans h4⟩
section
variable {Rs:Res K} {nt:Nat} {st:St K.U} {a:Act}
def Back (K:Cfg) (β:Base K) (F:Nat→Prop) (w:World) (ob:Obs K) (pl:Rf→Pl) (quiet:Bool) (k:C K.U→Loc K.U→List (O K.U)→Prop) (e:Ending) (w':World):Prop:=
 ∃v,e=.returned v∧∃c loc' H' F' pl',k c loc' H'∧RepC F' w' (getO loc' H') pl' c v∧Goes K F w ob pl F' w' (getO loc' H') pl'∧Mem K F' w' (getO loc' H') pl'∧Fr K β F' w' (getO loc' H') pl'∧HOk H'∧
  (quiet=true→Ext w w')
theorem hok_nil {U:Univ}:HOk ([]:List (O U)):=by intro n o h; simp at h
theorem noObs_up {c:C K.U} {v:Value} {pl0:Rf→Pl} (h:RepC F w (obH []) pl0 c v):RepC F w ob pl c v:=
 h.mono (fun _ h=>h) (fun _ _=>rfl) fun r o h=>by rw [obH_nil] at h; cases h
theorem callP_sound (L:Laws K) (S:Sim K β nt st a F pl w) {quiet:Bool} {slot:Option Nat} {g:FuncId} {args:List (C K.U)} {vs:List Value} {k:C K.U→Loc K.U→List (O K.U)→Prop}
  (h:callP Rs (Runs K) quiet slot g args st.loc st.H k) (hargs:RepCs F w st.obs pl args vs):Calls K.P g vs.toArray w (Back K β F w st.obs pl quiet k):=by
 unfold callP at h
 split at h
 ·split at h
  ·rename_i ok as wr hfr
   split at h
   ·exact h.elim
   ·rw [andP_iff] at h
    obtain ⟨hok,h⟩:=h
    obtain ⟨W,V⟩:=frzAll_sound S.mem hfr hok hargs
    obtain ⟨F1,M1,f1,G1,hk1,R1,_⟩:=frz_apply L W S.mem S.fr S.hok
    have has:=coVs_sound (os:=(K.ann g).pco) (V F1 ⟨G1.hF,fun p hp=>⟨_,pl,R1 p hp⟩⟩ (obH []) pl)
    split at h
    ·obtain ⟨x,hrun,h⟩:=h
     split at h
     ·rename_i hc
      rw [Bool.and_eq_true] at hc
      refine (hrun w F1 pl vs hok_nil M1.noObs has).mono ?_
      rintro e w' ⟨v,rfl,c,H',F2,pl2,own,⟨rfl,rfl⟩,Fi⟩
      have E:=Fi.ext
      have tail:∀F3:Nat→Prop,Mem K F3 w' st.obs pl→Fr K β F3 w' st.obs pl→RepR F3 w' (obH []) pl2 (Rs.enc g x) v own→Goes K F w st.obs pl F3 w' st.obs pl→(∀b∈own,¬F3 b)→
        ∃v_1,Ending.returned v=.returned v_1∧∃c l' H' F' pl',k c l' H'∧RepC F' w' (getO l' H') pl' c v_1∧Goes K F w st.obs pl F' w' (getO l' H') pl'∧Mem K F' w' (getO l' H') pl'∧Fr K β F' w' (getO l' H') pl'∧HOk H'∧(quiet=true→Ext w w'):=by
       intro F3 M0 f0 hrep G0 hown3
       refine ⟨v,rfl,?_⟩
       unfold gotP at h
       split at h
       ·rename_i hown
        have hno:(Rs.enc g x).noOsl=true:=by simpa [hown] using hc.2
        exact ⟨_,st.loc,st.H,F3,pl,h,noObs_up (repR_repC hno hrep),G0,M0,f0,S.hok,fun _=>E⟩
       ·split at h
        ·rename_i d wr1 had
         obtain ⟨pl',M3,f3,G3,R3⟩:=adoptV_sound (N:=w.heap.size) S.fr.size M0 f0 (fun r o h ho=>(S.mem.free r o h ho).2) obH_nil had hrep Fi.nodup fun b hb=>by
          obtain ⟨m1,m2,_,_⟩:=Fi.mine b hb
          exact ⟨m1,m2,hown3 b hb⟩
         exact ⟨d,_,st.H,F3,pl',h,R3,G0.trans G3,M3,f3,S.hok,fun _=>E⟩
        ·exact h.elim
      by_cases hle:K.lent (Rs.enc g x)=true
      ·exact tail F (S.mem.ext E) (S.fr.ext E) (lent_any L hle Fi.rep) (Goes.ext S.mem E) fun b hb hF=>(Fi.mine b hb).2.2.1 (Fi.fr.Fsub b (G1.hF b hF))
      ·have hw:wr=[]:=by
        have:=hc.1
        rw [Bool.not_eq_true] at hle
        rw [hle,Bool.or_false] at this
        exact List.isEmpty_iff.1 this
       subst hw
       have M2:=(M1.ext E).growF (N:=w.heap.size) Fi.fr.Fsub Fi.new Fi.mem.frozen fun r o h ho=>(M1.free r o h ho).2
       have f2:=(f1.ext E).growF Fi.fr.Fsub fun b hb=>(Fi.new b hb).imp id fun h=>Nat.le_trans S.fr.size h
       exact tail F2 M2 f2 Fi.rep ((G1.trans (Goes.ext M1 E)).trans (Goes.growF Fi.fr.Fsub)) fun b hb=>(Fi.mine b hb).2.2.1
     ·exact h.elim
    ·obtain ⟨x,hrun,h⟩:=h
     split at h
     ·rename_i hno
      refine (hrun w F1 pl vs hok_nil M1.noObs has).mono ?_
      rintro e w' ⟨v,rfl,c,H',F2,pl2,own,⟨rfl,rfl⟩,Fi⟩
      have E:=Fi.ext
      have M2:=(M1.ext E).growF (N:=w.heap.size) Fi.fr.Fsub Fi.new Fi.mem.frozen fun r o h ho=>(M1.free r o h ho).2
      have f2:=(f1.ext E).growF Fi.fr.Fsub fun b hb=>(Fi.new b hb).imp id fun h=>Nat.le_trans S.fr.size h
      exact ⟨v,rfl,_,_,_,F2,pl,h,noObs_up (repR_repC hno Fi.rep),(G1.trans (Goes.ext M1 E)).trans (Goes.growF Fi.fr.Fsub),M2,f2,hk1,fun _=>E⟩
     ·exact h.elim
  ·exact h.elim
 ·split at h
  ·exact h.elim
  ·rename_i hq
   split at h
   ·rename_i ok as wr hdn
    rw [andP_iff] at h
    obtain ⟨hok,x,y,hrun,h⟩:=h
    split at h
    ·rename_i hno
     obtain ⟨W,hl,V⟩:=downAll_sound S.mem hdn hok hargs
     obtain ⟨F1,M1,f1,G1,hk1,R1,_⟩:=frz_apply L W S.mem S.fr S.hok
     rw [hl.apH] at M1 f1 G1 R1 hk1 hrun h
     have has:=coVs_sound (os:=(K.ann g).pco) (V F1 ⟨G1.hF,fun p hp=>⟨_,pl,R1 p hp⟩⟩)
     refine (hrun w F1 pl vs S.hok (M1.down S.hok) has).mono ?_
     rintro e w' ⟨v,rfl,c,H',F2,pl2,own,⟨rfl,rfl⟩,Fi⟩
     obtain ⟨M2,f2,G2,up⟩:=after_down M1 f1 Fi
     exact ⟨v,rfl,_,_,_,F2,_,h,up _ _ (repR_repC hno Fi.rep),G1.trans G2,M2,f2,Fi.hok,fun hq'=>absurd hq' hq⟩
    ·exact h.elim
   ·exact h.elim
theorem dynP_sound (L:Laws K) (S:Sim K β nt st a F pl w) {g:FuncId} {pre args post:List (C K.U)} {t:TypeId} {vpre vs vpost:List Value} {k:C K.U→Loc K.U→List (O K.U)→Prop}
  (h:dynP Rs (Runs K) g pre args post t st.loc st.H k) (hpre:RepCs F w (obH st.H) pl pre vpre) (hargs:RepCs F w st.obs pl args vs) (hpost:RepCs F w (obH st.H) pl post vpost):
  Calls K.P g (vpre ++ (vs ++ vpost)).toArray w (Back K β F w st.obs pl false k):=by
 unfold dynP at h
 split at h
 ·rename_i ok as wr hdn
  rw [andP_iff] at h
  obtain ⟨hok,x,y,hrun,h⟩:=h
  split at h
  ·rename_i hno
   obtain ⟨W,hl,V⟩:=downAll_sound S.mem hdn hok hargs
   obtain ⟨F1,M1,f1,G1,hk1,R1,_⟩:=frz_apply L W S.mem S.fr S.hok
   rw [hl.apH] at M1 f1 G1 R1 hk1 hrun h
   have hself:∀r o,obH st.H r=some o→∃o',obH st.H r=some o'∧Compat K o (pl r) o' (pl r):=fun r o h=>⟨o,h,.refl _ _⟩
   have hall:=repCs_append (hpre.mono G1.hF (fun _ _=>rfl) hself) (repCs_append (V F1 ⟨G1.hF,fun p hp=>⟨_,pl,R1 p hp⟩⟩) (hpost.mono G1.hF (fun _ _=>rfl) hself))
   refine (hrun w F1 pl _ S.hok (M1.down S.hok) hall).mono ?_
   rintro e w' ⟨v,rfl,c,H',F2,pl2,own,⟨rfl,rfl⟩,Fi⟩
   obtain ⟨M2,f2,G2,up⟩:=after_down M1 f1 Fi
   exact ⟨v,rfl,_,_,_,F2,_,h,up _ _ (repR_repC hno Fi.rep),G1.trans G2,M2,f2,Fi.hok,fun hq=>by cases hq⟩
  ·exact h.elim
 ·exact h.elim
theorem calls_fn {P:Program} {g:FuncId} {args:Array Value} {R:Ending→World→Prop} (h:Calls P g args w R) (hr:∀e w',R e w'→∃v,e=.returned v):∃fn c,P.funcs[g]?=some fn∧fn.body=some c:=by
 obtain ⟨e,w',fr,h1,h2,h3,h4⟩:=h []
 obtain ⟨v,rfl⟩:=hr _ _ h1
 obtain ⟨hm,_,_,fn,hf,_⟩:=h4
 rw [h3] at hf
 refine ⟨fn,?_⟩
 cases hb:fn.body with
 | some c=>exact ⟨c,hf,rfl⟩
 | none=>
  exfalso
  obtain ⟨n,hn⟩:=h2
  cases n with
  | zero=>
   simp only [runN] at hn
   have:(Frame.enter P g args .normal)=fr:=by
    simp only [Stepped.next.injEq,lone,Machine.mk.injEq] at hn
    have:=hn.2.1
    simpa using this
   rw [←this] at hm
   simp [Frame.enter] at hm
  | succ n=>
   have hs:∃o w'',step P (lone (Frame.enter P g args .normal) [] w)=.ended o w'':=by
    refine ⟨_, _, step_lone_ended (o := .unsupported (Unsupported.elab "unsupported: a function without a Go body is entered") ((Frame.enter P g args .normal).pos P)) (w' := w) ?_⟩
    simp [stepG,stepG.exec,Frame.enter,hf,hb]
   obtain ⟨o,w'',hs⟩:=hs
   simp only [runN,hs] at hn
   cases hn
end
end
end Go.Abs
