/- LEMMAS: what calls need, and leave. Conditions: none. -/
import Derived.Test.YtaldbipmbkapmaaDoorA13
namespace Go.Abs
set_option linter.unusedVariables false
set_option linter.unusedSimpArgs false
section
variable {K:Cfg} {β:Base K} {F F' F2:Nat→Prop} {pl pl':Rf→Pl} {w w' w2:World} {ob ob':Obs K}
theorem obH_nil (r:Rf):obH ([]:List (O K.U)) r=none:=by cases r <;> simp [obH,getO]
theorem Mem.ext (M:Mem K F w ob pl) (E:Ext w w'):Mem K F w' ob pl:=by
 have hw:∀b,F b→w'.heap[b]?=w.heap[b]?:=fun b h=>E.old b (M.frozen b h)
 have ho:∀r o,ob r=some o→∃o',ob r=some o'∧Compat K o (pl r) o' (pl r):=fun r o h=>⟨o,h,.refl _ _⟩
 refine ⟨fun r o h=>(M.rep r o h).mono (fun _ h=>h) hw ho fun hown=>E.old _ (M.free r o h hown).2,M.apart,fun r o h hown=>?_,fun b h=>Nat.lt_of_lt_of_le (M.frozen b h) E.size,fun g cells h=>?_,M.bnd⟩
 ·exact ⟨(M.free r o h hown).1,Nat.lt_of_lt_of_le (M.free r o h hown).2 E.size⟩
 ·obtain ⟨h1,h2⟩:=M.glob g cells h
  refine ⟨h1,fun j d hd=>?_⟩
  obtain ⟨u,k1,k2⟩:=h2 j d hd
  exact ⟨u,by rw [←k1]; simp only [World.cell?,hw g h1],k2.mono (fun _ h=>h) hw⟩
theorem Fr.ext (f:Fr K β F w ob pl) (E:Ext w w'):Fr K β F w' ob pl:=
 ⟨E.os.trans f.os,E.tape.trans f.tape,E.output.trans f.output,Nat.le_trans f.size E.size,fun b hb hg=>(E.old b (Nat.lt_of_lt_of_le hb f.size)).trans (f.old b hb hg),f.Fsub,f.Fnew,f.own,f.glob⟩
theorem Goes.ext (M:Mem K F w ob pl) (E:Ext w w'):Goes K F w ob pl F w' ob pl:=
 ⟨fun _ h=>h,fun b h=>E.old b (M.frozen b h),fun _ o h=>⟨o,h,.refl _ _⟩⟩
theorem Sim.ext {nt:Nat} {st:St K.U} {a:Act} (S:Sim K β nt st a F pl w) (E:Ext w w'):Sim K β nt st a F pl w':=
 ⟨S.size,S.defers,fun b o h=>⟨(S.pins b o h).1,(E.old b (S.mem.frozen b (S.pins b o h).1)).trans (S.pins b o h).2⟩,fun t=>(Goes.ext S.mem E).repC (S.ghosts t),fun t=>(Goes.ext S.mem E).repC (S.tmps t),S.mem.ext E,S.fr.ext E,S.hok⟩
theorem Mem.growF (M:Mem K F w ob pl) (hF:∀b,F b→F2 b) {N:Nat} (hnew:∀b,F2 b→F b∨N≤b) (hlt:∀b,F2 b→b<w.heap.size) (hN:∀r o,ob r=some o→Owns K o (pl r)→(pl r).blk<N):Mem K F2 w ob pl:=by
 have ho:∀r o,ob r=some o→∃o',ob r=some o'∧Compat K o (pl r) o' (pl r):=fun r o h=>⟨o,h,.refl _ _⟩
 refine ⟨fun r o h=>(M.rep r o h).mono hF (fun _ _=>rfl) ho fun _=>rfl,M.apart,fun r o h hown=>⟨fun hb=>?_,(M.free r o h hown).2⟩,hlt,fun g cells h=>?_,M.bnd⟩
 ·rcases hnew _ hb with h1|h1
  ·exact (M.free r o h hown).1 h1
  ·have:=hN r o h hown; omega
 ·obtain ⟨h1,h2⟩:=M.glob g cells h
  refine ⟨hF _ h1,fun j d hd=>?_⟩
  obtain ⟨u,k1,k2⟩:=h2 j d hd
  exact ⟨u,k1,k2.mono hF fun _ _=>rfl⟩
theorem Fr.growF (f:Fr K β F w ob pl) (hF:∀b,F b→F2 b) (hnew:∀b,F2 b→F b∨β.w.heap.size≤b):Fr K β F2 w ob pl:=
 ⟨f.os,f.tape,f.output,f.size,f.old,fun b h=>hF b (f.Fsub b h),fun b h=>(hnew b h).elim (f.Fnew b) fun h=>.inr (.inl h),f.own,f.glob⟩
theorem Goes.growF (hF:∀b,F b→F2 b):Goes K F w ob pl F2 w ob pl:=⟨hF,fun _ _=>rfl,fun _ o h=>⟨o,h,.refl _ _⟩⟩
theorem Fin.ext {c:C K.U} {v:Value} {own:List Nat} {pl0:Rf→Pl} {H:List (O K.U)} (Fi:Fin K (.of w F' [] pl0) c v H F2 pl' w2 own):Ext w w2:=
 ⟨Fi.fr.os,Fi.fr.tape,Fi.fr.output,Fi.fr.size,fun b hb=>Fi.fr.old b hb (by rintro ⟨n,o,h,_⟩; cases h)⟩
theorem Fin.new {c:C K.U} {v:Value} {own:List Nat} {pl0:Rf→Pl} {H:List (O K.U)} (Fi:Fin K (.of w F' [] pl0) c v H F2 pl' w2 own):∀b,F2 b→F' b∨w.heap.size≤b:=by
 intro b hb
 rcases Fi.fr.Fnew b hb with h|h|⟨n,o,h,_⟩
 ·exact .inl h
 ·exact .inr h
 ·cases h
theorem Mem.noObs (M:Mem K F w ob pl):Mem K F w (obH []) pl:=by
 have h0:∀(r:Rf) (o:O K.U),obH ([]:List (O K.U)) r=some o→False:=fun r o h=>by rw [obH_nil] at h; cases h
 exact ⟨fun r o h=>(h0 r o h).elim,fun r _ o _ h=>(h0 r o h).elim,fun r o h=>(h0 r o h).elim,M.frozen,M.glob,fun r o h=>(h0 r o h).elim⟩
theorem refsAll_encV {keep:Nat→Bool} {v:Vc K.U} (x:v.El) (h:∀n,v ≠ .raw n):C.refsAll keep (K.encV v x)=true:=by
 have hall:∀ds:List (D K.U),C.refsAll keep (ds.map .d)=true:=by
  intro ds
  induction ds with
  | nil=>rfl
  | cons d ds ih=>simp [C.refsAll,C.refsOk,ih]
 cases v with
 | pure c=>exact hall _
 | ptr=>simp [Cfg.encV,C.refsAll,C.refsOk]
 | raw n=>exact absurd rfl (h n)
 | row=>simp [Cfg.encV,C.refsAll,C.refsOk]
theorem refsAll_d {keep:Nat→Bool} (ds:List (D K.U)):C.refsAll keep (ds.map .d)=true:=by
 induction ds with
 | nil=>rfl
 | cons d ds ih=>simp [C.refsAll,C.refsOk,ih]
theorem RepO.keep {keep:Nat→Bool} {p:Pl} (hF:∀b,F b→F' b) (hw:∀b,F b→w'.heap[b]?=w.heap[b]?)
  (ho:∀r o,r.kept keep=true→ob r=some o→∃o',ob' r=some o'∧Compat K o (pl r) o' (pl' r)) {o:O K.U} (hk:o.refsOk keep=true) (hb:Owns K o p→w'.heap[p.blk]?=w.heap[p.blk]?)
  (h:RepO F w ob pl p o):RepO F' w' ob' pl' p o:=by
 cases o with
 | cells cs=>
  obtain ⟨vs,e,h1,h2,h3⟩:=h
  exact ⟨vs,e,by rw [hb trivial,h1],RepCs.mono' hF hw ho hk h2,h3⟩
 | arr g v xs=>
  have hv:∀n,v ≠ .raw n:=by rintro n rfl; simp [O.refsOk] at hk
  rcases h with h|⟨vs,e,h1,h2,h3,h4,h5⟩
  ·exact .inl h
  ·by_cases hc:p.cap=0
   ·left
    refine ⟨hc,?_⟩
    have:List.length xs=0:=by omega
    exact List.eq_nil_of_length_eq_zero this
   ·exact .inr ⟨vs,e,by rw [hb hc,h1],h2,h3,h4,fun i x hx=>RepCs.mono' hF hw ho (refsAll_encV x hv) (h5 i x hx)⟩
 | fro g c xs=>
  rcases h with h|h
  ·exact .inl h
  ·exact .inr (h.mono hF hw)
 | map ag kc v es=>
  have hv:∀n,v ≠ .raw n:=by rintro n rfl; simp [O.refsOk] at hk
  obtain ⟨en,cl,h1,h2,hbn,hcl,h3⟩:=h
  refine ⟨en,cl,by rw [hb trivial,h1],h2,hbn,hcl,fun i k x hx=>?_⟩
  obtain ⟨e,k1,k2,k3,k4,k5⟩:=h3 i k x hx
  exact ⟨e,k1,k2,k3,RepCs.mono' hF hw ho (refsAll_d _) k4,RepCs.mono' hF hw ho (refsAll_encV x hv) k5⟩
theorem obH_some {loc:Loc K.U} {H:List (O K.U)} {r:Rf} {o:O K.U} (h:obH H r=some o):∃n,r=.g n∧H[n]?=some o∧getO loc H r=some o:=by
 cases r with
 | l s=>simp [obH,getO] at h
 | g n=>exact ⟨n,rfl,h,h⟩
theorem Mem.down {loc:Loc K.U} {H:List (O K.U)} (M:Mem K F w (getO loc H) pl) (hk:HOk H):Mem K F w (obH H) pl:=by
 refine ⟨fun r o h=>?_,fun r r' o o' h h'=>M.apart r r' o o' ?_ ?_,fun r o h=>M.free r o ?_,M.frozen,M.glob,fun r o h=>M.bnd r o ?_⟩
 ·obtain ⟨n,rfl,h1,h2⟩:=obH_some (loc:=loc) h
  refine (M.rep _ o h2).keep (keep:=fun _=>false) (fun _ h=>h) (fun _ _=>rfl) (fun r o hr hro=>?_) (hk n o h1) fun _=>rfl
  cases r with
  | l s=>simp [Rf.kept] at hr
  | g m=>exact ⟨o,hro,.refl _ _⟩
 ·exact (obH_some (loc:=loc) h).choose_spec.2.2
 ·exact (obH_some (loc:=loc) h').choose_spec.2.2
 ·exact (obH_some (loc:=loc) h).choose_spec.2.2
 ·exact (obH_some (loc:=loc) h).choose_spec.2.2
def FrzW (K:Cfg) (loc:Loc K.U) (H:List (O K.U)) (wr:List (Rf×O K.U)):Prop:=
 ∀p∈wr,∃(g:Nat) (c:K.U.Ty) (xs:List (K.U.El c)),p.2=.fro g c xs∧(getO loc H p.1=some (.arr g (.pure c) xs)∨getO loc H p.1=some (.fro g c xs))
theorem FrzW.nil {loc:Loc K.U} {H:List (O K.U)}:FrzW K loc H []:=by intro p hp; simp at hp
theorem FrzW.app {loc:Loc K.U} {H:List (O K.U)} {wr wr':List (Rf×O K.U)} (h:FrzW K loc H wr) (h':FrzW K loc H wr'):FrzW K loc H (wr ++ wr'):=by
 intro p hp
 rcases List.mem_append.1 hp with hp|hp
 ·exact h p hp
 ·exact h' p hp
theorem getO_len {loc:Loc K.U} {H:List (O K.U)} {r:Rf} {o:O K.U} (h:getO loc H r=some o):∀n,r=.g n→n≤H.length:=by
 rintro n rfl
 have:=(List.getElem?_eq_some_iff.1 (show H[n]?=some o from h)).1
 omega
theorem apL_cons (loc:Loc K.U) (p:Rf×O K.U) (wr:List (Rf×O K.U)):apL loc (p :: wr)=apL (apL loc [p]) wr:=by
 obtain ⟨r,o⟩:=p; cases r <;> rfl
theorem apH_cons (H:List (O K.U)) (p:Rf×O K.U) (wr:List (Rf×O K.U)):apH H (p :: wr)=apH (apH H [p]) wr:=by
 obtain ⟨r,o⟩:=p; cases r <;> rfl
theorem frz_apply (L:Laws K):∀{wr:List (Rf×O K.U)} {loc:Loc K.U} {H:List (O K.U)} {F:Nat→Prop},FrzW K loc H wr→Mem K F w (getO loc H) pl→Fr K β F w (getO loc H) pl→HOk H→
  ∃F',Mem K F' w (getO (apL loc wr) (apH H wr)) pl∧Fr K β F' w (getO (apL loc wr) (apH H wr)) pl∧Goes K F w (getO loc H) pl F' w (getO (apL loc wr) (apH H wr)) pl∧HOk (apH H wr)∧
   (∀p∈wr,RepO F' w (getO (apL loc wr) (apH H wr)) pl (pl p.1) p.2)∧
   (∀r o,getO loc H r=some o→getO (apL loc wr) (apH H wr) r=some o∨∃g c xs,getO (apL loc wr) (apH H wr) r=some (.fro g c xs)∧K.arrI o=K.arrI (.fro g c xs))
 | [],loc,H,F,_,M,f,hk=>⟨F,M,f,.refl,hk,by simp,fun r o h=>.inl h⟩
 | p :: wr,loc,H,F,hw,M,f,hk=>by
  obtain ⟨g,c,xs,he,hp⟩:=hw p (by simp)
  obtain ⟨r,o⟩:=p
  simp only at he hp
  subst he
  have hlen:∀n,r=.g n→n≤H.length:=hp.elim getO_len getO_len
  have hset:getO (apL loc [(r,.fro g c xs)]) (apH H [(r,.fro g c xs)])=setOb (getO loc H) r (.fro g c xs):=getO_ap1 hlen
  have hk1:HOk (apH H [(r,.fro g c xs)]):=hk.ap1 (by cases r <;> rfl) hlen
  have step:∃F1,Mem K F1 w (getO (apL loc [(r,.fro g c xs)]) (apH H [(r,.fro g c xs)])) pl∧Fr K β F1 w (getO (apL loc [(r,.fro g c xs)]) (apH H [(r,.fro g c xs)])) pl∧
    Goes K F w (getO loc H) pl F1 w (getO (apL loc [(r,.fro g c xs)]) (apH H [(r,.fro g c xs)])) pl:=by
   rw [hset]
   rcases hp with hp|hp
   ·refine ⟨_,M.freeze L hp,f.freeze hp,fun b h=>.inl h,fun _ _=>rfl,fun r' o' h'=>?_⟩
    by_cases e:r'=r
    ·subst e
     rw [hp] at h'; cases h'
     exact ⟨_,setOb_same _ _ _,.arr rfl rfl (Nat.le_refl _) fun _=>⟨rfl,rfl,rfl,rfl⟩⟩
    ·exact ⟨o',by rw [setOb_other _ _ e,h'],.refl _ _⟩
   ·have e:setOb (getO loc H) r (.fro g c xs)=getO loc H:=by
     funext r'
     by_cases e:r'=r
     ·subst e; rw [setOb_same,hp]
     ·rw [setOb_other _ _ e]
    rw [e]
    exact ⟨F,M,f,.refl⟩
  obtain ⟨F1,M1,f1,G1⟩:=step
  have hnow:∀r' o',getO loc H r'=some o'→getO (apL loc [(r,.fro g c xs)]) (apH H [(r,.fro g c xs)]) r'=some o'∨(r'=r∧getO (apL loc [(r,.fro g c xs)]) (apH H [(r,.fro g c xs)]) r'=some (.fro g c xs)∧K.arrI o'=K.arrI (.fro g c xs)):=by
   intro r' o' h'
   rw [hset]
   by_cases e:r'=r
   ·subst e
    right
    refine ⟨rfl,setOb_same _ _ _,?_⟩
    rcases hp with hp|hp <;> (rw [hp] at h'; cases h'; rfl)
   ·left; rw [setOb_other _ _ e,h']
  have hw1:FrzW K (apL loc [(r,.fro g c xs)]) (apH H [(r,.fro g c xs)]) wr:=by
   intro q hq
   obtain ⟨g',c',xs',he',hq'⟩:=hw q (by simp [hq])
   refine ⟨g',c',xs',he',?_⟩
   rw [hset]
   by_cases e:q.1=r
   ·rw [e,setOb_same]
    right
    rw [e] at hq'
    rcases hp with hp|hp <;> rcases hq' with hq'|hq' <;> (rw [hp] at hq'; cases hq'; try rfl)
   ·rw [setOb_other _ _ e]; exact hq'
  obtain ⟨F2,M2,f2,G2,hk2,hR,hO⟩:=frz_apply L hw1 M1 f1 hk1
  rw [apL_cons,apH_cons]
  refine ⟨F2,M2,f2,G1.trans G2,hk2,fun q hq=>?_,fun r' o' h'=>?_⟩
  ·rcases List.mem_cons.1 hq with rfl|hq
   ·have h0:getO (apL loc [(r,.fro g c xs)]) (apH H [(r,.fro g c xs)]) r=some (.fro g c xs):=by rw [hset]; exact setOb_same _ _ _
    have:=(M1.rep r _ h0).mono G2.hF G2.hw G2.ho (p:=pl r) (o:=.fro g c xs) fun h=>(show False from h).elim
    exact this
   ·exact hR q hq
  ·rcases hnow r' o' h' with h1|⟨rfl,h1,h2⟩
   ·exact hO r' o' h1
   ·rcases hO r' _ h1 with h3|⟨g',c',xs',h3,h4⟩
    ·exact .inr ⟨g,c,xs,h3,h2⟩
    ·exact .inr ⟨g',c',xs',h3,h2.trans h4⟩
theorem now_sound {loc:Loc K.U} {H:List (O K.U)} (M:Mem K F w (getO loc H) pl) {r:Rf} {gen:Nat} {sub:Option (Nat×Nat)} {cl ok:Bool} {x:D K.U} {o:O K.U} {v:Value} (h:K.now loc H r gen sub=some (ok,x,o)) (hok:ok=true)
  (hv:RepC F w (getO loc H) pl (.asl r gen sub cl) v):FrzW K loc H [(r,o)]∧∀(F':Nat→Prop) (ob':Obs K) (pl':Rf→Pl),RepO F' w ob' pl' (pl r) o→∀(ob0:Obs K) (pl0:Rf→Pl),RepC F' w ob0 pl0 (.d x) v:=by
 have go:∀(g:Nat) (c:K.U.Ty) (xs:List (K.U.El c)) (o':O K.U),getO loc H r=some o'→K.arrI o'=some (g,xs.length,K.width c)→g=gen→subOk sub (lenL xs)=true→
   ∀(F':Nat→Prop) (ob':Obs K) (pl':Rf→Pl),RepO F' w ob' pl' (pl r) (.fro g c xs)→∀(ob0:Obs K) (pl0:Rf→Pl),RepC F' w ob0 pl0 (.d (.sl c (subBy sub xs))) v:=by
  intro g c xs o' hr hI hg hs F' ob' pl' hrep ob0 pl0
  obtain ⟨a,rfl,ha,hlen⟩:=M.slice hr hI hg hv
  have hle:=subOk_le hs
  simp only [lenL] at hle
  have hsl:(subBy sub xs).length=(sub? sub xs.length).2:=by
   rw [subBy_eq]; simp; omega
  simp only [RepC]
  by_cases e0:(sub? sub xs.length).2=0
  ·have:subBy sub xs=[]:=List.eq_nil_of_length_eq_zero (hsl.trans e0)
   rw [this,e0]
   exact .sl0 _ _ _
  ·have hl:=hlen (by omega)
   have hcap:(if cl then (sub? sub xs.length).2 else (pl r).cap - (sub? sub xs.length).1) ≠ 0:=by cases cl <;> simp <;> omega
   rw [ha hcap]
   rcases hrep with rfl|hrep
   ·exact absurd (show (sub? sub 0).2=0 by have h0:(sub? sub 0).1+(sub? sub 0).2≤0:=hle; omega) e0
   ·have hm:(sub? sub xs.length).1+(sub? sub xs.length).2≤(sub? sub xs.length).1+(if cl then (sub? sub xs.length).2 else (pl r).cap - (sub? sub xs.length).1):=by cases cl <;> simp <;> omega
    have hp:=repD_piece hrep (l:=(sub? sub xs.length).1) (h:=(sub? sub xs.length).1+(sub? sub xs.length).2) (by omega) hle hm
    have e1:dropL (sub? sub xs.length).1 (takeL ((sub? sub xs.length).1+(sub? sub xs.length).2) xs)=subBy sub xs:=by
     rw [subBy_eq,dropL,takeL,List.drop_take,Nat.add_sub_cancel_left]
    rw [e1,Nat.add_sub_cancel_left,Nat.add_sub_cancel_left,if_neg (by omega)] at hp
    simpa only [Option.map_some,at_add,Nat.zero_add] using hp
 unfold Cfg.now at h
 split at h
 ·rename_i g c xs hr
  simp only [Option.some.injEq,Prod.mk.injEq] at h
  obtain ⟨rfl,rfl,rfl⟩:=h
  simp only [andB_true,beq_iff_eq] at hok
  refine ⟨fun p hp=>?_,go g c xs _ hr rfl hok.1 hok.2⟩
  simp only [List.mem_singleton] at hp; subst hp
  exact ⟨g,c,xs,rfl,.inl hr⟩
 ·rename_i g c xs hr
  simp only [Option.some.injEq,Prod.mk.injEq] at h
  obtain ⟨rfl,rfl,rfl⟩:=h
  simp only [andB_true,beq_iff_eq] at hok
  refine ⟨fun p hp=>?_,go g c xs _ hr rfl hok.1 hok.2⟩
  simp only [List.mem_singleton] at hp; subst hp
  exact ⟨g,c,xs,rfl,.inr hr⟩
 ·cases h
def Frozen (F:Nat→Prop) (w:World) (pl:Rf→Pl) (F':Nat→Prop) (wr:List (Rf×O K.U)):Prop:=
 (∀b,F b→F' b)∧∀p∈wr,∃(ob':Obs K) (pl':Rf→Pl),RepO F' w ob' pl' (pl p.1) p.2
theorem Frozen.left {wr wr':List (Rf×O K.U)} (h:Frozen F w pl F' (wr ++ wr')):Frozen F w pl F' wr:=⟨h.1,fun p hp=>h.2 p (by simp [hp])⟩
theorem Frozen.right {wr wr':List (Rf×O K.U)} (h:Frozen F w pl F' (wr ++ wr')):Frozen F w pl F' wr':=⟨h.1,fun p hp=>h.2 p (by simp [hp])⟩
mutual
theorem frz_sound {loc:Loc K.U} {H:List (O K.U)} (M:Mem K F w (getO loc H) pl):∀{c y:C K.U} {wr:List (Rf×O K.U)} {ok:Bool} {v:Value},K.frz loc H c=some (ok,y,wr)→ok=true→RepC F w (getO loc H) pl c v→
  FrzW K loc H wr∧∀F',Frozen F w pl F' wr→∀(ob0:Obs K) (pl0:Rf→Pl),RepC F' w ob0 pl0 y v
 | .d x,y,wr,ok,v,h,hok,hv=>by
  simp only [Cfg.frz,Option.some.injEq,Prod.mk.injEq] at h
  obtain ⟨_,rfl,rfl⟩:=h
  refine ⟨.nil,fun F' hF ob0 pl0=>?_⟩
  simp only [RepC] at hv ⊢
  exact hv.mono hF.1 fun _ _=>rfl
 | .clip c xs,y,wr,ok,v,h,hok,hv=>by
  simp only [Cfg.frz,Option.some.injEq,Prod.mk.injEq] at h
  obtain ⟨_,rfl,rfl⟩:=h
  refine ⟨.nil,fun F' hF ob0 pl0=>?_⟩
  simp only [RepC] at hv ⊢
  exact hv.1.mono hF.1 fun _ _=>rfl
 | .ep cs,y,wr,ok,v,h,hok,hv=>by
  simp only [Cfg.frz,Option.some.injEq,Prod.mk.injEq] at h
  obtain ⟨_,rfl,rfl⟩:=h
  refine ⟨.nil,fun F' hF ob0 pl0=>?_⟩
  simp only [RepC] at hv ⊢
  obtain ⟨b,off,h1,h2,h3⟩:=hv
  refine ⟨b,off,h1,hF.1 _ h2,fun j d hd=>?_⟩
  obtain ⟨u,k1,k2⟩:=h3 j d hd
  exact ⟨u,k1,k2.mono hF.1 fun _ _=>rfl⟩
 | .asl r gen sub cl,y,wr,ok,v,h,hok,hv=>by
  simp only [Cfg.frz] at h
  split at h
  ·rename_i hn
   simp only [Option.some.injEq,Prod.mk.injEq] at h
   obtain ⟨rfl,rfl,rfl⟩:=h
   obtain ⟨h1,h2⟩:=now_sound M hn hok hv
   refine ⟨h1,fun F' hF ob0 pl0=>?_⟩
   obtain ⟨ob',pl',hr⟩:=hF.2 (r,_) (List.mem_singleton.2 rfl)
   exact h2 F' ob' pl' hr ob0 pl0
  ·cases h
 | .fn f first caps,y,wr,ok,v,h,hok,hv=>by
  simp only [Cfg.frz] at h
  split at h
  ·rename_i h1 h2
   simp only [Option.some.injEq,Prod.mk.injEq] at h
   obtain ⟨rfl,rfl,rfl⟩:=h
   simp only [andB_true] at hok
   simp only [RepC] at hv
   obtain ⟨a,b,rfl,ha,hb⟩:=hv
   obtain ⟨k1,k2⟩:=frzAll_sound M h1 hok.1 ha
   obtain ⟨k3,k4⟩:=frzAll_sound M h2 hok.2 hb
   refine ⟨k1.app k3,fun F' hF ob0 pl0=>?_⟩
   simp only [RepC]
   exact ⟨a,b,rfl,k2 F' hF.left ob0 pl0,k4 F' hF.right ob0 pl0⟩
  ·cases h
 | .agg cs,y,wr,ok,v,h,hok,hv=>by
  simp only [Cfg.frz] at h
  split at h
  ·rename_i h1
   simp only [Option.some.injEq,Prod.mk.injEq] at h
   obtain ⟨rfl,rfl,rfl⟩:=h
   simp only [RepC] at hv
   obtain ⟨a,rfl,ha⟩:=hv
   obtain ⟨k1,k2⟩:=frzAll_sound M h1 hok ha
   refine ⟨k1,fun F' hF ob0 pl0=>?_⟩
   simp only [RepC]
   exact ⟨a,rfl,k2 F' hF ob0 pl0⟩
  ·cases h
 | .tup cs,y,wr,ok,v,h,hok,hv=>by
  simp only [Cfg.frz] at h
  split at h
  ·rename_i h1
   simp only [Option.some.injEq,Prod.mk.injEq] at h
   obtain ⟨rfl,rfl,rfl⟩:=h
   simp only [RepC] at hv
   obtain ⟨a,rfl,ha⟩:=hv
   obtain ⟨k1,k2⟩:=frzAll_sound M h1 hok ha
   refine ⟨k1,fun F' hF ob0 pl0=>?_⟩
   simp only [RepC]
   exact ⟨a,rfl,k2 F' hF ob0 pl0⟩
  ·cases h
 | .ifc t x,y,wr,ok,v,h,hok,hv=>by
  simp only [Cfg.frz] at h
  split at h
  ·rename_i h1
   simp only [Option.some.injEq,Prod.mk.injEq] at h
   obtain ⟨rfl,rfl,rfl⟩:=h
   simp only [RepC] at hv
   obtain ⟨u,rfl,hu⟩:=hv
   obtain ⟨k1,k2⟩:=frz_sound M h1 hok hu
   refine ⟨k1,fun F' hF ob0 pl0=>?_⟩
   simp only [RepC]
   exact ⟨u,rfl,k2 F' hF ob0 pl0⟩
  ·cases h
 | .ptr _ _,_,_,_,_,h,_,_|.pa _ _ _ _,_,_,_,_,h,_,_|.osl _ _,_,_,_,_,h,_,_|.mp _,_,_,_,_,h,_,_|.fp _ _ _,_,_,_,_,h,_,_|.optr _,_,_,_,_,h,_,_|.dead,_,_,_,_,h,_,_=>by
  simp [Cfg.frz] at h
theorem frzAll_sound {loc:Loc K.U} {H:List (O K.U)} (M:Mem K F w (getO loc H) pl):∀{cs ys:List (C K.U)} {wr:List (Rf×O K.U)} {ok:Bool} {vs:List Value},K.frzAll loc H cs=some (ok,ys,wr)→ok=true→RepCs F w (getO loc H) pl cs vs→
  FrzW K loc H wr∧∀F',Frozen F w pl F' wr→∀(ob0:Obs K) (pl0:Rf→Pl),RepCs F' w ob0 pl0 ys vs
 | [],ys,wr,ok,vs,h,hok,hv=>by
  simp only [Cfg.frzAll,Option.some.injEq,Prod.mk.injEq] at h
  obtain ⟨_,rfl,rfl⟩:=h
  simp only [RepCs] at hv
  exact ⟨.nil,fun F' hF ob0 pl0=>by simp only [RepCs]; exact hv⟩
 | c :: cs,ys,wr,ok,vs,h,hok,hv=>by
  simp only [Cfg.frzAll] at h
  split at h
  ·rename_i h1 h2
   simp only [Option.some.injEq,Prod.mk.injEq] at h
   obtain ⟨rfl,rfl,rfl⟩:=h
   simp only [andB_true] at hok
   simp only [RepCs] at hv
   obtain ⟨v,rest,rfl,hc,hr⟩:=hv
   obtain ⟨k1,k2⟩:=frz_sound M h1 hok.1 hc
   obtain ⟨k3,k4⟩:=frzAll_sound M h2 hok.2 hr
   refine ⟨k1.app k3,fun F' hF ob0 pl0=>?_⟩
   simp only [RepCs]
   exact ⟨v,rest,rfl,k2 F' hF.left ob0 pl0,k4 F' hF.right ob0 pl0⟩
  ·cases h
end
end
end Go.Abs
