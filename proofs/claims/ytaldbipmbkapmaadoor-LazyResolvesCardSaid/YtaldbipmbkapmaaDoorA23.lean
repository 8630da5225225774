/- LEMMAS: regions that draw their order. Conditions: none. -/
import Derived.Test.YtaldbipmbkapmaaDoorA22
namespace Go.Abs
set_option linter.unusedVariables false
set_option linter.unusedSimpArgs false
section
variable {K:Cfg} {Rs:Res K}
inductive Bef (ops:Array Oper):Nat→Nat→Prop
 | dir {j:Nat} {o:Oper} {e:Edge} (ho:ops[j]?=some o) (he:e∈o.after.toList) (hb:Region.binds .any e=true):Bef ops e.on j
 | far {t j:Nat} {o:Oper} {e:Edge} (ho:ops[j]?=some o) (he:e∈o.after.toList) (hb:Region.binds .any e=true) (h:Bef ops t e.on):Bef ops t j
structure En (U:Univ) where
 i:Nat
 o:Oper
 δ:Dl U
 rd:List Tok
 wr:List Tok
 H:List (O U)
 ad:Option (LateK U)
theorem load_ptr {loc loc':Loc K.U} {H:List (O K.U)} {t:TypeId} {i n:Nat} {r:Out K.U} (h:K.load loc H t (.ptr (.g i) n)=some r):K.load loc' H t (.ptr (.g i) n)=some r∧r={ ok:=true,v:=r.v,rd:=[.g i] }:=by
 refine ⟨by rw [←h]; rfl,?_⟩
 unfold Cfg.load at h
 split at h
 ·rename_i j ok cs hj hc
  have:ok=true:=by
   simp only [Cfg.cellsAt] at hc
   split at hc
   ·simp only [Option.some.injEq,Prod.mk.injEq] at hc; exact hc.1.symm
   ·cases hc
  subst this
  split at h
  ·simp only [Option.some.injEq] at h
   subst h
   rfl
  ·cases h
 ·cases h
def LateK.isOp (l:LateK K.U) (o:Oper) (f:Operand→Option (C K.U)):Prop:=
 match l with
 | .ld t i n=>∃x,o.op=.load t x∧f x=some (.ptr (.g i) n)
 | .lk t i key ok=>∃x y,o.op=.lookup t x y ok∧f x=some (.mp (.g i))∧f y=some key
def LateK.ix {U:Univ}:LateK U→Nat
 | .ld _ i _|.lk _ i _ _=>i
theorem ev_looks {ops:Array Oper} {o:Oper} {tmps tmps':Nat→C K.U} (ht:∀s∈o.looksAt ops,tmps' s=tmps s) {x:Operand} (hx:x∈o.op.operands):K.ev tmps' x=K.ev tmps x:=by
 cases x with
 | tmp s=>
  have:tmps' s=tmps s:=ht s (List.mem_append_left _ (List.mem_filterMap.2 ⟨.tmp s,by simpa using hx,rfl⟩))
  simp only [Cfg.ev,this]
 | _=>rfl
theorem LateK.isOp_looks {l:LateK K.U} {ops:Array Oper} {o:Oper} {tmps tmps':Nat→C K.U} (ht:∀s∈o.looksAt ops,tmps' s=tmps s) (h:l.isOp o (K.ev tmps)):l.isOp o (K.ev tmps'):=by
 cases l with
 | ld t i n=>
  obtain ⟨x,k1,k2⟩:=h
  exact ⟨x,k1,by rw [ev_looks ht (by rw [k1]; simp [Op.operands]),k2]⟩
 | lk t i key ok=>
  obtain ⟨x,y,k1,k2,k3⟩:=h
  exact ⟨x,y,k1,by rw [ev_looks ht (by rw [k1]; simp [Op.operands]),k2],by rw [ev_looks ht (by rw [k1]; simp [Op.operands]),k3]⟩
theorem LateK.aop {l:LateK K.U} {an:OpAnn K.U} {o:Oper} {st:St K.U} (h:l.isOp o (K.ev st.tmps)):K.aop an o (K.ev st.tmps) st.loc st.H=stepOut (K.lateRun l st.H):=by
 cases l with
 | ld t i n=>
  obtain ⟨x,k1,k2⟩:=h
  unfold Cfg.aop Cfg.aopAt
  simp only [k1,k2]
  rfl
 | lk t i key ok=>
  obtain ⟨x,y,k1,k2,k3⟩:=h
  unfold Cfg.aop Cfg.aopAt
  simp only [k1,k2,k3]
  exact congrArg stepOut (lookup_same (fun r hr=>by simp only [C.ref,List.mem_singleton] at hr; subst hr; rfl)).symm
theorem LateK.run_spec {l:LateK K.U} {H:List (O K.U)} {r:Out K.U} (h:K.lateRun l H=some r):r={ ok:=true,v:=r.v,rd:=[.g l.ix] }:=by
 cases l with
 | ld t i n=>exact (load_ptr (loc':=fun _=>none) h).2
 | lk t i key ok=>
  have h:K.lookup (fun _=>none) H t (.mp (.g i)) key ok=some r:=h
  unfold Cfg.lookup at h
  repeat' split at h
  all_goals first
   | (simp only [Option.some.injEq] at h; subst h; rfl)
   | cases h
def Pin (e:En K.U) (st:St K.U):Prop:=
 ((none:Tok)∈e.wr→st.H=e.H)∧∀l,e.ad=some l→l.isOp e.o (K.ev st.tmps)
def Late (ad:Option (LateK K.U)) (e:En K.U):Prop:=
 ∃l r r',ad=some l∧K.lateRun l e.H=some r∧K.lateRun l (e.δ.hn.getD e.H)=some r'∧r.v=r'.v∧(none:Tok)∈e.wr
def EffP (Rs:Res K) (id:Nat) (an:FAnn K.U) (ops:Array Oper) (e:En K.U) (st:St K.U):Prop:=Eff Rs id an ops e.i e.o st e.δ e.rd e.wr∧Pin e st
def Chain (Rs:Res K) (id:Nat) (an:FAnn K.U) (ops:Array Oper):List (En K.U)→St K.U→St K.U→Prop
 | [],st,st'=>st=st'
 | e :: l,st,st'=>EffP Rs id an ops e st∧Chain Rs id an ops l (e.δ.app e.o.dst st) st'
theorem effP_frame {id:Nat} {an:FAnn K.U} {ops:Array Oper} {e:En K.U} {st st':St K.U} (h:EffP Rs id an ops e st) (ht:∀t∈e.o.looksAt ops,st'.tmps t=st.tmps t)
  (A:Agree (e.rd ++ e.wr) st.loc st.H st'.loc st'.H):EffP Rs id an ops e st':=by
 obtain ⟨h1,h2,h3⟩:=h
 refine ⟨(eff_frame h1 ht A).1,fun hn=>?_,fun l had=>LateK.isOp_looks ht (h3 l had)⟩
 rw [A.g (List.mem_append_right _ hn)]; exact h2 hn
theorem late_load {id:Nat} {an:FAnn K.U} {ops:Array Oper} {a:En K.U} {st:St K.U} (h:EffP Rs id an ops a st) {l:LateK K.U} (had:a.ad=some l):
  (a.rd=[]∧a.wr=[]∧a.δ=⟨.dead,[],none⟩)∨∃r,K.lateRun l st.H=some r∧a.δ=⟨r.v,[],none⟩∧a.wr=[]∧
   ∀st':St K.U,(∀s∈a.o.looksAt ops,st'.tmps s=st.tmps s)→K.lateRun l st'.H=some r→EffP Rs id an ops a st':=by
 obtain ⟨h1,h2,h3⟩:=h
 have hop:=h3 l had
 have pin:a.wr=[]→∀st':St K.U,(∀s∈a.o.looksAt ops,st'.tmps s=st.tmps s)→l.isOp a.o (K.ev st'.tmps)∧Pin a st':=by
  intro hw st' ht
  have e:=LateK.isOp_looks ht hop
  refine ⟨e,fun hn=>(by rw [hw] at hn; cases hn),fun l' had'=>?_⟩
  rw [had] at had'; cases had'
  exact e
 have op:∀{δ:Dl K.U} {rd wr:List Tok},EffOp Rs (an.op id a.i) a.o st δ rd wr→∃r,K.lateRun l st.H=some r∧δ=⟨r.v,[],none⟩∧wr=[]∧
   ∀st':St K.U,l.isOp a.o (K.ev st'.tmps)→K.lateRun l st'.H=some r→EffOp Rs (an.op id a.i) a.o st' δ rd wr:=by
  intro δ rd wr h
  rcases h with ⟨r,q1,q2,q3,rfl,rfl,rfl⟩|⟨g,args,q1,_⟩
  ·rw [LateK.aop hop] at q1
   cases hl:K.lateRun l st.H with
   | none=>rw [hl] at q1; cases q1
   | some r0=>
    rw [hl] at q1
    simp only [stepOut,Option.map_some,Option.some.injEq,Step.out.injEq] at q1
    subst q1
    have hr:=LateK.run_spec hl
    refine ⟨_,rfl,by rw [hr]; rfl,by rw [hr]; rfl,fun st' e hl'=>.inl ⟨_,by rw [LateK.aop e,hl']; rfl,q2,q3,rfl,rfl,by rw [hr]; rfl⟩⟩
  ·rw [LateK.aop hop] at q1
   cases hl:K.lateRun l st.H with
   | none=>rw [hl] at q1; cases q1
   | some r0=>rw [hl] at q1; simp [stepOut] at q1
 unfold Eff at h1
 split at h1
 ·rename_i hg
  obtain ⟨r,q1,q2,q3,q4⟩:=op h1
  refine .inr ⟨r,q1,q2,q3,fun st' ht hl=>?_⟩
  obtain ⟨p1,p2⟩:=pin q3 st' ht
  refine ⟨?_,p2⟩
  unfold Eff
  simp only [hg]
  exact q4 st' p1 hl
 ·rename_i j want hg
  obtain ⟨dj,b,d1,d2,⟨d3,d4⟩|⟨_,d4,d5,d6⟩⟩:=h1
  ·obtain ⟨r,q1,q2,q3,q4⟩:=op d4
   refine .inr ⟨r,q1,q2,q3,fun st' ht hl=>?_⟩
   obtain ⟨p1,p2⟩:=pin q3 st' ht
   refine ⟨?_,p2⟩
   unfold Eff
   simp only [hg]
   refine ⟨dj,b,d1,?_,.inl ⟨d3,q4 st' p1 hl⟩⟩
   rw [ht dj (List.mem_append_right _ (by simp [hg,d1]))]; exact d2
  ·exact .inl ⟨d5,d6,d4⟩
theorem maskAt_spec {ops:Array Oper}:∀{acc:List (Rec K.U)},(∀p∈acc,∀t,p.2.1.testBit t=true→Bef ops t p.1)→∀{t s:Nat},(maskAt acc s).testBit t=true→Bef ops t s
 | [],_,t,s,h=>by simp [maskAt] at h
 | (j,m,r,w,q) :: acc,hm,t,s,h=>by
  simp only [maskAt] at h
  cases hb:Nat.beq j s with
  | true=>
   have:=Nat.eq_of_beq_eq_true hb
   subst this
   rw [hb] at h
   exact hm (j,m,r,w,q) (by simp) t h
  | false=>
   rw [hb] at h
   exact maskAt_spec (fun p hp=>hm p (by simp [hp])) h
theorem maskOf_spec {ops:Array Oper} {acc:List (Rec K.U)} {i:Nat} {o:Oper} (ho:ops[i]?=some o) (hm:∀p∈acc,∀t,p.2.1.testBit t=true→Bef ops t p.1):
  ∀{es:List Edge},(∀e∈es,e∈o.after.toList)→∀{t:Nat},(maskOf acc es).testBit t=true→Bef ops t i
 | [],_,t,h=>by simp [maskOf] at h
 | e :: es,hes,t,h=>by
  simp only [maskOf] at h
  cases hb:Region.binds .any e with
  | false=>
   rw [hb] at h
   exact maskOf_spec ho hm (fun e he=>hes e (by simp [he])) h
  | true=>
   rw [hb] at h
   simp only [cond_true,Nat.testBit_or,Bool.or_eq_true] at h
   rcases h with (h|h)|h
   ·rw [Nat.testBit_two_pow] at h
    have:e.on=t:=by simpa using h
    subst this
    exact .dir ho (hes e (by simp)) hb
   ·exact .far ho (hes e (by simp)) hb (maskAt_spec hm h)
   ·exact maskOf_spec ho hm (fun e he=>hes e (by simp [he])) h
theorem put_self {U:Univ} {tmps:Nat→C U} {d:Nat} {x:C U} (h:tmps d=x):put tmps (some d) x=tmps:=by
 funext t
 simp only [put]
 cases hb:Nat.beq t d with
 | true=>rw [Nat.eq_of_beq_eq_true hb,h]; rfl
 | false=>rfl
theorem loadOf_spec {tmps:Nat→C K.U} {o:Oper} {l:LateK K.U} (h:loadOf tmps o=some l):l.isOp o (K.ev tmps):=by
 unfold loadOf at h
 split at h
 ·rename_i t' x ho
  split at h
  ·rename_i i' n' he
   cases h
   exact ⟨x,ho,he⟩
  ·cases h
 ·rename_i t' m k ok ho
  split at h
  ·rename_i i' key he hk
   cases h
   exact ⟨m,k,ho,he,hk⟩
  ·cases h
 ·cases h
theorem lateAll_spec {mk:Nat} {rd wr:List Tok} {H H':List (O K.U)} {p:Prop}:∀{acc:List (Rec K.U)},lateAll (K:=K) mk rd wr H H' acc p→
  p∧∀q∈acc,mk.testBit q.1=true∨apartT rd wr q.2.2.1 q.2.2.2.1=true∨∃l r r',q.2.2.2.2=some l∧K.lateRun l H=some r∧K.lateRun l H'=some r'∧r.v=r'.v
 | [],h=>⟨h,by simp⟩
 | (j,m,rd',wr',ad) :: acc,h=>by
  unfold lateAll at h
  split at h
  ·rename_i hb
   obtain ⟨k1,k2⟩:=lateAll_spec h
   refine ⟨k1,fun q hq=>?_⟩
   rcases List.mem_cons.1 hq with rfl|hq
   ·simp only [Bool.or_eq_true] at hb
    exact hb.imp (fun h=>h) fun h=>.inl h
   ·exact k2 q hq
  ·rename_i l hb
   obtain ⟨h1,h⟩:=h
   obtain ⟨k1,k2⟩:=lateAll_spec h
   refine ⟨k1,fun q hq=>?_⟩
   rcases List.mem_cons.1 hq with rfl|hq
   ·unfold lateOne at h1
    split at h1
    ·rename_i r r' hr hr'
     exact .inr (.inr ⟨l,r,r',rfl,hr,hr',h1⟩)
    ·exact h1.elim
   ·exact k2 q hq
  ·exact h.elim
theorem drawOp_E {id i mk:Nat} {an:FAnn K.U} {o:Oper} {acc:List (Rec K.U)} {st:St K.U} {k:List Tok→List Tok→Option (LateK K.U)→St K.U→Prop} (h:drawOp Rs (Runs K) id i mk an o acc st k):
  ∃δ rd wr ad,EffOp Rs (an.op id i) o st δ rd wr∧Pin ⟨i,o,δ,rd,wr,st.H,ad⟩ st∧(∀p∈acc,mk.testBit p.1=true∨apartT rd wr p.2.2.1 p.2.2.2.1=true∨Late p.2.2.2.2 ⟨i,o,δ,rd,wr,st.H,ad⟩)∧k rd wr ad (δ.app o.dst st):=by
 have all:∀{rd wr:List Tok} (e:En K.U),apartAll mk acc rd wr=true→∀p∈acc,mk.testBit p.1=true∨apartT rd wr p.2.2.1 p.2.2.2.1=true∨Late p.2.2.2.2 e:=by
  intro rd wr e hap p hp
  have:=List.all_eq_true.1 hap p hp
  simp only [Bool.or_eq_true] at this
  exact this.imp (fun h=>h) fun h=>.inl h
 unfold drawOp at h
 split at h
 ·rename_i r hr
  split at h
  ·rename_i hc
   simp only [Bool.and_eq_true] at hc
   rw [andP_iff] at h
   refine ⟨⟨r.v,r.wr,newH st.H r.wr⟩,_,_,loadOf st.tmps o,.inl ⟨r,hr,h.1,hc.2,rfl,rfl,rfl⟩,⟨fun _=>rfl,fun l had=>loadOf_spec had⟩,all _ hc.1,?_⟩
   simp only [Dl.app,newH_eq]
   exact h.2
  ·split at h
   ·rename_i hc
    simp only [Bool.and_eq_true] at hc
    rw [andP_iff] at h
    obtain ⟨h3,h4⟩:=lateAll_spec h.2
    refine ⟨⟨r.v,r.wr,newH st.H r.wr⟩,_,_,loadOf st.tmps o,.inl ⟨r,hr,h.1,hc.1.2,rfl,rfl,rfl⟩,⟨fun _=>rfl,fun l had=>loadOf_spec had⟩,fun p hp=>?_,?_⟩
    ·rcases h4 p hp with q|q|⟨l,r1,r',q1,q2,q3,q4⟩
     ·exact .inl q
     ·exact .inr (.inl q)
     ·refine .inr (.inr ⟨l,r1,r',q1,q2,?_,q4,?_⟩)
      ·simp only [Dl.app,newH_eq]; exact q3
      ·simpa [List.contains_iff_mem] using hc.2
    ·simp only [Dl.app,newH_eq]
     exact h3
   ·exact h.elim
 ·rename_i g args hr
  split at h
  ·rename_i hc
   obtain ⟨δ,h1,h2⟩:=callP_E h
   exact ⟨δ,_,_,none,.inr ⟨g,args,hr,rfl,rfl,h1⟩,⟨fun _=>rfl,fun l had=>by cases had⟩,all _ hc,h2⟩
  ·split at h
   ·rename_i hc
    simp only [Bool.and_eq_true,Bool.not_eq_true'] at hc
    obtain ⟨δ,h1,h2⟩:=callP_E h
    obtain ⟨h3,h4⟩:=lateAll_spec h2
    refine ⟨δ,_,_,none,.inr ⟨g,args,hr,rfl,rfl,h1⟩,⟨fun _=>rfl,fun l had=>by cases had⟩,fun p hp=>?_,h3⟩
    rcases h4 p hp with q|q|⟨l,r,r',q1,q2,q3,q4⟩
    ·exact .inl q
    ·exact .inr (.inl q)
    ·refine .inr (.inr ⟨l,r,r',q1,q2,q3,q4,?_⟩)
     show (none:Tok)∈(callToks (K:=K) (slotOf (an.op id i) o) g args).2
     unfold callToks
     simp [hc.1]
   ·exact h.elim
 ·exact h.elim
theorem boolAt_tmps {st:St K.U} {d:Nat} {b:Bool} (h:boolAt st (.tmp d)=some b):st.tmps d=.d (.bool b):=by
 unfold boolAt at h
 simp only [Cfg.ev] at h
 split at h
 ·rename_i b' hb
  simp only [Option.some.injEq] at h hb
  rw [hb,h]
 ·cases h
theorem draw_chain {id:Nat} {an:FAnn K.U} {ops:Array Oper} {k:St K.U→Prop}:∀{l:List (Nat×Oper)} {acc:List (Rec K.U)} {st:St K.U},drawP Rs (Runs K) id an ops l acc st k→
  (∀p∈l,ops[p.1]?=some p.2)→(∀p∈acc,∀t,p.2.1.testBit t=true→Bef ops t p.1)→
  ∃(es:List (En K.U)) (st':St K.U),es.map (fun e=>(e.i,e.o))=l∧Chain Rs id an ops es st st'∧k st'∧es.Pairwise (fun a b=>Bef ops a.i b.i∨apartT b.rd b.wr a.rd a.wr=true∨Late a.ad b)∧
   ∀p∈acc,∀b∈es,Bef ops p.1 b.i∨apartT b.rd b.wr p.2.2.1 p.2.2.2.1=true∨Late p.2.2.2.2 b
 | [],acc,st,h,_,_=>⟨[],st,rfl,rfl,h,.nil,by simp⟩
 | (i,o) :: l,acc,st,h,hops,hm=>by
  have hio:ops[i]?=some o:=hops (i,o) (by simp)
  simp only [drawP,forceN_eq] at h
  generalize hmk:maskOf acc o.after.toList=mk at h
  have hmk':∀t,mk.testBit t=true→Bef ops t i:=fun t ht=>maskOf_spec hio hm (fun e he=>he) (by rw [hmk]; exact ht)
  have go:∀{δ:Dl K.U} {rd wr:List Tok} {ad:Option (LateK K.U)},Eff Rs id an ops i o st δ rd wr→Pin ⟨i,o,δ,rd,wr,st.H,ad⟩ st→
    (∀p∈acc,mk.testBit p.1=true∨apartT rd wr p.2.2.1 p.2.2.2.1=true∨Late p.2.2.2.2 ⟨i,o,δ,rd,wr,st.H,ad⟩)→drawP Rs (Runs K) id an ops l ((i,mk,rd,wr,ad) :: acc) (δ.app o.dst st) k→
    ∃(es:List (En K.U)) (st':St K.U),es.map (fun e=>(e.i,e.o))=(i,o) :: l∧Chain Rs id an ops es st st'∧k st'∧es.Pairwise (fun a b=>Bef ops a.i b.i∨apartT b.rd b.wr a.rd a.wr=true∨Late a.ad b)∧
     ∀p∈acc,∀b∈es,Bef ops p.1 b.i∨apartT b.rd b.wr p.2.2.1 p.2.2.2.1=true∨Late p.2.2.2.2 b:=by
   intro δ rd wr ad he hpin hap hd
   obtain ⟨es,st',k1,k2,k3,k4,k5⟩:=draw_chain hd (fun p hp=>hops p (by simp [hp])) (fun p hp t ht=>by
    rcases List.mem_cons.1 hp with rfl|hp
    ·exact hmk' t ht
    ·exact hm p hp t ht)
   refine ⟨⟨i,o,δ,rd,wr,st.H,ad⟩ :: es,st',by simp [k1],⟨⟨he,hpin⟩,k2⟩,k3,?_,fun p hp b hb=>?_⟩
   ·rw [List.pairwise_cons]
    exact ⟨fun b hb=>k5 (i,mk,rd,wr,ad) (by simp) b hb,k4⟩
   ·rcases List.mem_cons.1 hb with rfl|hb
    ·exact (hap p hp).imp (hmk' _) fun h=>h
    ·exact k5 p (by simp [hp]) b hb
  have skip:∀{j dj:Nat} {b want:Bool},o.guard=some (j,want)→(ops[j]?).bind (·.dst)=some dj→st.tmps dj=.d (.bool b)→b ≠ want→
    drawP Rs (Runs K) id an ops l ((i,mk,[],[],none) :: acc) ⟨put (put st.tmps (some dj) (.d (.bool b))) o.dst .dead,st.loc,st.H⟩ k→
    ∃(es:List (En K.U)) (st':St K.U),es.map (fun e=>(e.i,e.o))=(i,o) :: l∧Chain Rs id an ops es st st'∧k st'∧es.Pairwise (fun a b=>Bef ops a.i b.i∨apartT b.rd b.wr a.rd a.wr=true∨Late a.ad b)∧
     ∀p∈acc,∀b∈es,Bef ops p.1 b.i∨apartT b.rd b.wr p.2.2.1 p.2.2.2.1=true∨Late p.2.2.2.2 b:=by
   intro j dj b want hg hdj hb hne hd
   rw [put_self hb] at hd
   refine go (δ:=⟨.dead,[],none⟩) (rd:=[]) (wr:=[]) (ad:=none) ?_ ⟨fun h=>by simp at h,fun l had=>by cases had⟩ (fun p hp=>.inr (.inl ?_)) hd
   ·unfold Eff
    simp only [hg]
    exact ⟨dj,b,hdj,hb,.inr ⟨hne,by trivial,by trivial,by trivial⟩⟩
   ·simp [apartT]
  have run:∀{j dj:Nat} {b want:Bool},o.guard=some (j,want)→(ops[j]?).bind (·.dst)=some dj→st.tmps dj=.d (.bool b)→b=want→
    drawOp Rs (Runs K) id i mk an o acc ⟨put st.tmps (some dj) (.d (.bool b)),st.loc,st.H⟩ (fun rd wr ad st'=>drawP Rs (Runs K) id an ops l ((i,mk,rd,wr,ad) :: acc) st' k)→
    ∃(es:List (En K.U)) (st':St K.U),es.map (fun e=>(e.i,e.o))=(i,o) :: l∧Chain Rs id an ops es st st'∧k st'∧es.Pairwise (fun a b=>Bef ops a.i b.i∨apartT b.rd b.wr a.rd a.wr=true∨Late a.ad b)∧
     ∀p∈acc,∀b∈es,Bef ops p.1 b.i∨apartT b.rd b.wr p.2.2.1 p.2.2.2.1=true∨Late p.2.2.2.2 b:=by
   intro j dj b want hg hdj hb heq hd
   rw [put_self hb] at hd
   obtain ⟨δ,rd,wr,ad,k1,k1',k2,k3⟩:=drawOp_E hd
   refine go ?_ k1' k2 k3
   unfold Eff
   simp only [hg]
   exact ⟨dj,b,hdj,hb,.inl ⟨heq,k1⟩⟩
  split at h
  ·rename_i hg
   obtain ⟨δ,rd,wr,ad,k1,k1',k2,k3⟩:=drawOp_E h
   exact go (by unfold Eff; simp only [hg]; exact k1) k1' k2 k3
  ·rename_i j want hg
   split at h
   ·exact h.elim
   ·rename_i dj hdj
    split at h
    ·exact h.elim
    ·rename_i b hb
     have hb:=boolAt_tmps hb
     cases want with
     | true=>
      simp only [iteP_iff] at h
      cases b with
      | true=>exact run hg hdj hb rfl (by simpa using h)
      | false=>exact skip hg hdj hb (by simp) (by simpa using h)
     | false=>
      simp only [iteP_iff] at h
      cases b with
      | true=>exact skip hg hdj hb (by simp) (by simpa using h)
      | false=>exact run hg hdj hb rfl (by simpa using h)
theorem apartT_spec {rd wr rd' wr':List Tok} (h:apartT rd wr rd' wr'=true):(∀t∈rd ++ wr,t ∉ wr')∧∀t∈rd' ++ wr',t ∉ wr:=by
 simp only [apartT,Bool.and_eq_true,List.all_eq_true,Bool.not_eq_true',List.contains_iff_mem,←Bool.not_eq_true] at h
 obtain ⟨h1,h2⟩:=h
 refine ⟨fun t ht=>?_,fun t ht hw=>?_⟩
 ·rcases List.mem_append.1 ht with ht|ht
  ·exact h2 t ht
  ·exact (h1 t ht).2
 ·rcases List.mem_append.1 ht with ht|ht
  ·exact (h1 t hw).1 ht
  ·exact (h1 t hw).2 ht
theorem chain_front {id:Nat} {an:FAnn K.U} {ops:Array Oper} {e:En K.U} {l2:List (En K.U)} {st':St K.U}:∀{l1:List (En K.U)} {st:St K.U},Chain Rs id an ops (l1 ++ e :: l2) st st'→
  (∀a∈l1,a.o.apart ops e.o=true∧(apartT e.rd e.wr a.rd a.wr=true∨Late a.ad e))→EffP Rs id an ops e st∧Chain Rs id an ops (l1 ++ l2) (e.δ.app e.o.dst st) st'
 | [],st,h,_=>h
 | a :: l1,st,h,hap=>by
  obtain ⟨h1,h2⟩:=h
  obtain ⟨h3,h4⟩:=chain_front h2 fun b hb=>hap b (by simp [hb])
  obtain ⟨t1,t2⟩:=hap a (by simp)
  obtain ⟨s1,s2,s3⟩:=Oper.apart_spec t1
  obtain ⟨_,a1,a2⟩:=eff_frame h1.1 (fun _ _=>rfl) ⟨fun _ _=>rfl,fun _=>rfl⟩
  obtain ⟨_,e1,e2⟩:=eff_frame h3.1 (fun _ _=>rfl) ⟨fun _ _=>rfl,fun _=>rfl⟩
  have plain:apartT e.rd e.wr a.rd a.wr=true→EffP Rs id an ops e st∧Chain Rs id an ops (a :: l1 ++ l2) (e.δ.app e.o.dst st) st':=by
   intro t2
   obtain ⟨p1,p2⟩:=apartT_spec t2
   have he:EffP Rs id an ops e st:=effP_frame h3 (fun t ht=>(app_tmps fun e'=>s1 t e' ht).symm) (app_agree a1 a2 p1).symm
   have ha:EffP Rs id an ops a (e.δ.app e.o.dst st):=effP_frame h1 (fun t ht=>app_tmps fun e'=>s3 t e' ht) (app_agree e1 e2 p2)
   refine ⟨he,ha,?_⟩
   rw [app_comm (d:=e.o.dst) (e:=a.o.dst) (fun t e1' e2'=>s2 t e2' e1') e1 e2 a1 a2 fun t ht=>p1 t (List.mem_append_right _ ht)]
   exact h4
  rcases t2 with t2|⟨l,r,r',q1,q2,q3,q4,q5⟩
  ·exact plain t2
  ·rcases late_load h1 q1 with ⟨d1,d2,_⟩|⟨r0,l1',l2',l3',l4'⟩
   ·exact plain (by rw [d1,d2]; simp [apartT])
   ·have hH:st.H=e.H:=by
     have:=h3.2.1 q5
     rw [l2'] at this
     exact this
    have he:EffP Rs id an ops e st:=effP_frame h3 (fun t ht=>(app_tmps fun e'=>s1 t e' ht).symm) ⟨fun _ _=>by rw [l2']; rfl,fun _=>by rw [l2']; rfl⟩
    have hr:r0=r:=by
     have:=l1'
     rw [hH,q2] at this
     exact (Option.some.inj this).symm
    have hr':r'=r:=by rw [LateK.run_spec q3,LateK.run_spec q2,q4]
    have ha:EffP Rs id an ops a (e.δ.app e.o.dst st):=by
     refine l4' _ (fun t ht=>app_tmps fun e'=>s3 t e' ht) ?_
     have:=q3
     rw [hr',←hr,←hH] at this
     exact this
    refine ⟨he,ha,?_⟩
    rw [app_comm (d:=e.o.dst) (e:=a.o.dst) (fun t e1' e2'=>s2 t e2' e1') e1 e2 a1 a2 fun t ht=>by rw [l3']; simp]
    exact h4
theorem bef_listed {ops:Array Oper} {listed:Array Bool} (hcl:∀(i:Nat) (o:Oper),ops[i]?=some o→listed.getD i false=true→∀e∈o.after,Region.binds .any e=true→listed.getD e.on false=true) {t i:Nat} (h:Bef ops t i):
  (∀o,ops[i]?=some o→∀e∈o.after,Region.binds .any e=true→listed.getD e.on false=true)→listed.getD t false=true:=by
 induction h with
 | dir ho he hb=>intro hd; exact hd _ ho _ (by simpa using he) hb
 | far ho he hb h ih=>
  intro hd
  have h1:=hd _ ho _ (by simpa using he) hb
  exact ih fun o' ho' e' he' hb'=>hcl _ o' ho' h1 e' he' hb'
theorem getD_size {listed:Array Bool} {i:Nat} (h:i<listed.size) (d d':Bool):listed.getD i d=listed.getD i d':=by
 simp [Array.getD_eq_getD_getElem?,h]
section
variable {β:Base K} {nt:Nat} {Q:Exit→Act→World→Prop}
theorem chain_any (L:Laws K) {id:Nat} {an:FAnn K.U} {ops:Array Oper} {k:St K.U→Prop} {st':St K.U} (hnt:∀(i:Nat) (o:Oper),ops[i]?=some o→∀d,o.dst=some d→d<nt)
  (hedge:∀(i:Nat) (o:Oper),ops[i]?=some o→∀e∈o.after,Region.binds .any e=true→e.on<i) (hk:k st') (hn:∀st' a' F' pl' w',Sim K β nt st' a' F' pl' w'→k st'→Q .normal a' w'):
  ∀(n:Nat) {es:List (En K.U)} {listed:Array Bool} {st:St K.U} {a:Act} {F:Nat→Prop} {pl:Rf→Pl} {w:World},es.length=n→Sim K β nt st a F pl w→Chain Rs id an ops es st st'→listed.size=ops.size→
   (∀e∈es,ops[e.i]?=some e.o)→(∀i,i<ops.size→(listed.getD i true=false↔∃e∈es,e.i=i))→
   (∀(i:Nat) (o:Oper),ops[i]?=some o→listed.getD i false=true→∀e∈o.after,Region.binds .any e=true→listed.getD e.on false=true)→
   es.Pairwise (fun a b=>Bef ops a.i b.i∨apartT b.rd b.wr a.rd a.wr=true∨Late a.ad b)→es.Pairwise (fun a b=>(a.i ≠ b.i∧∀x∈a.o.after,Region.binds .any x=true→x.on ≠ b.i)∧(dirOn b.o a.i=true∨a.o.apart ops b.o=true))→
   wpAny K.P .any ops Q n listed a w:=by
 intro n
 induction n with
 | zero=>
  intro es listed st a F pl w hl S hc hsz hops hun _ _ _
  have:es=[]:=List.eq_nil_of_length_eq_zero hl
  subst this
  refine ⟨List.eq_nil_iff_forall_not_mem.2 fun i hi=>?_,hn _ _ _ _ _ (show Sim K β nt st' a F pl w from (show st=st' from hc)▸S) hk⟩
  obtain ⟨h0,o,ho,_⟩:=mem_ready.1 hi
  obtain ⟨e,he,_⟩:=(hun i (Array.getElem?_eq_some_iff.1 ho).1).1 h0
  simp at he
 | succ n ih=>
  intro es listed st a F pl w hl S hc hsz hops hun hcl hp1 hp2
  have toF:∀i,i<ops.size→listed.getD i true=true→listed.getD i false=true:=fun i hi h=>by rw [getD_size (by omega) false true]; exact h
  refine ⟨fun h0=>?_,fun i hi=>?_⟩
  ·exfalso
   cases es with
   | nil=>simp at hl
   | cons e0 rest=>
    have ho:=hops e0 (by simp)
    have hlt:=(Array.getElem?_eq_some_iff.1 ho).1
    have:e0.i∈Region.ready .any ops listed:=by
     refine mem_ready.2 ⟨(hun e0.i hlt).2 ⟨e0,by simp,rfl⟩,e0.o,ho,fun e he hb=>?_⟩
     have hlt':=hedge e0.i e0.o ho e he hb
     cases hb':listed.getD e.on true with
     | true=>exact toF _ (by omega) hb'
     | false=>
      obtain ⟨e',he',hi'⟩:=(hun e.on (by omega)).1 hb'
      rcases List.mem_cons.1 he' with rfl|he'
      ·omega
      ·exact absurd hi'.symm (((List.pairwise_cons.1 hp2).1 e' he').1.2 e he hb)
    rw [h0] at this
    cases this
  ·obtain ⟨h0,o,ho,hdep⟩:=mem_ready.1 hi
   have hlt:=(Array.getElem?_eq_some_iff.1 ho).1
   obtain ⟨e,he,hie⟩:=(hun i hlt).1 h0
   subst hie
   have hoe:=hops e he
   rw [ho] at hoe; cases hoe
   obtain ⟨l1,l2,rfl⟩:=List.append_of_mem he
   have unl:∀b∈l1,listed.getD b.i false=true→False:=by
    intro b hb h1
    have hlb:=(Array.getElem?_eq_some_iff.1 (hops b (by simp [hb]))).1
    have:=(hun b.i hlb).2 ⟨b,by simp [hb],rfl⟩
    rw [getD_size (by omega) true false,h1] at this
    cases this
   have hdep':∀o,ops[e.i]?=some o→∀x∈o.after,Region.binds .any x=true→listed.getD x.on false=true:=fun o' ho'=>by rw [ho] at ho'; cases ho'; exact hdep
   obtain ⟨⟨hE,_⟩,hC⟩:=chain_front hc fun b hb=>by
    have q1:=(List.pairwise_append.1 hp1).2.2 b hb e (by simp)
    have q2:=((List.pairwise_append.1 hp2).2.2 b hb e (by simp)).2
    refine ⟨q2.resolve_left fun hd=>?_,q1.resolve_left fun hB=>unl b hb (bef_listed hcl hB hdep')⟩
    obtain ⟨x,hx,hx'⟩:=List.any_eq_true.1 hd
    simp only [Bool.and_eq_true] at hx'
    have e1:=Nat.eq_of_beq_eq_true hx'.2
    exact unl b hb (e1▸hdep x (by simpa using hx) hx'.1)
   have hsub:(l1 ++ l2).Sublist (l1 ++ e :: l2):=List.Sublist.append_left (List.sublist_cons_self _ _) _
   have next:∀(v:Value) (F':Nat→Prop) (pl':Rf→Pl) (w':World),Sim K β nt (e.δ.app e.o.dst st) (a.put e.o.dst v) F' pl' w'→wpAny K.P .any ops Q n (listed.setIfInBounds e.i true) (a.put e.o.dst v) w':=by
    intro v F' pl' w' S'
    refine ih (es:=l1 ++ l2) (by simp at hl ⊢; omega) S' hC (by simpa using hsz) (fun b hb=>hops b (hsub.subset hb)) (fun j hj=>?_) (fun j oj hoj hlj x hx hbx=>?_) (hp1.sublist hsub) (hp2.sublist hsub)
    ·by_cases hje:e.i=j
     ·subst hje
      constructor
      ·intro hf
       exfalso
       have:(listed.setIfInBounds e.i true).getD e.i true=true:=by
        rw [Array.getD_eq_getD_getElem?,Array.getElem?_setIfInBounds]
        have:e.i<listed.size:=by omega
        simp [this]
       rw [this] at hf; cases hf
      ·rintro ⟨b,hb,hbe⟩
       exfalso
       rcases List.mem_append.1 hb with hb|hb
       ·have:=((List.pairwise_append.1 hp2).2.2 b hb e (by simp)).1.1; omega
       ·have:=((List.pairwise_cons.1 (List.pairwise_append.1 hp2).2.1).1 b hb).1.1; omega
     ·rw [getD_set_ne true hje,hun j hj]
      constructor
      ·rintro ⟨b,hb,hbe⟩
       rcases List.mem_append.1 hb with hb|hb
       ·exact ⟨b,by simp [hb],hbe⟩
       ·rcases List.mem_cons.1 hb with rfl|hb
        ·exact absurd hbe hje
        ·exact ⟨b,by simp [hb],hbe⟩
      ·rintro ⟨b,hb,hbe⟩
       exact ⟨b,hsub.subset hb,hbe⟩
    ·by_cases hje:e.i=j
     ·subst hje
      rw [ho] at hoj; cases hoj
      exact getD_set_true (hdep x hx hbx)
     ·rw [getD_set_ne false hje] at hlj
      exact getD_set_true (hcl j oj hoj hlj x hx hbx)
   unfold wpOp
   simp only [ho]
   have dst:=hnt e.i e.o ho
   have runs:EffOp Rs (an.op id e.i) e.o st e.δ e.rd e.wr→e.o.wp K.P a w (wpAny K.P .any ops Q n (listed.setIfInBounds e.i true)) Q:=by
    intro hE'
    refine opP_sound L S dst (effOp_P hE' (k:=fun st1=>st1=e.δ.app e.o.dst st) rfl) fun v st1 F' pl' w' S1 h1 _=>?_
    subst h1
    exact next v F' pl' w' S1
   unfold Eff at hE
   split at hE
   ·rename_i hg
    have hw:Region.wanted e.o (yielded ops a.tmps)=true:=by simp [Region.wanted,hg]
    rw [if_pos hw]
    exact .inl (runs hE)
   ·rename_i j want hg
    obtain ⟨dj,b,hdj,hb,hE⟩:=hE
    have hy:yielded ops a.tmps j=some b:=by
     have:=tmps_at (b:=b) S (t:=dj) (by simp [boolAt,Cfg.ev,hb])
     simp [yielded,hdj,this]
    rcases hE with ⟨rfl,hE⟩|⟨hne,hδ,_,_⟩
    ·have hw:Region.wanted e.o (yielded ops a.tmps)=true:=by simp [Region.wanted,hg,hy]
     rw [if_pos hw]
     exact .inl (runs hE)
    ·have hw:Region.wanted e.o (yielded ops a.tmps)=false:=by simp only [Region.wanted,hg,hy]; simpa using hne
     rw [hw]
     simp only [Bool.false_eq_true,if_false]
     refine next undef F pl w ?_
     rw [hδ]
     exact S.put dst (repC_dead _)
theorem drawOk_spec {ops:Array Oper}:∀{l seen:List (Nat×Oper)},drawOk ops l seen=true→(∀p∈l,∀e∈p.2.after.toList,Region.binds .any e=true→e.on<p.1)∧
  l.Pairwise (fun a b=>dirOn b.2 a.1=true∨a.2.apart ops b.2=true)∧∀a∈seen,∀b∈l,dirOn b.2 a.1=true∨a.2.apart ops b.2=true
 | [],_,_=>⟨by simp,.nil,by simp⟩
 | (i,o) :: l,seen,h=>by
  simp only [drawOk,Bool.and_eq_true,List.all_eq_true] at h
  obtain ⟨⟨⟨_,h1⟩,h2⟩,h3⟩:=h
  obtain ⟨k1,k2,k3⟩:=drawOk_spec h3
  refine ⟨fun p hp e he hb=>?_,?_,fun a ha b hb=>?_⟩
  ·rcases List.mem_cons.1 hp with rfl|hp
   ·have:=h1 e he
    rw [hb] at this
    simp only [Bool.not_true,Bool.false_or] at this
    exact Nat.lt_of_succ_le (Nat.le_of_ble_eq_true this)
   ·exact k1 p hp e he hb
  ·rw [List.pairwise_cons]
   exact ⟨fun b hb=>k3 (i,o) (by simp) b hb,k2⟩
  ·rcases List.mem_cons.1 hb with rfl|hb
   ·have:=h2 a ha
    simpa [Bool.or_eq_true] using this
   ·exact k3 a (by simp [ha]) b hb
theorem topOk_spec:∀{l seen:List (Nat×Oper)},topOk l seen=true→l.Pairwise (fun a b=>a.1 ≠ b.1∧∀x∈a.2.after,Region.binds .any x=true→x.on ≠ b.1)∧
  ∀a∈seen,∀b∈l,a.1 ≠ b.1∧∀x∈a.2.after,Region.binds .any x=true→x.on ≠ b.1
 | [],seen,_=>⟨.nil,by simp⟩
 | (i,o) :: l,seen,h=>by
  simp only [topOk,Bool.and_eq_true,List.all_eq_true,Bool.not_eq_true'] at h
  obtain ⟨h1,h2⟩:=h
  obtain ⟨k1,k2⟩:=topOk_spec h2
  refine ⟨?_,fun a ha b hb=>?_⟩
  ·rw [List.pairwise_cons]
   exact ⟨fun b hb=>k2 (i,o) (by simp) b hb,k1⟩
  ·rcases List.mem_cons.1 hb with rfl|hb
   ·obtain ⟨q1,q2⟩:=h1 a ha
    refine ⟨fun he=>?_,fun x hx hb' he=>?_⟩
    ·have h5:Nat.beq a.1 i=true:=by rw [he]; exact Nat.beq_refl i
     rw [q2] at h5; cases h5
    ·have:dirOn a.2 i=true:=List.any_eq_true.2 ⟨x,by simpa using hx,by simp [hb',he]⟩
     rw [q1] at this; cases this
   ·exact k2 a (by simp [ha]) b hb
theorem ordOf_mem {ops:Array Oper} {pm:List Nat}:∀p∈ordOf ops pm,ops[p.1]?=some p.2:=by
 intro p hp
 unfold ordOf at hp
 split at hp
 ·obtain ⟨n,hn,e⟩:=List.getElem_of_mem hp
  have h1:((List.range ops.size).zip ops.toList)[n]?=some p:=by rw [←e]; exact List.getElem?_eq_getElem hn
  rw [List.getElem?_zip_eq_some] at h1
  obtain ⟨h2,h3⟩:=h1
  have:=List.getElem?_eq_some_iff.1 h2
  simp only [List.length_range,List.getElem_range] at this
  obtain ⟨_,e⟩:=this
  rw [←e]
  simpa using h3
 ·obtain ⟨i,_,hi⟩:=List.mem_filterMap.1 hp
  cases ho:ops[i]? with
  | none=>rw [ho] at hi; cases hi
  | some o=>
   rw [ho] at hi
   simp only [Option.map_some,Option.some.injEq] at hi
   subst hi
   exact ho
theorem ordOf_spec {ops:Array Oper} {pm:List Nat} (hB:drawOk ops (ordOf ops pm) []=true) (hP:permOk ops pm=true):
  (ordOf ops pm).length=ops.size∧(∀i,i<ops.size→∃o,(i,o)∈ordOf ops pm)∧(ordOf ops pm).Pairwise (fun a b=>a.1 ≠ b.1∧∀x∈a.2.after,Region.binds .any x=true→x.on ≠ b.1):=by
 cases pm with
 | nil=>
  obtain ⟨d1,_,_⟩:=drawOk_spec hB
  have hf:(ordOf ops []).map (·.1)=List.range ops.size:=by
   simp only [ordOf]
   rw [List.map_fst_zip]
   simp
  refine ⟨by simp [ordOf],fun i hi=>?_,?_⟩
  ·have:i∈(ordOf ops []).map (·.1):=by rw [hf]; exact List.mem_range.2 hi
   obtain ⟨p,hp,e⟩:=List.mem_map.1 this
   exact ⟨p.2,by rw [←e]; exact hp⟩
  ·have h1:(ordOf ops []).Pairwise fun a b=>a.1<b.1:=by
    have:=List.pairwise_lt_range (n:=ops.size)
    rw [←hf,List.pairwise_map] at this
    exact this
   refine h1.imp_of_mem fun {a b} ha hb hlt=>⟨by omega,fun x hx hb'=>?_⟩
   have:=d1 a ha x (by simpa using hx) hb'
   omega
 | cons q qs=>
  simp only [permOk,Bool.and_eq_true,List.all_eq_true,List.any_eq_true] at hP
  obtain ⟨⟨h1,h2⟩,h3⟩:=hP
  refine ⟨Nat.eq_of_beq_eq_true h1,fun i hi=>?_,(topOk_spec h3).1⟩
  obtain ⟨p,hp,e⟩:=h2 i (List.mem_range.2 hi)
  have:=Nat.eq_of_beq_eq_true e
  exact ⟨p.2,by rw [←this]; exact hp⟩
theorem drawP_sound (L:Laws K) {id:Nat} {an:FAnn K.U} {ops:Array Oper} {pm:List Nat} {st:St K.U} {a:Act} {F:Nat→Prop} {pl:Rf→Pl} {w:World} {k:St K.U→Prop}
  (hB:drawOk ops (ordOf ops pm) []=true) (hP:permOk ops pm=true) (hnt:∀(i:Nat) (o:Oper),ops[i]?=some o→∀d,o.dst=some d→d<nt) (S:Sim K β nt st a F pl w)
  (h:drawP Rs (Runs K) id an ops (ordOf ops pm) [] st k) (hn:∀st' a' F' pl' w',Sim K β nt st' a' F' pl' w'→k st'→Q .normal a' w'):
  wpAny K.P .any ops Q ops.size (Array.replicate ops.size false) a w:=by
 obtain ⟨es,st',h1,h2,h3,h4,_⟩:=draw_chain h ordOf_mem (by simp)
 obtain ⟨d1,d2,_⟩:=drawOk_spec hB
 obtain ⟨o1,o2,o3⟩:=ordOf_spec hB hP
 have hops:∀e∈es,ops[e.i]?=some e.o:=fun e he=>ordOf_mem (e.i,e.o) (by rw [←h1]; exact List.mem_map.2 ⟨e,he,rfl⟩)
 have hlen:es.length=ops.size:=by
  have:=congrArg List.length h1
  rw [List.length_map,o1] at this
  exact this
 refine chain_any L hnt (fun i o ho e he hb=>?_) h3 hn ops.size hlen S h2 (by simp) hops (fun i hi'=>?_) (fun i o ho hl=>?_) h4 ?_
 ·have hlt':=(Array.getElem?_eq_some_iff.1 ho).1
  obtain ⟨o',ho'⟩:=o2 i hlt'
  have h5:=ordOf_mem _ ho'
  simp only [ho,Option.some.injEq] at h5
  subst h5
  exact d1 _ ho' e (by simpa using he) hb
 ·constructor
  ·intro _
   obtain ⟨o',ho'⟩:=o2 i hi'
   rw [←h1] at ho'
   obtain ⟨e,he,e'⟩:=List.mem_map.1 ho'
   exact ⟨e,he,by cases e'; rfl⟩
  ·intro _
   simp [Array.getD_eq_getD_getElem?,hi']
 ·exfalso
  have:(Array.replicate ops.size false).getD i false=false:=by
   rw [Array.getD_eq_getD_getElem?,Array.getElem?_replicate]
   split <;> rfl
  rw [this] at hl; cases hl
 ·have h5:es.Pairwise (fun a b=>dirOn b.o a.i=true∨a.o.apart ops b.o=true):=by
   have:=d2
   rw [←h1,List.pairwise_map] at this
   exact this
  have h6:es.Pairwise (fun a b=>a.i ≠ b.i∧∀x∈a.o.after,Region.binds .any x=true→x.on ≠ b.i):=by
   have:=o3
   rw [←h1,List.pairwise_map] at this
   exact this
  exact h6.and h5
end
end
end Go.Abs
