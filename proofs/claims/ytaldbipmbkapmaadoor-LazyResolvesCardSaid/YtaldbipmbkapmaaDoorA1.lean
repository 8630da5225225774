/- DEFINITIONS ALONE: the walk over an abstract state, as a statement; no claim is stated here. Conditions: none. -/
import Derived.Test.YtaldbipmbkapmaaDoorA0
import Derived.Still
namespace Go.Abs
set_option linter.unusedVariables false
set_option linter.unusedSimpArgs false
section
def andP:Bool→Prop→Prop
 | true,p=>p
 | b,p=>b=true∧p
def iteP:Bool→Prop→Prop→Prop
 | true,p,_=>p
 | false,_,q=>q
def isB?:Option Bool→Bool→Prop
 | some b,v=>b=v
 | none,_=>False
theorem andP_iff {b:Bool} {p:Prop}:andP b p↔(b=true∧p):=by cases b <;> simp [andP]
theorem iteP_iff {b:Bool} {p q:Prop}:iteP b p q↔if b=true then p else q:=by cases b <;> simp [iteP]
def okP {α:Type}:Option α→(α→Prop)→Prop
 | some x,k=>k x
 | none,_=>False
def allN (n:Nat) (p:Nat→Prop):Prop:=∀i,i<n→p i
def impP (p q:Prop):Prop:=p→q
def noneB (b:Nat→Bool) (i n:Nat):Prop:=∀j,i<j→j<n→b j=false
def nowB (b:Nat→Bool) (n:Nat):Prop:=∀j,j<n→b j=false
structure Res (K:Cfg) where
 R:FuncId→Type
 enc:(f:FuncId)→R f→C K.U
 RH:FuncId→Type:=fun _=>Unit
 encH:(f:FuncId)→List (O K.U)→RH f→List (O K.U):=fun _ H _=>H
 RT:TypeId→Type
 encT:(t:TypeId)→RT t→C K.U
 RTH:TypeId→Type:=fun _=>Unit
 encTH:(t:TypeId)→List (O K.U)→RTH t→List (O K.U):=fun _ H _=>H
variable {K:Cfg}
def put {U:Univ} (tmps:Nat→C U) (dst:Option Tmp) (v:C U):Nat→C U:=
 match dst with
 | some d=>fun t=>bif Nat.beq t d then v else tmps t
 | none=>tmps
mutual
def C.refs {U:Univ}:C U→List Rf
 | .ptr r _|.pa r _ _ _|.asl r _ _ _|.mp r=>[r]
 | .fn _ a b=>C.refsL a ++ C.refsL b
 | .agg cs|.tup cs=>C.refsL cs
 | .ifc _ x=>x.refs
 | .optr (some n)=>[.g n]
 | .fp _ _ _=>[.g 0]
 | _=>[]
def C.refsL {U:Univ}:List (C U)→List Rf
 | []=>[]
 | x :: xs=>x.refs ++ C.refsL xs
end
mutual
def Cfg.frz (K:Cfg) (loc:Loc K.U) (H:List (O K.U)):C K.U→Option (Bool×C K.U×List (Rf×O K.U))
 | .d x=>some (true,.d x,[])
 | .clip c xs=>some (true,.d (.sl c xs),[])
 | .ep cs=>some (true,.ep cs,[])
 | .asl r gen sub _=>match K.now loc H r gen sub with
  | some (ok,x,o)=>some (ok,.d x,[(r,o)])
  | none=>none
 | .fn f first caps=>match K.frzAll loc H first,K.frzAll loc H caps with
  | some (ok,a,wr),some (ok',b,wr')=>some (andB ok ok',.fn f a b,wr ++ wr')
  | _,_=>none
 | .agg cs=>match K.frzAll loc H cs with
  | some (ok,ds,wr)=>some (ok,.agg ds,wr)
  | none=>none
 | .tup cs=>match K.frzAll loc H cs with
  | some (ok,ds,wr)=>some (ok,.tup ds,wr)
  | none=>none
 | .ifc t x=>match K.frz loc H x with
  | some (ok,y,wr)=>some (ok,.ifc t y,wr)
  | none=>none
 | _=>none
def Cfg.frzAll (K:Cfg) (loc:Loc K.U) (H:List (O K.U)):List (C K.U)→Option (Bool×List (C K.U)×List (Rf×O K.U))
 | []=>some (true,[],[])
 | x :: xs=>match K.frz loc H x,K.frzAll loc H xs with
  | some (ok,y,wr),some (ok',ys,wr')=>some (andB ok ok',y :: ys,wr ++ wr')
  | _,_=>none
end
mutual
def Cfg.down (K:Cfg) (loc:Loc K.U) (H:List (O K.U)):C K.U→Option (Bool×C K.U×List (Rf×O K.U))
 | .ptr (.g o) off=>some (true,.ptr (.g o) off,[])
 | .pa (.g o) g i j=>some (true,.pa (.g o) g i j,[])
 | .mp (.g o)=>some (true,.mp (.g o),[])
 | .asl (.g o) g sub cl=>some (true,.asl (.g o) g sub cl,[])
 | .optr o=>some (true,.optr o,[])
 | .d x=>some (true,.d x,[])
 | .clip c xs=>some (true,.d (.sl c xs),[])
 | .ep cs=>some (true,.ep cs,[])
 | .asl (.l s) gen sub _=>match K.now loc H (.l s) gen sub with
  | some (ok,x,o)=>some (ok,.d x,[(.l s,o)])
  | none=>none
 | .fn f first caps=>match K.downAll loc H first,K.downAll loc H caps with
  | some (ok,a,wr),some (ok',b,wr')=>some (andB ok ok',.fp f a b,wr ++ wr')
  | _,_=>none
 | .fp f a b=>some (true,.fp f a b,[])
 | .agg cs=>match K.downAll loc H cs with
  | some (ok,ds,wr)=>some (ok,.agg ds,wr)
  | none=>none
 | .tup cs=>match K.downAll loc H cs with
  | some (ok,ds,wr)=>some (ok,.tup ds,wr)
  | none=>none
 | .ifc t x=>match K.down loc H x with
  | some (ok,y,wr)=>some (ok,.ifc t y,wr)
  | none=>none
 | _=>none
def Cfg.downAll (K:Cfg) (loc:Loc K.U) (H:List (O K.U)):List (C K.U)→Option (Bool×List (C K.U)×List (Rf×O K.U))
 | []=>some (true,[],[])
 | x :: xs=>match K.down loc H x,K.downAll loc H xs with
  | some (ok,y,wr),some (ok',ys,wr')=>some (andB ok ok',y :: ys,wr ++ wr')
  | _,_=>none
end
def C.bare {U:Univ}:C U→Bool
 | .d (.sl _ _)=>false
 | .d _=>true
 | _=>false
def Cfg.give (K:Cfg) (loc:Loc K.U) (H:List (O K.U)):C K.U→Option (Bool×C K.U×List Rf)
 | .asl (.l s) gen none false=>match getO loc H (.l s) with
  | some (.arr g (.pure c) ys)=>some (g == gen,.osl c ys,[.l s])
  | _=>none
 | .asl (.l s) gen (some (0,n)) false=>match getO loc H (.l s) with
  | some (.arr g (.pure c) ys)=>some (andB (g == gen) (leN n (lenL ys)),.osl c (takeL n ys),[.l s])
  | _=>none
 | .agg cs=>if cs.all C.bare then some (true,.agg cs,[]) else none
 | x=>if x.bare then some (true,x,[]) else none
def Cfg.giveAll (K:Cfg) (loc:Loc K.U) (H:List (O K.U)):List (C K.U)→Option (Bool×List (C K.U)×List Rf)
 | []=>some (true,[],[])
 | x :: xs=>match K.give loc H x,K.giveAll loc H xs with
  | some (ok,y,rs),some (ok',ys,rs')=>if rs.all (fun r=>!rs'.contains r) then some (andB ok ok',y :: ys,rs ++ rs') else none
  | _,_=>none
def adopt {U:Univ} (loc:Loc U):Nat→Nat→List (C U)→Option (List (C U)×List (Rf×O U))
 | _,_,[]=>some ([],[])
 | 0,_,_=>none
 | n+1,s,x :: xs=>match adopt loc n (s+1000) xs with
  | none=>none
  | some (ys,wr)=>match x with
   | .osl c zs=>match loc s with
    | none=>some (.asl (.l s) 0 none false :: ys,wr ++ [(.l s,.arr 0 (.pure c) zs)])
    | some _=>none
   | x=>some (x :: ys,wr)
def adoptV {U:Univ} (loc:Loc U) (slot:Option Nat) (x:C U):Option (C U×List (Rf×O U)):=
 match slot,x with
 | some s,.tup vs=>match adopt loc 4 s vs with
  | some (ws,wr)=>some (.tup ws,wr)
  | none=>none
 | some s,x=>match adopt loc 4 s [x] with
  | some ([y],wr)=>some (y,wr)
  | _=>none
 | none,_=>none
mutual
def C.refsOk {U:Univ} (keep:Nat→Bool):C U→Bool
 | .ptr (.l s) _|.pa (.l s) _ _ _|.asl (.l s) _ _ _|.mp (.l s)=>keep s
 | .fn _ a b=>C.refsAll keep a && C.refsAll keep b
 | .agg cs|.tup cs=>C.refsAll keep cs
 | .ifc _ x=>x.refsOk keep
 | _=>true
def C.refsAll {U:Univ} (keep:Nat→Bool):List (C U)→Bool
 | []=>true
 | x :: xs=>x.refsOk keep && C.refsAll keep xs
end
def O.refsOk {U:Univ} (keep:Nat→Bool):O U→Bool
 | .cells cs=>C.refsAll keep cs
 | .arr _ (.raw _) _|.map _ _ (.raw _) _=>false
 | _=>true
def okW {U:Univ}:Rf×O U→Bool
 | (.l _,_)=>true
 | (.g _,o)=>o.refsOk fun _=>false
def C.coVs {U:Univ}:List (List (Option U.Ty))→List (C U)→List (C U)
 | o :: os,x :: xs=>x.coV o :: C.coVs os xs
 | _,xs=>xs
def O.coO {U:Univ} (os:List (Option U.Ty)):O U→O U
 | .cells cs=>.cells (C.coL os cs)
 | o=>o
def ofList.{u} {α:Type u} (d:α):List (Nat×α)→Nat→α
 | [],_=>d
 | (k,v) :: l,t=>bif Nat.beq t k then v else ofList d l t
def hasKey {α:Type}:List (Nat×α)→Nat→Bool
 | [],_=>false
 | (k,_) :: l,t=>Nat.beq t k || hasKey l t
def genOf {U:Univ} (loc:Loc U) (s:Nat):Option Nat:=
 match loc s with
 | some (.arr g _ _)=>some g
 | some (.fro g _ _)=>some g
 | _=>none
mutual
def C.regen {U:Univ} (loc:Loc U):C U→C U
 | .asl (.l s) g sub cl=>match genOf loc s with
  | some g'=>match Nat.beq g g' with
   | true=>.asl (.l s) 0 sub cl
   | false=>.dead
  | none=>.dead
 | .pa (.l _) _ _ _=>.dead
 | .fn f a b=>.fn f (C.regenL loc a) (C.regenL loc b)
 | .agg cs=>.agg (C.regenL loc cs)
 | .tup cs=>.tup (C.regenL loc cs)
 | .ifc t x=>.ifc t (x.regen loc)
 | x=>x
def C.regenL {U:Univ} (loc:Loc U):List (C U)→List (C U)
 | []=>[]
 | x :: xs=>x.regen loc :: C.regenL loc xs
end
def O.regen {U:Univ} (loc:Loc U):O U→O U
 | .cells cs=>.cells (C.regenL loc cs)
 | .arr _ v xs=>.arr 0 v xs
 | .fro _ c xs=>.fro 0 c xs
 | o=>o
def St.clear {U:Univ} (live objs:List (Nat×List (Option U.Ty))) (st:St U):St U:=
 ⟨ofList .dead (live.map fun (t,c)=>(t,((st.tmps t).regen st.loc).coV c)),ofList none (objs.map fun (s,c)=>(s,(st.loc s).map fun o=>(o.regen st.loc).coO c)),st.H⟩
def St.clearOk {U:Univ} (live objs:List (Nat×List (Option U.Ty))) (st:St U):Bool:=
 live.all (fun (t,_)=>(st.tmps t).refsOk (hasKey objs)) && objs.all fun (s,_)=>match st.loc s with|some o=>o.refsOk (hasKey objs)|none=>false
def St.trim1 (st:St K.U) (t:Nat) (m:Nat):Bool×St K.U:=
 match m with
 | 2=>match K.frz st.loc st.H (st.tmps t) with
  | some (ok,y,wr)=>(ok,⟨put st.tmps (some t) y,apL st.loc wr,apH st.H wr⟩)
  | none=>(true,st)
 | m=>match st.tmps t with
  | .asl (.l s) g sub false=>match st.loc s with
   | some (.arr g' v xs)=>match Nat.beq g g',m,sub with
    | true,1,none=>(true,⟨put st.tmps (some t) (.asl (.l s) g (some (0,lenL xs)) false),st.loc,st.H⟩)
    | true,0,some (0,n)=>(leN n (lenL xs),⟨put st.tmps (some t) (.asl (.l s) (g+1) none false),apL st.loc [(.l s,.arr (g+1) v (takeL n xs))],st.H⟩)
    | _,_,_=>(true,st)
   | _=>(true,st)
  | _=>(true,st)
def trimAll:List (Nat×Nat)→St K.U→(St K.U→Prop)→Prop
 | [],st,k=>k st
 | (t,w) :: l,st,k=>andP (st.trim1 t w).1 (trimAll l (st.trim1 t w).2 k)
section walk
variable (Rs:Res K) (Runs:FuncId→List (C K.U)→List (O K.U)→(C K.U→List (O K.U)→Prop)→Prop)
def gotP (own:Bool) (slot:Option Nat) (v:C K.U) (loc:Loc K.U) (H:List (O K.U)) (k:C K.U→Loc K.U→List (O K.U)→Prop):Prop:=
 match own with
 | false=>k v loc H
 | true=>match adoptV loc slot v with
  | some (w,wr)=>k w (apL loc wr) H
  | none=>False
def C.noOsl {U:Univ}:C U→Bool
 | .osl _ _=>false
 | .tup vs=>vs.all fun|.osl _ _=>false|_=>true
 | _=>true
def Cfg.lent1 (K:Cfg):C K.U→Bool
 | .osl c _=>K.flat c
 | .agg cs=>cs.all C.bare
 | x=>x.bare
def Cfg.lent (K:Cfg):C K.U→Bool
 | .tup vs=>vs.all K.lent1
 | x=>K.lent1 x
def callP (quiet:Bool) (slot:Option Nat) (g:FuncId) (args:List (C K.U)) (loc:Loc K.U) (H:List (O K.U)) (k:C K.U→Loc K.U→List (O K.U)→Prop):Prop:=
 match (K.ann g).pure with
 | true=>match K.frzAll loc H args with
  | some (ok,as,wr)=>
   if quiet && ((K.ann g).own || (!(K.ann g).scalar && !wr.isEmpty)) then False else
   andP ok (match (K.ann g).scalar with
    | true=>∃x:Rs.R g,Runs g (C.coVs (K.ann g).pco as) [] (fun c H'=>c=Rs.enc g x∧H'=[])∧if (wr.isEmpty || K.lent (Rs.enc g x)) && ((K.ann g).own || (Rs.enc g x).noOsl) then gotP (K.ann g).own slot (Rs.enc g x) loc H k else False
    | false=>∃x:Rs.R g,Runs g (C.coVs (K.ann g).pco as) [] (fun c H'=>c=Rs.enc g x∧H'=[])∧if (Rs.enc g x).noOsl then k (Rs.enc g x) (apL loc wr) (apH H wr) else False)
  | none=>False
 | false=>
  if quiet then False else match K.downAll loc H args with
  | some (ok,as,wr)=>andP ok (∃(x:Rs.R g) (y:Rs.RH g),Runs g (C.coVs (K.ann g).pco as) (apH H wr) (fun c H'=>c=Rs.enc g x∧H'=Rs.encH g (apH H wr) y)∧if (Rs.enc g x).noOsl then k (Rs.enc g x) (apL loc wr) (Rs.encH g (apH H wr) y) else False)
  | none=>False
def dynP (g:FuncId) (pre args post:List (C K.U)) (t:TypeId) (loc:Loc K.U) (H:List (O K.U)) (k:C K.U→Loc K.U→List (O K.U)→Prop):Prop:=
 match K.downAll loc H args with
 | some (ok,as,wr)=>andP ok (∃(x:Rs.RT t) (y:Rs.RTH t),Runs g (pre ++ (as ++ post)) (apH H wr) (fun c H'=>c=Rs.encT t x∧H'=Rs.encTH t (apH H wr) y)∧if (Rs.encT t x).noOsl then k (Rs.encT t x) (apL loc wr) (Rs.encTH t (apH H wr) y) else False)
 | none=>False
def slotOf (an:OpAnn K.U) (o:Oper):Option Nat:=match an.slot with|some s=>some s|none=>o.dst
def mild (o:Oper):Bool:=
 match o.op with
 | .store ..|.mapUpdate ..|.insert ..|.mapEntry ..|.entryStore ..=>false
 | .call c=>match c.callee with|.builtin .append=>false|_=>true
 | _=>true
def Rf.isL:Rf→Bool
 | .l _=>true
 | .g _=>false
def Cfg.mayNil (K:Cfg) (loc:Loc K.U) (H:List (O K.U)):C K.U→Option Bool
 | .d (.sl _ xs)=>some (emptyL xs)
 | .asl r gen sub _=>match getO loc H r with
  | some (.arr g _ xs)=>some (orB (notB (g == gen)) (orB (notB (subOk sub (lenL xs))) (emptyL (subBy sub xs))))
  | _=>none
 | _=>none
def Cfg.nilTest (K:Cfg) (o:Oper) (f:Operand→Option (C K.U)) (loc:Loc K.U) (H:List (O K.U)):Option (Bool×Bool):=
 match o.op with
 | .binOp op t x y _=>match K.ti t with
  | some i=>match i.kind,f x,f y with
   | .slice _,some vx,some (.d .nils)=>match K.mayNil loc H vx,op with
    | some e,.eql=>some (false,e)
    | some e,.neq=>some (true,e)
    | _,_=>none
   | _,_,_=>none
  | none=>none
 | _=>none
def nilP (e:Bool) (k:Bool→Prop):Prop:=k false∧iteP e (k true) True
def opP (quiet:Bool) (an:OpAnn K.U) (o:Oper) (st:St K.U) (k:St K.U→Prop):Prop:=
 match K.aop an o (K.ev st.tmps) st.loc st.H with
 | some (.out r)=>if (quiet && !(mild o && r.wr.all fun x=>x.1.isL)) || !r.wr.all okW then False else andP r.ok (k ⟨put st.tmps o.dst r.v,apL st.loc r.wr,apH st.H r.wr⟩)
 | some (.call g args)=>callP Rs Runs quiet (slotOf an o) g args st.loc st.H fun v l h=>k ⟨put st.tmps o.dst v,l,h⟩
 | some (.dyn g pre args post)=>if quiet then False else dynP Rs Runs g pre args post o.type st.loc st.H fun v l h=>k ⟨put st.tmps o.dst v,l,h⟩
 | none=>match K.nilTest o (K.ev st.tmps) st.loc st.H with
  | some (neg,e)=>nilP e fun b=>k ⟨put st.tmps o.dst (.d (.bool (match neg with|true=>notB b|false=>b))),st.loc,st.H⟩
  | none=>match K.appTwo o (K.ev st.tmps) st.loc st.H with
   | some (r,r')=>if quiet then False else andP r.ok (k ⟨put st.tmps o.dst r.v,apL st.loc r.wr,st.H⟩∧k ⟨put st.tmps o.dst r'.v,apL st.loc r'.wr,st.H⟩)
   | none=>False
def boolAt (st:St K.U) (x:Operand):Option Bool:=
 match K.ev st.tmps x with
 | some (.d (.bool b))=>some b
 | _=>none
def kill {U:Univ}:List (Nat×Oper)→(Nat→C U)→(Nat→C U)
 | [],tmps=>tmps
 | (_,o) :: l,tmps=>kill l (put tmps o.dst .dead)
def innerOk (j:Nat) (want:Bool) (dj:Tmp):List (Nat×Oper)→List Nat→Bool
 | [],_=>true
 | (i,o) :: l,seen=>(match o.dst with|some d=>!Nat.beq d dj|none=>true) &&
  (match o.guard with|some (j',w')=>(Nat.beq j' j && (w' == want)) || seen.contains j'|none=>false) && innerOk j want dj l (i :: seen)
def rgnP (id:Nat) (an:FAnn K.U) (ops:Array Oper):Nat→Bool→Option (Nat×Bool)→List (Nat×Oper)→St K.U→(St K.U→Prop)→Prop
 | 0,_,_,_,_,_=>False
 | _+1,_,_,[],st,k=>k st
 | n+1,quiet,lv,(i,o) :: rest,st,k=>
  if o.guard=none∨o.guard=lv then
   opP Rs Runs quiet (an.op id i) o st fun st'=>rgnP id an ops n quiet lv rest st' k
  else match o.guard with
  | none=>False
  | some (j,want)=>
   let inner:=fun p:Nat×Oper=>decide (¬(p.2.guard=none∨p.2.guard=lv))
   let ins:=(i,o) :: rest.takeWhile inner
   match (ops[j]?).bind (·.dst),rest.dropWhile inner with
   | some dj,(_,p) :: after=>match p.op,boolAt st (.tmp dj) with
    | .pick (.tmp c) x y,some b=>
     if c=dj∧innerOk j want dj ins []=true then
      match an.split id && !quiet with
      | true=>
       let nx:=fun (z:Operand) (st':St K.U)=>match boolAt st' z with
        | some v=>rgnP id an ops n quiet lv after ⟨put st'.tmps p.dst (.d (.bool v)),st'.loc,st'.H⟩ k
        | none=>False
       match want with
       | true=>iteP b (rgnP id an ops n quiet (some (j,true)) ins st (nx x)) (nx y ⟨kill ins st.tmps,st.loc,st.H⟩)
       | false=>iteP b (nx x ⟨kill ins st.tmps,st.loc,st.H⟩) (rgnP id an ops n quiet (some (j,false)) ins st (nx y))
      | false=>
      ∃v:Bool,(match want with
       | true=>iteP b (rgnP id an ops n true (some (j,true)) ins st fun st'=>isB? (boolAt st' x) v) (isB? (boolAt ⟨kill ins st.tmps,st.loc,st.H⟩ y) v)
       | false=>iteP b (isB? (boolAt ⟨kill ins st.tmps,st.loc,st.H⟩ x) v) (rgnP id an ops n true (some (j,false)) ins st fun st'=>isB? (boolAt st' y) v))∧
       rgnP id an ops n quiet lv after ⟨put (kill ins st.tmps) p.dst (.d (.bool v)),st.loc,st.H⟩ k
     else False
    | _,_=>False
   | _,_=>False
abbrev Tok:=Option Nat
def Rf.tok:Rf→Tok
 | .l s=>some s
 | .g _=>none
def callToks (slot:Option Nat) (g:FuncId) (args:List (C K.U)):List Tok×List Tok:=
 let rs:=(C.refsL args).map Rf.tok
 let own:=if (K.ann g).own then (List.range 4).map fun j=>slot.map (·+1000 * j) else []
 if (K.ann g).pure then (if (K.ann g).scalar then (rs,own) else ([],rs ++ own)) else ([],none :: rs ++ own)
def apartT (rd wr rd' wr':List Tok):Bool:=wr.all (fun t=>!rd'.contains t && !wr'.contains t) && rd.all fun t=>!wr'.contains t
def forceN.{u} {α:Sort u} (n:Nat) (k:Nat→α):α:=
 match n with
 | 0=>k 0
 | m+1=>k (m+1)
inductive LateK (U:Univ) where
 | ld (t:TypeId) (i n:Nat)
 | lk (t:TypeId) (i:Nat) (key:C U) (ok:Bool)
def Cfg.lateRun (K:Cfg) (l:LateK K.U) (H:List (O K.U)):Option (Out K.U):=
 match l with
 | .ld t i n=>K.load (fun _=>none) H t (.ptr (.g i) n)
 | .lk t i key ok=>K.lookup (fun _=>none) H t (.mp (.g i)) key ok
abbrev Rec (U:Univ):=Nat×Nat×List Tok×List Tok×Option (LateK U)
def maskAt:List (Rec K.U)→Nat→Nat
 | [],_=>0
 | (j,m,_,_,_) :: acc,t=>bif Nat.beq j t then m else maskAt acc t
def maskOf (acc:List (Rec K.U)):List Edge→Nat
 | []=>0
 | e :: es=>bif Region.binds .any e then (2 ^ e.on ||| maskAt acc e.on) ||| maskOf acc es else maskOf acc es
def apartAll (mk:Nat) (acc:List (Rec K.U)) (rd wr:List Tok):Bool:=
 acc.all fun (j,_,rd',wr',_)=>mk.testBit j || apartT rd wr rd' wr'
def apartLate (mk:Nat) (acc:List (Rec K.U)) (rd wr:List Tok):Bool:=
 acc.all fun (j,_,rd',wr',ad)=>mk.testBit j || apartT rd wr rd' wr' || ad.isSome
def lateOne (l:LateK K.U) (H H':List (O K.U)):Prop:=
 match K.lateRun l H,K.lateRun l H' with
 | some r,some r'=>r.v=r'.v
 | _,_=>False
def lateAll (mk:Nat) (rd wr:List Tok) (H H':List (O K.U)):List (Rec K.U)→Prop→Prop
 | [],p=>p
 | (j,_,rd',wr',ad) :: acc,p=>match mk.testBit j || apartT rd wr rd' wr',ad with
  | true,_=>lateAll mk rd wr H H' acc p
  | false,some l=>lateOne (K:=K) l H H'∧lateAll mk rd wr H H' acc p
  | false,none=>False
def loadOf (tmps:Nat→C K.U) (o:Oper):Option (LateK K.U):=
 match o.op with
 | .load t x=>match K.ev tmps x with
  | some (.ptr (.g i) n)=>some (.ld t i n)
  | _=>none
 | .lookup t m k ok=>match K.ev tmps m,K.ev tmps k with
  | some (.mp (.g i)),some key=>some (.lk t i key ok)
  | _,_=>none
 | _=>none
def dirOn (o:Oper) (j:Nat):Bool:=o.after.toList.any fun e=>Region.binds .any e && Nat.beq e.on j
def drawOk (ops:Array Oper):List (Nat×Oper)→List (Nat×Oper)→Bool
 | [],_=>true
 | (i,o) :: l,seen=>(match o.op with|.select _ _=>false|_=>true) && o.after.toList.all (fun e=>!Region.binds .any e || Nat.blt e.on i) &&
  seen.all (fun (j,o')=>dirOn o j || o'.apart ops o) && drawOk ops l ((i,o) :: seen)
def ordOf (ops:Array Oper) (p:List Nat):List (Nat×Oper):=
 match p with
 | []=>(List.range ops.size).zip ops.toList
 | _ :: _=>p.filterMap fun i=>(ops[i]?).map fun o=>(i,o)
def topOk:List (Nat×Oper)→List (Nat×Oper)→Bool
 | [],_=>true
 | (i,o) :: l,seen=>seen.all (fun (j,o')=>!dirOn o' i && !Nat.beq j i) && topOk l ((i,o) :: seen)
def permOk (ops:Array Oper) (p:List Nat):Bool:=
 match p with
 | []=>true
 | _ :: _=>Nat.beq (ordOf ops p).length ops.size && (List.range ops.size).all (fun i=>(ordOf ops p).any fun q=>Nat.beq q.1 i) && topOk (ordOf ops p) []
def drawOp (id i mk:Nat) (an:FAnn K.U) (o:Oper) (acc:List (Rec K.U)) (st:St K.U) (k:List Tok→List Tok→Option (LateK K.U)→St K.U→Prop):Prop:=
 match K.aop (an.op id i) o (K.ev st.tmps) st.loc st.H with
 | some (.out r)=>
  if apartAll mk acc (r.rd.map Rf.tok) (r.wr.map fun x=>x.1.tok) && r.wr.all okW then
   andP r.ok (k (r.rd.map Rf.tok) (r.wr.map fun x=>x.1.tok) (loadOf (K:=K) st.tmps o) ⟨put st.tmps o.dst r.v,apL st.loc r.wr,apH st.H r.wr⟩)
  else if (apartLate mk acc (r.rd.map Rf.tok) (r.wr.map fun x=>x.1.tok) && r.wr.all okW && (r.wr.map fun x=>x.1.tok).contains none)=true then
   andP r.ok (lateAll (K:=K) mk (r.rd.map Rf.tok) (r.wr.map fun x=>x.1.tok) st.H (apH st.H r.wr) acc (k (r.rd.map Rf.tok) (r.wr.map fun x=>x.1.tok) (loadOf (K:=K) st.tmps o) ⟨put st.tmps o.dst r.v,apL st.loc r.wr,apH st.H r.wr⟩))
  else False
 | some (.call g args)=>
  if apartAll mk acc (callToks (K:=K) (slotOf (an.op id i) o) g args).1 (callToks (K:=K) (slotOf (an.op id i) o) g args).2 then
   callP Rs Runs false (slotOf (an.op id i) o) g args st.loc st.H fun v l h=>k (callToks (K:=K) (slotOf (an.op id i) o) g args).1 (callToks (K:=K) (slotOf (an.op id i) o) g args).2 none ⟨put st.tmps o.dst v,l,h⟩
  else if (!(K.ann g).pure && apartLate mk acc (callToks (K:=K) (slotOf (an.op id i) o) g args).1 (callToks (K:=K) (slotOf (an.op id i) o) g args).2)=true then
   callP Rs Runs false (slotOf (an.op id i) o) g args st.loc st.H fun v l h=>lateAll (K:=K) mk (callToks (K:=K) (slotOf (an.op id i) o) g args).1 (callToks (K:=K) (slotOf (an.op id i) o) g args).2 st.H h acc (k (callToks (K:=K) (slotOf (an.op id i) o) g args).1 (callToks (K:=K) (slotOf (an.op id i) o) g args).2 none ⟨put st.tmps o.dst v,l,h⟩)
  else False
 | _=>False
def drawP (id:Nat) (an:FAnn K.U) (ops:Array Oper):List (Nat×Oper)→List (Rec K.U)→St K.U→(St K.U→Prop)→Prop
 | [],_,st,k=>k st
 | (i,o) :: rest,acc,st,k=>
  forceN (maskOf acc o.after.toList) fun mk=>
  match o.guard with
  | none=>drawOp Rs Runs id i mk an o acc st fun rd wr ad st'=>drawP id an ops rest ((i,mk,rd,wr,ad) :: acc) st' k
  | some (j,want)=>match (ops[j]?).bind (·.dst) with
   | none=>False
   | some dj=>match boolAt st (.tmp dj) with
    | none=>False
    | some b=>match want with
     | true=>iteP b (drawOp Rs Runs id i mk an o acc ⟨put st.tmps (some dj) (.d (.bool true)),st.loc,st.H⟩ fun rd wr ad st'=>drawP id an ops rest ((i,mk,rd,wr,ad) :: acc) st' k)
       (drawP id an ops rest ((i,mk,[],[],none) :: acc) ⟨put (put st.tmps (some dj) (.d (.bool false))) o.dst .dead,st.loc,st.H⟩ k)
     | false=>iteP b (drawP id an ops rest ((i,mk,[],[],none) :: acc) ⟨put (put st.tmps (some dj) (.d (.bool true))) o.dst .dead,st.loc,st.H⟩ k)
       (drawOp Rs Runs id i mk an o acc ⟨put st.tmps (some dj) (.d (.bool false)),st.loc,st.H⟩ fun rd wr ad st'=>drawP id an ops rest ((i,mk,rd,wr,ad) :: acc) st' k)
def resultOne (loc:Loc K.U) (H:List (O K.U)) (tmps:Nat→C K.U):ResultVar→Option (Bool×C K.U)
 | .tmp t=>some (true,tmps t)
 | .cell a t=>(K.load loc H t (tmps a)).map fun r=>(r.ok,r.v)
def resultAll (loc:Loc K.U) (H:List (O K.U)) (tmps:Nat→C K.U):List ResultVar→Option (Bool×List (C K.U))
 | []=>some (true,[])
 | r :: rs=>match resultOne loc H tmps r,resultAll loc H tmps rs with
  | some (ok,x),some (ok',xs)=>some (andB ok ok',x :: xs)
  | _,_=>none
def oneC {U:Univ}:List (C U)→C U
 | [w]=>w
 | ws=>.tup ws
def endP (f:FuncId) (fn:Func) (st:St K.U) (post:C K.U→List (O K.U)→Prop):Prop:=
 match resultAll st.loc st.H st.tmps fn.results.toList with
 | none=>False
 | some (ok,vs)=>
  match (K.ann f).pure with
  | true=>match (K.ann f).scalar with
   | true=>match K.giveAll st.loc st.H vs with
    | some (ok',ws,_)=>andP ok (andP ok' (post (oneC (C.coVs (K.ann f).rco ws)) []))
    | none=>False
   | false=>match K.frzAll st.loc st.H vs with
    | some (ok',ws,_)=>andP ok (andP ok' (post (oneC (C.coVs (K.ann f).rco ws)) []))
    | none=>False
  | false=>match K.downAll st.loc st.H vs with
   | some (ok',ws,wr)=>andP ok (andP ok' (post (oneC (C.coVs (K.ann f).rco ws)) (apH st.H wr)))
   | none=>False
def bodyC (R:Nat→Array Oper→St K.U→(St K.U→Prop)→Prop):Code→St K.U→(St K.U→Prop)→(St K.U→Prop)→Prop
 | .skip,st,kN,_=>kN st
 | .ret,st,_,kR=>kR st
 | .seq a b,st,kN,kR=>bodyC R a st (fun st'=>bodyC R b st' kN kR) kR
 | .cond c a b,st,kN,kR=>match boolAt st c with
  | some t=>iteP t (bodyC R a st kN kR) (bodyC R b st kN kR)
  | none=>False
 | .block _ c,st,kN,kR=>bodyC R c st kN kR
 | .region id ops draw,st,kN,_=>match draw || ops.toList.any (fun o=>match o.op with|.defer _=>true|_=>false) with
  | true=>False
  | false=>R id ops st kN
 | _,_,_,_=>False
def regOf:Code→Nat
 | .region id _ _=>id
 | _=>0
def sameAll {U:Univ} (loc loc':Loc U):List (Nat×List (Option U.Ty))→Prop→Prop
 | [],p=>p
 | (s,_) :: l,p=>loc s=loc' s∧sameAll loc loc' l p
def dstOk (nt:Nat):Code→Bool
 | .region _ ops _=>ops.toList.all fun o=>match o.dst with|some d=>decide (d<nt)|none=>true
 | .seq a b=>dstOk nt a && dstOk nt b
 | .cond _ a b=>dstOk nt a && dstOk nt b
 | .block _ c=>dstOk nt c
 | _=>true
def rangeP (R:Nat→Array Oper→St K.U→(St K.U→Prop)→Prop) (f:FuncId) (fn:Func) (post:C K.U→List (O K.U)→Prop) (g:Operand) (ps:Array Tmp) (assign body:Code) (st:St K.U) (cont:St K.U→Prop):Prop:=
 match (K.ann f).live (regOf assign),K.ev st.tmps g with
 | some (live,objs),some (.fp gf [] [.ptr (.g r) 0])=>
  match st.clearOk live objs && ((st.clear live objs).clearOk live objs && (dstOk fn.ntmps assign && dstOk fn.ntmps body)),K.back gf,ps.toList with
  | true,some x,[p0,p1]=>match K.ti x.t,K.ti x.e,K.vc x.e with
   | some it,some j,.pure c=>
    if it.kind=.slice x.e∧K.width c=j.size∧0<K.bytesC c∧p0<fn.ntmps∧p1<fn.ntmps then
     ∃xs:List (K.U.El c),obj st.H r=some (.cells [.d (.sl c xs)])∧∃b:Nat→Bool,
      allN (lenL xs) (fun i=>impP (noneB b i (lenL xs)) (okP (valOf j ((K.enc c (rd (K.dflt c) xs (intN i))).map .d)) fun v=>
       bodyC R assign ⟨put (put (st.clear live objs).tmps (some p0) (.d (.int .i64 (intN i)))) (some p1) v,(st.clear live objs).loc,st.H⟩
        (fun st1=>bodyC R body st1 (fun st2=>b i=false∧st2.H=st.H∧sameAll st2.loc (st.clear live objs).loc objs True) fun st2=>b i=true∧endP f fn ⟨(st.clear live objs).tmps,st2.loc,st2.H⟩ post)
        fun _=>False))∧
      impP (nowB b (lenL xs)) (cont (st.clear live objs))
    else False
   | _,_,_=>False
  | _,_,_=>False
 | _,_=>False
def todoAt (id:Nat):Code→List Item→Option (List Item)
 | .region i ops d,k=>if i=id then some (.code (.region i ops d) :: k) else none
 | .seq a b,k=>match todoAt id a (.code b :: k) with
  | some x=>some x
  | none=>todoAt id b k
 | .cond _ a b,k=>match todoAt id a k with
  | some x=>some x
  | none=>todoAt id b k
 | .block i c,k=>todoAt id c (.inBlock i :: k)
 | .loop c,k=>todoAt id c (.inLoop c :: k)
 | _,_=>none
variable (Leaf:List Item→St K.U→Prop)
def walkP (f:FuncId) (fn:Func) (post:C K.U→List (O K.U)→Prop):Nat→Bool→List Item→St K.U→Prop
 | 0,_,_,_=>False
 | _+1,_,[],st=>endP f fn st post
 | n+1,first,x :: k,st=>match x with
  | .code .ret=>endP f fn st post
  | .code .skip|.code (.label _)|.inBlock _|.inScope _=>walkP f fn post n first k st
  | .code (.seq a b)=>walkP f fn post n first (.code a :: .code b :: k) st
  | .code (.cond c a b)=>match boolAt st c with
   | some t=>iteP t (walkP f fn post n first (.code a :: k) st) (walkP f fn post n first (.code b :: k) st)
   | none=>False
  | .code (.block id c)=>walkP f fn post n first (.code c :: .inBlock id :: k) st
  | .code (.loop c)|.inLoop c=>walkP f fn post n first (.code c :: .inLoop c :: k) st
  | .code (.rangeFunc g ps assign body)=>rangeP (fun id ops st k=>rgnP Rs Runs id (K.ann f) ops (2 * ops.size+2) false none ((List.range ops.size).zip ops.toList) st k) f fn post g ps assign body st fun st'=>walkP f fn post n false k st'
  | .code (.exit id)=>match exitTo id k with
   | some k'=>walkP f fn post n first k' st
   | none=>False
  | .code (.region id ops draw)=>if ops.toList.all (fun o=>match o.dst with|some d=>decide (d<fn.ntmps)|none=>true)=false then False else match (if first then none else (K.ann f).live id) with
   | some (live,objs)=>trimAll ((K.ann f).trim id) st fun st=>if st.clearOk live objs then Leaf (.code (.region id ops draw) :: k) (st.clear live objs) else False
   | none=>
    if draw then
     if drawOk ops (ordOf ops ((K.ann f).perm id)) [] && permOk ops ((K.ann f).perm id) && K.P.follows .mixedOrders then
      drawP Rs Runs id (K.ann f) ops (ordOf ops ((K.ann f).perm id)) [] st fun st'=>walkP f fn post n false k st'
     else False
    else rgnP Rs Runs id (K.ann f) ops (2 * ops.size+2) false none ((List.range ops.size).zip ops.toList) st fun st'=>walkP f fn post n false k st'
  | _=>False
end walk
end
end Go.Abs
