/- DEFINITIONS ALONE: the walk where objects handed down are told by what is known of them; no claim is stated here. Conditions: none. -/
import Derived.Test.YtaldbipmbkapmaaDoorA1
namespace Go.Abs
set_option linter.unusedVariables false
set_option linter.unusedSimpArgs false
section
def updO {U:Univ} (H:List (O U)) (n:Nat) (o:O U):List (O U):=H.set n o
def pushO {U:Univ} (H:List (O U)) (o:O U):List (O U):=H ++ [o]
def lenO {U:Univ} (H:List (O U)):Nat:=H.length
def subOff (sub:Option (Nat×Nat)):Nat:=(sub.getD (0,0)).1
def subLen (sub:Option (Nat×Nat)) (n:Nat):Nat:=(sub? sub n).2
def subFit (sub:Option (Nat×Nat)) (n:Nat):Bool:=subOk sub n
def subRows {α:Type} (sub:Option (Nat×Nat)) (xs:List α):List α:=cutTo sub xs
def subPick {α:Type} (sub:Option (Nat×Nat)) (xs:List α):List α:=subBy sub xs
def eqN (a b:Nat):Bool:=decide (a=b)
structure Shp (K:Cfg) where
 T:TypeId→Type
 enc:(t:TypeId)→T t→List (C K.U)
variable {K:Cfg}
def Cfg.vcs (K:Cfg) (s e:TypeId):Vc K.U:=match Nat.beq s 0 with|true=>K.vc e|false=>K.vc s
def slotA (an:OpAnn K.U) (o:Oper):Option Nat:=if an.glob then none else match an.slot with|some s=>some s|none=>o.dst
def callOf (o:Oper):Bool:=match o.op with
 | .call c=>match c.callee with
  | .value (.func _)=>true
  | _=>false
 | _=>false
mutual
def lendC (loc:Loc K.U) (H:List (O K.U)):C K.U→(C K.U→Prop)→Prop
 | .d x,k=>k (.d x)
 | .clip c xs,k=>k (.d (.sl c xs))
 | .ep cs,k=>k (.ep cs)
 | .asl (.g n) gen sub _,k=>∃(c:K.U.Ty) (xs:List (K.U.El c)),obj H n=some (.arr gen (.pure c) xs)∧andP (subFit sub (lenL xs)) (k (.d (.sl c (subPick sub xs))))
 | .asl (.l s) gen sub _,k=>match K.now loc [] (.l s) gen sub with
  | some (ok,x,_)=>andP ok (k (.d x))
  | none=>False
 | .agg cs,k=>lendCs loc H cs fun ds=>k (.agg ds)
 | _,_=>False
def lendCs (loc:Loc K.U) (H:List (O K.U)):List (C K.U)→(List (C K.U)→Prop)→Prop
 | [],k=>k []
 | x :: xs,k=>lendC loc H x fun y=>lendCs loc H xs fun ys=>k (y :: ys)
end
def ownS {U:Univ}:List (Nat×Option Nat×Vc U)→List (C U)→List (O U)→Option (List (C U)×List (O U))
 | [],cs,H=>some (cs,H)
 | (i,none,v) :: rest,cs,H=>match cs[i]? with
  | some (.d .nils)=>ownS rest (cs.set i (.asl (.g (lenO H)) 0 none false)) (pushO H (.arr 0 v (nilL _)))
  | _=>none
 | (_,some _,_) :: _,_,_=>none
section walk
variable (Sh:Shp K)
def symP (s:TypeId) (an:OpAnn K.U) (o:Oper) (f:Operand→Option (C K.U)) (loc:Loc K.U) (H:List (O K.U)) (k:List Tok→List Tok→C K.U→List (O K.U)→Prop):Prop:=
  match o.op with
  | .load t a=>match f a,K.ti t with
    | some (.ptr (.g n) off),some i=>∃x:Sh.T s,obj H n=some (.cells (Sh.enc s x))∧okP (valOf i ((Sh.enc s x).drop off)) fun v=>k [none] [] v H
    | some (.pa (.g n) gen row col),some i=>∃xs:List (K.vc s).El,obj H n=some (.arr gen (K.vc s) xs)∧andP (ltN row (lenL xs)) (okP (valOf i ((K.encV (K.vc s) (rdN (K.dfltV (K.vc s)) xs row)).drop col)) fun v=>k [none] [] v H)
    | _,_=>False
  | .store t a x=>match an.frz with
   | true=>False
   | false=>match f a,f x,K.ti t with
    | some (.ptr (.g n) off),some v,some i=>
      if v.cells.length=i.size∧v.cells.all C.one then
        ∃y:Sh.T s,obj H n=some (.cells (Sh.enc s y))∧
          if off+v.cells.length≤(Sh.enc s y).length∧(O.cells (splice (Sh.enc s y) off v.cells)).refsOk (fun _=>false)=true then k [] [none] (.tup []) (updO H n (.cells (splice (Sh.enc s y) off v.cells))) else False
      else False
    | some (.pa (.g n) gen row col),some v,some i=>
      if v.cells.length=i.size∧v.cells.all C.one then
        ∃xs:List (K.vc s).El,obj H n=some (.arr gen (K.vc s) xs)∧
          if col+v.cells.length≤(K.encV (K.vc s) (rdN (K.dfltV (K.vc s)) xs row)).length∧(O.arr gen (K.vc s) xs).refsOk (fun _=>false)=true then
            okP (K.decV (K.vc s) (splice (K.encV (K.vc s) (rdN (K.dfltV (K.vc s)) xs row)) col v.cells)) fun x=>andP (ltN row (lenL xs)) (k [] [none] (.tup []) (updO H n (.arr gen (K.vc s) (setL xs row x))))
          else False
      else False
    | _,_,_=>False
  | .lookup t m key ok=>match f m,f key,K.ti t with
    | some (.mp (.g n)),some key,some ti=>match ti.kind with
      | .map kt e=>match K.ti e,K.ti kt with
        | some j,some i=>∃es:List (K.U.El (K.kc t)×(K.vc e).El),obj H n=some (.map (i.agg,j.agg) (K.kc t) (K.vc e) es)∧
          match K.keyEq (K.kc t),K.keyOf (K.kc t) key,K.zeroV e (K.vc e) with
          | some (zs,eq),some kk,some z=>
            if zs=i.zero∧K.plainT 8 kt=true∧K.width (K.kc t)=i.size∧i.agg=key.isAgg then
              okP (elemVal j (K.encV (K.vc e) (getO' z (findK eq kk es)))) fun x=>k [none] [] (if ok then .tup [x,.d (.bool (someO (findK eq kk es)))] else x) H
            else False
          | _,_,_=>False
        | _,_=>False
      | _=>False
    | _,_,_=>False
  | .mapUpdate t m key x|.insert t m key x=>match f m,f key,f x,K.ti t with
    | some (.mp (.g n)),some key,some x,some ti=>match ti.kind with
      | .map kt e=>match K.ti e,K.ti kt with
        | some j,some i=>∃es:List (K.U.El (K.kc t)×(K.vc e).El),obj H n=some (.map (i.agg,j.agg) (K.kc t) (K.vc e) es)∧
          match K.keyEq (K.kc t),K.keyOf (K.kc t) key,K.decV (K.vc e) x.cells with
          | some (zs,eq),some kk,some y=>
            if (zs=i.zero∧K.plainT 8 kt=true∧K.width (K.kc t)=i.size∧x.cells.length=j.size∧x.cells.all C.one∧i.agg=key.isAgg∧j.agg=x.isAgg)∧(O.map (i.agg,j.agg) (K.kc t) (K.vc e) es).refsOk (fun _=>false)=true then
              k [] [none] (.tup []) (updO H n (.map (i.agg,j.agg) (K.kc t) (K.vc e) (updK eq kk y es)))
            else False
          | _,_,_=>False
        | _,_=>False
      | _=>False
    | _,_,_,_=>False
  | .mapEntry t m key=>match f m,f key,K.ti t with
    | some (.mp (.g n)),some key,some ti=>match ti.kind with
      | .map kt e=>match K.ti e,K.ti kt with
        | some j,some i=>∃es:List (K.U.El (K.kc t)×(K.vc e).El),obj H n=some (.map (i.agg,j.agg) (K.kc t) (K.vc e) es)∧
          match K.keyEq (K.kc t),K.keyOf (K.kc t) key,K.zeroV e (K.vc e) with
          | some (zs,eq),some kk,some z=>
            if (zs=i.zero∧K.plainT 8 kt=true∧K.width (K.kc t)=i.size∧i.agg=key.isAgg)∧(O.map (i.agg,j.agg) (K.kc t) (K.vc e) es).refsOk (fun _=>false)=true then
              okP (elemVal j (K.encV (K.vc e) (getO' z (findK eq kk es)))) fun x=>k [] [none] (.tup [x,.d (.int .i64 (intN (idxK eq kk es)))]) (updO H n (.map (i.agg,j.agg) (K.kc t) (K.vc e) (entK eq kk z es)))
            else False
          | _,_,_=>False
        | _,_=>False
      | _=>False
    | _,_,_=>False
  | .entryStore t m stamp x=>match f m,f stamp,f x,K.ti t with
    | some (.mp (.g n)),some (.d (.int .i64 q)),some x,some ti=>match ti.kind with
      | .map kt e=>match K.ti e,K.ti kt with
        | some j,some i=>∃es:List (K.U.El (K.kc t)×(K.vc e).El),obj H n=some (.map (i.agg,j.agg) (K.kc t) (K.vc e) es)∧
          match K.decV (K.vc e) x.cells with
          | some y=>
            if (x.cells.length=j.size∧x.cells.all C.one∧j.agg=x.isAgg)∧(O.map (i.agg,j.agg) (K.kc t) (K.vc e) es).refsOk (fun _=>false)=true then
              andP (inB q (lenL es)) (k [] [none] (.tup []) (updO H n (.map (i.agg,j.agg) (K.kc t) (K.vc e) (setK es (natI q) y))))
            else False
          | none=>False
        | _,_=>False
      | _=>False
    | _,_,_,_=>False
  | .call c=>match c.callee with
    | .builtin .len=>match evs f c.args.toList,c.argTypes.toList with
      | some [.mp (.g n)],t :: _=>match K.ti t with
        | some ti=>match ti.kind with
          | .map kt e=>match K.ti e,K.ti kt with
            | some j,some i=>∃es:List (K.U.El (K.kc t)×(K.vc e).El),obj H n=some (.map (i.agg,j.agg) (K.kc t) (K.vc e) es)∧k [none] [] (.d (.int .i64 (intN (lenL es)))) H
            | _,_=>False
          | _=>False
        | none=>False
      | some [.asl (.g n) gen sub _],t :: _=>match K.ti t with
        | some ti=>match ti.kind with
          | .slice e=>∃xs:List (K.vcs s e).El,obj H n=some (.arr gen (K.vcs s e) xs)∧k [none] [] (.d (.int .i64 (intN (subLen sub (lenL xs))))) H
          | _=>False
        | none=>False
      | some [.d .nils],t :: _=>match K.ti t with
        | some ti=>match ti.kind with
          | .slice _=>k [] [] (.d (.int .i64 0)) H
          | _=>False
        | none=>False
      | _,_=>False
    | .builtin .append=>match evs f c.args.toList,c.argTypes.toList with
      | some [.asl (.g n) gen sub cl,y],[t,u]=>match K.ti t,K.ti u with
        | some ti,some ui=>match ti.kind,ui.kind with
          | .slice e,.slice _=>match K.ti e,K.rowsOf loc [] (K.vcs s e) y with
            | some j,some (ok,ys)=>
              if (K.fitsV (K.vcs s e) j=true∧j.whole∧j.bytes ≠ 0)∧(O.arr 0 (K.vcs s e) []).refsOk (fun _=>false)=true∧twoSlot (slotA an o)=false then
                iteP cl (if an.glob=true then ∃xs:List (K.vcs s e).El,obj H n=some (.arr gen (K.vcs s e) xs)∧
                  andP ok (andP (subFit sub (lenL xs)) (andP (notB (emptyL ys)) (andP (roomB (addN (subLen sub (lenL xs)) (lenL ys)) j.bytes)
                    (k (none :: y.ref.map Rf.tok) [none] (.asl (.g (lenO H)) 0 none false) (pushO H (.arr 0 (K.vcs s e) (appL (subPick sub xs) ys)))))))
                  else False)
                (∃xs:List (K.vcs s e).El,obj H n=some (.arr gen (K.vcs s e) xs)∧
                  andP ok (andP (eqN (subOff sub) 0) (andP (subFit sub (lenL xs)) (andP (roomB (addN (subLen sub (lenL xs)) (lenL ys)) j.bytes)
                    (k (y.ref.map Rf.tok) [none] (.asl (.g n) (gen+1) none false) (updO H n (.arr (gen+1) (K.vcs s e) (appL (subRows sub xs) ys))))))))
              else False
            | _,_=>False
          | _,_=>False
        | _,_=>False
      | _,_=>False
    | _=>False
  | .slice t x lo hi mx=>match f x,evO f lo,evO f hi,evO f mx,K.ti t with
    | some (.asl (.g n) gen sub false),some lo,some hi,some none,some ti=>match ti.kind with
      | .slice e=>match K.ti e with
        | some j=>if K.widthV (K.vcs s e)=j.size then ∃xs:List (K.vcs s e).El,obj H n=some (.arr gen (K.vcs s e) xs)∧
            match toI lo 0,toI hi (intN (subLen sub (lenL xs))) with
            | some l,some h=>andP (andB (leI 0 l) (andB (leI l h) (andB (leI h (intN (subLen sub (lenL xs)))) (subFit sub (lenL xs))))) (k [none] [] (.asl (.g n) gen (cutSub lo l h (subOff sub)) false) H)
            | _,_=>False
          else False
        | none=>False
      | _=>False
    | _,_,_,_,_=>False
  | .indexAddr t x i=>match f x,f i,K.ti t with
    | some (.asl (.g n) gen sub _),some (.d (.int _ i)),some ti=>match ti.kind with
      | .slice e=>match K.ti e with
        | some j=>if K.widthV (K.vcs s e)=j.size then ∃xs:List (K.vcs s e).El,obj H n=some (.arr gen (K.vcs s e) xs)∧
            andP (inB i (subLen sub (lenL xs))) (andP (subFit sub (lenL xs)) (k [none] [] (.pa (.g n) gen (addN (subOff sub) (natI i)) 0) H))
          else False
        | none=>False
      | _=>False
    | _,_,_=>False
  | .makeSlice t n m=>match f n,f m,K.ti t with
    | some (.d (.int .i64 n)),some (.d (.int .i64 m)),some ti=>match ti.kind with
      | .slice e=>match K.ti e with
        | some j=>match an.glob with
         | true=>if (K.fitsV (K.vc e) j=true∧j.size ≠ 0∧j.whole∧j.bytes ≠ 0)∧(O.arr 0 (K.vc e) []).refsOk (fun _=>false)=true then
             okP (K.decV (K.vc e) (C.ofZ j.zero)) fun x=>andP (leI 0 n) (andP (leI n m) (andP (roomI m j.bytes) (k [] [none] (.asl (.g (lenO H)) 0 none false) (pushO H (.arr 0 (K.vc e) (replL n x))))))
           else False
         | false=>match j.kind with
          | .slice e'=>if (j.zero=[.nils]∧j.size=1∧j.whole∧j.bytes ≠ 0)∧an.slot=some 60000∧(O.arr 0 (K.vc e') []).refsOk (fun _=>false)=true then
              andP (leI 0 n) (andP (leI n m) (andP (roomI m j.bytes) (k [] [none,none] (.asl (.g (lenO (pushO H (.arr 0 (K.vc e') (nilL _))))) 0 none false) (pushO (pushO H (.arr 0 (K.vc e') (nilL _))) (.arr 0 .row (replL n ((lenO H,0,none,true):Nat×Nat×Option (Nat×Nat)×Bool)))))))
            else False
          | _=>False
        | none=>False
      | _=>False
    | _,_,_=>False
  | .buildSlice t n parts=>match evsN f parts.toList with
    | some ps=>match K.buildSlice (fun _=>none) [] none t n ps with
      | some r=>match r.wr with
        | [(_,.arr 0 v xs)]=>if an.glob=true∧an.frz=false∧(O.arr 0 v xs).refsOk (fun _=>false)=true then k [] [none] (.asl (.g (lenO H)) 0 none false) (pushO H (.arr 0 v xs)) else False
        | _=>False
      | none=>False
    | none=>False
  | .move x|.assign x=>match f x,an.own with
    | some (.d .nils),[(0,none,v)]=>if (O.arr 0 v []).refsOk (fun _=>false)=true then k [] [none] (.asl (.g (lenO H)) 0 none false) (pushO H (.arr 0 v (nilL _))) else False
    | _,_=>False
  | .alloc t=>match K.ti t with
    | some i=>if i.whole∧an.glob=true then k [] [none] (.ptr (.g (lenO H)) 0) (pushO H (.cells (C.coL an.co (C.ofZ i.zero)))) else False
    | none=>False
  | .box _ x=>match f x with
    | some v=>if v.cells.all C.one∧an.glob=true∧(O.cells v.cells).refsOk (fun _=>false)=true then k [] [none] (.ptr (.g (lenO H)) 0) (pushO H (.cells v.cells)) else False
    | none=>False
  | .makeMap t none=>match K.ti t with
    | some i=>match i.kind with
      | .map kt e=>match K.ti kt,K.ti e with
        | some i,some j=>if an.glob=true∧(O.map (i.agg,j.agg) (K.kc t) (K.vc e) []).refsOk (fun _=>false)=true then k [] [none] (.mp (.g (lenO H))) (pushO H (.map (i.agg,j.agg) (K.kc t) (K.vc e) [])) else False
        | _,_=>False
      | _=>False
    | none=>False
  | .build t parts=>match evsN f parts.toList with
    | some ps=>match K.build t ps with
      | some v=>match v.coV an.co with
        | .agg cs=>match ownS an.own cs H with
          | some (cs',H')=>if an.own.all (fun x=>(O.arr 0 x.2.2 []).refsOk (fun _=>false))=true then k [] (an.own.map fun _=>none) (.agg cs') H' else False
          | none=>False
        | _=>False
      | none=>False
    | none=>False
  | _=>False
variable (Rs:Res K) (Runs:FuncId→List (C K.U)→List (O K.U)→(C K.U→List (O K.U)→Prop)→Prop)
def lendP (g:FuncId) (args:List (C K.U)) (loc:Loc K.U) (H:List (O K.U)) (k:C K.U→Prop):Prop:=
 match (K.ann g).pure && ((K.ann g).scalar && !(K.ann g).own) with
 | true=>lendCs loc H args fun as=>∃x:Rs.R g,Runs g (C.coVs (K.ann g).pco as) [] (fun c H'=>c=Rs.enc g x∧H'=[])∧if (K.lent (Rs.enc g x) && (Rs.enc g x).noOsl)=true then k (Rs.enc g x) else False
 | false=>False
def opS (quiet:Bool) (an:OpAnn K.U) (o:Oper) (st:St K.U) (k:St K.U→Prop):Prop:=
  match an.sym with
  | none=>opP Rs Runs quiet an o st k
  | some s=>match callOf o with
   | true=>match K.aop an o (K.ev st.tmps) st.loc st.H with
    | some (.call g args)=>lendP Rs Runs g args st.loc st.H fun v=>k ⟨put st.tmps o.dst v,st.loc,st.H⟩
    | _=>False
   | false=>symP Sh s an o (K.ev st.tmps) st.loc st.H fun _ wr v H'=>match quiet,wr with
    | true,_ :: _=>False
    | _,_=>k ⟨put st.tmps o.dst v,st.loc,H'⟩
def rgnS (id:Nat) (an:FAnn K.U) (ops:Array Oper):Nat→Bool→Option (Nat×Bool)→List (Nat×Oper)→St K.U→(St K.U→Prop)→Prop
 | 0,_,_,_,_,_=>False
 | _+1,_,_,[],st,k=>k st
 | n+1,quiet,lv,(i,o) :: rest,st,k=>
  if o.guard=none∨o.guard=lv then
   opS Sh Rs Runs quiet (an.op id i) o st fun st'=>rgnS id an ops n quiet lv rest st' k
  else match o.guard with
  | none=>False
  | some (j,want)=>
   let inner:=fun p:Nat×Oper=>decide (¬(p.2.guard=none∨p.2.guard=lv))
   let ins:=(i,o) :: rest.takeWhile inner
   match (ops[j]?).bind (·.dst),rest.dropWhile inner with
   | some dj,(_,p) :: after=>match p.op,boolAt st (.tmp dj) with
    | .pick (.tmp c) x y,some b=>
     if c=dj∧innerOk j want dj ins []=true then
      match an.split id && !quiet with
      | true=>
       let nx:=fun (z:Operand) (st':St K.U)=>match boolAt st' z with
        | some v=>rgnS id an ops n quiet lv after ⟨put st'.tmps p.dst (.d (.bool v)),st'.loc,st'.H⟩ k
        | none=>False
       match want with
       | true=>iteP b (rgnS id an ops n quiet (some (j,true)) ins st (nx x)) (nx y ⟨kill ins st.tmps,st.loc,st.H⟩)
       | false=>iteP b (nx x ⟨kill ins st.tmps,st.loc,st.H⟩) (rgnS id an ops n quiet (some (j,false)) ins st (nx y))
      | false=>
      ∃v:Bool,(match want with
       | true=>iteP b (rgnS id an ops n true (some (j,true)) ins st fun st'=>isB? (boolAt st' x) v) (isB? (boolAt ⟨kill ins st.tmps,st.loc,st.H⟩ y) v)
       | false=>iteP b (isB? (boolAt ⟨kill ins st.tmps,st.loc,st.H⟩ x) v) (rgnS id an ops n true (some (j,false)) ins st fun st'=>isB? (boolAt st' y) v))∧
       rgnS id an ops n quiet lv after ⟨put (kill ins st.tmps) p.dst (.d (.bool v)),st.loc,st.H⟩ k
     else False
    | _,_=>False
   | _,_=>False
def lateOneS (s:TypeId) (l:LateK K.U) (H H':List (O K.U)):Prop:=
 match l with
 | .ld t i n=>match K.ti t with
  | some ti=>∃x x':Sh.T s,obj H i=some (.cells (Sh.enc s x))∧obj H' i=some (.cells (Sh.enc s x'))∧
    match valOf ti ((Sh.enc s x).drop n),valOf ti ((Sh.enc s x').drop n) with
    | some v,some v'=>v=v'
    | _,_=>False
  | none=>False
 | .lk t n key ok=>match K.ti t with
  | some ti=>match ti.kind with
   | .map kt e=>match K.ti e,K.ti kt with
    | some j,some i=>∃es es':List (K.U.El (K.kc t)×(K.vc e).El),obj H n=some (.map (i.agg,j.agg) (K.kc t) (K.vc e) es)∧obj H' n=some (.map (i.agg,j.agg) (K.kc t) (K.vc e) es')∧
     match K.keyEq (K.kc t),K.keyOf (K.kc t) key,K.zeroV e (K.vc e) with
     | some (zs,eq),some kk,some z=>
      if zs=i.zero∧K.plainT 8 kt=true∧K.width (K.kc t)=i.size∧i.agg=key.isAgg then
       ((match ok with|true=>someO (findK eq kk es)=someO (findK eq kk es')|false=>True)∧getO' z (findK eq kk es)=getO' z (findK eq kk es'))∧okP (elemVal j (K.encV (K.vc e) (getO' z (findK eq kk es)))) fun _=>True
      else False
     | _,_,_=>False
    | _,_=>False
   | _=>False
  | none=>False
def lateAllS (mk:Nat) (rd wr:List Tok) (H H':List (O K.U)):List (Rec K.U×Option TypeId)→Prop→Prop
 | [],p=>p
 | ((j,_,rd',wr',ad),s) :: acc,p=>match mk.testBit j || apartT rd wr rd' wr',ad,s with
  | true,_,_=>lateAllS mk rd wr H H' acc p
  | false,some l,some s=>lateOneS Sh s l H H'∧lateAllS mk rd wr H H' acc p
  | false,_,_=>False
def drawOpS (id i mk:Nat) (an:FAnn K.U) (o:Oper) (acc:List (Rec K.U×Option TypeId)) (st:St K.U) (k:List Tok→List Tok→Option (LateK K.U)→Option TypeId→St K.U→Prop):Prop:=
  match (an.op id i).sym with
  | none=>match K.aop (an.op id i) o (K.ev st.tmps) st.loc st.H with
    | some (.call g args)=>
      if apartAll mk (acc.map (·.1)) (callToks (K:=K) (slotOf (an.op id i) o) g args).1 (callToks (K:=K) (slotOf (an.op id i) o) g args).2 then
        callP Rs Runs false (slotOf (an.op id i) o) g args st.loc st.H fun v l h=>k (callToks (K:=K) (slotOf (an.op id i) o) g args).1 (callToks (K:=K) (slotOf (an.op id i) o) g args).2 none none ⟨put st.tmps o.dst v,l,h⟩
      else if (!(K.ann g).pure && apartLate mk (acc.map (·.1)) (callToks (K:=K) (slotOf (an.op id i) o) g args).1 (callToks (K:=K) (slotOf (an.op id i) o) g args).2)=true then
        callP Rs Runs false (slotOf (an.op id i) o) g args st.loc st.H fun v l h=>lateAllS Sh mk (callToks (K:=K) (slotOf (an.op id i) o) g args).1 (callToks (K:=K) (slotOf (an.op id i) o) g args).2 st.H h acc (k (callToks (K:=K) (slotOf (an.op id i) o) g args).1 (callToks (K:=K) (slotOf (an.op id i) o) g args).2 none none ⟨put st.tmps o.dst v,l,h⟩)
      else False
    | _=>drawOp Rs Runs id i mk an o (acc.map (·.1)) st fun rd wr ad st'=>k rd wr ad none st'
  | some s=>match callOf o with
   | true=>match K.aop (an.op id i) o (K.ev st.tmps) st.loc st.H with
    | some (.call g args)=>
      if apartAll mk (acc.map (·.1)) (callToks (K:=K) (slotOf (an.op id i) o) g args).1 (callToks (K:=K) (slotOf (an.op id i) o) g args).2 then
        lendP Rs Runs g args st.loc st.H fun v=>k (callToks (K:=K) (slotOf (an.op id i) o) g args).1 (callToks (K:=K) (slotOf (an.op id i) o) g args).2 none none ⟨put st.tmps o.dst v,st.loc,st.H⟩
      else False
    | _=>False
   | false=>symP Sh s (an.op id i) o (K.ev st.tmps) st.loc st.H fun rd wr v H'=>
    if apartAll mk (acc.map (·.1)) rd wr=true then k rd wr (loadOf (K:=K) st.tmps o) (some s) ⟨put st.tmps o.dst v,st.loc,H'⟩
    else if (apartLate mk (acc.map (·.1)) rd wr && wr.contains none)=true then lateAllS Sh mk rd wr st.H H' acc (k rd wr (loadOf (K:=K) st.tmps o) (some s) ⟨put st.tmps o.dst v,st.loc,H'⟩)
    else False
def drawS (id:Nat) (an:FAnn K.U) (ops:Array Oper):List (Nat×Oper)→List (Rec K.U×Option TypeId)→St K.U→(St K.U→Prop)→Prop
 | [],_,st,k=>k st
 | (i,o) :: rest,acc,st,k=>
  forceN (maskOf (acc.map (·.1)) o.after.toList) fun mk=>
  match o.guard with
  | none=>drawOpS Sh Rs Runs id i mk an o acc st fun rd wr ad s st'=>drawS id an ops rest (((i,mk,rd,wr,ad),s) :: acc) st' k
  | some (j,want)=>match (ops[j]?).bind (·.dst) with
   | none=>False
   | some dj=>match boolAt st (.tmp dj) with
    | none=>False
    | some b=>match want with
     | true=>iteP b (drawOpS Sh Rs Runs id i mk an o acc ⟨put st.tmps (some dj) (.d (.bool true)),st.loc,st.H⟩ fun rd wr ad s st'=>drawS id an ops rest (((i,mk,rd,wr,ad),s) :: acc) st' k)
       (drawS id an ops rest (((i,mk,[],[],none),none) :: acc) ⟨put (put st.tmps (some dj) (.d (.bool false))) o.dst .dead,st.loc,st.H⟩ k)
     | false=>iteP b (drawS id an ops rest (((i,mk,[],[],none),none) :: acc) ⟨put (put st.tmps (some dj) (.d (.bool true))) o.dst .dead,st.loc,st.H⟩ k)
       (drawOpS Sh Rs Runs id i mk an o acc ⟨put st.tmps (some dj) (.d (.bool false)),st.loc,st.H⟩ fun rd wr ad s st'=>drawS id an ops rest (((i,mk,rd,wr,ad),s) :: acc) st' k)
variable (Leaf:List Item→St K.U→Prop)
def walkS (f:FuncId) (fn:Func) (post:C K.U→List (O K.U)→Prop):Nat→Bool→List Item→St K.U→Prop
 | 0,_,_,_=>False
 | _+1,_,[],st=>endP f fn st post
 | n+1,first,x :: k,st=>match x with
  | .code .ret=>endP f fn st post
  | .code .skip|.code (.label _)|.inBlock _|.inScope _=>walkS f fn post n first k st
  | .code (.seq a b)=>walkS f fn post n first (.code a :: .code b :: k) st
  | .code (.cond c a b)=>match boolAt st c with
   | some t=>iteP t (walkS f fn post n first (.code a :: k) st) (walkS f fn post n first (.code b :: k) st)
   | none=>False
  | .code (.block id c)=>walkS f fn post n first (.code c :: .inBlock id :: k) st
  | .code (.loop c)|.inLoop c=>walkS f fn post n first (.code c :: .inLoop c :: k) st
  | .code (.rangeFunc g ps assign body)=>rangeP (fun id ops st k=>rgnS Sh Rs Runs id (K.ann f) ops (2 * ops.size+2) false none ((List.range ops.size).zip ops.toList) st k) f fn post g ps assign body st fun st'=>walkS f fn post n false k st'
  | .code (.exit id)=>match exitTo id k with
   | some k'=>walkS f fn post n first k' st
   | none=>False
  | .code (.region id ops draw)=>if ops.toList.all (fun o=>match o.dst with|some d=>decide (d<fn.ntmps)|none=>true)=false then False else match (if first then none else (K.ann f).live id) with
   | some (live,objs)=>trimAll ((K.ann f).trim id) st fun st=>if st.clearOk live objs then Leaf (.code (.region id ops draw) :: k) (st.clear live objs) else False
   | none=>
    if draw then
     if drawOk ops (ordOf ops ((K.ann f).perm id)) [] && permOk ops ((K.ann f).perm id) && K.P.follows .mixedOrders then
      drawS Sh Rs Runs id (K.ann f) ops (ordOf ops ((K.ann f).perm id)) [] st fun st'=>walkS f fn post n false k st'
     else False
    else rgnS Sh Rs Runs id (K.ann f) ops (2 * ops.size+2) false none ((List.range ops.size).zip ops.toList) st fun st'=>walkS f fn post n false k st'
  | _=>False
end walk
end
end Go.Abs
