/- LEMMAS: what is told by what is known of objects handed down is told of the walk. Conditions: none. -/
import Derived.Test.YtaldbipmbkapmaaDoorA30
import Derived.Test.YtaldbipmbkapmaaDoorA24
namespace Go.Abs
set_option linter.unusedVariables false
set_option linter.unusedSimpArgs false
section
variable {K:Cfg} {Sh:Shp K}
theorem okP_iff {α:Type} {x:Option α} {k:α→Prop}:okP x k↔∃y,x=some y∧k y:=by cases x <;> simp [okP]
theorem obj_lt {H:List (O K.U)} {n:Nat} {o:O K.U} (h:obj H n=some o):n<H.length:=(List.getElem?_eq_some_iff.1 h).1
theorem obj_getO {H:List (O K.U)} {n:Nat} {o:O K.U} (h:obj H n=some o) (loc:Loc K.U):getO loc H (.g n)=some o:=h
theorem apH_upd {H:List (O K.U)} {n:Nat} {x:O K.U} (h:n<H.length):apH H [(.g n,x)]=updO H n x:=by
 simp only [apH]
 have:Nat.beq n H.length=false:=by
  rw [←Bool.not_eq_true]; intro e; have:=Nat.eq_of_beq_eq_true e; omega
 rw [this]; rfl
theorem apH_push {H:List (O K.U)} {x:O K.U}:apH H [(.g H.length,x)]=pushO H x:=by
 simp only [apH,Nat.beq_refl]; rfl
def Syms (an:OpAnn K.U) (o:Oper) (f:Operand→Option (C K.U)) (loc:Loc K.U) (H:List (O K.U)) (k:List Tok→List Tok→C K.U→List (O K.U)→Prop):Prop:=
 ∃r,K.aop an o f loc H=some (.out r)∧r.ok=true∧r.wr.all okW=true∧apL loc r.wr=loc∧(r.wr=[]→mild o=true)∧
  k (r.rd.map Rf.tok) (r.wr.map fun x=>x.1.tok) r.v (apH H r.wr)
theorem rowsOf_nil {loc:Loc K.U} {H:List (O K.U)} {v:Vc K.U} {y:C K.U} {r:Bool×List v.El} (h:K.rowsOf loc [] v y=some r):K.rowsOf loc H v y=some r:=by
 cases y with
 | asl q g s c=>
  cases q with
  | l n=>exact h
  | g n=>simp [Cfg.rowsOf,getO] at h
 | d x=>cases x <;> exact h
 | _=>exact h
theorem refsOk_arr {U:Univ} {g g':Nat} {v:Vc U} {xs xs':List v.El} {q:Nat→Bool} (h:(O.arr g v xs).refsOk q=true):(O.arr g' v xs').refsOk q=true:=by
 cases v <;> first|exact h|rfl
theorem refsOk_map {U:Univ} {ag:Bool×Bool} {kc:U.Ty} {v:Vc U} {xs xs':List (U.El kc×v.El)} {q:Nat→Bool} (h:(O.map ag kc v xs).refsOk q=true):(O.map ag kc v xs').refsOk q=true:=by
 cases v <;> first|exact h|rfl
theorem ownS_spec {loc:Loc K.U}:∀{own:List (Nat×Option Nat×Vc K.U)} {cs cs':List (C K.U)} {H H':List (O K.U)},ownS own cs H=some (cs',H')→(∀x∈own,(O.arr 0 x.2.2 []:O K.U).refsOk (fun _=>false)=true)→
  ∃wr,ownAll loc H own cs=some (cs',wr)∧wr.all okW=true∧apL loc wr=loc∧apH H wr=H'∧wr.map (fun x=>x.1.tok)=own.map fun _=>none
 | [],cs,cs',H,H',h,_=>by
  simp only [ownS,Option.some.injEq,Prod.mk.injEq] at h
  obtain ⟨rfl,rfl⟩:=h
  exact ⟨[],rfl,rfl,rfl,rfl,rfl⟩
 | (i,some q,v) :: rest,cs,cs',H,H',h,_=>by simp [ownS] at h
 | (i,none,v) :: rest,cs,cs',H,H',h,hk=>by
  simp only [ownS] at h
  split at h
  ·rename_i hc
   obtain ⟨wr,k1,k2,k3,k4,k5⟩:=ownS_spec (loc:=loc) h (fun x hx=>hk x (by simp [hx]))
   have e:apH H [(.g H.length,O.arr 0 v (nilL _))]=pushO H (.arr 0 v (nilL _)):=apH_push
   refine ⟨(.g H.length,.arr 0 v (nilL _)) :: wr,?_,?_,?_,?_,by simp only [List.map_cons,k5]; rfl⟩
   ·simp only [ownAll,hc,newO]
    have e1:apL loc [((Rf.g H.length),(O.arr 0 v (nilL _):O K.U))]=loc:=rfl
    rw [e1,e]
    simp only [lenO] at k1
    rw [k1]
   ·simp only [List.all_cons,k2,Bool.and_true]
    exact hk (i,none,v) (by simp)
   ·exact k3
   ·rw [←k4]
    simp only [apH,Nat.beq_refl,cond_true,pushO]
  ·cases h
theorem buildSlice_glob {loc:Loc K.U} {H:List (O K.U)} {t:TypeId} {n:Nat} {ps:List (Nat×C K.U)} {r:Out K.U} {q:Rf} {v:Vc K.U} {xs:List v.El} (h:K.buildSlice (fun _=>none) [] none t n ps=some r) (hw:r.wr=[(q,.arr 0 v xs)]):
  K.buildSlice loc H none t n ps=some { ok:=true,v:=.asl (.g H.length) 0 none false,wr:=[(.g H.length,.arr 0 v xs)] }:=by
 unfold Cfg.buildSlice at h ⊢
 repeat' split at h
 all_goals first|cases h|skip
 rename_i hk _ _ hj hc _ _ hf _ _ _ _ hx hnew
 simp only [List.cons.injEq,Prod.mk.injEq,and_true,O.arr.injEq,true_and] at hw
 obtain ⟨_,hv,hxs⟩:=hw
 simp only [hj,if_pos hc,hf,hx,newO]
 cases hv
 cases hxs
 rfl
theorem symP_spec {s:TypeId} {an:OpAnn K.U} {o:Oper} {f:Operand→Option (C K.U)} {loc:Loc K.U} {H:List (O K.U)} {k:List Tok→List Tok→C K.U→List (O K.U)→Prop} (h:symP Sh s an o f loc H k):Syms an o f loc H k:=by
 have rdo:∀(n:Nat),[(Rf.g n)].map Rf.tok=[none]:=fun _=>rfl
 unfold symP at h
 split at h
 ·-- load
  rename_i t a ho
  split at h
  ·rename_i n off i ha hi
   obtain ⟨x,hx,h⟩:=h
   obtain ⟨v,hv,h⟩:=okP_iff.1 h
   refine ⟨{ ok:=true,v:=v,rd:=[.g n] },?_,rfl,rfl,rfl,fun _=>by simp [mild,ho],h⟩
   simp only [Cfg.aop,Cfg.aopAt,ho,ha,Cfg.load,hi,Cfg.cellsAt,obj_getO hx,hv,stepOut,C.ref,Option.map_some]
  ·rename_i n gen row col i ha hi
   obtain ⟨xs,hx,h⟩:=h
   rw [andP_iff] at h
   obtain ⟨hb,h⟩:=h
   obtain ⟨v,hv,h⟩:=okP_iff.1 h
   rw [←rowAt_eq (of_decide_eq_true hb)] at hv
   refine ⟨{ ok:=andB (gen == gen) (ltN row (lenL xs)),v:=v,rd:=[.g n] },?_,by simp [andB,hb],rfl,rfl,fun _=>by simp [mild,ho],h⟩
   simp only [Cfg.aop,Cfg.aopAt,ho,ha,Cfg.load,hi,Cfg.cellsAt,obj_getO hx,hv,stepOut,C.ref,Option.map_some]
  ·exact h.elim
 ·-- store
  rename_i t a x ho
  split at h
  ·exact h.elim
  rename_i hfz
  split at h
  ·rename_i n off v i ha hv hi
   split at h
   ·rename_i hc
    obtain ⟨y,hy,h⟩:=h
    split at h
    ·rename_i hd
     refine ⟨{ ok:=true,v:=.tup [],wr:=[(.g n,.cells (splice (Sh.enc s y) off v.cells))] },?_,rfl,by simpa [okW] using hd.2,rfl,(fun e=>by cases e),by rw [apH_upd (obj_lt hy)]; exact h⟩
     simp only [Cfg.aop,Cfg.aopAt,ho,ha,hv,Cfg.storeX,hfz,Cfg.store,hi,if_pos hc,obj_getO hy,if_pos hd.1,stepOut,Option.map_some]
    ·exact h.elim
   ·exact h.elim
  ·rename_i n gen row col v i ha hv hi
   split at h
   ·rename_i hc
    obtain ⟨xs,hx,h⟩:=h
    split at h
    ·rename_i hd
     obtain ⟨z,hz,h⟩:=okP_iff.1 h
     rw [andP_iff] at h
     refine ⟨{ ok:=andB (gen == gen) (ltN row (lenL xs)),v:=.tup [],wr:=[(.g n,.arr gen (K.vc s) (setL xs row z))] },?_,by simp [andB,h.1],?_,rfl,(fun e=>by cases e),by rw [apH_upd (obj_lt hx)]; exact h.2⟩
     ·simp only [Cfg.aop,Cfg.aopAt,ho,ha,hv,Cfg.storeX,hfz,Cfg.store,hi,if_pos hc,obj_getO hx,if_pos hd.1,hz,stepOut,Option.map_some]
     ·simp only [List.all_cons,List.all_nil,Bool.and_true,okW]
      exact refsOk_arr hd.2
    ·exact h.elim
   ·exact h.elim
  ·exact h.elim
 ·-- lookup
  rename_i t m key ok ho
  split at h
  ·rename_i n key' ti hm hk ht
   split at h
   ·rename_i kt e hkd
    split at h
    ·rename_i j i hj hi
     obtain ⟨es,hes,h⟩:=h
     split at h
     ·rename_i zs eq kk z h1 h2 h3
      split at h
      ·rename_i hc
       obtain ⟨x,hx,h⟩:=okP_iff.1 h
       refine ⟨{ ok:=true,v:=if ok then .tup [x,.d (.bool (someO (findK eq kk es)))] else x,rd:=[.g n] },?_,rfl,rfl,rfl,fun _=>by simp [mild,ho],h⟩
       simp only [Cfg.aop,Cfg.aopAt,ho,hm,hk,Cfg.lookup,ht,hkd,hj,hi,obj_getO hes,h1,h2,h3]
       rw [if_pos ⟨hc.1,hc.2.1,hc.2.2.1,trivial,hc.2.2.2⟩,hx]
       rfl
      ·exact h.elim
     ·exact h.elim
    ·exact h.elim
   ·exact h.elim
  ·exact h.elim
 ·-- mapUpdate
  rename_i t m key x ho
  split at h
  ·rename_i n key' x' ti hm hk hx ht
   split at h
   ·rename_i kt e hkd
    split at h
    ·rename_i j i hj hi
     obtain ⟨es,hes,h⟩:=h
     split at h
     ·rename_i zs eq kk y h1 h2 h3
      split at h
      ·rename_i hc
       obtain ⟨hc,hd⟩:=hc
       refine ⟨{ ok:=true,v:=.tup [],wr:=[(.g n,.map (i.agg,j.agg) (K.kc t) (K.vc e) (updK eq kk y es))] },?_,rfl,?_,rfl,(fun e=>by cases e),by rw [apH_upd (obj_lt hes)]; exact h⟩
       ·simp only [Cfg.aop,Cfg.aopAt,ho,hm,hk,hx,Cfg.mapUpdate,ht,hkd,hj,hi,obj_getO hes,h1,h2,h3]
        rw [if_pos ⟨hc.1,hc.2.1,hc.2.2.1,hc.2.2.2.1,hc.2.2.2.2.1,trivial,hc.2.2.2.2.2.1,hc.2.2.2.2.2.2⟩]
        rfl
       ·(simp only [List.all_cons,List.all_nil,Bool.and_true,okW]; first|exact refsOk_map hd|exact refsOk_arr hd)
      ·exact h.elim
     ·exact h.elim
    ·exact h.elim
   ·exact h.elim
  ·exact h.elim
 ·-- insert
  rename_i t m key x ho
  split at h
  ·rename_i n key' x' ti hm hk hx ht
   split at h
   ·rename_i kt e hkd
    split at h
    ·rename_i j i hj hi
     obtain ⟨es,hes,h⟩:=h
     split at h
     ·rename_i zs eq kk y h1 h2 h3
      split at h
      ·rename_i hc
       obtain ⟨hc,hd⟩:=hc
       refine ⟨{ ok:=true,v:=.tup [],wr:=[(.g n,.map (i.agg,j.agg) (K.kc t) (K.vc e) (updK eq kk y es))] },?_,rfl,?_,rfl,(fun e=>by cases e),by rw [apH_upd (obj_lt hes)]; exact h⟩
       ·simp only [Cfg.aop,Cfg.aopAt,ho,hm,hk,hx,Cfg.mapUpdate,ht,hkd,hj,hi,obj_getO hes,h1,h2,h3]
        rw [if_pos ⟨hc.1,hc.2.1,hc.2.2.1,hc.2.2.2.1,hc.2.2.2.2.1,trivial,hc.2.2.2.2.2.1,hc.2.2.2.2.2.2⟩]
        rfl
       ·(simp only [List.all_cons,List.all_nil,Bool.and_true,okW]; first|exact refsOk_map hd|exact refsOk_arr hd)
      ·exact h.elim
     ·exact h.elim
    ·exact h.elim
   ·exact h.elim
  ·exact h.elim
 ·-- mapEntry
  rename_i t m key ho
  split at h
  ·rename_i n key' ti hm hk ht
   split at h
   ·rename_i kt e hkd
    split at h
    ·rename_i j i hj hi
     obtain ⟨es,hes,h⟩:=h
     split at h
     ·rename_i zs eq kk z h1 h2 h3
      split at h
      ·rename_i hc
       obtain ⟨hc,hd⟩:=hc
       obtain ⟨x,hx,h⟩:=okP_iff.1 h
       refine ⟨{ ok:=true,v:=.tup [x,.d (.int .i64 (intN (idxK eq kk es)))],wr:=[(.g n,.map (i.agg,j.agg) (K.kc t) (K.vc e) (entK eq kk z es))] },?_,rfl,?_,rfl,(fun e=>by cases e),by rw [apH_upd (obj_lt hes)]; exact h⟩
       ·simp only [Cfg.aop,Cfg.aopAt,ho,hm,hk,Cfg.mapEntry,ht,hkd,hj,hi,obj_getO hes,h1,h2,h3]
        rw [if_pos ⟨hc.1,hc.2.1,hc.2.2.1,trivial,hc.2.2.2⟩,hx]
        rfl
       ·(simp only [List.all_cons,List.all_nil,Bool.and_true,okW]; first|exact refsOk_map hd|exact refsOk_arr hd)
      ·exact h.elim
     ·exact h.elim
    ·exact h.elim
   ·exact h.elim
  ·exact h.elim
 ·-- entryStore
  rename_i t m stamp x ho
  split at h
  ·rename_i n q x' ti hm hs hx ht
   split at h
   ·rename_i kt e hkd
    split at h
    ·rename_i j i hj hi
     obtain ⟨es,hes,h⟩:=h
     split at h
     ·rename_i y h3
      split at h
      ·rename_i hc
       obtain ⟨hc,hd⟩:=hc
       rw [andP_iff] at h
       refine ⟨{ ok:=inB q (lenL es),v:=.tup [],wr:=[(.g n,.map (i.agg,j.agg) (K.kc t) (K.vc e) (setK es (natI q) y))] },?_,h.1,?_,rfl,(fun e=>by cases e),by rw [apH_upd (obj_lt hes)]; exact h.2⟩
       ·simp only [Cfg.aop,Cfg.aopAt,ho,hm,hs,hx,Cfg.entryStore,ht,hkd,hj,obj_getO hes,h3]
        rw [if_pos ⟨hc.1,hc.2.1,trivial,hc.2.2⟩]
        rfl
       ·(simp only [List.all_cons,List.all_nil,Bool.and_true,okW]; first|exact refsOk_map hd|exact refsOk_arr hd)
      ·exact h.elim
     ·exact h.elim
    ·exact h.elim
   ·exact h.elim
  ·exact h.elim
 ·-- call
  rename_i c ho
  split at h
  ·rename_i hcal
   split at h
   ·rename_i n t ts hargs hts
    split at h
    ·rename_i ti ht
     split at h
     ·rename_i kt e hkd
      split at h
      ·rename_i j i hj hi
       obtain ⟨es,hes,h⟩:=h
       refine ⟨{ ok:=true,v:=.d (.int .i64 (intN (lenL es))),rd:=[.g n] },?_,rfl,rfl,rfl,fun _=>by simp [mild,ho,hcal],h⟩
       simp only [Cfg.aop,Cfg.aopAt,ho,hargs,hcal,Cfg.builtin,hts,ht,hkd,Cfg.lenOf,obj_getO hes,stepOut,C.ref,Option.map_some]
      ·exact h.elim
     ·exact h.elim
    ·exact h.elim
   ·rename_i n gen sub cl t ts hargs hts
    split at h
    ·rename_i ti ht
     split at h
     ·rename_i e hkd
      obtain ⟨xs,hes,h⟩:=h
      refine ⟨{ ok:=gen == gen,v:=.d (.int .i64 (intN (subLen sub (lenL xs)))),rd:=[.g n] },?_,by simp,rfl,rfl,fun _=>by simp [mild,ho,hcal],h⟩
      simp only [Cfg.aop,Cfg.aopAt,ho,hargs,hcal,Cfg.builtin,hts,ht,hkd,Cfg.lenOf,obj_getO hes,stepOut,C.ref,Option.map_some,subLen]
     ·exact h.elim
    ·exact h.elim
   ·rename_i t ts hargs hts
    split at h
    ·rename_i ti ht
     split at h
     ·rename_i e hkd
      refine ⟨{ ok:=true,v:=.d (.int .i64 0) },?_,rfl,rfl,rfl,fun _=>by simp [mild,ho,hcal],h⟩
      simp only [Cfg.aop,Cfg.aopAt,ho,hargs,hcal,Cfg.builtin,hts,ht,hkd,Cfg.lenOf,stepOut,C.ref,Option.map_some]
      rfl
     ·exact h.elim
    ·exact h.elim
   ·exact h.elim
  ·rename_i hcal
   split at h
   ·rename_i n gen sub cl y t u hargs hts
    split at h
    ·rename_i ti ui ht hu
     split at h
     ·rename_i e e' hkd hkd'
      split at h
      ·rename_i j ok ys hj hrows
       split at h
       ·rename_i hc
        obtain ⟨hc,hd,h2w⟩:=hc
        have h2w:twoSlot (if an.glob=true then none else match an.slot with|some s=>some s|none=>o.dst)=false:=h2w
        cases cl with
        | true=>
        split at h
        ·rename_i hg
         obtain ⟨xs,hes,h⟩:=h
         simp only [andP_iff] at h
         obtain ⟨h1,h2,h3,h4,h⟩:=h
         have h2:subOk sub (lenL xs)=true:=h2
         have h4:roomB (addN (sub? sub (lenL xs)).2 (lenL ys)) j.bytes=true:=h4
         refine ⟨{ ok:=andB ok (andB (gen == gen) (andB (subOk sub (lenL xs)) (andB (notB (emptyL ys)) (roomB (addN (sub? sub (lenL xs)).2 (lenL ys)) j.bytes)))),v:=.asl (.g H.length) 0 none false,rd:=.g n :: y.ref,wr:=[(.g H.length,.arr 0 (K.vcs s e) (appL (subBy sub xs) ys))] },?_,by simp [andB,h1,h2,h3,h4],?_,rfl,(fun e=>by cases e),by rw [apH_push]; exact h⟩
         ·unfold Cfg.aop
          rw [if_pos hg]
          simp only [Cfg.aopAt,ho,hargs,hcal,Cfg.builtin,twoSlot,hts,ht,hu,hkd,hkd',Cfg.append,hj,obj_getO hes,rowsOf_nil hrows,Cfg.appArr,if_pos hc,sameSlot,Bool.false_eq_true,if_false,newO,stepOut,Option.map_some]
         ·simp only [List.all_cons,List.all_nil,Bool.and_true,okW]
          exact refsOk_arr hd
        ·exact h.elim
        | false=>
        obtain ⟨xs,hes,h⟩:=h
        simp only [andP_iff] at h
        obtain ⟨h1,hs0,h2,h3,h⟩:=h
        have hs0':(sub? sub (lenL xs)).1=0:=by
         cases sub with
         | none=>rfl
         | some q=>exact of_decide_eq_true hs0
        have h2:subOk sub (lenL xs)=true:=h2
        have h3:roomB (addN (sub? sub (lenL xs)).2 (lenL ys)) j.bytes=true:=h3
        refine ⟨{ ok:=andB ok (andB (gen == gen) (andB (subOk sub (lenL xs)) (roomB (addN (sub? sub (lenL xs)).2 (lenL ys)) j.bytes))),v:=.asl (.g n) (gen+1) none false,rd:=y.ref,wr:=[(.g n,.arr (gen+1) (K.vcs s e) (appL (cutTo sub xs) ys))] },?_,by simp [andB,h1,h2,h3],?_,rfl,(fun e=>by cases e),by rw [apH_upd (obj_lt hes)]; exact h⟩
        ·unfold Cfg.aop
         generalize (if an.glob=true then none else match an.slot with|some s=>some s|none=>o.dst)=sl at h2w ⊢
         simp only [Cfg.aopAt,ho,hargs,hcal,Cfg.builtin,h2w,hts,ht,hu,hkd,hkd',Cfg.append,hj,obj_getO hes,rowsOf_nil hrows,Cfg.appArr,if_pos hc,if_pos hs0',stepOut,Option.map_some]
        ·(simp only [List.all_cons,List.all_nil,Bool.and_true,okW]; first|exact refsOk_map hd|exact refsOk_arr hd)
       ·exact h.elim
      ·exact h.elim
     ·exact h.elim
    ·exact h.elim
   ·exact h.elim
  ·exact h.elim
 ·-- slice
  rename_i t x lo hi mx ho
  split at h
  ·rename_i n gen sub lo' hi' ti hx h1 h2 h3 ht
   split at h
   ·rename_i e hkd
    split at h
    ·rename_i j hj
     split at h
     ·rename_i hw
      obtain ⟨xs,hes,h⟩:=h
      split at h
      ·rename_i l hh hl hhh
       rw [andP_iff] at h
       obtain ⟨hb,h⟩:=h
       simp only [andB_true] at hb
       obtain ⟨b1,b2,b3,b4⟩:=hb
       have e0:(sub? sub (lenL xs)).1=subOff sub:=by cases sub <;> rfl
       refine ⟨{ ok:=andB (leI 0 l) (andB (leI l hh) (andB (leI hh (intN (sub? sub (lenL xs)).2)) (andB (gen == gen) (subOk sub (lenL xs))))),v:=.asl (.g n) gen (cutSub lo' l hh (sub? sub (lenL xs)).1) false,rd:=[.g n] },?_,?_,rfl,rfl,fun _=>by simp [mild,ho],?_⟩
       ·have hhh':toI hi' (intN (sub? sub (lenL xs)).2)=some hh:=hhh
        simp only [Cfg.aop,Cfg.aopAt,ho,hx,h1,h2,h3,Cfg.slice,ht,hkd,hj,obj_getO hes,if_pos hw,sliceArr,hl,hhh',Bool.false_eq_true,if_false,outV,C.ref]
       ·simp only [andB_true]
        exact ⟨b1,b2,b3,by simp,b4⟩
       ·rw [e0]; exact h
      ·exact h.elim
     ·exact h.elim
    ·exact h.elim
   ·exact h.elim
  ·exact h.elim
 ·-- indexAddr
  rename_i t x i ho
  split at h
  ·rename_i n gen sub cl ki i' ti hx hi ht
   split at h
   ·rename_i e hkd
    split at h
    ·rename_i j hj
     split at h
     ·rename_i hw
      obtain ⟨xs,hes,h⟩:=h
      obtain ⟨tk,tsz,tb,tz⟩:=ti
      simp only at hkd
      subst hkd
      simp only [andP_iff] at h
      obtain ⟨b1,b2,h⟩:=h
      cases sub with
      | none=>
       have b1:inB i' (lenL xs)=true:=b1
       refine ⟨{ ok:=andB (gen == gen) (inB i' (lenL xs)),v:=.pa (.g n) gen (natI i') 0,rd:=[.g n] },?_,by simp [andB,b1],rfl,rfl,fun _=>by simp [mild,ho],?_⟩
       ·simp only [Cfg.aop,Cfg.aopAt,ho,hx,hi,Cfg.indexAddr,ht,hj,obj_getO hes,if_pos hw,outV,C.ref]
       ·have e0:addN (subOff none) (natI i')=natI i':=Nat.zero_add _
        rw [e0] at h
        exact h
      | some q=>
       obtain ⟨o',m'⟩:=q
       have b1:inB i' m'=true:=b1
       have b2:leN (addN o' m') (lenL xs)=true:=b2
       refine ⟨{ ok:=andB (gen == gen) (andB (inB i' m') (leN (addN o' m') (lenL xs))),v:=.pa (.g n) gen (addN o' (natI i')) 0,rd:=[.g n] },?_,by simp [andB,b1,b2],rfl,rfl,fun _=>by simp [mild,ho],h⟩
       simp only [Cfg.aop,Cfg.aopAt,ho,hx,hi,Cfg.indexAddr,ht,hj,obj_getO hes,if_pos hw,outV,C.ref]
     ·exact h.elim
    ·exact h.elim
   ·exact h.elim
  ·exact h.elim
 ·-- makeSlice
  rename_i t n m ho
  split at h
  ·rename_i n' m' ti hn hm ht
   split at h
   ·rename_i e hkd
    split at h
    ·rename_i j hj
     split at h
     ·rename_i hg
      split at h
      ·rename_i hc
       obtain ⟨hc,hd⟩:=hc
       obtain ⟨x,hx,h⟩:=okP_iff.1 h
       simp only [andP_iff] at h
       obtain ⟨h1,h2,h3,h⟩:=h
       refine ⟨{ ok:=andB (leI 0 n') (andB (leI n' m') (roomI m' j.bytes)),v:=.asl (.g H.length) 0 none false,wr:=[(.g H.length,.arr 0 (K.vc e) (replL n' x))] },?_,by simp [andB,h1,h2,h3],?_,rfl,(fun e=>by cases e),by rw [apH_push]; exact h⟩
       ·simp only [Cfg.aop,Cfg.aopAt,ho,hn,hm,hg,if_true,rowsSlot,Cfg.makeSlice,ht,hkd,hj,if_pos hc,hx,newO,stepOut,Option.map_some]
       ·simp only [List.all_cons,List.all_nil,Bool.and_true,okW]
        exact refsOk_arr hd
      ·exact h.elim
     rename_i hg
     split at h
     ·rename_i e' hk2
      split at h
      ·rename_i hc
       obtain ⟨hc,hs,hd⟩:=hc
       simp only [andP_iff] at h
       obtain ⟨h1,h2,h3,h⟩:=h
       refine ⟨{ ok:=andB (leI 0 n') (andB (leI n' m') (roomI m' j.bytes)),v:=.asl (.g (H.length+1)) 0 none false,wr:=[(.g H.length,.arr 0 (K.vc e') (nilL _)),(.g (H.length+1),.arr 0 .row (replL n' ((H.length,0,none,true):Nat×Nat×Option (Nat×Nat)×Bool)))] },?_,by simp [andB,h1,h2,h3],?_,rfl,(fun e=>by cases e),?_⟩
       ·simp only [Cfg.aop,Cfg.aopAt,ho,hn,hm,hg,hs,Bool.false_eq_true,if_false,rowsSlot,Nat.beq_refl,Cfg.makeRows,ht,hkd,hj,hk2,if_pos hc,stepOut,Option.map_some]
       ·simp only [List.all_cons,List.all_nil,Bool.and_true,okW,Bool.and_eq_true]
        exact ⟨refsOk_arr hd,rfl⟩
       ·have e1:apH H [(.g H.length,(.arr 0 (K.vc e') (nilL _):O K.U))]=pushO H (.arr 0 (K.vc e') (nilL _)):=apH_push
        have e2:(pushO H (.arr 0 (K.vc e') (nilL _))).length=H.length+1:=by simp [pushO]
        have e3:∀x:O K.U,apH H [(.g H.length,(.arr 0 (K.vc e') (nilL _):O K.U)),(.g (H.length+1),x)]=pushO (pushO H (.arr 0 (K.vc e') (nilL _))) x:=fun x=>by
         have:apH H [(.g H.length,(.arr 0 (K.vc e') (nilL _):O K.U)),(.g (H.length+1),x)]=apH (apH H [(.g H.length,(.arr 0 (K.vc e') (nilL _):O K.U))]) [(.g (H.length+1),x)]:=rfl
         rw [this,e1,←e2]; exact apH_push
        rw [e3]
        simp only [lenO,e2] at h
        exact h
      ·exact h.elim
     ·exact h.elim
    ·exact h.elim
   ·exact h.elim
  ·exact h.elim
 ·-- buildSlice
  rename_i t n parts ho
  split at h
  ·rename_i ps hps
   split at h
   ·rename_i r hr
    split at h
    ·rename_i q v xs hw
     split at h
     ·rename_i hc
      obtain ⟨hg,hz,hd⟩:=hc
      refine ⟨{ ok:=true,v:=.asl (.g H.length) 0 none false,wr:=[(.g H.length,.arr 0 v xs)] },?_,rfl,by simpa [okW] using hd,rfl,(fun e=>by cases e),by rw [apH_push]; exact h⟩
      simp only [Cfg.aop,Cfg.aopAt,ho,hps,hg,hz,if_true,Cfg.buildSliceX]
      rw [buildSlice_glob hr hw (H:=H) (loc:=loc)]
      rfl
     ·exact h.elim
    ·exact h.elim
   ·exact h.elim
  ·exact h.elim
 ·-- move
  rename_i x ho
  split at h
  ·rename_i v hx hown
   split at h
   ·rename_i hd
    refine ⟨{ ok:=true,v:=.asl (.g H.length) 0 none false,wr:=[(.g H.length,.arr 0 v (nilL _))] },?_,rfl,by simpa [okW] using hd,rfl,(fun e=>by cases e),by rw [apH_push]; exact h⟩
    simp only [Cfg.aop,Cfg.aopAt,ho,hx,hown]
    rfl
   ·exact h.elim
  ·exact h.elim
 ·-- assign
  rename_i x ho
  split at h
  ·rename_i v hx hown
   split at h
   ·rename_i hd
    refine ⟨{ ok:=true,v:=.asl (.g H.length) 0 none false,wr:=[(.g H.length,.arr 0 v (nilL _))] },?_,rfl,by simpa [okW] using hd,rfl,(fun e=>by cases e),by rw [apH_push]; exact h⟩
    simp only [Cfg.aop,Cfg.aopAt,ho,hx,hown]
    rfl
   ·exact h.elim
  ·exact h.elim
 ·-- alloc
  rename_i t ho
  split at h
  ·rename_i i hi
   split at h
   ·rename_i hc
    refine ⟨{ ok:=true,v:=.ptr (.g H.length) 0,wr:=[(.g H.length,.cells (C.coL an.co (C.ofZ i.zero)))] },?_,rfl,?_,rfl,(fun e=>by cases e),by rw [apH_push]; exact h⟩
    ·simp only [Cfg.aop,Cfg.aopAt,ho,hi,if_pos hc.1,hc.2,if_true,newO]
    ·simp only [List.all_cons,List.all_nil,Bool.and_true,okW,O.refsOk]
     generalize an.co=os
     generalize i.zero=zs
     clear h hc hi
     induction zs generalizing os with
     | nil=>cases os <;> rfl
     | cons z zs ih=>
      cases os with
      | nil=>
       have:=ih []
       simp only [C.ofZ,List.map_cons,C.coL] at this ⊢
       simp only [C.refsAll,C.refsOk,Bool.true_and]
       exact this
      | cons q os=>
       have:=ih os
       simp only [C.ofZ,List.map_cons,C.coL] at this ⊢
       simp only [C.refsAll,Bool.and_eq_true]
       refine ⟨?_,this⟩
       unfold C.co
       split <;> rfl
   ·exact h.elim
  ·exact h.elim
 ·-- box
  rename_i t x ho
  split at h
  ·rename_i v hv
   split at h
   ·rename_i hc
    refine ⟨{ ok:=true,v:=.ptr (.g H.length) 0,wr:=[(.g H.length,.cells v.cells)] },?_,rfl,by simpa [okW] using hc.2.2,rfl,(fun e=>by cases e),by rw [apH_push]; exact h⟩
    simp only [Cfg.aop,Cfg.aopAt,ho,hv,if_pos hc.1,hc.2.1,if_true,newO]
   ·exact h.elim
  ·exact h.elim
 ·-- makeMap
  rename_i t ho
  split at h
  ·rename_i ti ht
   split at h
   ·rename_i kt e hkd
    split at h
    ·rename_i i j hi hj
     split at h
     ·rename_i hc
      refine ⟨{ ok:=true,v:=.mp (.g H.length),wr:=[(.g H.length,.map (i.agg,j.agg) (K.kc t) (K.vc e) [])] },?_,rfl,by simpa [okW] using hc.2,rfl,(fun e=>by cases e),by rw [apH_push]; exact h⟩
      simp only [Cfg.aop,Cfg.aopAt,ho,ht,hkd,hi,hj,hc.1,if_true,newO]
     ·exact h.elim
    ·exact h.elim
   ·exact h.elim
  ·exact h.elim
 ·-- build
  rename_i t parts ho
  split at h
  ·rename_i ps hps
   split at h
   ·rename_i v hv
    split at h
    ·rename_i cs hcs
     split at h
     ·rename_i cs' H' hown
      split at h
      ·rename_i hall
       obtain ⟨wr,k1,k2,k3,k4,k5⟩:=ownS_spec (loc:=loc) hown (fun x hx=>List.all_eq_true.1 hall x hx)
       refine ⟨{ ok:=true,v:=.agg cs',wr:=wr },?_,rfl,k2,k3,fun _=>by simp [mild,ho],by simp only [k4,k5]; exact h⟩
       simp only [Cfg.aop,Cfg.aopAt,ho,hps,hv,hcs,ownOut]
       cases hn:an.own with
       | nil=>
        rw [hn] at k1
        simp only [ownAll,Option.some.injEq,Prod.mk.injEq] at k1
        obtain ⟨rfl,rfl⟩:=k1
        rfl
       | cons a b=>
        rw [hn] at k1
        simp only [C.cells,k1]
      ·exact h.elim
     ·exact h.elim
    ·exact h.elim
   ·exact h.elim
  ·exact h.elim
 ·exact h.elim
section
variable {Rs:Res K} {Rn:FuncId→List (C K.U)→List (O K.U)→(C K.U→List (O K.U)→Prop)→Prop}
theorem gotP_mono {own:Bool} {slot:Option Nat} {v:C K.U} {loc:Loc K.U} {H:List (O K.U)} {k k':C K.U→Loc K.U→List (O K.U)→Prop} (hk:∀a b c,k a b c→k' a b c) (h:gotP own slot v loc H k):gotP own slot v loc H k':=by
 unfold gotP at h ⊢
 split at h
 ·exact hk _ _ _ h
 ·split at h
  ·exact hk _ _ _ h
  ·exact h.elim
theorem callP_mono {quiet:Bool} {slot:Option Nat} {g:FuncId} {args:List (C K.U)} {loc:Loc K.U} {H:List (O K.U)} {k k':C K.U→Loc K.U→List (O K.U)→Prop} (hk:∀a b c,k a b c→k' a b c) (h:callP Rs Rn quiet slot g args loc H k):callP Rs Rn quiet slot g args loc H k':=by
 unfold callP at h ⊢
 cases hp:(K.ann g).pure with
 | true=>
  simp only [hp] at h ⊢
  cases hf:K.frzAll loc H args with
  | none=>simp only [hf] at h
  | some q=>
   obtain ⟨ok,az,wr⟩:=q
   simp only [hf] at h ⊢
   split at h
   ·exact h.elim
   ·rename_i hq
    rw [if_neg hq]
    rw [andP_iff] at h ⊢
    refine ⟨h.1,?_⟩
    have h:=h.2
    cases hs:(K.ann g).scalar with
    | true=>
     simp only [hs] at h ⊢
     obtain ⟨x,h1,h2⟩:=h
     refine ⟨x,h1,?_⟩
     split at h2
     ·rename_i hc; rw [if_pos hc]; exact gotP_mono hk h2
     ·exact h2.elim
    | false=>
     simp only [hs] at h ⊢
     obtain ⟨x,h1,h2⟩:=h
     refine ⟨x,h1,?_⟩
     split at h2
     ·rename_i hc; rw [if_pos hc]; exact hk _ _ _ h2
     ·exact h2.elim
 | false=>
  simp only [hp] at h ⊢
  split at h
  ·exact h.elim
  ·rename_i hq
   rw [if_neg hq]
   cases hf:K.downAll loc H args with
   | none=>simp only [hf] at h
   | some q=>
    obtain ⟨ok,az,wr⟩:=q
    simp only [hf] at h ⊢
    rw [andP_iff] at h ⊢
    obtain ⟨h1,x,y,h2,h3⟩:=h
    refine ⟨h1,x,y,h2,?_⟩
    split at h3
    ·rename_i hc; rw [if_pos hc]; exact hk _ _ _ h3
    ·exact h3.elim
theorem dynP_mono {g:FuncId} {pre args post:List (C K.U)} {t:TypeId} {loc:Loc K.U} {H:List (O K.U)} {k k':C K.U→Loc K.U→List (O K.U)→Prop} (hk:∀a b c,k a b c→k' a b c) (h:dynP Rs Rn g pre args post t loc H k):dynP Rs Rn g pre args post t loc H k':=by
 unfold dynP at h ⊢
 split at h
 ·rename_i ok az wr hf
  rw [andP_iff] at h ⊢
  obtain ⟨h1,x,y,h2,h3⟩:=h
  refine ⟨h1,x,y,h2,?_⟩
  split at h3
  ·rename_i hc; rw [if_pos hc]; exact hk _ _ _ h3
  ·exact h3.elim
 ·exact h.elim
theorem opP_mono {quiet:Bool} {an:OpAnn K.U} {o:Oper} {st:St K.U} {k k':St K.U→Prop} (hk:∀st',k st'→k' st') (h:opP Rs Rn quiet an o st k):opP Rs Rn quiet an o st k':=by
 unfold opP at h ⊢
 split at h
 ·rename_i r hr
  split at h
  ·exact h.elim
  ·rename_i hc
   rw [if_neg hc]
   rw [andP_iff] at h ⊢
   exact ⟨h.1,hk _ h.2⟩
 ·exact callP_mono (fun _ _ _ h=>hk _ h) h
 ·split at h
  ·exact h.elim
  ·rename_i hq
   rw [if_neg hq]
   exact dynP_mono (fun _ _ _ h=>hk _ h) h
 ·split at h
  ·obtain ⟨h1,h2⟩:=h
   refine ⟨hk _ h1,?_⟩
   rw [iteP_iff] at h2 ⊢
   split at h2
   ·rename_i hc; rw [if_pos hc]; exact hk _ h2
   ·rename_i hc; rw [if_neg hc]; trivial
  ·split at h
   ·split at h
    ·exact h.elim
    ·rename_i hq
     rw [if_neg hq]
     rw [andP_iff] at h ⊢
     exact ⟨h.1,hk _ h.2.1,hk _ h.2.2⟩
   ·exact h.elim
mutual
theorem lendC_spec {loc:Loc K.U} {H:List (O K.U)}:∀{x:C K.U} {k:C K.U→Prop},lendC loc H x k→∃y wr,K.frz loc H x=some (true,y,wr)∧k y
 | .d x,k,h=>by simp only [lendC] at h; exact ⟨.d x,[],by simp only [Cfg.frz],h⟩
 | .clip c xs,k,h=>by simp only [lendC] at h; exact ⟨.d (.sl c xs),[],by simp only [Cfg.frz],h⟩
 | .ep cs,k,h=>by simp only [lendC] at h; exact ⟨.ep cs,[],by simp only [Cfg.frz],h⟩
 | .asl (.g n) gen sub cl,k,h=>by
  simp only [lendC,andP_iff] at h
  obtain ⟨c,xs,h1,h2,h3⟩:=h
  have h2:subOk sub (lenL (α:=Vc.El (.pure c)) xs)=true:=h2
  have e:andB (gen == gen) (subOk sub (lenL (α:=Vc.El (.pure c)) xs))=true:=by rw [h2]; simp [andB]
  refine ⟨.d (.sl c (subPick sub xs)),[(.g n,.fro gen c xs)],?_,h3⟩
  simp only [Cfg.frz,Cfg.now,obj_getO h1,e]
  rfl
 | .asl (.l s) gen sub cl,k,h=>by
  simp only [lendC] at h
  split at h
  ·rename_i ok x o hn
   rw [andP_iff] at h
   have hn:K.now loc H (.l s) gen sub=some (ok,x,o):=hn
   refine ⟨.d x,[(.l s,o)],?_,h.2⟩
   simp only [Cfg.frz,hn,h.1]
  ·exact h.elim
 | .agg cs,k,h=>by
  simp only [lendC] at h
  obtain ⟨ys,wr,h1,h2⟩:=lendCs_spec h
  exact ⟨.agg ys,wr,by simp only [Cfg.frz,h1],h2⟩
 | .ptr _ _,_,h|.pa _ _ _ _,_,h|.osl _ _,_,h|.mp _,_,h|.fn _ _ _,_,h|.fp _ _ _,_,h|.optr _,_,h|.tup _,_,h|.ifc _ _,_,h|.dead,_,h=>by simp only [lendC] at h
theorem lendCs_spec {loc:Loc K.U} {H:List (O K.U)}:∀{xs:List (C K.U)} {k:List (C K.U)→Prop},lendCs loc H xs k→∃ys wr,K.frzAll loc H xs=some (true,ys,wr)∧k ys
 | [],k,h=>by simp only [lendCs] at h; exact ⟨[],[],by simp only [Cfg.frzAll],h⟩
 | x :: xs,k,h=>by
  simp only [lendCs] at h
  obtain ⟨y,wr,h1,h2⟩:=lendC_spec h
  obtain ⟨ys,wr',h3,h4⟩:=lendCs_spec h2
  exact ⟨y :: ys,wr ++ wr',(by simp only [Cfg.frzAll,h1,h3]; rfl),h4⟩
end
theorem lendP_callP {quiet:Bool} {slot:Option Nat} {g:FuncId} {args:List (C K.U)} {loc:Loc K.U} {H:List (O K.U)} {k:C K.U→Prop} {k':C K.U→Loc K.U→List (O K.U)→Prop} (hk:∀v,k v→k' v loc H) (h:lendP Rs Rn g args loc H k):callP Rs Rn quiet slot g args loc H k':=by
 unfold lendP at h
 split at h
 ·rename_i hc
  simp only [Bool.and_eq_true,Bool.not_eq_true'] at hc
  obtain ⟨h1,h2,h3⟩:=hc
  obtain ⟨as,wr,h4,x,h5,h6⟩:=lendCs_spec h
  unfold callP
  simp only [h1,h2,h3,h4]
  have hq:(quiet && (false || (!true && !wr.isEmpty)))=false:=by cases quiet <;> rfl
  rw [hq]
  simp only [Bool.false_eq_true,if_false]
  rw [andP_iff]
  refine ⟨rfl,x,h5,?_⟩
  split at h6
  ·rename_i hl
   rw [Bool.and_eq_true] at hl
   rw [if_pos (by rw [hl.1,hl.2]; simp)]
   exact hk _ h6
  ·exact h6.elim
 ·exact h.elim
theorem opS_P {quiet:Bool} {an:OpAnn K.U} {o:Oper} {st:St K.U} {k k':St K.U→Prop} (hk:∀st',k st'→k' st') (h:opS Sh Rs Rn quiet an o st k):opP Rs Rn quiet an o st k':=by
 unfold opS at h
 split at h
 ·exact opP_mono hk h
 ·split at h
  ·split at h
   ·rename_i g args ha
    unfold opP
    simp only [ha]
    exact lendP_callP (fun v h=>hk _ h) h
   ·exact h.elim
  obtain ⟨r,h1,h2,h3,h4,h5,h6⟩:=symP_spec h
  unfold opP
  simp only [h1]
  have hq:((quiet && !(mild o && r.wr.all fun x=>x.1.isL)) || !r.wr.all okW)=false∧k' ⟨put st.tmps o.dst r.v,apL st.loc r.wr,apH st.H r.wr⟩:=by
   rw [h3,h4]
   cases quiet with
   | false=>exact ⟨rfl,hk _ h6⟩
   | true=>
    cases hw:r.wr with
    | nil=>
     rw [hw] at h6
     refine ⟨?_,hk _ h6⟩
     rw [h5 hw]; rfl
    | cons a b=>rw [hw] at h6; exact h6.elim
  rw [hq.1]
  simp only [Bool.false_eq_true,if_false]
  rw [andP_iff]
  exact ⟨h2,hq.2⟩
theorem iteP_mono {b:Bool} {p q p' q':Prop} (hp:p→p') (hq:q→q') (h:iteP b p q):iteP b p' q':=by
 cases b
 ·exact hq h
 ·exact hp h
theorem rgnS_P {id:Nat} {an:FAnn K.U} {ops:Array Oper}:∀(n:Nat) {quiet:Bool} {lv:Option (Nat×Bool)} {l:List (Nat×Oper)} {st:St K.U} {k k':St K.U→Prop},(∀st',k st'→k' st')→
  rgnS Sh Rs Rn id an ops n quiet lv l st k→rgnP Rs Rn id an ops n quiet lv l st k':=by
 intro n
 induction n with
 | zero=>intro quiet lv l st k k' _ h; simp only [rgnS] at h
 | succ n ih=>
  intro quiet lv l st k k' hk h
  cases l with
  | nil=>simp only [rgnS] at h; simp only [rgnP]; exact hk _ h
  | cons p rest=>
   obtain ⟨i,o⟩:=p
   simp only [rgnS] at h
   simp only [rgnP]
   split at h
   ·rename_i hg
    rw [if_pos hg]
    exact opS_P (fun st' h=>ih hk h) h
   ·rename_i hg
    rw [if_neg hg]
    split at h
    ·exact h.elim
    ·rename_i j want hgu
     simp only [hgu]
     split at h
     ·rename_i dj pi p after h1 h2
      simp only [h1,h2]
      split at h
      ·rename_i c x y b hp hb
       simp only [hp,hb]
       split at h
       ·rename_i hc
        rw [if_pos hc]
        split at h
        ·rename_i hs
         simp only [hs]
         have nx:∀(z:Operand) (st':St K.U),(match boolAt st' z with|some v=>rgnS Sh Rs Rn id an ops n quiet lv after ⟨put st'.tmps p.dst (.d (.bool v)),st'.loc,st'.H⟩ k|none=>False)→
           (match boolAt st' z with|some v=>rgnP Rs Rn id an ops n quiet lv after ⟨put st'.tmps p.dst (.d (.bool v)),st'.loc,st'.H⟩ k'|none=>False):=by
          intro z st' h
          split at h
          ·exact ih hk h
          ·exact h.elim
         split at h
         ·exact iteP_mono (fun h=>ih (nx _) h) (nx _ _) h
         ·exact iteP_mono (nx _ _) (fun h=>ih (nx _) h) h
        ·rename_i hs
         simp only [hs]
         obtain ⟨v,h3,h4⟩:=h
         refine ⟨v,?_,ih hk h4⟩
         split at h3
         ·exact iteP_mono (fun h=>ih (fun _ h=>h) h) (fun h=>h) h3
         ·exact iteP_mono (fun h=>h) (fun h=>ih (fun _ h=>h) h) h3
       ·exact h.elim
      ·exact h.elim
     ·exact h.elim
theorem lateOneS_P {s:TypeId} {l:LateK K.U} {H H':List (O K.U)} (h:lateOneS Sh s l H H'):lateOne (K:=K) l H H':=by
 unfold lateOneS at h
 unfold lateOne
 split at h
 ·split at h
  ·rename_i t i n ti ht
   obtain ⟨x,x',h1,h2,h3⟩:=h
   split at h3
   ·rename_i v v' hv hv'
    simp only [Cfg.lateRun,Cfg.load,ht,Cfg.cellsAt,obj_getO h1,obj_getO h2,hv,hv']
    exact h3
   ·exact h3.elim
  ·exact h.elim
 ·split at h
  ·rename_i t n key ok _ ti ht
   split at h
   ·rename_i kt e hkd
    split at h
    ·rename_i j i hj hi
     obtain ⟨es,es',h1,h2,h3⟩:=h
     split at h3
     ·rename_i zs eq kk z k1 k2 k3
      split at h3
      ·rename_i hc
       obtain ⟨⟨h4,h5⟩,h6⟩:=h3
       obtain ⟨x,hx,_⟩:=okP_iff.1 h6
       have hx':=hx
       rw [h5] at hx'
       have r1:K.lateRun (.lk t n key ok) H=some { ok:=true,v:=if ok then .tup [x,.d (.bool (someO (findK eq kk es)))] else x,rd:=[.g n] }:=by
        simp only [Cfg.lateRun,Cfg.lookup,ht,hkd,hj,hi,obj_getO h1,k1,k2,k3]
        rw [if_pos ⟨hc.1,hc.2.1,hc.2.2.1,trivial,hc.2.2.2⟩,hx]
        rfl
       have r2:K.lateRun (.lk t n key ok) H'=some { ok:=true,v:=if ok then .tup [x,.d (.bool (someO (findK eq kk es')))] else x,rd:=[.g n] }:=by
        simp only [Cfg.lateRun,Cfg.lookup,ht,hkd,hj,hi,obj_getO h2,k1,k2,k3]
        rw [if_pos ⟨hc.1,hc.2.1,hc.2.2.1,trivial,hc.2.2.2⟩,hx']
        rfl
       rw [r1,r2]
       cases ok with
       | true=>simp only at h4; simp only [h4]
       | false=>rfl
      ·exact h3.elim
     ·exact h3.elim
    ·exact h.elim
   ·exact h.elim
  ·exact h.elim
theorem lateAllS_P {mk:Nat} {rd wr:List Tok} {H H':List (O K.U)} {p p':Prop} (hp:p→p'):∀{acc:List (Rec K.U×Option TypeId)},lateAllS Sh mk rd wr H H' acc p→lateAll (K:=K) mk rd wr H H' (acc.map (·.1)) p'
 | [],h=>hp h
 | ((j,m,rd',wr',ad),s) :: acc,h=>by
  simp only [lateAllS] at h
  simp only [List.map_cons,lateAll]
  split at h
  ·rename_i hb; simp only [hb]; exact lateAllS_P hp h
  ·rename_i l s' hb
   simp only [hb]
   exact ⟨lateOneS_P h.1,lateAllS_P hp h.2⟩
  ·exact h.elim
theorem lateAll_mono {mk:Nat} {rd wr:List Tok} {H H':List (O K.U)} {p p':Prop} (hp:p→p'):∀{acc:List (Rec K.U)},lateAll (K:=K) mk rd wr H H' acc p→lateAll (K:=K) mk rd wr H H' acc p'
 | [],h=>hp h
 | (j,m,rd',wr',ad) :: acc,h=>by
  simp only [lateAll] at h ⊢
  split at h
  ·rename_i hb; exact lateAll_mono hp h
  ·exact ⟨h.1,lateAll_mono hp h.2⟩
  ·exact h.elim
theorem drawOp_mono {id i mk:Nat} {an:FAnn K.U} {o:Oper} {acc:List (Rec K.U)} {st:St K.U} {k k':List Tok→List Tok→Option (LateK K.U)→St K.U→Prop} (hk:∀a b c d,k a b c d→k' a b c d) (h:drawOp Rs Rn id i mk an o acc st k):drawOp Rs Rn id i mk an o acc st k':=by
 unfold drawOp at h ⊢
 split at h
 ·split at h
  ·rename_i hc
   rw [if_pos hc]
   rw [andP_iff] at h ⊢
   exact ⟨h.1,hk _ _ _ _ h.2⟩
  ·rename_i hc
   rw [if_neg hc]
   split at h
   ·rename_i hd
    rw [if_pos hd]
    rw [andP_iff] at h ⊢
    exact ⟨h.1,lateAll_mono (hk _ _ _ _) h.2⟩
   ·exact h.elim
 ·split at h
  ·rename_i hc
   rw [if_pos hc]
   exact callP_mono (fun _ _ _ h=>hk _ _ _ _ h) h
  ·rename_i hc
   rw [if_neg hc]
   split at h
   ·rename_i hd
    rw [if_pos hd]
    exact callP_mono (fun _ _ _ h=>lateAll_mono (hk _ _ _ _) h) h
   ·exact h.elim
 ·exact h.elim
theorem drawOpS_P {id i mk:Nat} {an:FAnn K.U} {o:Oper} {acc:List (Rec K.U×Option TypeId)} {st:St K.U} {k:List Tok→List Tok→Option (LateK K.U)→Option TypeId→St K.U→Prop} {k':List Tok→List Tok→Option (LateK K.U)→St K.U→Prop}
  (hk:∀a b c s d,k a b c s d→k' a b c d) (h:drawOpS Sh Rs Rn id i mk an o acc st k):drawOp Rs Rn id i mk an o (acc.map (·.1)) st k':=by
 unfold drawOpS at h
 split at h
 ·split at h
  ·rename_i g args ha
   unfold drawOp
   simp only [ha]
   split at h
   ·rename_i hc
    rw [if_pos hc]
    exact callP_mono (fun _ _ _ h=>hk _ _ _ _ _ h) h
   ·rename_i hc
    rw [if_neg hc]
    split at h
    ·rename_i hd
     rw [if_pos hd]
     exact callP_mono (fun _ _ _ h=>lateAllS_P (hk _ _ _ _ _) h) h
    ·exact h.elim
  ·exact drawOp_mono (fun a b c d h=>hk a b c _ d h) h
 ·split at h
  ·split at h
   ·rename_i g args ha
    unfold drawOp
    simp only [ha]
    split at h
    ·rename_i hc
     rw [if_pos hc]
     exact lendP_callP (fun v h=>hk _ _ _ _ _ h) h
    ·exact h.elim
   ·exact h.elim
  obtain ⟨r,h1,h2,h3,h4,h5,h6⟩:=symP_spec h
  unfold drawOp
  simp only [h1]
  split at h6
  ·rename_i hc
   rw [if_pos (by rw [hc,h3]; rfl),andP_iff]
   refine ⟨h2,?_⟩
   rw [h4]
   exact hk _ _ _ _ _ h6
  ·rename_i hc
   rw [if_neg (by rw [h3,Bool.and_true]; exact hc)]
   split at h6
   ·rename_i hd
    rw [Bool.and_eq_true] at hd
    rw [if_pos (by rw [hd.1,h3,hd.2]; rfl),andP_iff]
    refine ⟨h2,?_⟩
    rw [h4]
    exact lateAllS_P (hk _ _ _ _ _) h6
   ·exact h6.elim
theorem drawS_P {id:Nat} {an:FAnn K.U} {ops:Array Oper} {k k':St K.U→Prop} (hk:∀st',k st'→k' st'):∀{l:List (Nat×Oper)} {acc:List (Rec K.U×Option TypeId)} {st:St K.U},
  drawS Sh Rs Rn id an ops l acc st k→drawP Rs Rn id an ops l (acc.map (·.1)) st k'
 | [],acc,st,h=>hk _ h
 | (i,o) :: rest,acc,st,h=>by
  simp only [drawS,forceN_eq] at h
  simp only [drawP,forceN_eq]
  have go:∀{mk:Nat} {st:St K.U},drawOpS Sh Rs Rn id i mk an o acc st (fun rd wr ad s st'=>drawS Sh Rs Rn id an ops rest (((i,mk,rd,wr,ad),s) :: acc) st' k)→
    drawOp Rs Rn id i mk an o (acc.map (·.1)) st fun rd wr ad st'=>drawP Rs Rn id an ops rest ((i,mk,rd,wr,ad) :: acc.map (·.1)) st' k':=
   fun h=>drawOpS_P (fun _ _ _ _ _ h=>by have:=drawS_P hk h; exact this) h
  have nx:∀{r:Rec K.U} {st:St K.U},drawS Sh Rs Rn id an ops rest ((r,none) :: acc) st k→drawP Rs Rn id an ops rest (r :: acc.map (·.1)) st k':=fun h=>by have:=drawS_P hk h; exact this
  split at h
  ·rename_i hg; simp only [hg]; exact go h
  ·rename_i j want hg
   simp only [hg]
   split at h
   ·exact h.elim
   ·rename_i dj hdj
    simp only [hdj]
    split at h
    ·exact h.elim
    ·rename_i b hb
     simp only [hb]
     split at h
     ·exact iteP_mono go nx h
     ·exact iteP_mono nx go h
theorem bodyC_mono {R R':Nat→Array Oper→St K.U→(St K.U→Prop)→Prop} (hR:∀(id:Nat) (ops:Array Oper) (st:St K.U) (k k':St K.U→Prop),(∀st,k st→k' st)→R id ops st k→R' id ops st k'):∀(c:Code) {st:St K.U} {kN kN' kR:St K.U→Prop},(∀st,kN st→kN' st)→bodyC R c st kN kR→bodyC R' c st kN' kR
 | .skip,st,kN,kN',kR,hN,h=>hN _ h
 | .ret,st,kN,kN',kR,_,h=>h
 | .seq x y,st,kN,kN',kR,hN,h=>by
  simp only [bodyC] at h ⊢
  exact bodyC_mono hR x (fun st' h'=>bodyC_mono hR y hN h') h
 | .cond c x y,st,kN,kN',kR,hN,h=>by
  simp only [bodyC] at h ⊢
  split at h
  ·exact iteP_mono (fun h=>bodyC_mono hR x hN h) (fun h=>bodyC_mono hR y hN h) h
  ·exact h.elim
 | .block _ c,st,kN,kN',kR,hN,h=>by
  simp only [bodyC] at h ⊢
  exact bodyC_mono hR c hN h
 | .region id ops draw,st,kN,kN',kR,hN,h=>by
  simp only [bodyC] at h ⊢
  split at h
  ·exact h.elim
  ·exact hR _ _ _ _ _ hN h
 | .loop _,_,_,_,_,_,h=>by simp only [bodyC] at h
 | .rangeFunc ..,_,_,_,_,_,h=>by simp only [bodyC] at h
 | .exit _,_,_,_,_,_,h=>by simp only [bodyC] at h
 | .scope _,_,_,_,_,_,h=>by simp only [bodyC] at h
 | .label _,_,_,_,_,_,h=>by simp only [bodyC] at h
 | .goto _,_,_,_,_,_,h=>by simp only [bodyC] at h
 | .refuse _,_,_,_,_,_,h=>by simp only [bodyC] at h
theorem okP_mono {α:Type} {o:Option α} {k k':α→Prop} (hk:∀x,k x→k' x) (h:okP o k):okP o k':=by
 cases o with
 | none=>exact h
 | some x=>exact hk x h
theorem rangeP_mono {R R':Nat→Array Oper→St K.U→(St K.U→Prop)→Prop} (hR:∀(id:Nat) (ops:Array Oper) (st:St K.U) (k k':St K.U→Prop),(∀st,k st→k' st)→R id ops st k→R' id ops st k') {f:FuncId} {fn:Func} {post:C K.U→List (O K.U)→Prop} {g:Operand} {ps:Array Tmp} {assign body:Code} {st:St K.U} {cont cont':St K.U→Prop}
  (hc:∀st,cont st→cont' st) (h:rangeP R f fn post g ps assign body st cont):rangeP R' f fn post g ps assign body st cont':=by
 unfold rangeP at h ⊢
 split at h
 ·split at h
  ·split at h
   ·split at h
    ·rename_i hi
     simp only [if_pos hi]
     obtain ⟨xs,ho,b,ha,hd⟩:=h
     exact ⟨xs,ho,b,fun i hi hn=>okP_mono (fun v hv=>bodyC_mono hR assign (fun st' h'=>bodyC_mono hR body (fun _ h=>h) h') hv) (ha i hi hn),fun hn=>hc _ (hd hn)⟩
    ·exact h.elim
   ·exact h.elim
  ·exact h.elim
 ·exact h.elim
theorem walkS_P {Leaf:List Item→St K.U→Prop} {f:FuncId} {fn:Func} {post:C K.U→List (O K.U)→Prop}:∀(n:Nat) {first:Bool} {k:List Item} {st:St K.U},
  walkS Sh Rs Rn Leaf f fn post n first k st→walkP Rs Rn Leaf f fn post n first k st:=by
 intro n
 induction n with
 | zero=>intro first k st h; simp only [walkS] at h
 | succ n ih=>
  intro first k st h
  cases k with
  | nil=>simp only [walkS] at h; simp only [walkP]; exact h
  | cons x k=>
   unfold walkS at h
   unfold walkP
   split at h
   ·exact h
   ·exact ih h
   ·exact ih h
   ·exact ih h
   ·exact ih h
   ·exact ih h
   ·split at h
    ·rename_i hb; simp only [hb]; exact iteP_mono ih ih h
    ·exact h.elim
   ·exact ih h
   ·exact ih h
   ·exact ih h
   ·exact rangeP_mono (fun _ _ _ _ _ hk h=>rgnS_P _ hk h) (fun _ h=>ih h) h
   ·split at h
    ·rename_i hx; simp only [hx]; exact ih h
    ·exact h.elim
   ·rename_i id ops draw
    dsimp only
    split at h
    ·exact h.elim
    ·rename_i hn
     split
     ·rename_i h0; exact (hn h0).elim
     split at h
     ·rename_i live objs hl
      simp only [hl]
      exact h
     ·rename_i hl
      simp only [hl]
      split at h
      ·rename_i hd
       rw [if_pos hd]
       split at h
       ·rename_i hd'
        rw [if_pos hd']
        exact drawS_P (acc:=[]) (fun _ h=>ih h) h
       ·exact h.elim
      ·rename_i hd
       rw [if_neg hd]
       exact rgnS_P _ (fun _ h=>ih h) h
   ·exact h.elim
end
theorem At.of_walkS (L:Laws K) (Sh:Shp K) (Rs:Res K) {f:FuncId} {fn:Func} {post:C K.U→List (O K.U)→Prop} (n:Nat) (hfn:K.P.funcs[f]?=some fn) {first:Bool} {todo:List Item} {st:St K.U}
  (h:walkS Sh Rs (Runs K) (At K f post) f fn post n first todo st):At K f post todo st:=At.of_walk L Rs n hfn (walkS_P n h)
theorem Runs.of_walkS (L:Laws K) (Sh:Shp K) (Rs:Res K) {f:FuncId} {fn:Func} {body:Code} {args:List (C K.U)} {H:List (O K.U)} {post:C K.U→List (O K.U)→Prop} (n:Nat) (hfn:K.P.funcs[f]?=some fn) (hbody:fn.body=some body)
  (hlen:Nat.ble args.length fn.ntmps=true) (hp:(K.ann f).pure=true→H=[])
  (h:walkS Sh Rs (Runs K) (At K f post) f fn post n true [.code body] ⟨fun t=>args.getD t .dead,fun _=>none,H⟩):Runs K f args H post:=Runs.of_walk L Rs n hfn hbody hlen hp (walkS_P n h)
end
end Go.Abs
