/- LEMMAS: maps: looking up, putting. Conditions: none. -/
import Derived.Test.YtaldbipmbkapmaaDoorA11
import Derived.MapKept
namespace Go.Abs
set_option linter.unusedVariables false
set_option linter.unusedSimpArgs false
open Go.MapKept (bytes_beq run_setObj_map heap_set)
section
variable {K:Cfg} {F:Nat→Prop} {w:World} {pl:Rf→Pl}
theorem chunk_cells (v:Value):chunkV (isAggV v) v.cells.toList=v:=by
 cases v <;> rfl
theorem key_agg {ob:Obs K} {k:C K.U} {ds:List (D K.U)} {vk:Value} (h:C.ds? k.cells=some ds) (hk:RepC F w ob pl k vk):
  k.isAgg=isAggV vk∧RepCs F w ob pl (ds.map .d) vk.cells.toList:=by
 have one:∀x:C K.U,x.cells=[x]→x=k→x.isAgg=false→isAggV vk=false∧RepCs F w ob pl (ds.map .d) vk.cells.toList:=by
  intro x hx e _
  subst e
  rw [hx] at h
  simp only [C.ds?] at h
  split at h
  ·rename_i y ys h1 h2
   simp only [Option.some.injEq] at h2 h
   subst h2; subst h
   have hd:=C.d?_sound hk h1
   refine ⟨by cases hd <;> rfl,?_⟩
   rw [hd.cells]
   simp only [List.map_cons,List.map_nil,RepCs]
   exact ⟨vk,[],rfl,by simpa only [RepC] using hd,rfl⟩
  ·cases h
 cases k with
 | agg cs=>
  simp only [RepC] at hk
  obtain ⟨vs,rfl,hr⟩:=hk
  refine ⟨rfl,?_⟩
  have:=C.ds?_sound hr (show C.ds? cs=some ds from h)
  simpa [Value.cells] using this
 | _=>exact ⟨(one _ rfl rfl rfl).1.symm,(one _ rfl rfl rfl).2⟩
theorem same_values {ob:Obs K}:∀{zs:List Z} {xs ys:List (C K.U)} {us vs:List Value},sameCells zs xs ys=some true→RepCs F w ob pl xs us→RepCs F w ob pl ys vs→
  us=vs∧∀u∈us,∀n,Instr.sameBits n u u=true
 | [],[],[],us,vs,_,hx,hy=>by
  simp only [RepCs] at hx hy
  subst hx; subst hy
  simp
 | z :: zs,x :: xs,y :: ys,us,vs,h,hx,hy=>by
  simp only [sameCells] at h
  split at h
  ·rename_i a b h1 h2
   simp only [Option.some.injEq,andB_true] at h
   obtain ⟨rfl,rfl⟩:=h
   simp only [RepCs] at hx hy
   obtain ⟨u,us',rfl,hu,hus⟩:=hx
   obtain ⟨v,vs',rfl,hv,hvs⟩:=hy
   obtain ⟨e,hall⟩:=same_values h2 hus hvs
   have:u=v∧∀n,Instr.sameBits n u u=true:=by
    unfold sameZ at h1
    split at h1
    ·split at h1
     ·rename_i hk
      obtain ⟨rfl,rfl⟩:=hk
      simp only [Option.some.injEq,eqI_iff] at h1
      subst h1
      rw [repC_int] at hu hv; subst hu; subst hv
      exact ⟨rfl,fun n=>by cases n <;> simp [Instr.sameBits]⟩
     ·cases h1
    ·simp only [Option.some.injEq,eqB,beq_iff_eq] at h1
     subst h1
     rw [repC_bool] at hu hv; subst hu; subst hv
     exact ⟨rfl,fun n=>by cases n <;> simp [Instr.sameBits]⟩
    ·simp only [Option.some.injEq,strEq,beq_iff_eq] at h1
     rename_i a b
     have e:a=b:=by
      rw [←bytes_beq,beq_toListBytes]
      simpa using h1
     subst e
     obtain ⟨rfl,_⟩:=repC_str.1 hu
     obtain ⟨rfl,_⟩:=repC_str.1 hv
     exact ⟨rfl,fun n=>by cases n <;> simp [Instr.sameBits,(bytes_beq a a).2 rfl]⟩
    ·cases h1
   exact ⟨by rw [this.1,e],fun u' hu'=>by
    rcases List.mem_cons.1 hu' with rfl|hu'
    ·exact this.2
    ·exact hall _ hu'⟩
  ·cases h
 | [],_ :: _,_,_,_,h,_,_=>by simp [sameCells] at h
 | [],[],_ :: _,_,_,h,_,_=>by simp [sameCells] at h
 | _ :: _,[],_,_,_,h,_,_=>by simp [sameCells] at h
 | _ :: _,_ :: _,[],_,_,h,_,_=>by simp [sameCells] at h
theorem run_checkKey_plainT (L:Laws K) (em:Bool):∀(n:Nat) (t:TypeId) (i:TI),K.plainT n t=true→K.ti t=some i→∀(us:List Value),us.length=i.size→∀(d:Nat),
  (Instr.checkKey em (d+n) t (chunkV i.agg us)).run K.P w=.ok () w:=by
 intro n
 induction n with
 | zero=>intro t i hp; simp [Cfg.plainT] at hp
 | succ n ih=>
  intro t i hp hi us hl d
  have hp0:=hp
  simp only [Cfg.plainT,hi,Bool.and_eq_true,beq_iff_eq] at hp
  obtain ⟨hlen,hp⟩:=hp
  obtain ⟨dd,h1,h2⟩:=kind_is L hi
  rw [Nat.add_succ,Instr.checkKey]
  simp only [Sem.run_bind,run_underlying h1,Result.andThen_ok]
  split at hp
  ·rename_i k hk
   rw [hk] at h2
   cases dd <;> first|exact (Bool.false_ne_true h2).elim|rfl
  ·rename_i hk
   rw [hk] at h2
   cases dd <;> first|exact (Bool.false_ne_true h2).elim|rfl
  ·rename_i hk
   rw [hk] at h2
   cases dd <;> first|exact (Bool.false_ne_true h2).elim|rfl
  ·rename_i fs hk
   simp only [Bool.and_eq_true,Bool.not_eq_true',List.all_eq_true] at hp
   obtain ⟨⟨hst,htl⟩,hall⟩:=hp
   have ha:i.agg=true:=by simp [TI.agg,hk]
   rw [hk] at h2
   cases dd <;> first|exact (Bool.false_ne_true h2).elim|skip
   rename_i fs'
   simp only [TK.is,Bool.and_eq_true,beq_iff_eq,List.all_eq_true] at h2
   obtain ⟨hfs,hnm⟩:=h2
   simp only [ha,chunkV,if_true]
   rw [←Array.forIn_toList]
   have go:∀(gs:List Field) (a:Nat),(∀f∈gs,f∈fs'.toList)→K.tiles i.zero (gs.map fun f=>(f.type,f.offset)) a i.size=true→
     (forIn (m:=Sem) gs PUnit.unit fun f r=>do
      if f.name ≠ "_" then Instr.checkKey em (d + n) f.type (← part f.type us.toArray f.offset)
      pure (ForInStep.yield PUnit.unit)).run K.P w=.ok PUnit.unit w:=by
    intro gs
    induction gs with
    | nil=>intro a _ _; simp
    | cons f gs ihg=>
     intro a hmem ht
     have hf:=hmem f (by simp)
     have hin:(f.type,f.offset)∈fs:=by rw [←hfs]; exact List.mem_map_of_mem hf
     have hpf:=hall _ hin
     have hname : f.name ≠ "_" := by simpa using hnm f hf
     simp only [List.map_cons,Cfg.tiles,Bool.and_eq_true,beq_iff_eq] at ht
     obtain ⟨ho,ht⟩:=ht
     split at ht
     ·rename_i j hj
      simp only [Bool.and_eq_true,beq_iff_eq] at ht
      obtain ⟨hz,ht⟩:=ht
      have hr:=ihg (a+j.size) (fun g hg=>hmem g (by simp [hg])) ht
      have hjl:j.zero.length=j.size:=by
       cases n with
       | zero=>simp [Cfg.plainT] at hpf
       | succ n=>simp only [Cfg.plainT,hj,Bool.and_eq_true,beq_iff_eq] at hpf; exact hpf.1
      have hzl:((i.zero.drop f.offset).take j.size).length=j.size:=by rw [hz,hjl]
      simp only [List.length_take,List.length_drop] at hzl
      have lx:((us.drop f.offset).take j.size).length=j.size:=by simp only [List.length_take,List.length_drop]; omega
      have he:=ih f.type j hpf hj _ lx d
      simp only [List.forIn_cons,hname,ne_eq,not_false_eq_true,if_true,Sem.run_bind,run_part L hj rfl lx (agg_pos hpf hj),he,Result.andThen_ok,Sem.run_pure]
      exact hr
     ·cases ht
   have:=go fs'.toList 0 (fun f hf=>hf) (by rw [hfs]; exact htl)
   simpa using this
  ·cases hp
def pickE:List (MapEntry×Bool)→Nat→Option (Nat×Value)
 | [],_=>none
 | (e,b) :: l,n=>if b then some (n,e.val) else pickE l (n+1)
theorem findAsking_run {P:Program} {kt:TypeId} {vk:Value}:∀{l:List (MapEntry×Bool)} (n:Nat),(∀p∈l,(Op.equal kt vk p.1.key).run P w=.ok p.2 w)→
  (Instr.findAsking kt vk (l.map (·.1)) n).run P w=.ok (pickE l n) w
 | [],n,_=>rfl
 | (e,b) :: l,n,h=>by
  have h1:=h (e,b) (by simp)
  have ih:=findAsking_run (l:=l) (n+1) fun p hp=>h p (by simp [hp])
  simp only [List.map_cons,Instr.findAsking,Sem.run_bind,h1,Result.andThen_ok,pickE]
  cases b
  ·simpa using ih
  ·simp
theorem sameNow_run {P:Program} {t:TypeId} {d:TypeDesc} (hu:P.underlying t=some d) {u v:Value} {b:Bool} (h:Instr.sameNow d u v=some b):(Op.equal t u v).run P w=.ok b w:=by
 have key:∀n,(Op.equalIn (n+1) t u v).run P w=.ok b w:=by
  intro n
  unfold Instr.sameNow at h
  split at h
  ·split at h
   ·rename_i hk
    subst hk
    simp only [Option.some.injEq] at h; subst h
    simp [Op.equalIn,run_underlying hu]
   ·cases h
  ·simp only [Option.some.injEq] at h; subst h
   simp [Op.equalIn,run_underlying hu]
  ·simp only [Option.some.injEq] at h; subst h
   simp [Op.equalIn,run_underlying hu]
  ·cases h
 exact key 9999
theorem findNow_run {P:Program} {kt:TypeId} {d:TypeDesc} (hu:P.underlying kt=some d) {vk:Value}:∀{l:List (MapEntry×Bool)} (n:Nat) {r:Option (Nat×Value)},(∀p∈l,(Op.equal kt vk p.1.key).run P w=.ok p.2 w)→
  Instr.findNow d vk (l.map (·.1)) n=some r→r=pickE l n
 | [],n,r,_,h=>by simp only [List.map_nil,Instr.findNow,Option.some.injEq] at h; exact h.symm
 | (e,b) :: l,n,r,h,hr=>by
  have h1:=h (e,b) (by simp)
  simp only [List.map_cons,Instr.findNow] at hr
  have ih:=fun r=>findNow_run (l:=l) hu (n+1) (r:=r) fun p hp=>h p (by simp [hp])
  split at hr
  ·rename_i hs
   have h2:=sameNow_run (w:=w) (P:=P) (t:=kt) hu hs
   rw [h1] at h2
   simp only [Result.ok.injEq,and_true] at h2
   subst h2
   simp only [Option.some.injEq] at hr
   simp [pickE,←hr]
  ·rename_i hs
   have h2:=sameNow_run (w:=w) (P:=P) (t:=kt) hu hs
   rw [h1] at h2
   simp only [Result.ok.injEq,and_true] at h2
   subst h2
   simp only [pickE,Bool.false_eq_true,if_false]
   exact ih _ hr
  ·cases hr
theorem findKey_run {P:Program} {kt:TypeId} {d:TypeDesc} (hu:P.underlying kt=some d) {vk:Value} {l:List (MapEntry×Bool)} (h:∀p∈l,(Op.equal kt vk p.1.key).run P w=.ok p.2 w):
  (Instr.findKey kt vk (l.map (·.1))).run P w=.ok (pickE l 0) w:=by
 simp only [Instr.findKey,Sem.run_bind,run_underlying hu,Result.andThen_ok]
 split
 ·rename_i r hr
  rw [findNow_run hu 0 h hr]; rfl
 ·exact findAsking_run 0 h
theorem pick_find {κ α:Type} {eq:κ→κ→Bool} {key:κ}:∀{en:List MapEntry} {es:List (κ×α)} (n:Nat),en.length=es.length→
  match pickE (en.zip (es.map fun x=>eq key x.1)) n with
  | none=>findK eq key es=none∧∀y,updK eq key y es=es ++ [(key,y)]
  | some (i,v)=>∃j e k x,i=n+j∧en[j]?=some e∧e.val=v∧es[j]?=some (k,x)∧eq key k=true∧findK eq key es=some x∧∀y,updK eq key y es=es.set j (key,y)
 | [],[],n,_=>by simp [pickE,findK,updK]
 | e :: en,(k,x) :: es,n,hl=>by
  simp only [List.map_cons,List.zip_cons_cons,pickE]
  by_cases h:eq key k=true
  ·simp only [h,if_true]
   exact ⟨0,e,k,x,rfl,rfl,rfl,rfl,h,by simp [findK,h],fun y=>by simp [updK,h]⟩
  ·have h':eq key k=false:=by simpa using h
   simp only [h',Bool.false_eq_true,if_false]
   have ih:=pick_find (eq:=eq) (key:=key) (en:=en) (es:=es) (n+1) (by simpa using hl)
   split at ih
   ·exact ⟨by simpa [findK,h'] using ih.1,fun y=>by simp [updK,h',ih.2 y]⟩
   ·obtain ⟨j,e',k',x',rfl,h1,h2,h3,h4,h5,h6⟩:=ih
    exact ⟨j+1,e',k',x',by omega,by simpa using h1,h2,by simpa using h3,h4,by simpa [findK,h'] using h5,fun y=>by simp [updK,h',h6 y]⟩
 | [],_ :: _,_,hl=>by simp at hl
 | _ :: _,[],_,hl=>by simp at hl
structure Ask (K:Cfg) (F:Nat→Prop) (w:World) (loc:Loc K.U) (H:List (O K.U)) (pl:Rf→Pl) (t kt e:TypeId) (i j:TI) (r:Rf) (kc:K.U.Ty) (v:Vc K.U) (es:List (K.U.El kc×v.El)) (eq:K.U.El kc→K.U.El kc→Bool) (key:K.U.El kc) (vk:Value):Prop where
 ht:K.P.underlying t=some (.map kt e)
 rep:∃(en:Array MapEntry) (clock:Nat),w.heap[(pl r).blk]?=some (.map en clock)∧en.size=es.length∧((∀(n:Nat) (e:MapEntry),en[n]?=some e→e.born=n)∧clock=en.size)∧
   (∀(n:Nat) (k:K.U.El kc) (x:v.El),es[n]?=some (k,x)→∃e:MapEntry,en[n]?=some e∧isAggV e.key=i.agg∧isAggV e.val=j.agg∧
    RepCs F w (getO loc H) pl ((K.enc kc k).map .d) e.key.cells.toList∧RepCs F w (getO loc H) pl (K.encV v x) e.val.cells.toList)∧
   (∀em,(Instr.checkKey em 10000 kt vk).run K.P w=.ok () w)∧
   (Instr.findKey kt vk en.toList).run K.P w=.ok (pickE (en.toList.zip (es.map fun x=>eq key x.1)) 0) w
 isAgg:isAggV vk=i.agg
 keyRep:RepCs F w (getO loc H) pl ((K.enc kc key).map .d) vk.cells.toList
 same:∀(k:K.U.El kc) (u:Value),eq key k=true→isAggV u=i.agg→RepCs F w (getO loc H) pl ((K.enc kc k).map .d) u.cells.toList→u=vk∧Instr.sameBits 10000 vk vk=true
theorem ask_map (L:Laws K) {loc:Loc K.U} {H:List (O K.U)} (M:Mem K F w (getO loc H) pl) {t kt e:TypeId} {ti i j:TI} (hti:K.ti t=some ti) (hk:ti.kind=.map kt e) (hi:K.ti kt=some i) {r:Rf} {kc:K.U.Ty} {v:Vc K.U} {es:List (K.U.El kc×v.El)}
  (hr:getO loc H r=some (.map (i.agg,j.agg) kc v es)) {zs:List Z} {eq:K.U.El kc→K.U.El kc→Bool} {key:K.U.El kc} {k:C K.U} {vk:Value} (heq:K.keyEq kc=some (zs,eq)) (hkey:K.keyOf kc k=some key)
  (hz:zs=i.zero) (hp:K.plainT 8 kt=true) (hw:K.width kc=i.size) (ha:i.agg=k.isAgg) (hvk:RepC F w (getO loc H) pl k vk):
  Ask K F w loc H pl t kt e i j r kc v es eq key vk:=by
 unfold Cfg.keyOf at hkey
 split at hkey
 ·rename_i ds hds
  obtain ⟨k1,k2⟩:=key_agg hds hvk
  rw [←ha] at k1
  have hkr:RepCs F w (getO loc H) pl ((K.enc kc key).map .d) vk.cells.toList:=by
   have:=decV_sound (F:=F) (w:=w) (ob:=getO loc H) (pl:=pl) (v:=.pure kc) L (cs:=ds.map .d) (x:=key) (us:=vk.cells.toList) (by
    have e:C.ds? (ds.map C.d)=some ds:=by
     clear hkey hds k2
     induction ds with
     | nil=>rfl
     | cons d ds ih=>simp [C.ds?,C.d?,ih]
    simp only [Cfg.decV,e]; exact hkey) k2
   simpa only [Cfg.encV] using this.1
  have hkl:=hkr.length
  simp only [List.length_map,L.len] at hkl
  have hvk':chunkV i.agg vk.cells.toList=vk:=by rw [k1]; exact chunk_cells vk
  obtain ⟨en,clock,h1,h2,hbn,hcl,h3⟩:=M.rep r _ hr
  have heqs:∀(n:Nat) (p:MapEntry×Bool),(en.toList.zip (es.map fun x=>eq key x.1))[n]?=some p→(Op.equal kt vk p.1.key).run K.P w=.ok p.2 w:=by
   intro n p hp'
   rw [List.getElem?_zip_eq_some] at hp'
   obtain ⟨p1,p2⟩:=hp'
   simp only [List.getElem?_map,Option.map_eq_some_iff] at p2
   obtain ⟨⟨k',x⟩,p2,p3⟩:=p2
   obtain ⟨e',q1,q2,_,q4,_⟩:=h3 n k' x p2
   simp only [Array.getElem?_toList] at p1
   rw [p1] at q1; cases q1
   have q2:isAggV p.1.key=i.agg:=q2
   have he:chunkV i.agg p.1.key.cells.toList=p.1.key:=by rw [←q2]; exact chunk_cells _
   have hs:=L.key kc zs eq heq key k'
   rw [hz] at hs
   have:=eq_plain L 8 kt i hp hi _ _ _ _ _ hkr q4 hs 9992
   rw [hvk',he,p3] at this
   exact this
  obtain ⟨dd,hu,_⟩:=kind_is L hi
  refine ⟨ti_map L hti hk,⟨en,clock,h1,h2,⟨hbn,hcl⟩,h3,fun em=>?_,?_⟩,k1.symm,hkr,fun k' u he hag hrep=>?_⟩
  ·have:=run_checkKey_plainT L (w:=w) em 8 kt i hp hi vk.cells.toList (by rw [←hkl,hw]) 9992
   rw [hvk'] at this
   exact this
  ·have:=findKey_run (w:=w) (P:=K.P) (vk:=vk) hu (l:=en.toList.zip (es.map fun x=>eq key x.1)) fun p hp'=>by
    obtain ⟨n,hn,e'⟩:=List.getElem_of_mem hp'
    exact heqs n p (by rw [←e']; exact List.getElem?_eq_getElem hn)
   have e':(en.toList.zip (es.map fun x=>eq key x.1)).map (·.1)=en.toList:=by
    rw [List.map_fst_zip]; simp [h2]
   rw [e'] at this
   exact this
  ·have hs:=L.key kc zs eq heq key k'
   rw [he] at hs
   obtain ⟨e1,e2⟩:=same_values hs hkr hrep
   have e3:u=vk:=by
    rw [←chunk_cells u,←chunk_cells vk,hag,←k1,e1]
   refine ⟨e3,?_⟩
   cases hv:vk with
   | agg cs=>
    rw [hv] at e2
    simp only [Instr.sameBits,beq_self_eq_true,Bool.true_and,List.all_eq_true]
    intro p hp'
    obtain ⟨n,hn,e'⟩:=List.getElem_of_mem hp'
    have:(cs.toList.zip cs.toList)[n]?=some p:=by rw [←e']; exact List.getElem?_eq_getElem hn
    rw [List.getElem?_zip_eq_some] at this
    have e5:p.1=p.2:=by have:=this.1.symm.trans this.2; simpa using this
    have:=e2 p.1 (List.mem_of_getElem? this.1) 9999
    rw [←e5]; exact this
   | _=>rw [hv] at e2; exact e2 _ (by simp [Value.cells]) _
 ·cases hkey
theorem elemVal_sound {ob:Obs K} {j:TI} {cs:List (C K.U)} {x:C K.U} {u:Value} (h:elemVal j cs=some x) (ha:isAggV u=j.agg) (hr:RepCs F w ob pl cs u.cells.toList):RepC F w ob pl x u:=by
 unfold elemVal at h
 split at h
 ·rename_i hj
  simp only [Option.some.injEq] at h; subst h
  rw [hj] at ha
  cases u <;> simp [isAggV] at ha
  simp only [RepC]
  exact ⟨_,rfl,by simpa [Value.cells] using hr⟩
 ·rename_i hj
  have hj:j.agg=false:=by simpa using hj
  rw [hj] at ha
  split at h
  ·simp only [Option.some.injEq] at h; subst h
   have:u.cells=#[u]:=by cases u <;> first|rfl|simp [isAggV] at ha
   rw [this] at hr
   simp only [RepCs] at hr
   obtain ⟨v,_,e,hv,_⟩:=hr
   simp only [List.cons.injEq] at e
   rw [e.1]; exact hv
  ·cases h
theorem isAggV_match (z:Value):(match z with|.agg _=>true|_=>false)=isAggV z:=by cases z <;> rfl
theorem lookup_sound (L:Laws K) {loc:Loc K.U} {H:List (O K.U)} (M:Mem K F w (getO loc H) pl) {t:TypeId} {m k:C K.U} {ok:Bool} {r:Out K.U} {vm vk:Value} (h:K.lookup loc H t m k ok=some r)
  (hm:RepC F w (getO loc H) pl m vm) (hk:RepC F w (getO loc H) pl k vk):∃u,(Instr.lookup t vm vk ok).run K.P w=.ok u w∧RepC F w (getO loc H) pl r.v u∧r.wr=[]:=by
 unfold Cfg.lookup at h
 split at h
 ·rename_i ti hti
  split at h
  ·rename_i kt e hkd
   split at h
   ·rename_i j i ref hj hi
    split at h
    ·rename_i ag kc v es hr
     split at h
     ·rename_i zs eq key z heq hkey hz
      split at h
      ·rename_i hc
       obtain ⟨c1,c2,c3,c4,c5⟩:=hc
       subst c4
       have A:=ask_map L M hti hkd hi hr heq hkey c1 c2 c3 c5 hk
       simp only [RepC] at hm
       obtain ⟨_,rfl⟩:=hm
       obtain ⟨en,clock,h1,h2,⟨hb,hcl⟩,h3,h4,h5⟩:=A.rep
       have hpf:=pick_find (eq:=eq) (key:=key) (en:=en.toList) (es:=es) 0 (by simpa using h2)
       unfold Cfg.zeroV at hz
       split at hz
       ·rename_i j' hj'
        rw [hj] at hj'; cases hj'
        split at hz
        ·rename_i hw
         obtain ⟨hk',_⟩:=whole_spec hw.1
         obtain ⟨zv,ij,g1,g2,g3,g4,g5,g6,g7,g8⟩:=zero_sound (F:=F) (w:=w) (pl:=pl) L hj hk' (getO loc H)
         have g8:j.agg=isAggV zv:=g8.trans (isAggV_match zv)
         have hzr:=(decV_sound L hz g5).1
         split at h
         ·rename_i x hx
          simp only [Option.some.injEq] at h; subst h
          have fin:∀(u:Value) (b:Bool),RepC F w (getO loc H) pl x u→someO (findK eq key es)=b→
            RepC F w (getO loc H) pl (if ok then .tup [x,.d (.bool (someO (findK eq key es)))] else x) (if ok then .tuple #[u,.bool b] else u):=by
           intro u b hu hb
           cases ok with
           | false=>exact hu
           | true=>
            simp only [if_true,RepC]
            exact ⟨[u,.bool b],rfl,by simp only [RepCs]; exact ⟨u,_,rfl,hu,_,_,rfl,repC_bool.2 (by rw [hb]),rfl⟩⟩
          cases hpk:pickE (en.toList.zip (es.map fun x=>eq key x.1)) 0 with
          | none=>
           rw [hpk] at h5 hpf
           have hf:=hpf.1
           rw [hf] at hx
           have hu:=elemVal_sound hx g8.symm hzr
           refine ⟨_,?_,fin zv false hu (by rw [hf]; rfl),rfl⟩
           simp only [Instr.lookup,Sem.run_bind,run_underlying A.ht,Result.andThen_ok,Go.MapKept.run_getObj_map h1,Sem.run_pure,h4,h5,run_zeroValue g1 g2]
          | some p=>
           obtain ⟨n,u⟩:=p
           rw [hpk] at h5 hpf
           obtain ⟨q,e',k',x',rfl,p1,p2,p3,p4,p5,_⟩:=hpf
           obtain ⟨e'',q1,q2,q3,q4,q5⟩:=h3 q k' x' p3
           simp only [Array.getElem?_toList] at p1
           rw [p1] at q1; cases q1
           rw [p5] at hx
           have hu:=elemVal_sound hx q3 q5
           rw [p2] at hu
           refine ⟨_,?_,fin u true hu (by rw [p5]; rfl),rfl⟩
           simp only [Instr.lookup,Sem.run_bind,run_underlying A.ht,Result.andThen_ok,Go.MapKept.run_getObj_map h1,Sem.run_pure,h4,h5]
         ·cases h
        ·cases hz
       ·cases hz
      ·cases h
     ·cases h
    ·cases h
   ·cases h
  ·cases h
 ·cases h
theorem born_push {en:Array MapEntry} {clock:Nat} {k v:Value} (hb:∀(n:Nat) (e:MapEntry),en[n]?=some e→e.born=n) (hcl:clock=en.size):∀(n:Nat) (e:MapEntry),(en.push { key:=k,val:=v,born:=clock })[n]?=some e→e.born=n:=by
 intro n e h
 rw [Array.getElem?_push] at h
 split at h
 ·cases h; rename_i h; rw [hcl,h]
 ·exact hb n e h
theorem born_modify {en:Array MapEntry} {q:Nat} {f:MapEntry→MapEntry} (hb:∀(n:Nat) (e:MapEntry),en[n]?=some e→e.born=n) (hf:∀e,(f e).born=e.born):∀(n:Nat) (e:MapEntry),(en.modify q f)[n]?=some e→e.born=n:=by
 intro n e h
 rw [Array.getElem?_modify] at h
 split at h
 ·cases h1:en[n]? with
  | none=>rw [h1] at h; cases h
  | some e1=>rw [h1] at h; cases h; rw [hf]; exact hb n e1 h1
 ·exact hb n e h
theorem mapUpdate_sound (L:Laws K) {loc:Loc K.U} {H:List (O K.U)} (M:Mem K F w (getO loc H) pl) {t:TypeId} {m k x:C K.U} {r:Out K.U} {vm vk vx:Value} (h:K.mapUpdate loc H t m k x=some r)
  (hm:RepC F w (getO loc H) pl m vm) (hk:RepC F w (getO loc H) pl k vk) (hx:RepC F w (getO loc H) pl x vx):
  ∃w' ref y,(Instr.mapUpdate t vm vk vx).run K.P w=.ok () w'∧r.v=.tup []∧r.wr=[(ref,y)]∧(∃o,getO loc H ref=some o)∧Upd K F w (getO loc H) pl ref y (pl ref) w'∧
   RepO F w' (setOb (getO loc H) ref y) (setPl pl ref (pl ref)) (pl ref) y∧K.bnd y:=by
 unfold Cfg.mapUpdate at h
 split at h
 ·rename_i ti hti
  split at h
  ·rename_i kt e hkd
   split at h
   ·rename_i j i ref hj hi
    split at h
    ·rename_i ag kc v es hr
     split at h
     ·rename_i zs eq key y heq hkey hy
      split at h
      ·rename_i hc
       obtain ⟨c1,c2,c3,c4,c5,c6,c7,c8⟩:=hc
       subst c6
       simp only [Option.some.injEq] at h; subst h
       have A:=ask_map L M hti hkd hi hr heq hkey c1 c2 c3 c7 hk
       simp only [RepC] at hm
       obtain ⟨_,rfl⟩:=hm
       obtain ⟨en,clock,h1,h2,⟨hb,hcl⟩,h3,h4,h5⟩:=A.rep
       have hpf:=pick_find (eq:=eq) (key:=key) (en:=en.toList) (es:=es) 0 (by simpa using h2)
       obtain ⟨hcs,hone⟩:=hx.cells c5
       have hyr:=(decV_sound L hy hcs).1
       have hxa:isAggV vx=j.agg:=by
        rw [c8]
        cases x with
        | agg cs=>simp only [RepC] at hx; obtain ⟨vs,rfl,_⟩:=hx; rfl
        | tup=>simp [C.cells,C.one] at c5
        | dead=>simp [C.cells,C.one] at c5
        | osl=>simp [C.cells,C.one] at c5
        | _=>
         have:=hx.oneCell (by rfl)
         cases vx <;> first|rfl|simp [Value.oneCell] at this
       have U:∀obj:Obj,Upd K F w (getO loc H) pl ref (.map (i.agg,j.agg) kc v (updK eq key y es)) (pl ref) { w with heap:=w.heap.setIfInBounds (pl ref).blk obj }:=by
        intro obj
        exact ⟨fun o ho=>by rw [hr] at ho; cases ho; exact ⟨⟨_,_,_,_,rfl⟩,rfl⟩,rfl,rfl,rfl,by simp,fun b _ hb=>(heap_set h1).2 b hb,.inr ⟨_,hr,trivial,rfl⟩⟩
       cases hpk:pickE (en.toList.zip (es.map fun x=>eq key x.1)) 0 with
       | none=>
        rw [hpk] at h5 hpf
        obtain ⟨_,hup⟩:=hpf
        refine ⟨{ w with heap:=w.heap.setIfInBounds (pl ref).blk (.map (en.push { key:=vk,val:=vx,born:=clock }) (clock+1)) },ref,_,?_,rfl,rfl,⟨_,hr⟩,U _,?_,trivial⟩
        ·simp only [Instr.mapUpdate,Sem.run_bind,run_underlying A.ht,Result.andThen_ok,Go.MapKept.run_getObj_map h1,h4,h5,run_setObj_map _ h1]
        ·have U':=U (.map (en.push { key:=vk,val:=vx,born:=clock }) (clock+1))
         refine ⟨_,_,(heap_set h1).1,by rw [hup]; simp [h2],born_push hb hcl,by simp [hcl],fun n k' x' hn=>?_⟩
         rw [hup,List.getElem?_append] at hn
         split at hn
         ·obtain ⟨e',q1,q2,q3,q4,q5⟩:=h3 n k' x' hn
          refine ⟨e',?_,q2,q3,U'.repCs M q4,U'.repCs M q5⟩
          rw [Array.getElem?_push,if_neg (by have:=(Array.getElem?_eq_some_iff.1 q1).1; omega)]; exact q1
         ·rename_i hlt
          have hn0:n - es.length=0:=by
           have:=(List.getElem?_eq_some_iff.1 hn).1
           simp at this; omega
          rw [hn0] at hn
          simp only [List.getElem?_cons_zero,Option.some.injEq,Prod.mk.injEq] at hn
          obtain ⟨rfl,rfl⟩:=hn
          have hne:n=en.size:=by omega
          subst hne
          exact ⟨{ key:=vk,val:=vx,born:=clock },by simp,A.isAgg,hxa,U'.repCs M A.keyRep,U'.repCs M hyr⟩
       | some p=>
        obtain ⟨n,u⟩:=p
        rw [hpk] at h5 hpf
        obtain ⟨q,e',k',x',rfl,p1,p2,p3,p4,p5,hup⟩:=hpf
        rw [Nat.zero_add] at h5
        obtain ⟨e'',q1,q2,q3,q4,q5⟩:=h3 q k' x' p3
        simp only [Array.getElem?_toList] at p1
        rw [p1] at q1; cases q1
        obtain ⟨s1,s2⟩:=A.same k' e'.key p4 q2 q4
        have hkts:(Instr.keyThatStays (((en[q]?).map (·.key)).getD vk) vk).run K.P w=.ok vk w:=by
         rw [p1]
         simp only [Option.map_some,Option.getD_some,s1,Instr.keyThatStays,s2,if_true,Sem.run_pure]
        refine ⟨{ w with heap:=w.heap.setIfInBounds (pl ref).blk (.map (en.modify q fun e=>{ e with key:=vk,val:=vx }) clock) },ref,_,?_,rfl,rfl,⟨_,hr⟩,U _,?_,trivial⟩
        ·simp only [Instr.mapUpdate,Sem.run_bind,run_underlying A.ht,Result.andThen_ok,Go.MapKept.run_getObj_map h1,h4,h5,hkts,run_setObj_map _ h1]
        ·have U':=U (.map (en.modify q fun e=>{ e with key:=vk,val:=vx }) clock)
         refine ⟨_,_,(heap_set h1).1,by rw [hup]; simp [h2],born_modify hb (fun _=>rfl),by simp [hcl],fun n k2 x2 hn=>?_⟩
         rw [hup,List.getElem?_set] at hn
         by_cases hqn:q=n
         ·subst hqn
          simp only [if_true] at hn
          split at hn
          ·simp only [Option.some.injEq,Prod.mk.injEq] at hn
           obtain ⟨rfl,rfl⟩:=hn
           exact ⟨_,by rw [Array.getElem?_modify,if_pos rfl,p1]; rfl,A.isAgg,hxa,U'.repCs M A.keyRep,U'.repCs M hyr⟩
          ·cases hn
         ·rw [if_neg hqn] at hn
          obtain ⟨e3,r1,r2,r3,r4,r5⟩:=h3 n k2 x2 hn
          exact ⟨e3,by rw [Array.getElem?_modify,if_neg hqn]; exact r1,r2,r3,U'.repCs M r4,U'.repCs M r5⟩
      ·cases h
     ·cases h
    ·cases h
   ·cases h
  ·cases h
 ·cases h
theorem ent_upd {κ α:Type} {eq:κ→κ→Bool} {k:κ} {x:α}:∀{es:List (κ×α)},findK eq k es=none→entK eq k x es=es ++ [(k,x)]∧idxK eq k es=es.length
 | [],_=>⟨rfl,rfl⟩
 | e :: es,h=>by
  have h1:eq k e.1=false:=by
   cases hb:eq k e.1 with
   | false=>rfl
   | true=>simp [findK,hb] at h
  have h2:findK eq k es=none:=by simpa [findK,h1] using h
  obtain ⟨i1,i2⟩:=ent_upd (x:=x) h2
  simp [entK,idxK,h1,i1,i2]
theorem ent_at {κ α:Type} {eq:κ→κ→Bool} {k:κ} {x:α}:∀{es:List (κ×α)} {y:α},findK eq k es=some y→
  ∃k',es[idxK eq k es]?=some (k',y)∧eq k k'=true∧entK eq k x es=es.set (idxK eq k es) (k,y)
 | [],_,h=>by simp [findK] at h
 | e :: es,y,h=>by
  cases hb:eq k e.1 with
  | true=>
   have:e.2=y:=by simpa [findK,hb] using h
   subst this
   exact ⟨e.1,by simp [idxK,hb],hb,by simp [entK,idxK,hb]⟩
  | false=>
   obtain ⟨k',i1,i2,i3⟩:=ent_at (x:=x) (es:=es) (y:=y) (by simpa [findK,hb] using h)
   exact ⟨k',by simp [idxK,hb,i1],i2,by simp [entK,idxK,hb,i3]⟩
theorem setK_set {κ α:Type} {x:α}:∀{es:List (κ×α)} {n:Nat} {k:κ} {y:α},es[n]?=some (k,y)→setK es n x=es.set n (k,x)
 | [],_,_,_,h=>by simp at h
 | e :: es,0,k,y,h=>by simp only [List.getElem?_cons_zero,Option.some.injEq] at h; subst h; rfl
 | e :: es,n+1,k,y,h=>by simp [setK,setK_set (by simpa using h)]
theorem pick_idx {κ α:Type} {eq:κ→κ→Bool} {key:κ}:∀{en:List MapEntry} {es:List (κ×α)} (n:Nat),en.length=es.length→
  match pickE (en.zip (es.map fun x=>eq key x.1)) n with
  | none=>findK eq key es=none
  | some (q,u)=>∃y,findK eq key es=some y∧q=n+idxK eq key es∧∃e,en[idxK eq key es]?=some e∧e.val=u
 | [],[],n,_=>by simp [pickE,findK]
 | e :: en,x :: es,n,hl=>by
  have ih:=pick_idx (eq:=eq) (key:=key) (en:=en) (es:=es) (n+1) (by simpa using hl)
  cases hb:eq key x.1 with
  | true=>simp [pickE,findK,idxK,hb]
  | false=>
   simp only [List.map_cons,List.zip_cons_cons,hb,pickE]
   split at ih
   ·rename_i h1
    simp only [h1]
    simpa [findK,hb] using ih
   ·rename_i q u h1
    simp only [h1]
    obtain ⟨y,i1,i2,e1,i3,i4⟩:=ih
    exact ⟨y,by simpa [findK,hb] using i1,by simp only [idxK,hb]; simp; omega,e1,by simp [idxK,hb,i3],i4⟩
 | [],_ :: _,_,hl=>by simp at hl
 | _ :: _,[],_,hl=>by simp at hl
theorem mapEntry_sound (L:Laws K) {loc:Loc K.U} {H:List (O K.U)} (M:Mem K F w (getO loc H) pl) {t:TypeId} {m k:C K.U} {r:Out K.U} {vm vk:Value} (h:K.mapEntry loc H t m k=some r)
  (hm:RepC F w (getO loc H) pl m vm) (hk:RepC F w (getO loc H) pl k vk):
  ∃w' ref y u,(Instr.mapEntry t vm vk).run K.P w=.ok u w'∧r.wr=[(ref,y)]∧(∃o,getO loc H ref=some o)∧Upd K F w (getO loc H) pl ref y (pl ref) w'∧
   RepO F w' (setOb (getO loc H) ref y) (setPl pl ref (pl ref)) (pl ref) y∧K.bnd y∧RepC F w' (setOb (getO loc H) ref y) (setPl pl ref (pl ref)) r.v u:=by
 unfold Cfg.mapEntry at h
 split at h
 ·rename_i ti hti
  split at h
  ·rename_i kt e hkd
   split at h
   ·rename_i j i ref hj hi
    split at h
    ·rename_i ag kc v es hr
     split at h
     ·rename_i zs eq key z heq hkey hz
      split at h
      ·rename_i hc
       obtain ⟨c1,c2,c3,c4,c5⟩:=hc
       subst c4
       have A:=ask_map L M hti hkd hi hr heq hkey c1 c2 c3 c5 hk
       simp only [RepC] at hm
       obtain ⟨_,rfl⟩:=hm
       obtain ⟨en,clock,h1,h2,⟨hb,hcl⟩,h3,h4,h5⟩:=A.rep
       have hpf:=pick_idx (eq:=eq) (key:=key) (en:=en.toList) (es:=es) 0 (by simpa using h2)
       unfold Cfg.zeroV at hz
       split at hz
       ·rename_i j' hj'
        rw [hj] at hj'; cases hj'
        split at hz
        ·rename_i hw
         obtain ⟨hk',_⟩:=whole_spec hw.1
         obtain ⟨zv,ij,g1,g2,g3,g4,g5,g6,g7,g8⟩:=zero_sound (F:=F) (w:=w) (pl:=pl) L hj hk' (getO loc H)
         have g8:j.agg=isAggV zv:=g8.trans (isAggV_match zv)
         have hzr:=(decV_sound L hz g5).1
         split at h
         ·rename_i x hx
          simp only [Option.some.injEq] at h; subst h
          have U:∀(obj:Obj) (es':List (K.U.El kc×v.El)),Upd K F w (getO loc H) pl ref (.map (i.agg,j.agg) kc v es') (pl ref) { w with heap:=w.heap.setIfInBounds (pl ref).blk obj }:=by
           intro obj es'
           exact ⟨fun o ho=>by rw [hr] at ho; cases ho; exact ⟨⟨_,_,_,_,rfl⟩,rfl⟩,rfl,rfl,rfl,by simp,fun b _ hb=>(heap_set h1).2 b hb,.inr ⟨_,hr,trivial,rfl⟩⟩
          cases hpk:pickE (en.toList.zip (es.map fun x=>eq key x.1)) 0 with
          | none=>
           rw [hpk] at h5 hpf
           have hf:findK eq key es=none:=hpf
           obtain ⟨he,hid⟩:=ent_upd (x:=z) hf
           rw [hf] at hx
           have hu:=elemVal_sound hx g8.symm hzr
           have U':=U (.map (en.push { key:=vk,val:=zv,born:=clock }) (clock+1)) (entK eq key z es)
           refine ⟨{ w with heap:=w.heap.setIfInBounds (pl ref).blk (.map (en.push { key:=vk,val:=zv,born:=clock }) (clock+1)) },ref,_,.tuple #[zv,goInt clock],?_,rfl,⟨_,hr⟩,U',?_,trivial,?_⟩
           ·simp only [Instr.mapEntry,Sem.run_bind,run_underlying A.ht,Result.andThen_ok,Go.MapKept.run_getObj_map h1,h4,h5,run_zeroValue g1 g2,run_setObj_map _ h1,Sem.run_pure]
           ·refine ⟨_,_,(heap_set h1).1,by rw [he]; simp [h2],born_push hb hcl,by simp [hcl],fun n k' x' hn=>?_⟩
            rw [he,List.getElem?_append] at hn
            split at hn
            ·obtain ⟨e',q1,q2,q3,q4,q5⟩:=h3 n k' x' hn
             refine ⟨e',?_,q2,q3,U'.repCs M q4,U'.repCs M q5⟩
             rw [Array.getElem?_push,if_neg (by have:=(Array.getElem?_eq_some_iff.1 q1).1; omega)]; exact q1
            ·rename_i hlt
             have hn0:n - es.length=0:=by
              have:=(List.getElem?_eq_some_iff.1 hn).1
              simp at this; omega
             rw [hn0] at hn
             simp only [List.getElem?_cons_zero,Option.some.injEq,Prod.mk.injEq] at hn
             obtain ⟨rfl,rfl⟩:=hn
             have hne:n=en.size:=by omega
             subst hne
             exact ⟨{ key:=vk,val:=zv,born:=clock },by simp,A.isAgg,g8.symm,U'.repCs M A.keyRep,U'.repCs M hzr⟩
           ·simp only [RepC]
            refine ⟨[zv,goInt clock],rfl,?_⟩
            simp only [RepCs]
            refine ⟨_,_,rfl,U'.repC M hu,_,_,rfl,?_,rfl⟩
            rw [hid,hcl,h2]
            exact repC_int.2 rfl
          | some p=>
           obtain ⟨n,u⟩:=p
           rw [hpk] at h5 hpf
           obtain ⟨y,i1,i2,e1,i3,i4⟩:=hpf
           rw [Nat.zero_add] at i2
           subst i2
           obtain ⟨k',j1,j2,j3⟩:=ent_at (x:=z) i1
           obtain ⟨e',q1,q2,q3,q4,q5⟩:=h3 _ k' y j1
           simp only [Array.getElem?_toList] at i3
           rw [i3] at q1; cases q1
           obtain ⟨s1,s2⟩:=A.same k' e1.key j2 q2 q4
           have hkts:(Instr.keyThatStays (((en[idxK eq key es]?).map (·.key)).getD vk) vk).run K.P w=.ok vk w:=by
            rw [i3]
            simp only [Option.map_some,Option.getD_some,s1,Instr.keyThatStays,s2,if_true,Sem.run_pure]
           rw [i1] at hx
           have hu:=elemVal_sound hx q3 q5
           rw [i4] at hu
           have hbn:=hb _ _ i3
           have U':=U (.map (en.modify (idxK eq key es) fun e=>{ e with key:=vk }) clock) (entK eq key z es)
           refine ⟨{ w with heap:=w.heap.setIfInBounds (pl ref).blk (.map (en.modify (idxK eq key es) fun e=>{ e with key:=vk }) clock) },ref,_,.tuple #[u,goInt (((en[idxK eq key es]?).map (·.born)).getD 0)],?_,rfl,⟨_,hr⟩,U',?_,trivial,?_⟩
           ·simp only [Instr.mapEntry,Sem.run_bind,run_underlying A.ht,Result.andThen_ok,Go.MapKept.run_getObj_map h1,h4,h5,hkts,run_setObj_map _ h1,Sem.run_pure]
           ·refine ⟨_,_,(heap_set h1).1,by rw [j3]; simp [h2],born_modify hb (fun _=>rfl),by simp [hcl],fun n k2 x2 hn=>?_⟩
            rw [j3,List.getElem?_set] at hn
            by_cases hqn:idxK eq key es=n
            ·subst hqn
             simp only [if_true] at hn
             split at hn
             ·simp only [Option.some.injEq,Prod.mk.injEq] at hn
              obtain ⟨rfl,rfl⟩:=hn
              exact ⟨{ e1 with key:=vk },by rw [Array.getElem?_modify,if_pos rfl,i3]; rfl,A.isAgg,q3,U'.repCs M A.keyRep,U'.repCs M q5⟩
             ·cases hn
            ·rw [if_neg hqn] at hn
             obtain ⟨e3,r1,r2,r3,r4,r5⟩:=h3 n k2 x2 hn
             exact ⟨e3,by rw [Array.getElem?_modify,if_neg hqn]; exact r1,r2,r3,U'.repCs M r4,U'.repCs M r5⟩
           ·simp only [RepC]
            refine ⟨[u,goInt (((en[idxK eq key es]?).map (·.born)).getD 0)],rfl,?_⟩
            simp only [RepCs]
            refine ⟨_,_,rfl,U'.repC M hu,_,_,rfl,?_,rfl⟩
            rw [i3]
            simp only [Option.map_some,Option.getD_some,hbn]
            exact repC_int.2 rfl
         ·cases h
        ·cases hz
       ·cases hz
      ·cases h
     ·cases h
    ·cases h
   ·cases h
  ·cases h
 ·cases h
theorem findIdx_born {en:Array MapEntry} (hb:∀(n:Nat) (e:MapEntry),en[n]?=some e→e.born=n) {n:Nat} (hn:n<en.size):en.findIdx? (fun e=>(e.born:Int) == (n:Int))=some n:=by
 rw [Array.findIdx?_eq_some_iff_getElem]
 refine ⟨hn,?_,fun j hj=>?_⟩
 ·have:=hb n en[n] (by simp [hn])
  simp [this]
 ·have:=hb j (en[j]'(by omega)) (by simp)
  simp only [this]
  simp
  omega
theorem entryStore_sound (L:Laws K) {loc:Loc K.U} {H:List (O K.U)} (M:Mem K F w (getO loc H) pl) {t:TypeId} {m s x:C K.U} {r:Out K.U} {vm vs vx:Value} (h:K.entryStore loc H t m s x=some r) (hok:r.ok=true)
  (hm:RepC F w (getO loc H) pl m vm) (hs:RepC F w (getO loc H) pl s vs) (hx:RepC F w (getO loc H) pl x vx):
  ∃w' ref y,(Instr.entryStore t vm vs vx).run K.P w=.ok () w'∧r.v=.tup []∧r.wr=[(ref,y)]∧(∃o,getO loc H ref=some o)∧Upd K F w (getO loc H) pl ref y (pl ref) w'∧
   RepO F w' (setOb (getO loc H) ref y) (setPl pl ref (pl ref)) (pl ref) y∧K.bnd y:=by
 unfold Cfg.entryStore at h
 split at h
 ·rename_i ti hti
  split at h
  ·rename_i kt e hkd
   split at h
   ·rename_i j ref n hj
    split at h
    ·rename_i ag kc v es hr
     split at h
     ·rename_i y hy
      split at h
      ·rename_i hc
       obtain ⟨c1,c2,c3,c4⟩:=hc
       simp only [Option.some.injEq] at h; subst h
       simp only [RepC] at hm
       obtain ⟨_,rfl⟩:=hm
       rw [repC_int] at hs; subst hs
       obtain ⟨en,clock,h1,h2,hb,hcl,h3⟩:=M.rep _ _ hr
       obtain ⟨hcs,hone⟩:=hx.cells c2
       have hyr:=(decV_sound L hy hcs).1
       have hxa:isAggV vx=j.agg:=by
        rw [c4]
        cases x with
        | agg cs=>simp only [RepC] at hx; obtain ⟨vs,rfl,_⟩:=hx; rfl
        | tup=>simp [C.cells,C.one] at c2
        | dead=>simp [C.cells,C.one] at c2
        | osl=>simp [C.cells,C.one] at c2
        | _=>
         have:=hx.oneCell (by rfl)
         cases vx <;> first|rfl|simp [Value.oneCell] at this
       have hin:=inB_iff.1 hok
       simp only [lenL] at hin
       obtain ⟨q,rfl⟩:∃q:Nat,n=(q:Int):=⟨n.toNat,by omega⟩
       have hq:q<en.size:=by omega
       have hqe:q<es.length:=by omega
       have hsk:setK es (natI (q:Int)) y=es.set q ((es[q]).1,y):=by
        simp only [natI,Int.toNat_natCast]
        exact setK_set (List.getElem?_eq_getElem hqe)
       have U':Upd K F w (getO loc H) pl ref (.map ag kc v (setK es (natI (q:Int)) y)) (pl ref) { w with heap:=w.heap.setIfInBounds (pl ref).blk (.map (en.modify q fun e=>{ e with val:=vx }) clock) }:=
        ⟨fun o ho=>by rw [hr] at ho; cases ho; exact ⟨⟨_,_,_,_,rfl⟩,rfl⟩,rfl,rfl,rfl,by simp,fun b _ hb=>(heap_set h1).2 b hb,.inr ⟨_,hr,trivial,rfl⟩⟩
       refine ⟨_,ref,_,?_,rfl,rfl,⟨_,hr⟩,U',?_,trivial⟩
       ·simp only [Instr.entryStore,Sem.run_bind,Go.MapKept.run_getObj_map h1,Result.andThen_ok,asInt,asIntOf,Sem.run_pure,findIdx_born hb hq,run_setObj_map _ h1]
       ·refine ⟨_,_,(heap_set h1).1,by rw [hsk]; simp [h2],born_modify hb (fun _=>rfl),by simp [hcl],fun n k2 x2 hn=>?_⟩
        rw [hsk,List.getElem?_set] at hn
        by_cases hqn:q=n
        ·subst hqn
         simp only [if_true] at hn
         split at hn
         ·simp only [Option.some.injEq,Prod.mk.injEq] at hn
          obtain ⟨rfl,rfl⟩:=hn
          obtain ⟨e',q1,q2,q3,q4,q5⟩:=h3 q _ _ (List.getElem?_eq_getElem hqe)
          exact ⟨{ e' with val:=vx },by rw [Array.getElem?_modify,if_pos rfl,q1]; rfl,q2,by rw [←c3]; exact hxa,U'.repCs M q4,U'.repCs M hyr⟩
         ·rename_i hc; exact absurd hqe hc
        ·rw [if_neg hqn] at hn
         obtain ⟨e3,r1,r2,r3,r4,r5⟩:=h3 n k2 x2 hn
         exact ⟨e3,by rw [Array.getElem?_modify,if_neg hqn]; exact r1,r2,r3,U'.repCs M r4,U'.repCs M r5⟩
      ·cases h
     ·cases h
    ·cases h
   ·cases h
  ·cases h
 ·cases h
end
end Go.Abs
