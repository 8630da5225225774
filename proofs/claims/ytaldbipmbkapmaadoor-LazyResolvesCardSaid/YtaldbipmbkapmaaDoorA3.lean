/- LEMMAS: what the laws of a reading of a program give; what cells are in memory. Conditions: none. -/
import Derived.Test.YtaldbipmbkapmaaDoorA2
import Derived.Laws.Sem
import Derived.Laws.Cells
import Derived.Laws.Tables
import Derived.Laws.Entries
import Derived.Laws.Rows
namespace Go.Abs
set_option linter.unusedVariables false
set_option linter.unusedSimpArgs false
def D.le {U:Univ} (d d':D U):Prop:=d'=d∨(d=.nils∧∃c,d'=.sl c [])
structure Laws (K:Cfg):Prop where
 ti:∀t i,K.ti t=some i→i.ok K.P t=true
 len:∀c x,(K.enc c x).length=K.width c
 flat:∀c,K.flat c=true→∀x,∀d∈K.enc c x,(C.d d:C K.U).bare=true
 dec:∀c ds x,K.dec c ds=some x→ds.length=K.width c∧∀(j:Nat) (d d':D K.U),ds[j]?=some d→(K.enc c x)[j]?=some d'→d.le d'
 name : ∀ (g : Nat) (fn : Func), K.P.funcs[g]? = some fn → (fn.name == "runtime.NumGoroutine") = false
 meth:∀t nm g,K.meth t nm=some g→∀(v:Value) (w:World),(method (K.P.types.size+Made.depth) t v nm).run K.P w=.ok (g,v) w
 back:∀g x,K.back g=some x→∃fn,K.P.funcs[g]?=some fn∧fn.body=some (backBody x)∧fn.ntmps=19∧fn.results=#[]
 key:∀c zs eq,K.keyEq c=some (zs,eq)→∀x y,sameCells (U:=K.U) zs ((K.enc c x).map .d) ((K.enc c y).map .d)=some (eq x y)
section
variable {K:Cfg}
theorem RepD.le {F:Nat→Prop} {w:World} {d d':D K.U} {v:Value} (hd:d.le d') (h:RepD K F w d v):RepD K F w d' v:=by
 rcases hd with rfl|⟨rfl,c,rfl⟩
 ·exact h
 ·cases h; exact .sl0 _ _ _
theorem ti_spec (L:Laws K) {t:TypeId} {i:TI} (h:K.ti t=some i):
  ∃d j,K.P.underlying t=some d∧i.kind.is d=true∧K.P.info? t=some j∧j.size=i.size∧j.bytes=i.bytes∧
   (match j.zero with|some v=>v.cells.toList.map Z.of=i.zero.map some∧i.agg=(match v with|.agg _=>true|_=>false)|none=>i.kind=.tuple):=by
 have:=L.ti t i h
 simp only [TI.ok,Bool.and_eq_true] at this
 obtain ⟨h1,h2⟩:=this
 cases hd:K.P.underlying t with
 | none=>simp [hd] at h1
 | some d=>
  cases hj:K.P.info? t with
  | none=>simp [hj] at h2
  | some j=>
   simp only [hd] at h1
   simp only [hj,Bool.and_eq_true,beq_iff_eq] at h2
   refine ⟨d,j,rfl,h1,rfl,h2.1.1,h2.1.2,?_⟩
   cases hz:j.zero with
   | none=>simpa [hz] using h2.2
   | some v=>
    have:=h2.2
    simp only [hz,Bool.and_eq_true,beq_iff_eq] at this
    refine ⟨this.1,?_⟩
    rw [this.2]
    cases v <;> rfl
theorem agg_spec {i:TI} {d:TypeDesc} (h:i.kind.is d=true):i.agg=(match d with|.struct _|.array _ _=>true|_=>false):=by
 obtain ⟨k,s,b,z⟩:=i
 cases k <;> cases d <;> first|rfl|exact (Bool.false_ne_true h).elim
theorem run_isAgg (L:Laws K) {t:TypeId} {i:TI} (h:K.ti t=some i) (w:World):(isAgg t).run K.P w=.ok i.agg w:=by
 obtain ⟨d,j,h1,h2,_⟩:=ti_spec L h
 rw [agg_spec h2]
 simp only [isAgg,Sem.run_bind,run_underlying h1]
 cases d <;> rfl
theorem run_sizeOf' (L:Laws K) {t:TypeId} {i:TI} (h:K.ti t=some i) (w:World):(sizeOf t).run K.P w=.ok i.size w:=by
 obtain ⟨d,j,_,_,h3,h4,_⟩:=ti_spec L h
 simp [sizeOf,typeInfo,h3,h4]
theorem repCs_iff {F:Nat→Prop} {w:World} {ob:Obs K} {pl:Rf→Pl}:∀{cs:List (C K.U)} {vs:List Value},
  RepCs F w ob pl cs vs↔cs.length=vs.length∧∀(j:Nat) (c:C K.U) (v:Value),cs[j]?=some c→vs[j]?=some v→RepC F w ob pl c v
 | [],vs=>by
  simp only [RepCs]
  constructor
  ·rintro rfl; exact ⟨rfl,by simp⟩
  ·rintro ⟨h,_⟩; exact List.eq_nil_of_length_eq_zero h.symm
 | c :: cs,vs=>by
  simp only [RepCs]
  constructor
  ·rintro ⟨v,rest,rfl,h1,h2⟩
   obtain ⟨hl,hp⟩:=repCs_iff.1 h2
   refine ⟨by simp [hl],fun j c' v' hc hv=>?_⟩
   cases j with
   | zero=>simp at hc hv; subst hc hv; exact h1
   | succ j=>exact hp j c' v' (by simpa using hc) (by simpa using hv)
  ·rintro ⟨hl,hp⟩
   cases vs with
   | nil=>simp at hl
   | cons v rest=>
    exact ⟨v,rest,rfl,hp 0 c v rfl rfl,repCs_iff.2 ⟨by simpa using hl,fun j c' v' hc hv=>hp (j+1) c' v' (by simpa using hc) (by simpa using hv)⟩⟩
theorem RepCs.length {F:Nat→Prop} {w:World} {ob:Obs K} {pl:Rf→Pl} {cs:List (C K.U)} {vs:List Value} (h:RepCs F w ob pl cs vs):cs.length=vs.length:=(repCs_iff.1 h).1
theorem RepCs.get {F:Nat→Prop} {w:World} {ob:Obs K} {pl:Rf→Pl} {cs:List (C K.U)} {vs:List Value} (h:RepCs F w ob pl cs vs) {j:Nat} {c:C K.U} (hc:cs[j]?=some c):
  ∃v,vs[j]?=some v∧RepC F w ob pl c v:=by
 obtain ⟨hl,hp⟩:=repCs_iff.1 h
 have hj:j<cs.length:=(List.getElem?_eq_some_iff.1 hc).1
 have:vs[j]?=some (vs[j]'(by omega)):=List.getElem?_eq_getElem (by omega)
 exact ⟨_,this,hp j c _ hc this⟩
theorem RepC.oneCell {F : Nat → Prop} {w : World} {ob : Obs K} {pl : Rf → Pl} {c : C K.U} {v : Value} (h : RepC F w ob pl c v) (h1 : c.one = true) : v.oneCell = true := by
  cases c with
  | d x => simp only [RepC] at h; exact h.oneCell
  | clip c xs => simp only [RepC] at h; exact h.1.oneCell
  | ep cells => simp only [RepC] at h; obtain ⟨b, off, rfl, _⟩ := h; rfl
  | ptr r off => simp only [RepC] at h; obtain ⟨_, rfl⟩ := h; rfl
  | pa r gen row col => simp only [RepC] at h; obtain ⟨⟨_, rfl⟩, _⟩ := h; rfl
  | asl r gen sub cl => simp only [RepC] at h; obtain ⟨⟨_, _, _, rfl⟩, _⟩ := h; rfl
  | osl => simp [C.one] at h1
  | mp r => simp only [RepC] at h; obtain ⟨_, rfl⟩ := h; rfl
  | fn f a b => simp only [RepC] at h; obtain ⟨_, _, rfl, _⟩ := h; rfl
  | fp f a b => simp only [RepC] at h; obtain ⟨_, _, rfl, _⟩ := h; rfl
  | optr o => cases o <;> simp only [RepC] at h
              · subst h; rfl
              · obtain ⟨_, rfl⟩ := h; rfl
  | agg => simp [C.one] at h1
  | tup => simp [C.one] at h1
  | ifc t x => simp only [RepC] at h; obtain ⟨_, rfl, _⟩ := h; rfl
  | dead => simp [C.one] at h1
theorem oneCell_cells {v:Value} (h:v.oneCell=true):v.cells=#[v]:=by cases v <;> first|rfl|simp [Value.oneCell] at h
theorem oneCell_oneCell' {v:Value} (h:v.oneCell=true):v.oneCell'=true:=by cases v <;> first|rfl|simp [Value.oneCell] at h
theorem andB_true {a b:Bool}:andB a b=true↔a=true∧b=true:=by simp [andB]
theorem at_add (b o j:Nat):(at' b o).add j=at' b (o+j):=by simp [Addr.add,at']
theorem rowAt_eq {v:Vc K.U} {xs:List v.El} {row:Nat} (h:row<xs.length):K.rowAt v xs row=rdN (K.dfltV v) xs row:=by
 cases v with
 | pure c=>rfl
 | ptr=>rfl
 | row=>rfl
 | raw n=>
  match xs,h with
  | [],_=>rfl
  | [x],h=>
   have:row=0:=by simpa using h
   subst this; rfl
  | _ :: _ :: _,_=>rfl
theorem appEmpty_eq {loc:Loc K.U} {H:List (O K.U)} {slot:Option Nat} {j:TI} {rd:List Rf} {v:Vc K.U} {ok:Bool} {ys:List v.El}:K.appEmpty loc H slot j rd v ok ys=K.appFresh loc H slot j rd v ok (nilL _) ys:=rfl
theorem Mem.cellsAt {F:Nat→Prop} {w:World} {loc:Loc K.U} {H:List (O K.U)} {pl:Rf→Pl} (M:Mem K F w (getO loc H) pl)
  {a:C K.U} {v:Value} (hv:RepC F w (getO loc H) pl a v) {ok:Bool} {cs:List (C K.U)} (h:K.cellsAt loc H a=some (ok,cs)) (hok:ok=true):
  ∃b o,v=.pointer (some (at' b o))∧∀(j:Nat) (c:C K.U),cs[j]?=some c→∃u,w.cell? (at' b (o+j))=some u∧RepC F w (getO loc H) pl c u∧u.oneCell=true:=by
 cases a with
 | ep cells=>
  simp only [RepC] at hv
  simp only [Cfg.cellsAt,Option.some.injEq,Prod.mk.injEq] at h
  obtain ⟨b,off,rfl,_,hc⟩:=hv
  obtain ⟨_,rfl⟩:=h
  refine ⟨b,off,rfl,fun j c hj=>?_⟩
  simp only [List.getElem?_map,Option.map_eq_some_iff] at hj
  obtain ⟨d,hd,rfl⟩:=hj
  obtain ⟨u,h1,h2⟩:=hc j d hd
  exact ⟨u,h1,by simpa only [RepC] using h2,h2.oneCell⟩
 | ptr r off=>
  simp only [RepC] at hv
  obtain ⟨⟨cs',hr⟩,rfl⟩:=hv
  simp only [Cfg.cellsAt,hr,Option.some.injEq,Prod.mk.injEq] at h
  obtain ⟨_,rfl⟩:=h
  obtain ⟨vs,e,hb,hrep,h1⟩:=M.rep r _ hr
  refine ⟨(pl r).blk,off,rfl,fun j c hj=>?_⟩
  rw [List.getElem?_drop] at hj
  obtain ⟨u,hu,hc⟩:=hrep.get hj
  refine ⟨u,?_,hc,h1 u (List.mem_of_getElem? hu)⟩
  rw [cell_of_row w _ _ _ e (0,0) hb]; simpa using hu
 | pa r gen row col=>
  simp only [RepC] at hv
  obtain ⟨_,o,g,n,wd,hr,hi,hg,hv⟩:=hv
  simp only [Cfg.cellsAt,hr] at h
  cases o with
  | cells=>simp at h
  | map=>simp at h
  | arr g' v' xs=>
   simp only [Option.some.injEq,Prod.mk.injEq] at h
   simp only [Cfg.arrI,Option.some.injEq,Prod.mk.injEq] at hi
   obtain ⟨rfl,rfl,rfl⟩:=hi
   obtain ⟨hok',rfl⟩:=h
   rw [hok] at hok'
   simp only [andB_true,beq_iff_eq,ltN,lenL] at hok'
   obtain ⟨e1,e2⟩:=hok'
   rw [hv e1.symm]
   refine ⟨_,_,rfl,fun j c hj=>?_⟩
   rw [List.getElem?_drop] at hj
   rcases M.rep r _ hr with ⟨_,rfl⟩|⟨vs,e,hb,hl,hle,h1,hin⟩
   ·simp at e2
   ·have hx:xs[row]?=some (K.rowAt v' xs row):=by rw [rowAt_eq (of_decide_eq_true e2)]; simp [rdN,of_decide_eq_true e2]
    obtain ⟨u,hu,hc⟩:=(hin row _ hx).get hj
    rw [List.getElem?_take] at hu
    split at hu
    ·rw [List.getElem?_drop] at hu
     refine ⟨u,?_,hc,h1 u (List.mem_of_getElem? hu)⟩
     rw [cell_of_row w _ _ _ e (0,0) hb]
     simpa [Nat.add_assoc] using hu
    ·cases hu
  | fro g' c' xs=>
   simp only [Option.some.injEq,Prod.mk.injEq] at h
   simp only [Cfg.arrI,Option.some.injEq,Prod.mk.injEq] at hi
   obtain ⟨rfl,rfl,rfl⟩:=hi
   obtain ⟨hok',rfl⟩:=h
   rw [hok] at hok'
   simp only [andB_true,beq_iff_eq,ltN,lenL] at hok'
   obtain ⟨e1,e2⟩:=hok'
   rw [hv e1.symm]
   refine ⟨_,_,rfl,fun j c hj=>?_⟩
   rw [List.getElem?_drop,List.getElem?_map,Option.map_eq_some_iff] at hj
   obtain ⟨d,hd,rfl⟩:=hj
   have hx:xs[row]?=some (rdN (K.dflt c') xs row):=by simp [rdN,of_decide_eq_true e2]
   rcases M.rep r _ hr with rfl|hrep
   ·simp at e2
   ·cases hrep with
    | sl0=>simp at e2
    | sl _ _ _ _ _ f hF hcap hcell hrep=>
     have h1:=hcell row _ hx _ _ hd
     have h2:=hrep row _ hx _ _ hd
     refine ⟨_,?_,by simpa only [RepC] using h2,h2.oneCell⟩
     simpa [Nat.add_assoc] using h1
 | d|clip|asl|osl|mp|fn|fp|optr|agg|tup|ifc|dead=>simp [Cfg.cellsAt] at h
def setOb (ob:Obs K) (r:Rf) (x:O K.U):Obs K:=fun r'=>if r'=r then some x else ob r'
def setPl (pl:Rf→Pl) (r:Rf) (p:Pl):Rf→Pl:=fun r'=>if r'=r then p else pl r'
theorem setOb_same (ob:Obs K) (r:Rf) (x:O K.U):setOb ob r x r=some x:=by simp [setOb]
theorem setOb_other (ob:Obs K) {r r':Rf} (x:O K.U) (h:r' ≠ r):setOb ob r x r'=ob r':=by simp [setOb,h]
theorem setPl_same (pl:Rf→Pl) (r:Rf) (p:Pl):setPl pl r p r=p:=by simp [setPl]
theorem setPl_other (pl:Rf→Pl) {r r':Rf} (p:Pl) (h:r' ≠ r):setPl pl r p r'=pl r':=by simp [setPl,h]
theorem beqF {a b:Nat} (h:a ≠ b):Nat.beq a b=false:=Bool.eq_false_iff.2 fun h'=>h (Nat.eq_of_beq_eq_true h')
theorem getO_ap1 {loc:Loc K.U} {H:List (O K.U)} {r:Rf} {x:O K.U} (hr:∀n,r=.g n→n≤H.length):
  getO (apL loc [(r,x)]) (apH H [(r,x)])=setOb (getO loc H) r x:=by
 funext r'
 cases r with
 | l s=>
  cases r' with
  | l t=>
   simp only [getO,apL,setOb,Rf.l.injEq]
   by_cases h:t=s
   ·subst h; simp
   ·simp [h,beqF h]
  | g o=>simp [getO,apH,setOb]
 | g n=>
  cases r' with
  | l t=>simp [getO,apL,setOb]
  | g o=>
   have hn:=hr n rfl
   simp only [getO,apH,setOb,Rf.g.injEq]
   by_cases e:n=H.length
   ·subst e
    simp only [Nat.beq_refl,cond_true]
    by_cases h:o=H.length
    ·subst h; simp
    ·simp only [h,if_false,List.getElem?_append]
     split
     ·rfl
     ·rename_i h1
      rw [List.getElem?_eq_none (by simp; omega),List.getElem?_eq_none (by omega)]
   ·simp only [beqF e,cond_false,List.getElem?_set]
    by_cases h:n=o
    ·subst h; simp [show n<H.length by omega]
    ·simp [h,Ne.symm h]
structure Upd (K:Cfg) (F:Nat→Prop) (w:World) (ob:Obs K) (pl:Rf→Pl) (r:Rf) (x:O K.U) (p:Pl) (w':World):Prop where
 compat:∀o,ob r=some o→Compat K o (pl r) x p
 os:w'.os=w.os
 tape:w'.tape=w.tape
 output:w'.output=w.output
 size:w.heap.size≤w'.heap.size
 old:∀b,b<w.heap.size→b ≠ p.blk→w'.heap[b]?=w.heap[b]?
 where':(p.blk=w.heap.size∧(Owns K x p→p.blk<w'.heap.size))∨(∃o,ob r=some o∧Owns K o (pl r)∧p.blk=(pl r).blk)
section
variable {F:Nat→Prop} {w w':World} {ob:Obs K} {pl:Rf→Pl} {r:Rf} {x:O K.U} {p:Pl}
theorem Upd.notF (U:Upd K F w ob pl r x p w') (M:Mem K F w ob pl) {b:Nat} (h:F b):b ≠ p.blk:=by
 rintro rfl
 rcases U.where' with ⟨e,_⟩|⟨o,h1,h2,e⟩
 ·have:=M.frozen _ h; omega
 ·rw [e] at h; exact (M.free r o h1 h2).1 h
theorem Upd.heapF (U:Upd K F w ob pl r x p w') (M:Mem K F w ob pl) {b:Nat} (h:F b):w'.heap[b]?=w.heap[b]?:=U.old b (M.frozen b h) (U.notF M h)
theorem Upd.notBlk (U:Upd K F w ob pl r x p w') (M:Mem K F w ob pl) {r':Rf} {o':O K.U} (hr:r' ≠ r) (h:ob r'=some o') (ho:Owns K o' (pl r')):(pl r').blk ≠ p.blk:=by
 intro e
 rcases U.where' with ⟨e',_⟩|⟨o,h1,h2,e'⟩
 ·have:=(M.free r' o' h ho).2; omega
 ·exact hr (M.apart r' r o' o h h1 ho h2 (e.trans e'))
theorem Upd.goes (U:Upd K F w ob pl r x p w'):∀r' o,ob r'=some o→∃o',setOb ob r x r'=some o'∧Compat K o (pl r') o' (setPl pl r p r'):=by
 intro r' o h
 by_cases e:r'=r
 ·subst e; exact ⟨x,setOb_same _ _ _,by rw [setPl_same]; exact U.compat o h⟩
 ·exact ⟨o,by rw [setOb_other _ _ e,h],by rw [setPl_other _ _ e]; exact .refl _ _⟩
theorem Upd.repC (U:Upd K F w ob pl r x p w') (M:Mem K F w ob pl) {c:C K.U} {v:Value} (h:RepC F w ob pl c v):RepC F w' (setOb ob r x) (setPl pl r p) c v:=
 h.mono (fun _ h=>h) (fun _ h=>U.heapF M h) U.goes
theorem Upd.repCs (U:Upd K F w ob pl r x p w') (M:Mem K F w ob pl) {c:List (C K.U)} {v:List Value} (h:RepCs F w ob pl c v):RepCs F w' (setOb ob r x) (setPl pl r p) c v:=
 h.mono (fun _ h=>h) (fun _ h=>U.heapF M h) U.goes
theorem RepO.mono {F F':Nat→Prop} {w w':World} {ob ob':Obs K} {pl pl':Rf→Pl} {p:Pl} (hF:∀b,F b→F' b) (hw:∀b,F b→w'.heap[b]?=w.heap[b]?)
  (ho:∀r o,ob r=some o→∃o',ob' r=some o'∧Compat K o (pl r) o' (pl' r)) {o:O K.U} (hb:Owns K o p→w'.heap[p.blk]?=w.heap[p.blk]?)
  (h:RepO F w ob pl p o):RepO F' w' ob' pl' p o:=by
 cases o with
 | cells cs=>
  obtain ⟨vs,e,h1,h2,h3⟩:=h
  exact ⟨vs,e,by rw [hb trivial,h1],h2.mono hF hw ho,h3⟩
 | arr g v xs=>
  rcases h with h|⟨vs,e,h1,h2,h3,h4,h5⟩
  ·exact .inl h
  ·by_cases hc:p.cap=0
   ·left
    refine ⟨hc,?_⟩
    have:List.length xs=0:=by omega
    exact List.eq_nil_of_length_eq_zero this
   ·exact .inr ⟨vs,e,by rw [hb hc,h1],h2,h3,h4,fun i x hx=>(h5 i x hx).mono hF hw ho⟩
 | fro g c xs=>
  rcases h with h|h
  ·exact .inl h
  ·exact .inr (h.mono hF hw)
 | map ag kc v es=>
  obtain ⟨en,cl,h1,h2,hbn,hcl,h3⟩:=h
  refine ⟨en,cl,by rw [hb trivial,h1],h2,hbn,hcl,fun i k x hx=>?_⟩
  obtain ⟨e,k1,k2,k3,k4,k5⟩:=h3 i k x hx
  exact ⟨e,k1,k2,k3,k4.mono hF hw ho,k5.mono hF hw ho⟩
theorem Upd.mem (U:Upd K F w ob pl r x p w') (M:Mem K F w ob pl) (hx:RepO F w' (setOb ob r x) (setPl pl r p) p x) (hbx:K.bnd x):Mem K F w' (setOb ob r x) (setPl pl r p):=by
 have hlt:Owns K x p→p.blk<w'.heap.size:=by
  intro ho
  rcases U.where' with ⟨_,h⟩|⟨o,h1,h2,e⟩
  ·exact h ho
  ·rw [e]; exact Nat.lt_of_lt_of_le (M.free r o h1 h2).2 U.size
 have hnF:¬F p.blk:=fun h=>U.notF M h rfl
 refine ⟨fun r' o h=>?_,fun r1 r2 o1 o2 h1 h2 ho1 ho2 e=>?_,fun r' o h ho=>?_,fun b h=>Nat.lt_of_lt_of_le (M.frozen b h) U.size,fun g cells h=>?_,fun r' o h=>?_⟩
 ·by_cases e:r'=r
  ·subst e
   rw [setOb_same] at h; cases h
   rw [setPl_same]; exact hx
  ·rw [setOb_other _ _ e] at h
   rw [setPl_other _ _ e]
   exact (M.rep r' o h).mono (fun _ h=>h) (fun _ h=>U.heapF M h) U.goes fun ho=>U.old _ (M.free r' o h ho).2 (U.notBlk M e h ho)
 ·by_cases e1:r1=r
  ·by_cases e2:r2=r
   ·rw [e1,e2]
   ·subst e1
    rw [setOb_same] at h1; cases h1
    rw [setOb_other _ _ e2] at h2
    rw [setPl_same] at e
    rw [setPl_other _ _ e2] at e ho2
    exact absurd e.symm (U.notBlk M e2 h2 ho2)
  ·by_cases e2:r2=r
   ·subst e2
    rw [setOb_same] at h2; cases h2
    rw [setOb_other _ _ e1] at h1
    rw [setPl_same] at e
    rw [setPl_other _ _ e1] at e ho1
    exact absurd e (U.notBlk M e1 h1 ho1)
   ·rw [setOb_other _ _ e1] at h1
    rw [setOb_other _ _ e2] at h2
    rw [setPl_other _ _ e1] at e ho1
    rw [setPl_other _ _ e2] at e ho2
    exact M.apart r1 r2 o1 o2 h1 h2 ho1 ho2 e
 ·by_cases e:r'=r
  ·subst e
   rw [setOb_same] at h; cases h
   rw [setPl_same] at ho ⊢
   exact ⟨hnF,hlt ho⟩
  ·rw [setOb_other _ _ e] at h
   rw [setPl_other _ _ e] at ho ⊢
   exact ⟨(M.free r' o h ho).1,Nat.lt_of_lt_of_le (M.free r' o h ho).2 U.size⟩
 ·obtain ⟨h1,h2⟩:=M.glob g cells h
  refine ⟨h1,fun j d hd=>?_⟩
  obtain ⟨u,k1,k2⟩:=h2 j d hd
  exact ⟨u,by rw [←k1]; simp only [World.cell?,U.heapF M h1],k2.mono (fun _ h=>h) fun _ h=>U.heapF M h⟩
 ·by_cases e:r'=r
  ·subst e; rw [setOb_same] at h; cases h; exact hbx
  ·rw [setOb_other _ _ e] at h; exact M.bnd r' o h
theorem Upd.fr (U:Upd K F w ob pl r x p w') {β:Base K} (f:Fr K β F w ob pl):Fr K β F w' (setOb ob r x) (setPl pl r p):=by
 have hp:β.w.heap.size≤p.blk∨β.G p.blk:=by
  rcases U.where' with ⟨e,_⟩|⟨o,h1,h2,e⟩
  ·left; rw [e]; exact f.size
  ·rw [e]; exact f.own r o h1 h2
 refine ⟨U.os.trans f.os,U.tape.trans f.tape,U.output.trans f.output,Nat.le_trans f.size U.size,fun b hb hg=>?_,f.Fsub,f.Fnew,fun r' o h ho=>?_,fun n o h=>?_⟩
 ·rw [U.old b (Nat.lt_of_lt_of_le hb f.size) (by rintro rfl; exact hp.elim (fun h=>by omega) hg),f.old b hb hg]
 ·by_cases e:r'=r
  ·subst e
   rw [setPl_same]; exact hp
  ·rw [setOb_other _ _ e] at h
   rw [setPl_other _ _ e] at ho ⊢
   exact f.own r' o h ho
 ·obtain ⟨o',h1,h2⟩:=f.glob n o h
  obtain ⟨o'',h3,h4⟩:=U.goes (.g n) o' h1
  exact ⟨o'',h3,h2.trans h4⟩
end
theorem ArrIn.repD {F:Nat→Prop} {w:World} {ob:Obs K} {pl:Rf→Pl} (L:Laws K) {c:K.U.Ty} {xs:List (K.U.El c)} {vs:List Value} {b cap:Nat} {e:TypeId}
  (hb:w.heap[b]?=some (.cells vs.toArray e (0,0))) (h:ArrIn F w ob pl (.pure c) xs vs) (hF:F b) (hcap:xs.length≤cap) (hbnd:xs.length * K.bytesC c≤room):
  RepD K F w (.sl c xs) (.slice (some (at' b 0)) xs.length cap):=by
 refine .sl c xs b 0 cap (fun i j=>vs.getD (i * K.width c+j) undef) hF hcap (fun i x hx j d hd=>?_) (fun i x hx j d hd=>?_) hbnd
 all_goals
  have hj:j<K.width c:=by rw [←L.len c x]; exact (List.getElem?_eq_some_iff.1 hd).1
  obtain ⟨u,hu,hr⟩:=(h i x hx).get (j:=j) (c:=.d d) (by simp only [Cfg.encV,List.getElem?_map,hd,Option.map_some])
  simp only [Cfg.widthV,List.getElem?_take,hj,if_true,List.getElem?_drop] at hu
  have hg:vs.getD (i * K.width c+j) undef=u:=by rw [List.getD_eq_getElem?_getD,hu]; rfl
 ·rw [hg,cell_of_row w _ _ _ e (0,0) hb]
  simpa using hu
 ·rw [hg]
  simpa only [RepC] using hr
def addF (F:Nat→Prop) (b:Nat) (cap:Nat):Nat→Prop:=fun b'=>F b'∨(cap ≠ 0∧b'=b)
theorem Mem.freeze {F:Nat→Prop} {w:World} {ob:Obs K} {pl:Rf→Pl} {r:Rf} (L:Laws K) (M:Mem K F w ob pl) {g:Nat} {c:K.U.Ty} {xs:List (K.U.El c)}
  (h:ob r=some (.arr g (.pure c) xs)):Mem K (addF F (pl r).blk (pl r).cap) w (setOb ob r (.fro g c xs)) pl:=by
 have hF:∀b,F b→addF F (pl r).blk (pl r).cap b:=fun _ h=>.inl h
 have ho:∀r' o,ob r'=some o→∃o',setOb ob r (.fro g c xs) r'=some o'∧Compat K o (pl r') o' (pl r'):=by
  intro r' o hr
  by_cases e:r'=r
  ·subst e
   rw [h] at hr; cases hr
   exact ⟨_,setOb_same _ _ _,.arr rfl rfl (Nat.le_refl _) fun _=>⟨rfl,rfl,rfl,rfl⟩⟩
  ·exact ⟨o,by rw [setOb_other _ _ e,hr],.refl _ _⟩
 have hown:∀r' o,setOb ob r (.fro g c xs) r'=some o→Owns K o (pl r')→r' ≠ r∧ob r'=some o:=by
  intro r' o hr ho'
  by_cases e:r'=r
  ·subst e; rw [setOb_same] at hr; cases hr; exact ho'.elim
  ·rw [setOb_other _ _ e] at hr; exact ⟨e,hr⟩
 refine ⟨fun r' o hr=>?_,fun r1 r2 o1 o2 h1 h2 ho1 ho2 e=>?_,fun r' o hr ho'=>?_,fun b hb=>?_,fun g' cells hg=>?_,fun r' o hr=>?_⟩
 ·by_cases e:r'=r
  ·subst e
   rw [setOb_same] at hr; cases hr
   rcases M.rep r' _ h with ⟨_,rfl⟩|⟨vs,e,h1,h2,h3,h4,h5⟩
   ·exact .inl rfl
   ·by_cases hc:(pl r').cap=0
    ·left
     have:List.length xs=0:=by have:List.length (α:=Vc.El (.pure c)) xs=List.length (α:=K.U.El c) xs:=rfl; omega
     exact List.eq_nil_of_length_eq_zero this
    ·right
     exact ArrIn.repD (ob:=setOb ob r' (.fro g c xs)) (pl:=pl) L h1 (fun i x hx=>(h5 i x hx).mono hF (fun _ _=>rfl) ho) (.inr ⟨hc,rfl⟩) h3 (M.bnd _ _ h)
  ·rw [setOb_other _ _ e] at hr
   exact (M.rep r' o hr).mono hF (fun _ _=>rfl) ho fun _=>rfl
 ·exact M.apart r1 r2 o1 o2 (hown _ _ h1 ho1).2 (hown _ _ h2 ho2).2 ho1 ho2 e
 ·obtain ⟨hne,hr'⟩:=hown _ _ hr ho'
  refine ⟨fun hf=>?_,(M.free r' o hr' ho').2⟩
  rcases hf with hf|⟨hc,e⟩
  ·exact (M.free r' o hr' ho').1 hf
  ·exact hne (M.apart r' r o _ hr' h ho' hc e)
 ·rcases hb with hb|⟨hc,rfl⟩
  ·exact M.frozen b hb
  ·exact (M.free r _ h hc).2
 ·obtain ⟨h1,h2⟩:=M.glob g' cells hg
  refine ⟨.inl h1,fun j d hd=>?_⟩
  obtain ⟨u,k1,k2⟩:=h2 j d hd
  exact ⟨u,k1,k2.mono hF fun _ _=>rfl⟩
 ·by_cases e:r'=r
  ·subst e; rw [setOb_same] at hr; cases hr; trivial
  ·rw [setOb_other _ _ e] at hr; exact M.bnd r' o hr
theorem Fr.freeze {β:Base K} {F:Nat→Prop} {w:World} {ob:Obs K} {pl:Rf→Pl} {r:Rf} (f:Fr K β F w ob pl) {g:Nat} {c:K.U.Ty} {xs:List (K.U.El c)}
  (h:ob r=some (.arr g (.pure c) xs)):Fr K β (addF F (pl r).blk (pl r).cap) w (setOb ob r (.fro g c xs)) pl:=by
 refine ⟨f.os,f.tape,f.output,f.size,f.old,fun b hb=>.inl (f.Fsub b hb),fun b hb=>?_,fun r' o hr ho=>?_,fun n o hn=>?_⟩
 ·rcases hb with hb|⟨hc,rfl⟩
  ·exact f.Fnew b hb
  ·exact .inr (f.own r _ h hc)
 ·by_cases e:r'=r
  ·subst e; rw [setOb_same] at hr; cases hr; exact ho.elim
  ·rw [setOb_other _ _ e] at hr; exact f.own r' o hr ho
 ·obtain ⟨o',h1,h2⟩:=f.glob n o hn
  by_cases e:(Rf.g n)=r
  ·subst e
   rw [h] at h1; cases h1
   exact ⟨_,setOb_same _ _ _,h2.trans (.arr rfl rfl (Nat.le_refl _) fun _=>⟨rfl,rfl,rfl,rfl⟩)⟩
  ·exact ⟨o',by rw [setOb_other _ _ e,h1],h2⟩
theorem repC_ofV1 {F:Nat→Prop} {w:World} {ob:Obs K} {pl:Rf→Pl} {v:Value} {c:C K.U} (h:ofV1 v=some c):RepC F w ob pl c v:=by
 unfold ofV1 at h
 split at h <;> (try (split at h)) <;> simp only [Option.some.injEq,reduceCtorEq] at h <;> subst h <;> simp only [RepC]
 case h_3.isTrue hs=>exact .str _ (Nat.le_of_ble_eq_true hs)
 case h_9=>exact ⟨[],[],rfl,by simp [RepCs],by simp [RepCs]⟩
 all_goals constructor
theorem repC_ofV {F:Nat→Prop} {w:World} {ob:Obs K} {pl:Rf→Pl} {v:Value} {c:C K.U} (h:ofV v=some c):RepC F w ob pl c v:=by
 unfold ofV at h
 split at h
 ·rename_i cs
  simp only [Option.map_eq_some_iff] at h
  obtain ⟨ds,h1,rfl⟩:=h
  simp only [RepC]
  refine ⟨cs.toList,rfl,?_⟩
  generalize cs.toList=l at h1
  induction l generalizing ds with
  | nil=>simp at h1; subst h1; simp [RepCs]
  | cons v l ih=>
   simp only [List.mapM_cons,Option.bind_eq_bind,Option.pure_def,Option.bind_eq_some_iff,Option.some.injEq] at h1
   obtain ⟨c,hc,ds',hds,rfl⟩:=h1
   simp only [RepCs]
   exact ⟨v,l,rfl,repC_ofV1 hc,ih _ hds⟩
 ·simp only [Option.some.injEq] at h
  subst h
  simp only [RepC]
  exact ⟨[],rfl,by simp [RepCs]⟩
 ·exact repC_ofV1 h
variable {β:Base K} {nt:Nat} {st:St K.U} {a:Act} {F:Nat→Prop} {pl:Rf→Pl} {w:World}
theorem Sim.ev (S:Sim K β nt st a F pl w) {x:Operand} {c:C K.U} (h:K.ev st.tmps x=some c):RepC F w st.obs pl c (a.eval x):=by
 cases x with
 | tmp t=>simp only [Cfg.ev,Option.some.injEq] at h; subst h; exact S.tmps t
 | const v=>exact repC_ofV h
 | global g=>
  simp only [Cfg.ev,Option.map_eq_some_iff] at h
  obtain ⟨cells,h,rfl⟩:=h
  obtain ⟨h1,h2⟩:=S.mem.glob g cells h
  simp only [RepC]
  exact ⟨g,0,rfl,h1,fun j d hd=>by simpa using h2 j d hd⟩
 | func f=>
  simp only [Cfg.ev,Option.some.injEq] at h
  subst h
  simp only [RepC]
  exact ⟨[],[],rfl,by simp [RepCs],by simp [RepCs]⟩
theorem Sim.evs (S:Sim K β nt st a F pl w):∀{xs:List Operand} {cs:List (C K.U)},Go.Abs.evs (K.ev st.tmps) xs=some cs→RepCs F w st.obs pl cs (xs.map a.eval)
 | [],cs,h=>by simp only [Go.Abs.evs,Option.some.injEq] at h; subst h; simp [RepCs]
 | x :: xs,cs,h=>by
  simp only [Go.Abs.evs] at h
  split at h
  ·rename_i y ys h1 h2
   simp only [Option.some.injEq] at h; subst h
   simp only [RepCs,List.map_cons]
   exact ⟨_,_,rfl,S.ev h1,S.evs h2⟩
  ·cases h
theorem repC_dead {F:Nat→Prop} {w:World} {ob:Obs K} {pl:Rf→Pl} (v:Value):RepC F w ob pl .dead v:=by simp only [RepC]
theorem Sim.put (S:Sim K β nt st a F pl w) {dst:Option Tmp} (hd:∀d,dst=some d→d<nt) {c:C K.U} {v:Value} (h:RepC F w st.obs pl c v):
  Sim K β nt ⟨Go.Abs.put st.tmps dst c,st.loc,st.H⟩ (a.put dst v) F pl w:=by
 cases dst with
 | none=>exact S
 | some d=>
  refine ⟨by simp [Act.put,S.size],S.defers,S.pins,S.ghosts,fun t=>?_,S.mem,S.fr,S.hok⟩
  simp only [Go.Abs.put,Act.put]
  by_cases e:t=d
  ·subst e
   have hlt:t<a.tmps.size:=by rw [S.size]; exact hd t rfl
   simpa [hlt,St.obs] using h
  ·rw [beqF e]
   have:(a.tmps.setIfInBounds d v).getD t undef=a.tmps.getD t undef:=by
    simp [Array.getD_eq_getD_getElem?,Ne.symm e]
   rw [this]
   exact S.tmps t
theorem HOk.ap1 {U:Univ} {H:List (O U)} (h:HOk H) {r:Rf} {x:O U} (hk:okW (r,x)=true) (hr:∀n,r=.g n→n≤H.length):HOk (apH H [(r,x)]):=by
 cases r with
 | l s=>exact h
 | g n=>
  have hn:=hr n rfl
  simp only [okW] at hk
  simp only [apH]
  intro m o hm
  by_cases e:n=H.length
  ·subst e
   simp only [Nat.beq_refl,cond_true,List.getElem?_append] at hm
   split at hm
   ·exact h m o hm
   ·rename_i h1
    by_cases e':m - H.length=0
    ·rw [e'] at hm; simp only [List.getElem?_cons_zero,Option.some.injEq] at hm; rw [←hm]; exact hk
    ·rw [List.getElem?_eq_none (by simp; omega)] at hm; cases hm
  ·simp only [beqF e,cond_false,List.getElem?_set] at hm
   by_cases e':n=m
   ·subst e'
    simp only [if_true] at hm
    split at hm
    ·cases hm; exact hk
    ·cases hm
   ·rw [if_neg e'] at hm
    exact h m o hm
theorem Sim.upd (S:Sim K β nt st a F pl w) {r:Rf} {x:O K.U} {p:Pl} {w':World} (U:Upd K F w st.obs pl r x p w')
  (hx:RepO F w' (setOb st.obs r x) (setPl pl r p) p x) (hr:∀n,r=.g n→n≤st.H.length) (hk:okW (r,x)=true) (hbx:K.bnd x):
  Sim K β nt ⟨st.tmps,apL st.loc [(r,x)],apH st.H [(r,x)]⟩ a F (setPl pl r p) w':=by
 have e:St.obs ⟨st.tmps,apL st.loc [(r,x)],apH st.H [(r,x)]⟩=setOb st.obs r x:=getO_ap1 hr
 exact ⟨S.size,S.defers,fun b o h=>⟨(S.pins b o h).1,(U.heapF S.mem (S.pins b o h).1).trans (S.pins b o h).2⟩,fun t=>by rw [e]; exact U.repC S.mem (S.ghosts t),fun t=>by rw [e]; exact U.repC S.mem (S.tmps t),by rw [e]; exact U.mem S.mem hx hbx,by rw [e]; exact U.fr S.fr,S.hok.ap1 hk hr⟩
end
end Go.Abs
