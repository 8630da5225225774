/- LEMMAS: what single operations do to what is told of memory: reading, writing. Conditions: none. -/
import Derived.Test.YtaldbipmbkapmaaDoorA3
import Derived.Laws.CopyRow
namespace Go.Abs
set_option linter.unusedVariables false
set_option linter.unusedSimpArgs false
section
variable {K:Cfg}
theorem splice_length {α:Type} {vs new:List α} {off:Nat} (h:off+new.length≤vs.length):(splice vs off new).length=vs.length:=by
 simp [splice]; omega
theorem splice_get {α:Type} {vs new:List α} {off:Nat} (h:off+new.length≤vs.length) (j:Nat):
  (splice vs off new)[j]?=if j<off then vs[j]? else if j<off+new.length then new[j - off]? else vs[j]?:=by
 simp only [splice,List.append_assoc]
 split
 ·rename_i h1
  rw [List.getElem?_append_left (by simp; omega),List.getElem?_take,if_pos h1]
 ·rename_i h1
  rw [List.getElem?_append_right (by simp; omega)]
  have e:(List.take off vs).length=off:=by simp; omega
  rw [e]
  split
  ·rename_i h2
   rw [List.getElem?_append_left (by omega)]
  ·rename_i h2
   rw [List.getElem?_append_right (by omega),List.getElem?_drop]
   congr 1; omega
theorem splice_mem {α:Type} {vs new:List α} {off:Nat} {v:α} (h:v∈splice vs off new):v∈vs∨v∈new:=by
 simp only [splice,List.mem_append] at h
 rcases h with (h|h)|h
 ·exact .inl (List.mem_of_mem_take h)
 ·exact .inr h
 ·exact .inl (List.mem_of_mem_drop h)
theorem repCs_splice {F:Nat→Prop} {w:World} {ob:Obs K} {pl:Rf→Pl} {cs new:List (C K.U)} {vs us:List Value} {off:Nat} (h:RepCs F w ob pl cs vs) (h':RepCs F w ob pl new us)
  (hl:off+new.length≤cs.length):RepCs F w ob pl (splice cs off new) (splice vs off us):=by
 obtain ⟨e1,p1⟩:=repCs_iff.1 h
 obtain ⟨e2,p2⟩:=repCs_iff.1 h'
 refine repCs_iff.2 ⟨by rw [splice_length hl,splice_length (by omega),e1],fun j c v hc hv=>?_⟩
 rw [splice_get hl] at hc
 rw [splice_get (by omega),←e2] at hv
 by_cases h1:j<off
 ·simp only [h1,if_true] at hc hv; exact p1 j c v hc hv
 ·by_cases h2:j<off+new.length
  ·simp only [h1,h2,if_true,if_false] at hc hv; exact p2 _ c v hc hv
  ·simp only [h1,h2,if_false] at hc hv; exact p1 j c v hc hv
theorem repCs_take {F:Nat→Prop} {w:World} {ob:Obs K} {pl:Rf→Pl} {cs:List (C K.U)} {vs:List Value} (h:RepCs F w ob pl cs vs) (n:Nat):RepCs F w ob pl (cs.take n) (vs.take n):=by
 obtain ⟨e1,p1⟩:=repCs_iff.1 h
 refine repCs_iff.2 ⟨by simp [e1],fun j c v hc hv=>?_⟩
 rw [List.getElem?_take] at hc hv
 split at hc
 ·rename_i h1; simp only [h1,if_true] at hv; exact p1 j c v hc hv
 ·cases hc
theorem repCs_drop {F:Nat→Prop} {w:World} {ob:Obs K} {pl:Rf→Pl} {cs:List (C K.U)} {vs:List Value} (h:RepCs F w ob pl cs vs) (n:Nat):RepCs F w ob pl (cs.drop n) (vs.drop n):=by
 obtain ⟨e1,p1⟩:=repCs_iff.1 h
 refine repCs_iff.2 ⟨by simp [e1],fun j c v hc hv=>?_⟩
 rw [List.getElem?_drop] at hc hv
 exact p1 _ c v hc hv
theorem repCs_append {F:Nat→Prop} {w:World} {ob:Obs K} {pl:Rf→Pl} {cs ds:List (C K.U)} {vs us:List Value} (h:RepCs F w ob pl cs vs) (h':RepCs F w ob pl ds us):
  RepCs F w ob pl (cs ++ ds) (vs ++ us):=by
 obtain ⟨e1,p1⟩:=repCs_iff.1 h
 obtain ⟨e2,p2⟩:=repCs_iff.1 h'
 refine repCs_iff.2 ⟨by simp [e1,e2],fun j c v hc hv=>?_⟩
 rw [List.getElem?_append] at hc hv
 rw [←e1] at hv
 split at hc
 ·rename_i h1; simp only [h1,if_true] at hv; exact p1 j c v hc hv
 ·rename_i h1; simp only [h1,if_false] at hv; exact p2 _ c v hc hv
theorem gather {α β:Type} (P:Nat→α→β→Prop):∀(cs:List α),(∀j c,cs[j]?=some c→∃u,P j c u)→∃us:List β,us.length=cs.length∧∀j c u,cs[j]?=some c→us[j]?=some u→P j c u:=by
 intro cs
 induction cs generalizing P with
 | nil=>intro _; exact ⟨[],rfl,by simp⟩
 | cons c cs ih=>
  intro h
  obtain ⟨u,hu⟩:=h 0 c rfl
  obtain ⟨us,h1,h2⟩:=ih (fun j=>P (j+1)) fun j c hc=>h (j+1) c (by simpa using hc)
  refine ⟨u :: us,by simp [h1],fun j c' u' hc hu'=>?_⟩
  cases j with
  | zero=>simp at hc hu'; subst hc hu'; exact hu
  | succ j=>exact h2 j c' u' (by simpa using hc) (by simpa using hu')
theorem run_loadVar (L:Laws K) {t:TypeId} {i:TI} (h:K.ti t=some i) {w:World} {b o:Nat} {us:List Value}
  (hc:∀(j:Nat) (u:Value),us[j]?=some u→w.cell? (at' b (o+j))=some u) (hl:us.length=if i.agg then i.size else 1):
  (loadVar t (at' b o)).run K.P w=.ok (if i.agg then .agg us.toArray else us.getD 0 undef) w:=by
 simp only [loadVar,Sem.run_bind,run_isAgg L h,Result.andThen]
 cases ha:i.agg with
 | true=>
  simp only [ha,if_true] at hl
  simp only [if_true,Sem.run_bind,run_sizeOf' L h,Result.andThen,←hl]
  rw [run_loadCells_list w (at' b o) us fun j u hu=>by rw [at_add]; exact hc j u hu]
  rfl
 | false=>
  simp only [ha] at hl
  cases us with
  | nil=>simp at hl
  | cons u us=>
   have:=hc 0 u rfl
   rw [Nat.add_zero] at this
   simp [this]
theorem valOf_sound {F:Nat→Prop} {w:World} {ob:Obs K} {pl:Rf→Pl} {i:TI} {cs:List (C K.U)} {us:List Value} {c:C K.U} (h:valOf i cs=some c) (hr:RepCs F w ob pl cs us):
  (if i.agg then i.size else 1)≤us.length∧RepC F w ob pl c (if i.agg then .agg (us.take i.size).toArray else us.getD 0 undef):=by
 have hl:=hr.length
 unfold valOf at h
 cases ha:i.agg with
 | true=>
  simp only [ha,if_true] at h ⊢
  split at h
  ·simp only [Option.some.injEq] at h; subst h
   simp only [RepC]
   exact ⟨by omega,_,rfl,repCs_take hr _⟩
  ·cases h
 | false=>
  simp only [ha,Bool.false_eq_true,if_false] at h ⊢
  cases cs with
  | nil=>simp at h
  | cons x cs=>
   simp only [Option.some.injEq] at h; subst h
   obtain ⟨u,rest,rfl,h1,_⟩:=by simpa only [RepCs] using hr
   exact ⟨by simp,h1⟩
theorem Mem.load {F:Nat→Prop} {w:World} {loc:Loc K.U} {H:List (O K.U)} {pl:Rf→Pl} (L:Laws K) (M:Mem K F w (getO loc H) pl) {t:TypeId} {a:C K.U} {v:Value} {r:Out K.U}
  (hv:RepC F w (getO loc H) pl a v) (h:K.load loc H t a=some r) (hok:r.ok=true):
  ∃b o u,v=.pointer (some (at' b o))∧(loadVar t (at' b o)).run K.P w=.ok u w∧RepC F w (getO loc H) pl r.v u∧r.wr=[]:=by
 unfold Cfg.load at h
 split at h
 ·rename_i i ok cs hi hc
  split at h
  ·rename_i x hx
   simp only [Option.some.injEq] at h; subst h
   obtain ⟨b,o,rfl,hcell⟩:=M.cellsAt hv hc hok
   obtain ⟨us,hul,hup⟩:=gather (fun j c u=>w.cell? (at' b (o+j))=some u∧RepC F w (getO loc H) pl c u∧u.oneCell=true) cs hcell
   have hrep:RepCs F w (getO loc H) pl cs us:=repCs_iff.2 ⟨hul.symm,fun j c u h1 h2=>(hup j c u h1 h2).2.1⟩
   have hget:∀(j:Nat) (u:Value),us[j]?=some u→w.cell? (at' b (o+j))=some u:=by
    intro j u hu
    have hj:j<cs.length:=by rw [←hul]; exact (List.getElem?_eq_some_iff.1 hu).1
    exact (hup j _ u (List.getElem?_eq_getElem hj) hu).1
   obtain ⟨h1,h2⟩:=valOf_sound hx hrep
   refine ⟨b,o,_,rfl,?_,h2,rfl⟩
   cases ha:i.agg with
   | true=>
    simp only [ha,if_true] at h1 ⊢
    rw [run_loadVar L hi (us:=us.take i.size) (fun j u hu=>by rw [List.getElem?_take] at hu; split at hu; exact hget j u hu; cases hu) (by simp [ha]; omega)]
    simp [ha]
   | false=>
    simp only [ha,Bool.false_eq_true,if_false] at h1 ⊢
    rw [run_loadVar L hi (us:=us.take 1) (fun j u hu=>by rw [List.getElem?_take] at hu; split at hu; exact hget j u hu; cases hu) (by simp [ha]; omega)]
    cases us with
    | nil=>simp at h1
    | cons u us=>simp [ha]
  ·cases h
 ·cases h
theorem RepC.cells {F:Nat→Prop} {w:World} {ob:Obs K} {pl:Rf→Pl} {c:C K.U} {v:Value} (h:RepC F w ob pl c v) (h1:c.cells.all C.one=true):
  RepCs F w ob pl c.cells v.cells.toList∧∀u∈v.cells.toList,u.oneCell=true:=by
 have one:∀(x:C K.U),x.one=true→x.cells=[x]→RepC F w ob pl x v→RepCs F w ob pl x.cells v.cells.toList∧∀u∈v.cells.toList,u.oneCell=true:=by
  intro x hx he hr
  have ho:=hr.oneCell hx
  rw [he,oneCell_cells ho]
  refine ⟨?_,by simpa using ho⟩
  simp only [RepCs]
  exact ⟨v,[],rfl,hr,rfl⟩
 cases c with
 | agg cs=>
  simp only [RepC] at h
  obtain ⟨vs,rfl,hr⟩:=h
  refine ⟨hr,fun u hu=>?_⟩
  obtain ⟨j,hj,hju⟩:=List.getElem_of_mem hu
  have hl:=hr.length
  have hu':vs[j]?=some u:=by rw [←hju]; exact List.getElem?_eq_getElem hj
  have hj':j<cs.length:=by rw [hl]; exact (List.getElem?_eq_some_iff.1 hu').1
  have hx:=List.all_eq_true.1 h1 cs[j] (List.getElem_mem hj')
  exact ((repCs_iff.1 hr).2 j _ u (List.getElem?_eq_getElem hj') hu').oneCell hx
 | tup=>simp [C.cells,C.one] at h1
 | dead=>simp [C.cells,C.one] at h1
 | osl=>simp [C.cells,C.one] at h1
 | _=>exact one _ rfl rfl h
theorem C.d?_sound {F:Nat→Prop} {w:World} {ob:Obs K} {pl:Rf→Pl} {c:C K.U} {v:Value} {d:D K.U} (h:RepC F w ob pl c v) (hd:c.d?=some d):RepD K F w d v:=by
 cases c <;> simp only [C.d?,Option.some.injEq,reduceCtorEq] at hd
 ·subst hd; simpa only [RepC] using h
 ·subst hd; simp only [RepC] at h; exact h.1
theorem C.ds?_sound {F:Nat→Prop} {w:World} {ob:Obs K} {pl:Rf→Pl}:∀{cs:List (C K.U)} {vs:List Value} {ds:List (D K.U)},RepCs F w ob pl cs vs→C.ds? cs=some ds→RepCs F w ob pl (ds.map .d) vs
 | [],vs,ds,h,hd=>by simp only [C.ds?,Option.some.injEq] at hd; subst hd; exact h
 | c :: cs,vs,ds,h,hd=>by
  simp only [C.ds?] at hd
  split at hd
  ·rename_i y ys h1 h2
   simp only [Option.some.injEq] at hd; subst hd
   simp only [RepCs] at h
   obtain ⟨v,rest,rfl,h3,h4⟩:=h
   simp only [List.map_cons,RepCs]
   exact ⟨v,rest,rfl,by simpa only [RepC] using C.d?_sound h3 h1,C.ds?_sound h4 h2⟩
  ·cases hd
theorem decV_sound {F:Nat→Prop} {w:World} {ob:Obs K} {pl:Rf→Pl} (L:Laws K) {v:Vc K.U} {cs:List (C K.U)} {x:v.El} {us:List Value} (h:K.decV v cs=some x) (hr:RepCs F w ob pl cs us):
  RepCs F w ob pl (K.encV v x) us∧us.length=K.widthV v:=by
 cases v with
 | pure c=>
  simp only [Cfg.decV] at h
  split at h
  ·rename_i ds hds
   have h1:=C.ds?_sound hr hds
   obtain ⟨h2,h3⟩:=L.dec c ds x h
   have hl:=h1.length
   simp only [List.length_map] at hl
   refine ⟨repCs_iff.2 ⟨by simp only [Cfg.encV,List.length_map]; rw [←hl,h2,L.len],fun j y u hy hu=>?_⟩,by simp [Cfg.widthV,←h2,hl]⟩
   simp only [Cfg.encV,List.getElem?_map,Option.map_eq_some_iff] at hy
   obtain ⟨d',hd',rfl⟩:=hy
   have hj:j<ds.length:=by rw [hl]; exact (List.getElem?_eq_some_iff.1 hu).1
   have:=(repCs_iff.1 h1).2 j (.d ds[j]) u (by simp [hj]) hu
   simp only [RepC] at this ⊢
   exact this.le (h3 j _ d' (List.getElem?_eq_getElem hj) hd')
  ·cases h
 | ptr=>
  simp only [Cfg.decV] at h
  unfold decPtr at h
  split at h <;> simp only [Option.some.injEq,reduceCtorEq] at h
  all_goals
   simp only [RepCs] at hr
   obtain ⟨u,rest,rfl,h1,rfl⟩:=hr
   subst h
   refine ⟨?_,rfl⟩
   simp only [Cfg.encV,RepCs]
   refine ⟨u,[],rfl,?_,rfl⟩
   first
    | exact h1
    | (simp only [RepC] at h1 ⊢; first|exact h1|(cases h1; rfl))
 | raw n=>
  simp only [Cfg.decV] at h
  split at h
  ·rename_i hn
   simp only [Option.some.injEq] at h; subst h
   exact ⟨hr,by rw [←hr.length]; exact hn.1⟩
  ·cases h
 | row=>
  simp only [Cfg.decV] at h
  unfold decRow at h
  split at h
  ·cases h
   have:=hr
   simp only [RepCs] at this
   obtain ⟨u,rest,rfl,h1,rfl⟩:=this
   exact ⟨hr,rfl⟩
  ·cases h
theorem run_storeVar (L:Laws K) {t:TypeId} {i:TI} (h:K.ti t=some i) {w:World} {b o:Nat} {v:Value} {vs:List Value} {e:TypeId} (hb:w.heap[b]?=some (.cells vs.toArray e (0,0)))
  (hs:v.cells.size=i.size) (hl:o+v.cells.size≤vs.length) (h1:∀u∈v.cells.toList,u.oneCell=true):
  (storeVar t (at' b o) v).run K.P w=.ok () (w.setRow b (splice vs o v.cells.toList).toArray):=by
 have hst:=run_storeCells_at K.P b o e v.cells.toList 0 vs.toArray w hb (by simpa using hl) fun u hu=>oneCell_oneCell' (h1 u hu)
 simp only [Nat.add_zero] at hst
 simp only [storeVar,Sem.run_bind,run_sizeOf' L h,Result.andThen,hs,ne_eq,not_true_eq_false,if_false]
 simpa [splice] using hst
theorem setRow_size (w:World) (g:Nat) (cs:Array Value):(w.setRow g cs).heap.size=w.heap.size:=by simp [World.setRow]
theorem Upd.row {F:Nat→Prop} {w:World} {ob:Obs K} {pl:Rf→Pl} {r:Rf} {o x:O K.U} {p:Pl} (hr:ob r=some o) (ho:Owns K o (pl r)) (hp:p.blk=(pl r).blk)
  (hc:Compat K o (pl r) x p) (cs:Array Value):Upd K F w ob pl r x p (w.setRow (pl r).blk cs):=
 ⟨fun o' h=>by rw [hr] at h; cases h; exact hc,rfl,rfl,rfl,Nat.le_of_eq (setRow_size w _ _).symm,fun b _ hb=>setRow_other w _ _ _ (by rw [←hp]; exact hb),.inr ⟨o,hr,ho,hp⟩⟩
theorem row_ne {i row wd j:Nat} (h:i ≠ row) (hj:j<wd):i * wd+j<row * wd∨row * wd+wd≤i * wd+j:=by
 rcases Nat.lt_or_ge i row with h1|h1
 ·left
  have:(i+1) * wd≤row * wd:=Nat.mul_le_mul_right _ h1
  rw [Nat.add_mul] at this; omega
 ·right
  have:(row+1) * wd≤i * wd:=Nat.mul_le_mul_right _ (by omega)
  rw [Nat.add_mul] at this; omega
theorem ArrIn.set {F:Nat→Prop} {w:World} {ob:Obs K} {pl:Rf→Pl} {v:Vc K.U} {xs:List v.El} {vs us:List Value} {row col:Nat} {x:v.El} (h:ArrIn F w ob pl v xs vs)
  (hrow:(row+1) * K.widthV v≤vs.length) (hcol:col+us.length≤K.widthV v)
  (hx:RepCs F w ob pl (K.encV v x) (splice ((vs.drop (row * K.widthV v)).take (K.widthV v)) col us)):
  ArrIn F w ob pl v (xs.set row x) (splice vs (row * K.widthV v+col) us):=by
 rw [Nat.add_mul,Nat.one_mul] at hrow
 have hfit:row * K.widthV v+col+us.length≤vs.length:=by omega
 intro i y hy
 rw [List.getElem?_set] at hy
 by_cases e:row=i
 ·subst e
  simp only [if_true] at hy
  split at hy
  ·cases hy
   have:((splice vs (row * K.widthV v+col) us).drop (row * K.widthV v)).take (K.widthV v)=splice ((vs.drop (row * K.widthV v)).take (K.widthV v)) col us:=by
    apply List.ext_getElem?
    intro j
    rw [List.getElem?_take,List.getElem?_drop,splice_get hfit,splice_get (by simp; omega),List.getElem?_take,List.getElem?_drop]
    by_cases hj:j<K.widthV v
    ·simp only [hj,if_true]
     by_cases h1:j<col
     ·rw [if_pos h1,if_pos (by omega)]
     ·rw [if_neg h1,if_neg (by omega)]
      by_cases h2:j<col+us.length
      ·rw [if_pos h2,if_pos (by omega)]; congr 1; omega
      ·rw [if_neg h2,if_neg (by omega)]
    ·simp only [hj,if_false]
     rw [if_neg (by omega),if_neg (by omega)]
   rw [this]
   exact hx
  ·cases hy
 ·rw [if_neg e] at hy
  have:((splice vs (row * K.widthV v+col) us).drop (i * K.widthV v)).take (K.widthV v)=(vs.drop (i * K.widthV v)).take (K.widthV v):=by
   apply List.ext_getElem?
   intro j
   rw [List.getElem?_take,List.getElem?_take,List.getElem?_drop,List.getElem?_drop]
   by_cases hj:j<K.widthV v
   ·simp only [hj,if_true]
    rw [splice_get hfit]
    rcases row_ne (Ne.symm e) hj with h1|h1
    ·rw [if_pos (by omega)]
    ·rw [if_neg (by omega),if_neg (by omega)]
   ·simp only [hj,if_false]
  rw [this]
  exact h i y hy
theorem Mem.store {F:Nat→Prop} {w:World} {loc:Loc K.U} {H:List (O K.U)} {pl:Rf→Pl} (L:Laws K) (M:Mem K F w (getO loc H) pl) {t:TypeId} {a c:K.CC} {va vc:Value} {r:Out K.U}
  (ha:RepC F w (getO loc H) pl a va) (hc:RepC F w (getO loc H) pl c vc) (h:K.store loc H t a c=some r) (hok:r.ok=true):
  ∃w' ref x,(Instr.storeAt t va vc).run K.P w=.ok () w'∧r.v=.tup []∧r.wr=[(ref,x)]∧(∃o,getO loc H ref=some o)∧Upd K F w (getO loc H) pl ref x (pl ref) w'∧
   RepO F w' (setOb (getO loc H) ref x) (setPl pl ref (pl ref)) (pl ref) x∧K.bnd x:=by
 unfold Cfg.store at h
 split at h
 ·cases h
 ·rename_i i hi
  split at h
  ·rename_i hsz
   obtain ⟨hcs,hone⟩:=hc.cells hsz.2
   have hln:c.cells.length=vc.cells.toList.length:=hcs.length
   have hsize:vc.cells.size=i.size:=by rw [←hsz.1,hln]; simp
   split at h
   ·rename_i ref off
    simp only [RepC] at ha
    obtain ⟨⟨cs0,hr0⟩,rfl⟩:=ha
    split at h
    ·rename_i cs hr
     rw [hr] at hr0; cases hr0
     split at h
     ·rename_i hfit
      simp only [Option.some.injEq] at h; subst h
      obtain ⟨vs,e,hb,hrep,h1⟩:=M.rep ref _ hr
      have hvl:=hrep.length
      have hlen:off+vc.cells.size≤vs.length:=by rw [←Array.length_toList]; omega
      have U:Upd K F w (getO loc H) pl ref (.cells (splice cs0 off c.cells)) (pl ref) (w.setRow (pl ref).blk (splice vs off vc.cells.toList).toArray):=
       .row hr trivial rfl ⟨⟨_,rfl⟩,rfl⟩ _
      refine ⟨_,ref,_,?_,rfl,rfl,⟨_,hr⟩,U,?_,trivial⟩
      ·simp only [Instr.storeAt,Instr.sureAddr,Sem.run_bind,Sem.run_pure,Result.andThen]
       exact run_storeVar L hi hb hsize hlen hone
      ·refine ⟨_,e,setRow_heap w _ _ _ e _ hb,?_,fun v hv=>?_⟩
       ·exact repCs_splice (U.repCs M hrep) (U.repCs M hcs) hfit
       ·rcases splice_mem hv with hv|hv
        ·exact h1 v hv
        ·exact hone v hv
     ·cases h
    ·cases h
   ·rename_i ref gen row col
    simp only [RepC] at ha
    obtain ⟨_,o0,g0,n0,wd0,hr0,hi0,hg0,hv0⟩:=ha
    split at h
    ·rename_i g v xs hr
     rw [hr] at hr0; cases hr0
     simp only [Cfg.arrI,Option.some.injEq,Prod.mk.injEq] at hi0
     obtain ⟨rfl,rfl,rfl⟩:=hi0
     split at h
     ·rename_i hfit
      split at h
      ·rename_i x hx
       simp only [Option.some.injEq] at h; subst h
       simp only [andB_true,beq_iff_eq,ltN,lenL] at hok
       obtain ⟨e1,e2⟩:=hok
       have e2:=of_decide_eq_true e2
       have hva:=hv0 e1.symm
       subst hva
       rcases M.rep ref _ hr with ⟨_,rfl⟩|⟨vs,e,hb,hl,hle,h1,hin⟩
       ·simp at e2
       ·have hrow:xs[row]?=some (rdN (K.dfltV v) xs row):=by simp [rdN,e2]
        have hw1:(row+1) * K.widthV v≤vs.length:=by rw [hl]; exact Nat.mul_le_mul_right _ (by omega)
        have hw2:row * K.widthV v+K.widthV v≤vs.length:=by rw [Nat.add_mul,Nat.one_mul] at hw1; exact hw1
        have hold:=hin row _ hrow
        have hol:=hold.length
        simp only [List.length_take,List.length_drop] at hol
        have hcap:(pl ref).cap ≠ 0:=by omega
        have U:Upd K F w (getO loc H) pl ref (.arr g v (setL xs row x)) (pl ref) (w.setRow (pl ref).blk (splice vs (row * K.widthV v+col) vc.cells.toList).toArray):=
         .row hr hcap rfl (.arr rfl rfl (Nat.le_refl _) fun _=>⟨by simp [setL],rfl,rfl,rfl⟩) _
        have hcol:col+vc.cells.toList.length≤K.widthV v:=by omega
        refine ⟨_,ref,_,?_,rfl,rfl,⟨_,hr⟩,U,?_,by have:=M.bnd _ _ hr; simpa [Cfg.bnd,setL] using this⟩
        ·simp only [Instr.storeAt,Instr.sureAddr,Sem.run_bind,Sem.run_pure,Result.andThen]
         exact run_storeVar L hi hb hsize (by rw [←Array.length_toList]; omega) hone
        ·refine .inr ⟨_,e,setRow_heap w _ _ _ e _ hb,?_,by simpa [setL] using hle,fun u hu=>?_,?_⟩
         ·rw [splice_length (by omega)]; exact hl
         ·rcases splice_mem hu with hu|hu
          ·exact h1 u hu
          ·exact hone u hu
         ·refine ArrIn.set (fun i y hy=>U.repCs M (hin i y hy)) hw1 hcol (decV_sound L hx ?_).1
          exact repCs_splice (U.repCs M hold) (U.repCs M hcs) hfit
      ·cases h
     ·cases h
    ·cases h
   ·cases h
  ·cases h
end
end Go.Abs
