/- LEMMAS: new objects. Conditions: none. -/
import Derived.Test.YtaldbipmbkapmaaDoorA7
import Derived.Laws.MakeOwn
import Derived.Laws.AppendOwn
namespace Go.Abs
set_option linter.unusedVariables false
set_option linter.unusedSimpArgs false
section
variable {K:Cfg} {F:Nat→Prop} {w:World} {pl:Rf→Pl}
theorem Z.of_sound {ob:Obs K} {v:Value} {z:Z} (h:Z.of v=some z):RepC F w ob pl (.d z.d) v:=by
 unfold Z.of at h
 split at h
 ·split at h
  ·rename_i e; subst e
   simp only [Option.some.injEq] at h; subst h
   exact repC_int.2 rfl
  ·cases h
 ·rename_i b
  cases b <;> simp at h
  subst h
  exact repC_bool.2 rfl
 ·rename_i s
  split at h
  ·rename_i e
   simp only [Option.some.injEq] at h; subst h
   have:s=⟨#[]⟩:=by
    obtain ⟨d⟩:=s
    simp only [Array.size_eq_zero_iff] at e
    rw [e]
   rw [this]
   exact repC_str.2 ⟨rfl,by decide⟩
  ·cases h
 ·simp only [Option.some.injEq] at h; subst h
  exact repC_nilp.2 rfl
 ·split at h
  ·rename_i e
   obtain ⟨rfl,rfl⟩:=e
   simp only [Option.some.injEq] at h; subst h
   exact repC_nils.2 rfl
  ·cases h
 ·simp only [Option.some.injEq] at h; subst h
  exact repC_nilm.2 rfl
 ·simp only [Option.some.injEq] at h; subst h
  exact repC_nilf.2 rfl
 ·simp only [Option.some.injEq] at h; subst h
  exact repC_nili.2 rfl
 ·cases h
theorem Z.one (z:Z):(C.d z.d:C K.U).one=true:=rfl
theorem zeros_sound {ob:Obs K}:∀{vs:List Value} {zs:List Z},vs.map Z.of=zs.map some→RepCs F w ob pl (C.ofZ zs) vs
 | [],[],_=>by simp [C.ofZ,RepCs]
 | v :: vs,z :: zs,h=>by
  simp only [List.map_cons,List.cons.injEq] at h
  simp only [C.ofZ,List.map_cons,RepCs]
  exact ⟨v,vs,rfl,Z.of_sound h.1,zeros_sound h.2⟩
 | [],_ :: _,h=>by simp at h
 | _ :: _,[],h=>by simp at h
theorem ofZ_one (zs:List Z):(C.ofZ zs:List (C K.U)).all C.one=true:=by
 simp only [C.ofZ,List.all_map,List.all_eq_true]
 intro z _; rfl
theorem ofZ_length (zs:List Z):(C.ofZ zs:List (C K.U)).length=zs.length:=by simp [C.ofZ]
theorem zero_sound (L:Laws K) {t:TypeId} {i:TI} (h:K.ti t=some i) (hk:i.kind ≠ .tuple) (ob:Obs K):
  ∃z j,K.P.info? t=some j∧j.zero=some z∧j.size=i.size∧j.bytes=i.bytes∧RepCs F w ob pl (C.ofZ i.zero) z.cells.toList∧(∀u∈z.cells.toList,u.oneCell=true)∧
   z.cells.size=i.zero.length∧(i.agg=match z with|.agg _=>true|_=>false):=by
 obtain ⟨d,j,_,_,h3,h4,h5,h6⟩:=ti_spec L h
 cases hz:j.zero with
 | none=>rw [hz] at h6; exact absurd h6 hk
 | some z=>
  rw [hz] at h6
  have hr:=zeros_sound (K:=K) (F:=F) (w:=w) (ob:=ob) (pl:=pl) h6.1
  refine ⟨z,j,h3,hz,h4,h5,hr,fun u hu=>?_,?_,h6.2⟩
  ·obtain ⟨n,hn,e⟩:=List.getElem_of_mem hu
   have hl:=hr.length
   have hu':z.cells.toList[n]?=some u:=by rw [←e]; exact List.getElem?_eq_getElem hn
   have hj:n<(C.ofZ i.zero:List (C K.U)).length:=by rw [hl]; exact hn
   exact ((repCs_iff.1 hr).2 n _ u (List.getElem?_eq_getElem hj) hu').oneCell (List.all_eq_true.1 (ofZ_one i.zero) _ (List.getElem_mem hj))
  ·have hl:=hr.length
   rw [ofZ_length] at hl
   simpa using hl.symm
theorem whole_spec {i:TI} (h:i.whole=true):i.kind ≠ .tuple∧i.zero.length=i.size:=by
 unfold TI.whole at h
 split at h
 ·cases h
 ·rename_i hk
  exact ⟨fun e=>hk e,by simpa using h⟩
theorem run_zeroValue {P:Program} {t:TypeId} {j:TypeInfo} {z:Value} (h:P.info? t=some j) (hz:j.zero=some z) (w:World):(zeroValue t).run P w=.ok z w:=by
 simp [zeroValue,typeInfo,h,hz]
theorem fitsV_spec {v:Vc K.U} {j:TI} (h:K.fitsV v j=true):K.widthV v=j.size∧∀c,v=.pure c→K.bytesC c=j.bytes:=by
 simp only [Cfg.fitsV,Bool.and_eq_true] at h
 refine ⟨Nat.eq_of_beq_eq_true h.1,?_⟩
 rintro c rfl
 exact Nat.eq_of_beq_eq_true h.2
theorem bndV_of {v:Vc K.U} {j:TI} {n:Nat} (hb:∀c,v=.pure c→K.bytesC c=j.bytes) (h:n * j.bytes≤room):K.bndV v n:=by
 cases v with
 | pure c=>simp only [Cfg.bndV]; rw [hb c rfl]; exact h
 | _=>trivial
theorem bnd_nil (v:Vc K.U):K.bnd (.arr 0 v ([]:List v.El)):=by
 cases v <;> simp [Cfg.bnd,Cfg.bndV]
theorem newO_spec {loc:Loc K.U} {H:List (O K.U)} {slot:Option Nat} {r:Rf} (h:newO loc H slot=some r):getO loc H r=none∧∀n,r=.g n→n≤H.length:=by
 unfold newO at h
 split at h
 ·split at h
  ·rename_i h0
   simp only [Option.some.injEq] at h; subst h
   exact ⟨h0,fun n e=>by cases e⟩
  ·cases h
 ·simp only [Option.some.injEq] at h; subst h
  exact ⟨by simp [getO],fun n e=>by cases e; exact Nat.le_refl _⟩
theorem Upd.new {ob:Obs K} {r:Rf} {x:O K.U} {p:Pl} {w':World} (hr:ob r=none) (hp:p.blk=w.heap.size) (h1:w'.os=w.os) (h2:w'.tape=w.tape) (h3:w'.output=w.output)
  (h4:w.heap.size≤w'.heap.size) (h5:∀b,b<w.heap.size→w'.heap[b]?=w.heap[b]?) (h6:Owns K x p→p.blk<w'.heap.size):Upd K F w ob pl r x p w':=
 ⟨fun o h=>absurd (hr.symm.trans h) (by simp),h1,h2,h3,h4,fun b hb _=>h5 b hb,.inl ⟨hp,h6⟩⟩
theorem Upd.alloc {ob:Obs K} {r:Rf} {x:O K.U} {p:Pl} (obj:Obj) (hr:ob r=none) (hp:p.blk=w.heap.size):Upd K F w ob pl r x p (w.alloc obj):=
 .new hr hp rfl rfl rfl (by simp) (fun b hb=>heap_alloc_old w obj b hb) fun _=>by rw [hp]; simp
theorem new_cells {loc:Loc K.U} {H:List (O K.U)} (M:Mem K F w (getO loc H) pl) {r:Rf} (hr:getO loc H r=none) {cs:List (C K.U)} {vs:Array Value} (t:TypeId)
  (h:RepCs F w (getO loc H) pl cs vs.toList) (h1:∀u∈vs.toList,u.oneCell=true):
  Upd K F w (getO loc H) pl r (.cells cs) ⟨w.heap.size,0⟩ (w.alloc (.cells vs t))∧
   RepO F (w.alloc (.cells vs t)) (setOb (getO loc H) r (.cells cs)) (setPl pl r ⟨w.heap.size,0⟩) ⟨w.heap.size,0⟩ (.cells cs):=by
 have U:Upd K F w (getO loc H) pl r (.cells cs) ⟨w.heap.size,0⟩ (w.alloc (.cells vs t)):=.alloc _ hr rfl
 exact ⟨U,vs.toList,t,by rw [Array.toArray_toList]; exact heap_alloc_new w _,U.repCs M h,h1⟩
theorem new_empty {loc:Loc K.U} {H:List (O K.U)} {r:Rf} (hr:getO loc H r=none) (v:Vc K.U):
  Upd K F w (getO loc H) pl r (.arr 0 v []) ⟨w.heap.size,0⟩ w∧RepO F w (setOb (getO loc H) r (.arr 0 v [])) (setPl pl r ⟨w.heap.size,0⟩) ⟨w.heap.size,0⟩ (.arr 0 v []):=
 ⟨.new hr rfl rfl rfl rfl (Nat.le_refl _) (fun _ _=>rfl) fun h=>absurd rfl h,.inl ⟨rfl,rfl⟩⟩
structure Rows' (F:Nat→Prop) (w:World) (ob:Obs K) (pl:Rf→Pl) (v:Vc K.U) (xs:List v.El) (us:List Value):Prop where
 len:us.length=xs.length * K.widthV v
 one:∀u∈us,u.oneCell=true
 row:ArrIn F w ob pl v xs us
theorem Rows'.nil {ob:Obs K} (v:Vc K.U):Rows' F w ob pl v [] []:=⟨by simp,by simp,fun i x h=>by simp at h⟩
theorem ArrIn.app {ob:Obs K} {v:Vc K.U} {xs ys:List v.El} {us us':List Value} (hl:us.length=xs.length * K.widthV v) (h:ArrIn F w ob pl v xs us) (h':ArrIn F w ob pl v ys us'):
  ArrIn F w ob pl v (xs ++ ys) (us ++ us'):=by
 intro i x hx
 rw [List.getElem?_append] at hx
 split at hx
 ·rename_i hi
  have:=h i x hx
  have e:((us ++ us').drop (i * K.widthV v)).take (K.widthV v)=(us.drop (i * K.widthV v)).take (K.widthV v):=by
   have hle:(i+1) * K.widthV v≤us.length:=by rw [hl]; exact Nat.mul_le_mul_right _ hi
   rw [Nat.add_mul,Nat.one_mul] at hle
   rw [List.drop_append_of_le_length (by omega),List.take_append_of_le_length (by simp; omega)]
  rw [e]; exact this
 ·rename_i hi
  have:=h' _ x hx
  have e:(us ++ us').drop (i * K.widthV v)=us'.drop ((i - xs.length) * K.widthV v):=by
   have hle:xs.length * K.widthV v≤i * K.widthV v:=Nat.mul_le_mul_right _ (by omega)
   rw [List.drop_append,List.drop_eq_nil_of_le (by omega),List.nil_append,hl,Nat.sub_mul]
  rw [e]; exact this
theorem ArrIn.more {ob:Obs K} {v:Vc K.U} {xs:List v.El} {us:List Value} (hl:us.length=xs.length * K.widthV v) (h:ArrIn F w ob pl v xs us) (us':List Value):ArrIn F w ob pl v xs (us ++ us'):=by
 have:=ArrIn.app (ys:=[]) (us':=us') hl h fun i x hx=>by simp at hx
 simpa using this
theorem Rows'.app {ob:Obs K} {v:Vc K.U} {xs ys:List v.El} {us us':List Value} (h:Rows' F w ob pl v xs us) (h':Rows' F w ob pl v ys us'):Rows' F w ob pl v (xs ++ ys) (us ++ us'):=
 ⟨by simp [h.len,h'.len,Nat.add_mul],fun u hu=>(List.mem_append.1 hu).elim (h.one u) (h'.one u),.app h.len h.row h'.row⟩
theorem ArrIn.mono {F':Nat→Prop} {w':World} {pl':Rf→Pl} {ob ob':Obs K} {v:Vc K.U} {xs:List v.El} {us:List Value} (hF:∀b,F b→F' b) (hw:∀b,F b→w'.heap[b]?=w.heap[b]?)
  (ho:∀r o,ob r=some o→∃o',ob' r=some o'∧Compat K o (pl r) o' (pl' r)) (h:ArrIn F w ob pl v xs us):ArrIn F' w' ob' pl' v xs us:=
 fun i x hx=>(h i x hx).mono hF hw ho
theorem ArrIn.piece {ob:Obs K} {v:Vc K.U} {xs:List v.El} {us:List Value} (h:ArrIn F w ob pl v xs us) (one:∀u∈us,u.oneCell=true) {o n:Nat} (hn:o+n≤xs.length) (hl:xs.length * K.widthV v≤us.length):
  Rows' F w ob pl v ((xs.drop o).take n) ((us.drop (o * K.widthV v)).take (n * K.widthV v)):=by
 have h1:(o+n) * K.widthV v≤us.length:=Nat.le_trans (Nat.mul_le_mul_right _ hn) hl
 rw [Nat.add_mul] at h1
 refine ⟨by simp; rw [Nat.min_eq_left (by omega),Nat.min_eq_left (by omega)],fun u hu=>one u (List.mem_of_mem_drop (List.mem_of_mem_take hu)),fun i x hx=>?_⟩
 rw [List.getElem?_take] at hx
 split at hx
 ·rename_i hi
  rw [List.getElem?_drop] at hx
  have:=h _ x hx
  have hle:(i+1) * K.widthV v≤n * K.widthV v:=Nat.mul_le_mul_right _ hi
  rw [Nat.add_mul,Nat.one_mul] at hle
  have e:(((us.drop (o * K.widthV v)).take (n * K.widthV v)).drop (i * K.widthV v)).take (K.widthV v)=(us.drop ((o+i) * K.widthV v)).take (K.widthV v):=by
   rw [List.drop_take,List.take_take,List.drop_drop,Nat.add_mul,Nat.min_eq_left (by omega)]
  rw [e]; exact this
 ·cases hx
theorem run_firstCells {P:Program} {w2:World} (hw2:w2.heap=w.heap) {size n:Nat} {a:Option Addr} {len cap:Nat} {us:List Value} (hl:us.length=n * size)
  (h:∀j u,us[j]?=some u→∃b,a=some b∧w.cell? (b.add j)=some u):(Builtin.firstCells size n (.slice a len cap)).run P w2=.ok us.toArray w2:=by
 cases a with
 | none=>
  have:us=[]:=by
   cases us with
   | nil=>rfl
   | cons u us=>obtain ⟨b,e,_⟩:=h 0 u rfl; cases e
  subst this
  simp [Builtin.firstCells]
 | some b=>
  exact run_firstCells_some w2 size n b len cap us hl fun j u hu=>by
   obtain ⟨b',e,h'⟩:=h j u hu
   cases e
   simpa only [World.cell?,hw2] using h'
theorem row_at {wd n i j:Nat} (hi:i<n) (hj:j<wd):i * wd+j<n * wd∧(i * wd+j) / wd=i∧(i * wd+j) % wd=j:=by
 have h0:0<wd:=by omega
 refine ⟨?_,?_,?_⟩
 ·have:(i+1) * wd≤n * wd:=Nat.mul_le_mul_right _ hi
  rw [Nat.add_mul] at this; omega
 ·rw [Nat.mul_comm,Nat.mul_add_div h0,Nat.div_eq_of_lt hj,Nat.add_zero]
 ·rw [Nat.mul_comm,Nat.mul_add_mod,Nat.mod_eq_of_lt hj]
theorem data_source (L:Laws K) {ob:Obs K} {c:K.U.Ty} {xs:List (K.U.El c)} {a:Option Addr} {m cap:Nat} (h:RepD K F w (.sl c xs) (.slice a m cap)):
  m=xs.length∧∃us:List Value,(∀w2:World,w2.heap=w.heap→∀len cap',(Builtin.firstCells (K.width c) m (.slice a len cap')).run K.P w2=.ok us.toArray w2)∧Rows' F w ob pl (.pure c) xs us:=by
 cases h with
 | sl0=>exact ⟨rfl,[],fun _ hw2 len cap'=>run_firstCells hw2 (by simp) (by simp),.nil (.pure c)⟩
 | sl _ _ b off _ f hF hcap hcell hrep _=>
  have len:((List.range (xs.length * K.width c)).map fun q=>f (q / K.width c) (q % K.width c)).length=xs.length * K.width c:=by simp
  have get:∀i x,xs[i]?=some x→∀j,j<K.width c→((List.range (xs.length * K.width c)).map fun q=>f (q / K.width c) (q % K.width c))[i * K.width c+j]?=some (f i j):=by
   intro i x hx j hj
   obtain ⟨h1,h2,h3⟩:=row_at (List.getElem?_eq_some_iff.1 hx).1 hj
   simp [h1,h2,h3]
  have all:∀q u,((List.range (xs.length * K.width c)).map fun q=>f (q / K.width c) (q % K.width c))[q]?=some u→
    ∃i x j d,xs[i]?=some x∧(K.enc c x)[j]?=some d∧q=i * K.width c+j∧u=f i j:=by
   intro q u hu
   simp only [List.getElem?_map,Option.map_eq_some_iff] at hu
   obtain ⟨q',hq,rfl⟩:=hu
   have hq':=List.getElem?_eq_some_iff.1 hq
   simp only [List.length_range,List.getElem_range] at hq'
   obtain ⟨hlt,rfl⟩:=hq'
   have h0:0<K.width c:=by
    rcases Nat.eq_zero_or_pos (K.width c) with e|e
    ·rw [e] at hlt; simp at hlt
    ·exact e
   have hi:q / K.width c<xs.length:=(Nat.div_lt_iff_lt_mul h0).2 hlt
   have hj:q % K.width c<(K.enc c xs[q / K.width c]).length:=by rw [L.len]; exact Nat.mod_lt _ h0
   exact ⟨_,_,_,_,List.getElem?_eq_getElem hi,List.getElem?_eq_getElem hj,by rw [Nat.mul_comm]; exact (Nat.div_add_mod _ _).symm,rfl⟩
  refine ⟨rfl,_,fun _ hw2 l' c'=>run_firstCells hw2 len fun q u hu=>?_,len,fun u hu=>?_,fun i x hx=>?_⟩
  ·obtain ⟨i,x,j,d,h1,h2,rfl,rfl⟩:=all q u hu
   exact ⟨_,rfl,by rw [at_add,←Nat.add_assoc]; exact hcell i x h1 j d h2⟩
  ·obtain ⟨q,hq,e⟩:=List.getElem_of_mem hu
   obtain ⟨i,x,j,d,h1,h2,_,rfl⟩:=all q u (by rw [←e]; exact List.getElem?_eq_getElem hq)
   exact (hrep i x h1 j d h2).oneCell
  ·have hi:=(List.getElem?_eq_some_iff.1 hx).1
   have hle:(i+1) * K.width c≤xs.length * K.width c:=Nat.mul_le_mul_right _ hi
   rw [Nat.add_mul,Nat.one_mul] at hle
   refine repCs_iff.2 ⟨by simp only [Cfg.encV,Cfg.widthV,List.length_map,L.len,List.length_take,List.length_drop,List.length_range]; omega,fun j y u hy hu=>?_⟩
   simp only [Cfg.encV,List.getElem?_map,Option.map_eq_some_iff] at hy
   obtain ⟨d,hd,rfl⟩:=hy
   have hj:j<K.width c:=by rw [←L.len c x]; exact (List.getElem?_eq_some_iff.1 hd).1
   simp only [Cfg.widthV,List.getElem?_take,hj,if_true,List.getElem?_drop] at hu
   rw [get i x hx j hj] at hu
   cases hu
   simp only [RepC]
   exact hrep i x hx j d hd
theorem castL_some {α:Type} [DecidableEq α] {G:α→Type} {a b:α} {xs:List (G a)} {ys:List (G b)} (h:castL xs=some ys):∃e:a=b,e▸xs=ys:=by
 unfold castL at h
 split at h
 ·rename_i e
  simp only [Option.some.injEq] at h
  exact ⟨e,h⟩
 ·cases h
theorem subBy_eq {α:Type} (sub:Option (Nat×Nat)) (xs:List α):subBy sub xs=(xs.drop (sub? sub xs.length).1).take (sub? sub xs.length).2:=by
 cases sub with
 | none=>simp [subBy,sub?]
 | some p=>rfl
theorem Mem.piece (L:Laws K) {loc:Loc K.U} {H:List (O K.U)} (M:Mem K F w (getO loc H) pl) {r:Rf} {gen:Nat} {sub:Option (Nat×Nat)} {cl:Bool} {v:Value} {g:Nat} {vc:Vc K.U} {xs:List vc.El} {o:O K.U}
  (hr:getO loc H r=some o) (ho:o=.arr g vc xs∨∃c ys,o=.fro g c ys∧∃e:Vc.pure c=vc,(e▸ys:List vc.El)=xs) (hg:g=gen) (hs:subOk sub (lenL xs)=true)
  (hx:RepC F w (getO loc H) pl (.asl r gen sub cl) v):
  ∃a cap,v=.slice a (lenL (subBy sub xs)) cap∧∃us:List Value,(∀w2:World,w2.heap=w.heap→∀len cap',(Builtin.firstCells (K.widthV vc) (lenL (subBy sub xs)) (.slice a len cap')).run K.P w2=.ok us.toArray w2)∧
   Rows' F w (getO loc H) pl vc (subBy sub xs) us:=by
 have hI:K.arrI o=some (g,xs.length,K.widthV vc):=by
  rcases ho with rfl|⟨c,ys,rfl,e,h⟩
  ·rfl
  ·subst e; obtain rfl:ys=xs:=h; rfl
 obtain ⟨a,rfl,ha,hlen⟩:=M.slice hr hI hg hx
 have hle:=subOk_le hs
 simp only [lenL] at hle
 have hsl:lenL (subBy sub xs)=(sub? sub xs.length).2:=by
  rw [subBy_eq]; simp [lenL]; omega
 rw [hsl]
 refine ⟨a,_,rfl,?_⟩
 by_cases e0:(sub? sub xs.length).2=0
 ·have:subBy sub xs=[]:=List.eq_nil_of_length_eq_zero (by simpa [lenL] using hsl.trans e0)
  rw [this,e0]
  exact ⟨[],fun _ hw2 len cap'=>run_firstCells hw2 (by simp) (by simp),.nil vc⟩
 ·have hl:=hlen (by omega)
  have hcap:(if cl then (sub? sub xs.length).2 else (pl r).cap - (sub? sub xs.length).1) ≠ 0:=by cases cl <;> simp <;> omega
  rw [ha hcap]
  rcases ho with rfl|⟨c,ys,rfl,e,h⟩
  ·rcases M.rep r _ hr with ⟨_,rfl⟩|⟨vs,et,hb,hvl,hxl,h1,hin⟩
   ·exact absurd (show (sub? sub 0).2=0 by have h0:(sub? sub 0).1+(sub? sub 0).2≤0:=hle; omega) e0
   ·have hp:=hin.piece h1 hle (by rw [hvl]; exact Nat.mul_le_mul_right _ hxl)
    rw [subBy_eq]
    refine ⟨_,fun _ hw2 len cap'=>run_firstCells hw2 ?_ fun j u hu=>⟨_,rfl,?_⟩,hp⟩
    ·rw [hp.len]; congr 1; simp; omega
    ·rw [at_add,cell_of_row w _ _ _ et (0,0) hb]
     rw [List.getElem?_take] at hu
     split at hu
     ·rw [List.getElem?_drop] at hu; simpa using hu
     ·cases hu
  ·subst e; obtain rfl:ys=xs:=h
   rcases M.rep r _ hr with rfl|hrep
   ·exact absurd (show (sub? sub 0).2=0 by have h0:(sub? sub 0).1+(sub? sub 0).2≤0:=hle; omega) e0
   ·have hp:=repD_piece hrep (l:=(sub? sub ys.length).1) (h:=(sub? sub ys.length).1+(sub? sub ys.length).2) (by omega) hle (m:=(pl r).cap) (by omega)
    have e1:dropL (sub? sub ys.length).1 (takeL ((sub? sub ys.length).1+(sub? sub ys.length).2) ys)=subBy sub ys:=by
     rw [subBy_eq,dropL,takeL,List.drop_take,Nat.add_sub_cancel_left]
    rw [e1,Nat.add_sub_cancel_left,if_neg (by omega)] at hp
    simp only [Option.map_some,at_add,Nat.zero_add] at hp
    obtain ⟨_,us,h1,h2⟩:=data_source L (ob:=getO loc H) (pl:=pl) hp
    exact ⟨us,h1,h2⟩
theorem rowsOf_sound (L:Laws K) {loc:Loc K.U} {H:List (O K.U)} (M:Mem K F w (getO loc H) pl) {vc:Vc K.U} {y:C K.U} {v:Value} {ok:Bool} {ys:List vc.El} (h:K.rowsOf loc H vc y=some (ok,ys)) (hok:ok=true)
  (hy:RepC F w (getO loc H) pl y v):
  ∃a cap,v=.slice a ys.length cap∧∃us:List Value,(∀w2:World,w2.heap=w.heap→∀len cap',(Builtin.firstCells (K.widthV vc) ys.length (.slice a len cap')).run K.P w2=.ok us.toArray w2)∧Rows' F w (getO loc H) pl vc ys us:=by
 unfold Cfg.rowsOf at h
 split at h
 ·simp only [Option.some.injEq,Prod.mk.injEq] at h
  obtain ⟨_,rfl⟩:=h
  rw [repC_nils] at hy; subst hy
  exact ⟨none,0,rfl,[],fun _ hw2 len cap'=>run_firstCells hw2 (by simp) (by simp),.nil vc⟩
 ·simp only [Option.map_eq_some_iff,Prod.mk.injEq] at h
  obtain ⟨zs,hz,_,rfl⟩:=h
  obtain ⟨e,h'⟩:=castL_some hz
  subst e; cases h'
  simp only [RepC] at hy
  obtain ⟨a,cap,rfl,_⟩:=repD_len hy
  obtain ⟨_,us,h1,h2⟩:=data_source L (ob:=getO loc H) (pl:=pl) hy
  exact ⟨a,cap,rfl,us,h1,h2⟩
 ·simp only [Option.map_eq_some_iff,Prod.mk.injEq] at h
  obtain ⟨zs,hz,_,rfl⟩:=h
  obtain ⟨e,h'⟩:=castL_some hz
  subst e; cases h'
  simp only [RepC] at hy
  obtain ⟨a,cap,rfl,_⟩:=repD_len hy.1
  obtain ⟨_,us,h1,h2⟩:=data_source L (ob:=getO loc H) (pl:=pl) hy.1
  exact ⟨a,cap,rfl,us,h1,h2⟩
 ·split at h
  ·rename_i hr
   split at h
   ·rename_i zs hz
    simp only [Option.some.injEq,Prod.mk.injEq] at h
    obtain ⟨rfl,rfl⟩:=h
    obtain ⟨e,h'⟩:=castL_some hz
    subst e; cases h'
    simp only [andB_true,beq_iff_eq] at hok
    exact M.piece L hr (.inl rfl) hok.1 hok.2 hy
   ·cases h
  ·rename_i hr
   split at h
   ·rename_i zs hz
    simp only [Option.some.injEq,Prod.mk.injEq] at h
    obtain ⟨rfl,rfl⟩:=h
    obtain ⟨e,h'⟩:=castL_some hz
    simp only [andB_true,beq_iff_eq] at hok
    exact M.piece L hr (.inr ⟨_,_,rfl,e,h'⟩) hok.1 hok.2 hy
   ·cases h
  ·cases h
 ·cases h
end
end Go.Abs
