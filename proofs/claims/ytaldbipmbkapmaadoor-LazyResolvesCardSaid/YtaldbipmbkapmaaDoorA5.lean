/- LEMMAS: operations that leave memory as it is. Conditions: none. -/
import Derived.Test.YtaldbipmbkapmaaDoorA4
import Derived.Laws.StructEq
import GoSem.Dispatch
namespace Go.Abs
set_option linter.unusedVariables false
set_option linter.unusedSimpArgs false
section
variable {K:Cfg} {F:Nat→Prop} {w:World} {ob:Obs K} {pl:Rf→Pl}
theorem repC_int {k:IntKind} {n:Int} {v:Value}:RepC F w ob pl (.d (.int k n)) v↔v=.int k n:=by
 simp only [RepC]; exact ⟨fun h=>by cases h; rfl,fun h=>h▸.int k n⟩
theorem repC_bool {b:Bool} {v:Value}:RepC F w ob pl (.d (.bool b)) v↔v=.bool b:=by
 simp only [RepC]; exact ⟨fun h=>by cases h; rfl,fun h=>h▸.bool b⟩
theorem repC_str {s:ByteArray} {v:Value}:RepC F w ob pl (.d (.str s)) v↔v=.string s∧s.size≤maxStr:=by
 simp only [RepC]; exact ⟨fun h=>by cases h; exact ⟨rfl,‹_›⟩,fun h=>h.1▸.str s h.2⟩
theorem repC_nilp {v:Value}:RepC F w ob pl (.d .nilp) v↔v=.pointer none:=by
 simp only [RepC]; exact ⟨fun h=>by cases h; rfl,fun h=>h▸.nilp⟩
theorem repC_nilf {v:Value}:RepC F w ob pl (.d .nilf) v↔v=.nilFunc:=by
 simp only [RepC]; exact ⟨fun h=>by cases h; rfl,fun h=>h▸.nilf⟩
theorem repC_nilm {v:Value}:RepC F w ob pl (.d .nilm) v↔v=.map none:=by
 simp only [RepC]; exact ⟨fun h=>by cases h; rfl,fun h=>h▸.nilm⟩
theorem repC_nils {v:Value}:RepC F w ob pl (.d .nils) v↔v=.slice none 0 0:=by
 simp only [RepC]; exact ⟨fun h=>by cases h; rfl,fun h=>h▸.nils⟩
theorem repC_nili {v:Value}:RepC F w ob pl (.d .nili) v↔v=.nilIface:=by
 simp only [RepC]; exact ⟨fun h=>by cases h; rfl,fun h=>h▸.nili⟩
theorem eqI_iff {a b:Int}:eqI a b=true↔a=b:=by simp [eqI]
theorem leI_iff {a b:Int}:leI a b=true↔a≤b:=by simp [leI]
theorem notB_iff {a:Bool}:notB a=true↔a=false:=by simp [notB]
theorem inB_iff {i:Int} {n:Nat}:inB i n=true↔0≤i∧i<n:=by simp [inB]
theorem natOp_sound {op:BinOp} {k:IntKind} {a b n:Int} {ok:Bool} (h:natOp k op a b=some (n,ok)) (hok:ok=true) (t:TypeId) (P:Program):
  (binOp op t (.int k a) (.int k b)).run P w=.ok (.int k n) w:=by
 cases op <;> simp only [natOp,Option.some.injEq,Prod.mk.injEq,reduceCtorEq] at h <;> obtain ⟨rfl,rfl⟩:=h
 case quo=>
  have:b ≠ 0:=by simpa [notB,eqI] using hok
  simp [binOp,Op.intDiv,this,quoW]
 case rem=>
  have:b ≠ 0:=by simpa [notB,eqI] using hok
  simp [binOp,Op.intDiv,this,remW]
 all_goals simp [binOp,Op.intArith,Op.intBits,addW,subW,mulW,andW,orW,xorW,andNotW]
theorem cmpOp_sound {op:BinOp} {k:IntKind} {a b:Int} {r:Bool} (h:cmpOp op a b=some r) (t:TypeId) (P:Program):
  (binOp op t (.int k a) (.int k b)).run P w=.ok (.bool r) w:=by
 cases op <;> simp only [cmpOp,Option.some.injEq,reduceCtorEq] at h <;> subst h <;>
  simp [binOp,Op.intCmp,eqI,ltI,leI,notB,bne]
theorem strOp_sound {op:BinOp} {x y:ByteArray} {ok:Bool} {d:D K.U} (h:strOp op x y=some (ok,d)) (hok:ok=true) (t:TypeId) (P:Program):
  ∃v,(binOp op t (.string x) (.string y)).run P w=.ok v w∧RepC F w ob pl (.d d) v:=by
 cases op <;> simp only [strOp,Option.some.injEq,Prod.mk.injEq,reduceCtorEq] at h <;> obtain ⟨rfl,rfl⟩:=h
 case add=>
  have hs:x.size+y.size≤maxStr:=of_decide_eq_true hok
  have hr:¬(((x.size+y.size:Nat):Int) > IntKind.i64.max):=by
   simp only [maxStr] at hs
   have:IntKind.i64.max=9223372036854775807:=by decide
   omega
  refine ⟨_,?_,repC_str.2 ⟨rfl,by simpa [strAdd] using hs⟩⟩
  simp only [binOp,Op.stringOp,hr,if_false]
  rfl
 all_goals exact ⟨_,rfl,repC_bool.2 rfl⟩
theorem kind_is (L:Laws K) {t:TypeId} {i:TI} (h:K.ti t=some i):∃d,K.P.underlying t=some d∧i.kind.is d=true:=by
 obtain ⟨d,_,h1,h2,_⟩:=ti_spec L h
 exact ⟨d,h1,h2⟩
theorem nil_isNil {k:TK} {x:C K.U} {a:Bool} (h:x.nil=true) (hx:x.isNil k=some a):a=true:=by
 unfold C.nil at h
 unfold C.isNil at hx
 split at hx <;> simp_all
theorem isNil_ptr {e:TypeId} {x:C K.U} {a:Bool} {v:Value} (h:x.isNil (.ptr e)=some a) (r:RepC F w ob pl x v):∃p,v=.pointer p∧a=p.isNone:=by
 unfold C.isNil at h
 split at h <;> simp only [Option.some.injEq,reduceCtorEq,TK.ptr.injEq] at * <;> subst h
 ·exact ⟨none,repC_nilp.1 r,rfl⟩
 ·rename_i o _
  cases o with
  | none=>simp only [RepC] at r; exact ⟨none,r,rfl⟩
  | some n=>simp only [RepC] at r; exact ⟨_,r.2,rfl⟩
 ·simp only [RepC] at r; exact ⟨_,r.2,rfl⟩
 ·simp only [RepC] at r; obtain ⟨⟨a,rfl⟩,_⟩:=r; exact ⟨_,rfl,rfl⟩
 ·simp only [RepC] at r; obtain ⟨_,_,rfl,_⟩:=r; exact ⟨_,rfl,rfl⟩
theorem isNil_func {x:C K.U} {a:Bool} {v:Value} (h:x.isNil .func=some a) (r:RepC F w ob pl x v):(v=.nilFunc∧a=true)∨((∃f b c,v=.func f b c)∧a=false):=by
 unfold C.isNil at h
 split at h <;> simp only [Option.some.injEq,reduceCtorEq] at * <;> subst h
 ·exact .inl ⟨repC_nilf.1 r,rfl⟩
 ·simp only [RepC] at r; obtain ⟨_,_,rfl,_⟩:=r; exact .inr ⟨⟨_,_,_,rfl⟩,rfl⟩
 ·simp only [RepC] at r; obtain ⟨_,_,rfl,_⟩:=r; exact .inr ⟨⟨_,_,_,rfl⟩,rfl⟩
theorem isNil_map {k e:TypeId} {x:C K.U} {a:Bool} {v:Value} (h:x.isNil (.map k e)=some a) (r:RepC F w ob pl x v):∃p,v=.map p∧a=p.isNone:=by
 unfold C.isNil at h
 split at h <;> simp only [Option.some.injEq,reduceCtorEq] at * <;> subst h
 ·exact ⟨none,repC_nilm.1 r,rfl⟩
 ·simp only [RepC] at r; exact ⟨_,r.2,rfl⟩
theorem isNil_slice {e:TypeId} {x:C K.U} {a:Bool} {v:Value} (h:x.isNil (.slice e)=some a) (r:RepC F w ob pl x v):v=.slice none 0 0∧a=true:=by
 unfold C.isNil at h
 split at h <;> simp only [Option.some.injEq,reduceCtorEq] at * <;> subst h
 exact ⟨repC_nils.1 r,rfl⟩
theorem run_equal {t:TypeId} {x y:Value} {b:Bool} (h:∀d,(Op.equalIn (d+1) t x y).run K.P w=.ok b w):(Op.equal t x y).run K.P w=.ok b w:=h 9999
theorem nil_sound (L:Laws K) {t:TypeId} {i:TI} (h:K.ti t=some i) {x y:C K.U} {a b:Bool} (hn:(x.nil || y.nil)=true) (hx:x.isNil i.kind=some a) (hy:y.isNil i.kind=some b)
  {vx vy:Value} (rx:RepC F w ob pl x vx) (ry:RepC F w ob pl y vy):(Op.equal t vx vy).run K.P w=.ok (andB a b) w:=by
 obtain ⟨d,h1,h2⟩:=kind_is L h
 obtain ⟨kind,size,bytes,zero⟩:=i
 have hab:a=true∨b=true:=by
  rcases Bool.or_eq_true _ _▸hn with h|h
  ·exact .inl (nil_isNil h hx)
  ·exact .inr (nil_isNil h hy)
 cases kind with
 | ptr e=>
  cases d <;> first|exact (Bool.false_ne_true h2).elim|skip
  obtain ⟨p,rfl,rfl⟩:=isNil_ptr hx rx
  obtain ⟨q,rfl,rfl⟩:=isNil_ptr hy ry
  cases p <;> cases q <;> (refine run_equal fun d=>?_; simp_all [Op.equalIn,run_underlying h1,andB])
 | func=>
  cases d <;> first|exact (Bool.false_ne_true h2).elim|skip
  rcases isNil_func hx rx with ⟨rfl,rfl⟩|⟨⟨_,_,_,rfl⟩,rfl⟩ <;> rcases isNil_func hy ry with ⟨rfl,rfl⟩|⟨⟨_,_,_,rfl⟩,rfl⟩ <;>
   (refine run_equal fun d=>?_; simp_all [Op.equalIn,run_underlying h1,andB])
 | map k e=>
  cases d <;> first|exact (Bool.false_ne_true h2).elim|skip
  obtain ⟨p,rfl,rfl⟩:=isNil_map hx rx
  obtain ⟨q,rfl,rfl⟩:=isNil_map hy ry
  cases p <;> cases q <;> (refine run_equal fun d=>?_; simp_all [Op.equalIn,run_underlying h1,andB])
 | slice e=>
  cases d <;> first|exact (Bool.false_ne_true h2).elim|skip
  obtain ⟨rfl,rfl⟩:=isNil_slice hx rx
  obtain ⟨rfl,rfl⟩:=isNil_slice hy ry
  exact run_equal fun d=>by simp [Op.equalIn,run_underlying h1,andB]
 | _=>simp [C.isNil] at hx
def chunkV (agg:Bool) (us:List Value):Value:=if agg then .agg us.toArray else us.getD 0 undef
theorem take_append_drop_get {α:Type} {l:List α} {a n:Nat} {us:List α} (h:(l.drop a).take n=us) (hn:us.length=n):(l.toArray.extract a (a+n))=us.toArray:=by
 subst h
 simp
theorem run_part (L:Laws K) {t:TypeId} {i:TI} (h:K.ti t=some i) {xs us:List Value} {off:Nat} (hu:(xs.drop off).take i.size=us) (hl:us.length=i.size) (h0:i.agg=false→0<i.size):
  (part t xs.toArray off).run K.P w=.ok (chunkV i.agg us) w:=by
 simp only [part,Sem.run_bind,run_isAgg L h,Result.andThen_ok,chunkV]
 cases ha:i.agg with
 | true=>
  simp only [if_true,Sem.run_bind,run_sizeOf' L h,Result.andThen_ok]
  rw [take_append_drop_get hu hl]
  rfl
 | false=>
  have:=h0 ha
  have e:xs[off]?=us[0]?:=by
   rw [←hu,List.getElem?_take,if_pos this,List.getElem?_drop,Nat.add_zero]
  have e':us[0]?=some (us.getD 0 undef):=by
   rw [List.getD_eq_getElem?_getD,List.getElem?_eq_getElem (by omega)]; rfl
  simp only [Bool.false_eq_true,if_false,List.getElem?_toArray]
  rw [e,e']
  rfl
theorem sameCells_length:∀{zs:List Z} {xs ys:List (C K.U)} {b:Bool},sameCells zs xs ys=some b→xs.length=zs.length∧ys.length=zs.length
 | [],[],[],_,_=>⟨rfl,rfl⟩
 | z :: zs,x :: xs,y :: ys,b,h=>by
  simp only [sameCells] at h
  split at h
  ·rename_i h1 h2
   have:=sameCells_length h2
   simp [this.1,this.2]
  ·cases h
 | [],_ :: _,_,_,h=>by simp [sameCells] at h
 | [],[],_ :: _,_,h=>by simp [sameCells] at h
 | _ :: _,[],_,_,h=>by simp [sameCells] at h
 | _ :: _,_ :: _,[],_,h=>by simp [sameCells] at h
theorem sameCells_split (n:Nat):∀{zs:List Z} {xs ys:List (C K.U)} {b:Bool},sameCells zs xs ys=some b→
  ∃b1 b2,sameCells (zs.take n) (xs.take n) (ys.take n)=some b1∧sameCells (zs.drop n) (xs.drop n) (ys.drop n)=some b2∧b=andB b1 b2:=by
 induction n with
 | zero=>intro zs xs ys b h; exact ⟨true,b,by simp [sameCells],by simpa using h,by simp [andB]⟩
 | succ n ih=>
  intro zs xs ys b h
  match zs,xs,ys,h with
  | [],[],[],h=>exact ⟨true,true,by simp [sameCells],by simp [sameCells],by simp [sameCells] at h; simp [andB,←h]⟩
  | z :: zs,x :: xs,y :: ys,h=>
   simp only [sameCells] at h
   split at h
   ·rename_i a b' h1 h2
    obtain ⟨b1,b2,k1,k2,rfl⟩:=ih h2
    simp only [Option.some.injEq] at h
    refine ⟨andB a b1,b2,by simp [sameCells,h1,k1],by simpa using k2,by rw [←h]; simp [andB,Bool.and_assoc]⟩
   ·cases h
  | [],_ :: _,_,h=>simp [sameCells] at h
  | [],[],_ :: _,h=>simp [sameCells] at h
  | _ :: _,[],_,h=>simp [sameCells] at h
  | _ :: _,_ :: _,[],h=>simp [sameCells] at h
theorem sameZ_sound (L:Laws K) {t:TypeId} {i:TI} {z:Z} {k:IntKind} (hi:K.ti t=some i) (hz:i.kind=.int k∧z=.int k∨i.kind=.bool∧z=.bool∨i.kind=.str∧z=.str) {x y:C K.U} {b:Bool}
  (h:sameZ z x y=some b) {u v:Value} (hx:RepC F w ob pl x u) (hy:RepC F w ob pl y v) (d:Nat):(Op.equalIn (d+1) t u v).run K.P w=.ok b w:=by
 obtain ⟨dd,h1,h2⟩:=kind_is L hi
 unfold sameZ at h
 split at h
 ·split at h
  ·rename_i hk
   simp only [Option.some.injEq] at h; subst h
   obtain ⟨rfl,rfl⟩:=hk
   rw [repC_int] at hx hy; subst hx hy
   rcases hz with ⟨e,e'⟩|⟨_,e⟩|⟨_,e⟩
   ·rw [e] at h2
    cases dd <;> first|exact (Bool.false_ne_true h2).elim|skip
    simp [Op.equalIn,run_underlying h1,eqI]
   ·cases e
   ·cases e
  ·cases h
 ·simp only [Option.some.injEq] at h; subst h
  rw [repC_bool] at hx hy; subst hx hy
  rcases hz with ⟨_,e⟩|⟨e,_⟩|⟨_,e⟩
  ·cases e
  ·rw [e] at h2
   cases dd <;> first|exact (Bool.false_ne_true h2).elim|skip
   simp [Op.equalIn,run_underlying h1,eqB]
  ·cases e
 ·simp only [Option.some.injEq] at h; subst h
  obtain ⟨rfl,_⟩:=repC_str.1 hx
  obtain ⟨rfl,_⟩:=repC_str.1 hy
  rcases hz with ⟨_,e⟩|⟨_,e⟩|⟨e,_⟩
  ·cases e
  ·cases e
  ·rw [e] at h2
   cases dd <;> first|exact (Bool.false_ne_true h2).elim|skip
   simp [Op.equalIn,run_underlying h1,strEq,beq_toListBytes]
 ·cases h
theorem agg_pos {n:Nat} {t:TypeId} {i:TI} (hp:K.plainT n t=true) (hi:K.ti t=some i) (ha:i.agg=false):0<i.size:=by
 cases n with
 | zero=>simp [Cfg.plainT] at hp
 | succ n=>
  simp only [Cfg.plainT,hi,Bool.and_eq_true,beq_iff_eq] at hp
  obtain ⟨h1,h2⟩:=hp
  split at h2
  ·simp only [beq_iff_eq] at h2; rw [←h1,h2]; simp
  ·simp only [beq_iff_eq] at h2; rw [←h1,h2]; simp
  ·simp only [beq_iff_eq] at h2; rw [←h1,h2]; simp
  ·rename_i fs hk
   simp [TI.agg,hk] at ha
  ·cases h2
theorem eq_plain (L:Laws K):∀(n:Nat) (t:TypeId) (i:TI),K.plainT n t=true→K.ti t=some i→∀(xs ys:List (C K.U)) (us vs:List Value) (b:Bool),
  RepCs F w ob pl xs us→RepCs F w ob pl ys vs→sameCells i.zero xs ys=some b→∀d,(Op.equalIn (d+n) t (chunkV i.agg us) (chunkV i.agg vs)).run K.P w=.ok b w:=by
 intro n
 induction n with
 | zero=>intro t i hp; simp [Cfg.plainT] at hp
 | succ n ih=>
  intro t i hp hi xs ys us vs b hx hy hs d
  simp only [Cfg.plainT,hi,Bool.and_eq_true,beq_iff_eq] at hp
  obtain ⟨hlen,hp⟩:=hp
  have atom:∀z,i.zero=[z]→i.agg=false→(∃k,i.kind=.int k∧z=.int k∨i.kind=.bool∧z=.bool∨i.kind=.str∧z=.str)→
    (Op.equalIn (d+(n+1)) t (chunkV i.agg us) (chunkV i.agg vs)).run K.P w=.ok b w:=by
   intro z hz ha ⟨k,hk⟩
   rw [hz] at hs
   match xs,ys,hs with
   | [x],[y],hs=>
    simp only [sameCells] at hs
    split at hs
    ·rename_i a b' h1 h2
     simp only [Option.some.injEq] at hs h2
     subst h2
     simp only [RepCs] at hx hy
     obtain ⟨u,_,rfl,hx,rfl⟩:=hx
     obtain ⟨v,_,rfl,hy,rfl⟩:=hy
     have hab:a=b:=by rw [←hs]; simp [andB]
     subst hab
     have:=sameZ_sound L hi hk h1 hx hy (d+n)
     simp only [ha,chunkV,Bool.false_eq_true,if_false,List.getD_cons_zero]
     exact this
    ·cases hs
   | [],_,hs=>simp [sameCells] at hs
   | _ :: _ :: _,_,hs=>have:=(sameCells_length hs).1; simp at this
   | [_],[],hs=>simp [sameCells] at hs
   | [_],_ :: _ :: _,hs=>have:=(sameCells_length hs).2; simp at this
  split at hp
  ·rename_i k hk
   exact atom _ (by simpa using hp) (by simp [TI.agg,hk]) ⟨k,.inl ⟨hk,rfl⟩⟩
  ·rename_i hk
   exact atom _ (by simpa using hp) (by simp [TI.agg,hk]) ⟨.i64,.inr (.inl ⟨hk,rfl⟩)⟩
  ·rename_i hk
   exact atom _ (by simpa using hp) (by simp [TI.agg,hk]) ⟨.i64,.inr (.inr ⟨hk,rfl⟩)⟩
  ·rename_i fs hk
   simp only [Bool.and_eq_true,Bool.not_eq_true',List.all_eq_true] at hp
   obtain ⟨⟨hst,htl⟩,hall⟩:=hp
   have ha:i.agg=true:=by simp [TI.agg,hk]
   obtain ⟨dd,h1,h2⟩:=kind_is L hi
   rw [hk] at h2
   cases dd <;> first|exact (Bool.false_ne_true h2).elim|skip
   rename_i fs'
   simp only [TK.is,Bool.and_eq_true,beq_iff_eq,List.all_eq_true] at h2
   obtain ⟨hfs,hnm⟩:=h2
   have hof:K.P.fieldsOf t=fs':=by simp [Program.fieldsOf,h1]
   simp only [ha,chunkV,if_true]
   rw [Nat.add_succ,run_equalIn_struct w _ t _ _ (by rw [hof]; exact h1) hst,hof]
   have go:∀(gs:List Field) (a:Nat) (b:Bool),(∀f∈gs,f∈fs'.toList)→K.tiles i.zero (gs.map fun f=>(f.type,f.offset)) a i.size=true→
     sameCells (i.zero.drop a) (xs.drop a) (ys.drop a)=some b→(Op.eqFields (d+n) us.toArray vs.toArray gs).run K.P w=.ok b w:=by
    intro gs
    induction gs with
    | nil=>
     intro a b _ ht hs
     simp only [List.map_nil,Cfg.tiles,beq_iff_eq] at ht
     have:=sameCells_length hs
     have e1:i.zero.drop a=[]:=List.drop_eq_nil_of_le (by omega)
     rw [e1] at hs this
     have e2:xs.drop a=[]:=List.eq_nil_of_length_eq_zero this.1
     have e3:ys.drop a=[]:=List.eq_nil_of_length_eq_zero this.2
     rw [e2,e3] at hs
     simp only [sameCells,Option.some.injEq] at hs
     subst hs
     simp [Op.eqFields]
    | cons f gs ihg=>
     intro a b hmem ht hs
     have hf:=hmem f (by simp)
     have hin:(f.type,f.offset)∈fs:=by rw [←hfs]; exact List.mem_map_of_mem hf
     have hpf:=hall _ hin
     have hname : f.name ≠ "_" := by simpa using hnm f hf
     simp only [List.map_cons,Cfg.tiles,Bool.and_eq_true,beq_iff_eq] at ht
     obtain ⟨ho,ht⟩:=ht
     split at ht
     ·rename_i j hj
      simp only [Bool.and_eq_true,beq_iff_eq] at ht
      obtain ⟨hz,ht⟩:=ht
      obtain ⟨b1,b2,k1,k2,rfl⟩:=sameCells_split j.size hs
      rw [List.drop_drop,List.drop_drop,List.drop_drop] at k2
      rw [←ho,hz] at k1
      have hr:=ihg (a+j.size) b2 (fun g hg=>hmem g (by simp [hg])) ht k2
      have hjl:j.zero.length=j.size:=by
       cases n with
       | zero=>simp [Cfg.plainT] at hpf
       | succ n=>simp only [Cfg.plainT,hj,Bool.and_eq_true,beq_iff_eq] at hpf; exact hpf.1
      have rx:=repCs_take (repCs_drop hx f.offset) j.size
      have ry:=repCs_take (repCs_drop hy f.offset) j.size
      have lx:((us.drop f.offset).take j.size).length=j.size:=by rw [←rx.length,(sameCells_length k1).1,hjl]
      have ly:((vs.drop f.offset).take j.size).length=j.size:=by rw [←ry.length,(sameCells_length k1).2,hjl]
      have he:=ih f.type j hpf hj _ _ _ _ b1 rx ry k1 d
      simp only [Op.eqFields,hname,ne_eq,not_false_eq_true,if_true,Sem.run_bind,run_part L hj rfl lx (agg_pos hpf hj),run_part L hj rfl ly (agg_pos hpf hj),he,Result.andThen_ok]
      cases b1
      ·simp [andB]
      ·simpa [andB] using hr
     ·cases ht
   refine go fs'.toList 0 b (fun f hf=>hf) ?_ (by simpa using hs)
   rw [hfs]; exact htl
  ·cases hp
theorem eqGuard_atom (op:BinOp) (t:TypeId) (X Y:Operand) {x y:Value} (hx:∀cs,x ≠ .agg cs) (hn:x ≠ .nilIface) (P:Program):(eqGuard op t X Y x y).run P w=.ok () w:=by
 cases op <;> first|rfl|(cases x <;> first|rfl|exact absurd rfl hn|exact absurd rfl (hx _))
theorem binOp_eq {t:TypeId} {x y:Value} {b:Bool} (h:(Op.equal t x y).run K.P w=.ok b w) (h1:∀k a,x ≠ .int k a) (h2:∀k a,x ≠ .float k a) (h3:∀k a c,x ≠ .complex k a c)
  (h4:∀s,x ≠ .string s):
  (binOp .eql t x y).run K.P w=.ok (.bool b) w∧(binOp .neq t x y).run K.P w=.ok (.bool (notB b)) w:=by
 constructor
 all_goals
  unfold binOp
  split <;> simp_all [notB]
theorem eqGuard_agg (op:BinOp) (t:TypeId) (X Y:Operand) {x y:Value} {P:Program} (h:P.eqGuardType P.depth t=false) (hn:x ≠ .nilIface):(eqGuard op t X Y x y).run P w=.ok () w:=by
 cases op <;> first|rfl|(cases x <;> first|rfl|exact absurd rfl hn|(cases y <;> first|rfl|simp [eqGuard,h]))
theorem C.nil_isNil_value {k:TK} {x:C K.U} {a:Bool} {v:Value} (hx:x.isNil k=some a) (r:RepC F w ob pl x v):
  (∀cs,v ≠ .agg cs)∧v ≠ .nilIface∧(∀k a,v ≠ .int k a)∧(∀k a,v ≠ .float k a)∧(∀k a c,v ≠ .complex k a c)∧∀s,v ≠ .string s:=by
 cases k with
 | ptr e=>obtain ⟨p,rfl,_⟩:=isNil_ptr hx r; simp
 | func=>rcases isNil_func hx r with ⟨rfl,_⟩|⟨⟨_,_,_,rfl⟩,_⟩ <;> simp
 | map k e=>obtain ⟨p,rfl,_⟩:=isNil_map hx r; simp
 | slice e=>obtain ⟨rfl,_⟩:=isNil_slice hx r; simp
 | _=>simp [C.isNil] at hx
theorem binOp_sound (L:Laws K) {op:BinOp} {t:TypeId} {X Y:Operand} {x y c:C K.U} {u v:Value} {ok:Bool} (h:K.binOp op t x y=some (ok,c)) (hok:ok=true)
  (hx:RepC F w ob pl x u) (hy:RepC F w ob pl y v):
  ∃z,(do eqGuard op t X Y u v; binOp op t u v:Sem Value).run K.P w=.ok z w∧RepC F w ob pl c z:=by
 have key:∀z,(∀cs,u ≠ .agg cs)→u ≠ .nilIface→(binOp op t u v).run K.P w=.ok z w→RepC F w ob pl c z→
   ∃z,(do eqGuard op t X Y u v; binOp op t u v:Sem Value).run K.P w=.ok z w∧RepC F w ob pl c z:=by
  intro z h1 h2 h3 h4
  exact ⟨z,by simp only [Sem.run_bind,eqGuard_atom op t X Y h1 h2,Result.andThen_ok,h3],h4⟩
 unfold Cfg.binOp at h
 split at h
 ·-- shl
  simp only [Option.some.injEq,Prod.mk.injEq] at h
  obtain ⟨rfl,rfl⟩:=h
  rw [repC_int] at hx hy; subst hx hy
  have:=leI_iff.1 hok
  refine key _ (by simp) (by simp) ?_ (repC_int.2 rfl)
  simp [binOp,Op.shift,Int.not_lt.2 this,shlW]
 ·simp only [Option.some.injEq,Prod.mk.injEq] at h
  obtain ⟨rfl,rfl⟩:=h
  rw [repC_int] at hx hy; subst hx hy
  have:=leI_iff.1 hok
  refine key _ (by simp) (by simp) ?_ (repC_int.2 rfl)
  simp [binOp,Op.shift,Int.not_lt.2 this,shrW]
 ·split at h
  ·rename_i hk
   subst hk
   rw [repC_int] at hx hy; subst hx hy
   split at h
   ·rename_i hn
    simp only [Option.some.injEq,Prod.mk.injEq] at h
    obtain ⟨rfl,rfl⟩:=h
    exact key _ (by simp) (by simp) (natOp_sound hn hok t K.P) (repC_int.2 rfl)
   ·simp only [Option.map_eq_some_iff,Prod.mk.injEq] at h
    obtain ⟨r,hr,rfl,rfl⟩:=h
    exact key _ (by simp) (by simp) (cmpOp_sound hr t K.P) (repC_bool.2 rfl)
  ·cases h
 ·obtain ⟨rfl,_⟩:=repC_str.1 hx
  obtain ⟨rfl,_⟩:=repC_str.1 hy
  simp only [Option.map_eq_some_iff] at h
  obtain ⟨⟨ok',d⟩,h1,h2⟩:=h
  simp only [Prod.mk.injEq] at h2
  obtain ⟨rfl,rfl⟩:=h2
  obtain ⟨z,h3,h4⟩:=strOp_sound (F:=F) (w:=w) (ob:=ob) (pl:=pl) h1 hok t K.P
  exact key z (by simp) (by simp) h3 h4
 ·split at h
  ·rename_i hi
   simp only [Option.some.injEq,Prod.mk.injEq] at h
   obtain ⟨rfl,rfl⟩:=h
   rw [repC_bool] at hx hy; subst hx hy
   obtain ⟨d,h1,h2⟩:=kind_is L hi
   cases d <;> first|exact (Bool.false_ne_true h2).elim|skip
   refine key (.bool (eqB _ _)) (by simp) (by simp) ?_ (repC_bool.2 rfl)
   exact (binOp_eq (run_equal fun d=>by simp [Op.equalIn,run_underlying h1,eqB]) (by simp) (by simp) (by simp) (by simp)).1
  ·cases h
 ·split at h
  ·rename_i hi
   simp only [Option.some.injEq,Prod.mk.injEq] at h
   obtain ⟨rfl,rfl⟩:=h
   rw [repC_bool] at hx hy; subst hx hy
   obtain ⟨d,h1,h2⟩:=kind_is L hi
   cases d <;> first|exact (Bool.false_ne_true h2).elim|skip
   refine key (.bool (notB (eqB _ _))) (by simp) (by simp) ?_ (repC_bool.2 rfl)
   exact (binOp_eq (run_equal fun d=>by simp [Op.equalIn,run_underlying h1,eqB]) (by simp) (by simp) (by simp) (by simp)).2
  ·cases h
 ·split at h
  ·rename_i i hi
   split at h
   ·rename_i hp
    simp only [RepC] at hx hy
    obtain ⟨us,rfl,rx⟩:=hx
    obtain ⟨vs,rfl,ry⟩:=hy
    split at h
    ·rename_i b hs
     have ha:∀d,(Op.equalIn (d+8) t (.agg us.toArray) (.agg vs.toArray)).run K.P w=.ok b w:=by
      intro d
      have:=eq_plain L 8 t i hp.2.1 hi _ _ _ _ b rx ry hs d
      simpa only [chunkV,hp.1,if_true] using this
     have he:(Op.equal t (.agg us.toArray) (.agg vs.toArray)).run K.P w=.ok b w:=ha 9992
     obtain ⟨e1,e2⟩:=binOp_eq he (by simp) (by simp) (by simp) (by simp)
     split at h <;> simp only [Option.some.injEq,Prod.mk.injEq,reduceCtorEq] at h
     ·obtain ⟨rfl,rfl⟩:=h
      exact ⟨_,by simp only [Sem.run_bind,eqGuard_agg _ t X Y (x:=.agg us.toArray) hp.2.2 (by simp),Result.andThen_ok,e1],repC_bool.2 rfl⟩
     ·obtain ⟨rfl,rfl⟩:=h
      exact ⟨_,by simp only [Sem.run_bind,eqGuard_agg _ t X Y (x:=.agg us.toArray) hp.2.2 (by simp),Result.andThen_ok,e2],repC_bool.2 rfl⟩
    ·cases h
   ·cases h
  ·cases h
 ·split at h
  ·rename_i hi
   split at h
   ·rename_i hn
    split at h
    ·rename_i a b ha hb
     have he:=nil_sound L hi hn ha hb hx hy
     obtain ⟨k1,k2,k3,k4,k5,k6⟩:=C.nil_isNil_value ha hx
     obtain ⟨e1,e2⟩:=binOp_eq he k3 k4 k5 k6
     split at h <;> simp only [Option.some.injEq,Prod.mk.injEq,reduceCtorEq] at h
     ·obtain ⟨rfl,rfl⟩:=h
      exact key _ k1 k2 e1 (repC_bool.2 rfl)
     ·obtain ⟨rfl,rfl⟩:=h
      exact key _ k1 k2 e2 (repC_bool.2 rfl)
    ·cases h
   ·cases h
  ·cases h
end
end Go.Abs
