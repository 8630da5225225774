/- LEMMAS: further operations that leave memory as it is. Conditions: none. -/
import Derived.Test.YtaldbipmbkapmaaDoorA6
namespace Go.Abs
set_option linter.unusedVariables false
set_option linter.unusedSimpArgs false
section
variable {K:Cfg} {F:Nat→Prop} {w:World} {pl:Rf→Pl}
theorem run_getObj {P:Program} {r:Nat} {o:Obj} (h:w.heap[r]?=some o) (hc:∀a b c,o ≠ .cells a b c):(getObj r).run P w=.ok o w:=by
 cases o <;> first|exact absurd rfl (hc _ _ _)|simp only [getObj,Sem.run,h]
theorem len_sound (L:Laws K) {loc:Loc K.U} {H:List (O K.U)} (M:Mem K F w (getO loc H) pl) {t ty:TypeId} {ts:List TypeId} {i:TI} (hi:K.ti t=some i) {x:C K.U} {ok:Bool} {n:Nat} {v:Value}
  (h:K.lenOf loc H i.kind x=some (ok,n)) (hok:ok=true) (hx:RepC F w (getO loc H) pl x v):
  (Builtin.len_ (t :: ts).toArray ty #[v]).run K.P w=.ok (.int .i64 n) w:=by
 have hslice:∀e,i.kind=.slice e→∀a l c,v=.slice a l c→(Builtin.len_ (t :: ts).toArray ty #[v]).run K.P w=.ok (.int .i64 (l:Nat)) w:=by
  rintro e hk a l c rfl
  simp [Builtin.len_,run_underlying (ti_slice L hi hk),goInt]
 generalize hk:i.kind=kd at h
 unfold Cfg.lenOf at h
 split at h
 ·simp only [Option.some.injEq,Prod.mk.injEq] at h
  obtain ⟨rfl,rfl⟩:=h
  obtain ⟨rfl,_⟩:=repC_str.1 hx
  simp [Builtin.len_,run_underlying (ti_str L hi hk),goInt,strLen]
 ·simp only [Option.some.injEq,Prod.mk.injEq] at h
  obtain ⟨rfl,rfl⟩:=h
  simp only [RepC] at hx
  obtain ⟨a,cap,rfl,_⟩:=repD_len hx
  exact hslice _ hk _ _ _ rfl
 ·simp only [Option.some.injEq,Prod.mk.injEq] at h
  obtain ⟨rfl,rfl⟩:=h
  simp only [RepC] at hx
  obtain ⟨a,cap,rfl,_⟩:=repD_len hx.1
  exact hslice _ hk _ _ _ rfl
 ·simp only [Option.some.injEq,Prod.mk.injEq] at h
  obtain ⟨rfl,rfl⟩:=h
  rw [repC_nils] at hx; subst hx
  exact hslice _ hk _ _ _ rfl
 ·split at h
  ·rename_i hr
   simp only [Option.some.injEq,Prod.mk.injEq] at h
   obtain ⟨rfl,rfl⟩:=h
   simp only [beq_iff_eq] at hok
   obtain ⟨a,rfl,_⟩:=M.slice hr rfl hok hx
   exact hslice _ hk _ _ _ rfl
  ·rename_i hr
   simp only [Option.some.injEq,Prod.mk.injEq] at h
   obtain ⟨rfl,rfl⟩:=h
   simp only [beq_iff_eq] at hok
   obtain ⟨a,rfl,_⟩:=M.slice hr rfl hok hx
   exact hslice _ hk _ _ _ rfl
  ·cases h
 ·split at h
  ·rename_i hr
   simp only [Option.some.injEq,Prod.mk.injEq] at h
   obtain ⟨rfl,rfl⟩:=h
   simp only [RepC] at hx
   obtain ⟨_,rfl⟩:=hx
   obtain ⟨en,cl,h1,h2,_⟩:=M.rep _ _ hr
   simp [Builtin.len_,run_underlying (ti_map L hi hk),goInt,run_getObj h1 (by simp),h2,lenL]
  ·cases h
 ·simp only [Option.some.injEq,Prod.mk.injEq] at h
  obtain ⟨rfl,rfl⟩:=h
  rw [repC_nilm] at hx; subst hx
  simp [Builtin.len_,run_underlying (ti_map L hi hk),goInt]
 ·cases h
theorem field_sound (L:Laws K) {ob:Obs K} {t ft:TypeId} {i j:TI} {fs:List (TypeId×Nat)} {n off:Nat} {cs:List (C K.U)} {c:C K.U} {v:Value} (hi:K.ti t=some i) (hk:i.kind=.strct fs)
  (hn:fs[n]?=some (ft,off)) (hj:K.ti ft=some j) (h:valOf j (cs.drop off)=some c) (hx:RepC F w ob pl (.agg cs) v):
  ∃u,(Instr.field t v n).run K.P w=.ok u w∧RepC F w ob pl c u:=by
 obtain ⟨fs',hu,hf⟩:=ti_strct L hi hk
 obtain ⟨f,hf,rfl,rfl⟩:=hf n ft off hn
 simp only [RepC] at hx
 obtain ⟨vs,rfl,hr⟩:=hx
 obtain ⟨h1,h2⟩:=valOf_sound h (repCs_drop hr f.offset)
 refine ⟨_,?_,h2⟩
 simp only [Instr.field,Sem.run_bind,run_underlying hu,Result.andThen_ok,hf,asAgg,Sem.run_pure,part,run_isAgg L hj]
 cases ha:j.agg with
 | true=>
  simp only [ha,if_true] at h1 ⊢
  simp only [Sem.run_bind,run_sizeOf' L hj,Result.andThen_ok,Sem.run_pure,List.extract_toArray,List.extract_eq_take_drop,Nat.add_sub_cancel_left]
 | false=>
  simp only [ha,Bool.false_eq_true,if_false] at h1 ⊢
  have e:(vs.toArray)[f.offset]?=some ((vs.drop f.offset).getD 0 undef):=by
   rw [List.getD_eq_getElem?_getD,List.getElem?_drop,Nat.add_zero,List.getElem?_toArray,List.getElem?_eq_getElem (by simp at h1; omega)]
   rfl
  rw [e]
  rfl
theorem index_sound (L:Laws K) {t:TypeId} {i:TI} {s:ByteArray} {k:IntKind} {n:Int} (hi:K.ti t=some i) (hk:i.kind=.str) (hb:inB n (strLen s)=true):
  (Instr.index t (.string s) (.int k n)).run K.P w=.ok (.int .u8 (byteAt s n)) w:=by
 rw [inB_iff] at hb
 have hlt:n.toNat<s.size:=by simp only [strLen] at hb; omega
 simp only [Instr.index,asIntOf,Sem.run_bind,Sem.run_pure,Result.andThen_ok,run_underlying (ti_str L hi hk),hb.1,if_true]
 rw [getElem?_pos s n.toNat hlt]
 simp only [Sem.run_pure,byteAt]
 congr 3
 have:n.toNat<s.data.size:=hlt
 simp only [ByteArray.getElem_eq_getElem_data,List.getD_eq_getElem?_getD,Array.getElem?_toList,Array.getElem?_eq_getElem this,Option.getD_some]
theorem unOp_sound {ob:Obs K} {op:UnOp} {x c:C K.U} {v:Value} (h:K.unOp op x=some c) (hx:RepC F w ob pl x v) (P:Program):∃u,(Op.unary op v).run P w=.ok u w∧RepC F w ob pl c u:=by
 unfold Cfg.unOp at h
 split at h <;> simp only [Option.some.injEq,reduceCtorEq] at h <;> subst h
 ·rw [repC_bool] at hx; subst hx
  exact ⟨_,rfl,repC_bool.2 rfl⟩
 ·rw [repC_int] at hx; subst hx
  exact ⟨_,rfl,repC_int.2 rfl⟩
 ·rw [repC_int] at hx; subst hx
  refine ⟨_,?_,repC_int.2 rfl⟩
  simp [Op.unary,Op.intBits,comW,BitVec.xor_comm]
theorem convert_sound (L:Laws K) {ob:Obs K} {s t:TypeId} {x c:C K.U} {v:Value} (h:K.convert s t x=some c) (hx:RepC F w ob pl x v):
  ∃u,(convert s t v).run K.P w=.ok u w∧RepC F w ob pl c u:=by
 unfold Cfg.convert at h
 split at h
 ·cases h
 ·rename_i hs
  obtain ⟨i,hs⟩:=Option.ne_none_iff_exists'.1 (by simpa using hs)
  obtain ⟨d,h1,_⟩:=kind_is L hs
  split at h
  ·rename_i k sz by' z k' n hi
   simp only [Option.some.injEq] at h; subst h
   rw [repC_int] at hx; subst hx
   refine ⟨_,?_,repC_int.2 rfl⟩
   have h2:=ti_int L hi rfl
   cases d <;> simp [convert,run_underlying h1,run_underlying h2,Conv.intToInt,convW]
  ·rename_i sz by' z s' hi
   simp only [Option.some.injEq] at h; subst h
   obtain ⟨rfl,hsz⟩:=repC_str.1 hx
   refine ⟨_,?_,repC_str.2 ⟨rfl,hsz⟩⟩
   have h2:=ti_str L hi rfl
   cases d <;> simp [convert,run_underlying h1,run_underlying h2]
  ·cases h
theorem ints_sound {ob:Obs K} {k:IntKind}:∀{cs:List (C K.U)} {l:List Int} {vs:List Value},intsOf k cs=some l→RepCs F w ob pl cs vs→vs=l.map (.int k)
 | [],l,vs,h,hr=>by simp only [intsOf,Option.some.injEq] at h; subst h; simp only [RepCs] at hr; subst hr; rfl
 | c :: cs,l,vs,h,hr=>by
  simp only [RepCs] at hr
  obtain ⟨v,rest,rfl,h1,h2⟩:=hr
  unfold intsOf at h
  split at h
  ·cases h
   rename_i e; cases e
  ·rename_i k' n l' e
   cases e
   split at h
   ·rename_i hk
    subst hk
    simp only [Option.map_eq_some_iff] at h
    obtain ⟨m,hm,rfl⟩:=h
    rw [repC_int] at h1
    rw [h1,ints_sound hm h2]
    rfl
   ·cases h
  ·cases h
theorem run_max (k:IntKind) (P:Program):∀(l:List Int) (n:Int),(List.foldlM Builtin.max2 (.int k n) (l.map (.int k))).run P w=.ok (.int k (maxOf l n)) w
 | [],n=>by simp [maxOf]
 | m :: l,n=>by
  simp only [List.map_cons,List.foldlM_cons,Sem.run_bind,Builtin.max2,Sem.run_pure,Result.andThen_ok,maxOf]
  exact run_max k P l _
theorem run_min (k:IntKind) (P:Program):∀(l:List Int) (n:Int),(List.foldlM Builtin.min2 (.int k n) (l.map (.int k))).run P w=.ok (.int k (minOf l n)) w
 | [],n=>by simp [minOf]
 | m :: l,n=>by
  simp only [List.map_cons,List.foldlM_cons,Sem.run_bind,Builtin.min2,Sem.run_pure,Result.andThen_ok,minOf]
  exact run_min k P l _
end
end Go.Abs
