/- LEMMAS: places, pieces and lengths: operations that leave memory as it is. Conditions: none. -/
import Derived.Test.YtaldbipmbkapmaaDoorA5
namespace Go.Abs
set_option linter.unusedVariables false
set_option linter.unusedSimpArgs false
section
variable {K:Cfg} {F:Nat→Prop} {w:World} {pl:Rf→Pl}
theorem ti_slice (L:Laws K) {t e:TypeId} {i:TI} (h:K.ti t=some i) (hk:i.kind=.slice e):K.P.underlying t=some (.slice e):=by
 obtain ⟨d,h1,h2⟩:=kind_is L h
 rw [hk] at h2
 cases d <;> first|exact (Bool.false_ne_true h2).elim|skip
 simp only [TK.is,beq_iff_eq] at h2
 rw [h1,h2]
theorem ti_arr (L:Laws K) {t e:TypeId} {n:Nat} {i:TI} (h:K.ti t=some i) (hk:i.kind=.arr n e):K.P.underlying t=some (.array n e):=by
 obtain ⟨d,h1,h2⟩:=kind_is L h
 rw [hk] at h2
 cases d <;> first|exact (Bool.false_ne_true h2).elim|skip
 simp only [TK.is,Bool.and_eq_true,beq_iff_eq] at h2
 rw [h1,h2.1,h2.2]
theorem ti_map (L:Laws K) {t k e:TypeId} {i:TI} (h:K.ti t=some i) (hk:i.kind=.map k e):K.P.underlying t=some (.map k e):=by
 obtain ⟨d,h1,h2⟩:=kind_is L h
 rw [hk] at h2
 cases d <;> first|exact (Bool.false_ne_true h2).elim|skip
 simp only [TK.is,Bool.and_eq_true,beq_iff_eq] at h2
 rw [h1,h2.1,h2.2]
theorem ti_str (L:Laws K) {t:TypeId} {i:TI} (h:K.ti t=some i) (hk:i.kind=.str):K.P.underlying t=some .string:=by
 obtain ⟨d,h1,h2⟩:=kind_is L h
 rw [hk] at h2
 cases d <;> first|exact (Bool.false_ne_true h2).elim|skip
 rw [h1]
theorem ti_int (L:Laws K) {t:TypeId} {k:IntKind} {i:TI} (h:K.ti t=some i) (hk:i.kind=.int k):K.P.underlying t=some (.int k):=by
 obtain ⟨d,h1,h2⟩:=kind_is L h
 rw [hk] at h2
 cases d <;> first|exact (Bool.false_ne_true h2).elim|skip
 simp only [TK.is,beq_iff_eq] at h2
 rw [h1,h2]
theorem ti_strct (L:Laws K) {t:TypeId} {fs:List (TypeId×Nat)} {i:TI} (h:K.ti t=some i) (hk:i.kind=.strct fs):
  ∃fs',K.P.underlying t=some (.struct fs')∧∀(n:Nat) (t:TypeId) (off:Nat),fs[n]?=some (t,off)→∃f,fs'[n]?=some f∧f.type=t∧f.offset=off:=by
 obtain ⟨d,h1,h2⟩:=kind_is L h
 rw [hk] at h2
 cases d <;> first|exact (Bool.false_ne_true h2).elim|skip
 rename_i fs'
 simp only [TK.is,Bool.and_eq_true,beq_iff_eq] at h2
 refine ⟨fs',h1,fun n t off hn=>?_⟩
 rw [←h2.1,List.getElem?_map,Option.map_eq_some_iff] at hn
 obtain ⟨f,hf,he⟩:=hn
 simp only [Prod.mk.injEq] at he
 exact ⟨f,by simpa using hf,he.1,he.2⟩
def shiftC {U:Univ} (n:Nat):C U→Option (C U)
 | .ep cells=>some (.ep (cells.drop n))
 | .ptr r o=>some (.ptr r (o+n))
 | .pa r gen row col=>some (.pa r gen row (col+n))
 | _=>none
theorem RepC.shift {ob:Obs K} {x y:C K.U} {v:Value} {n:Nat} (h:RepC F w ob pl x v) (hy:shiftC n x=some y):∃a,v=.pointer (some a)∧RepC F w ob pl y (.pointer (some (a.add n))):=by
 cases x with
 | ep cells=>
  simp only [shiftC,Option.some.injEq] at hy; subst hy
  simp only [RepC] at h ⊢
  obtain ⟨b,off,rfl,hF,hc⟩:=h
  refine ⟨_,rfl,b,off+n,by rw [at_add],hF,fun j d hd=>?_⟩
  rw [List.getElem?_drop] at hd
  obtain ⟨u,h1,h2⟩:=hc _ d hd
  exact ⟨u,by rw [←h1]; congr 2; omega,h2⟩
 | ptr r o=>
  simp only [shiftC,Option.some.injEq] at hy; subst hy
  simp only [RepC] at h ⊢
  obtain ⟨h1,rfl⟩:=h
  exact ⟨_,rfl,h1,by rw [at_add]⟩
 | pa r gen row col=>
  simp only [shiftC,Option.some.injEq] at hy; subst hy
  simp only [RepC] at h ⊢
  obtain ⟨⟨a,rfl⟩,o,g,n',wd,h1,h2,h3,h4⟩:=h
  refine ⟨a,rfl,⟨_,rfl⟩,o,g,n',wd,h1,h2,h3,fun e=>?_⟩
  have:=h4 e
  simp only [Value.pointer.injEq,Option.some.injEq] at this
  rw [this,at_add,Nat.add_assoc]
 | _=>simp [shiftC] at hy
theorem fieldAddr_sound (L:Laws K) {ob:Obs K} {s:TypeId} {x y:C K.U} {n:Nat} {v:Value} (h:K.fieldAddr s x n=some y) (hx:RepC F w ob pl x v):
  ∃u,(Instr.fieldAt s v n).run K.P w=.ok u w∧RepC F w ob pl y u:=by
 unfold Cfg.fieldAddr at h
 split at h
 ·rename_i fs sz by' z hi
  obtain ⟨fs',hu,hf⟩:=ti_strct L hi rfl
  split at h
  ·rename_i t off hn
   obtain ⟨f,hf,rfl,rfl⟩:=hf n t off hn
   split at h
   ·rename_i j hj
    split at h
    ·cases h
    ·rename_i h0
     have run:∀a:Addr,v=.pointer (some a)→(Instr.fieldAt s v n).run K.P w=.ok (.pointer (some (a.add f.offset))) w:=by
      rintro a rfl
      simp [Instr.fieldAt,run_underlying hu,hf,Instr.sureAddr,fieldPlace,run_sizeOf' L hj,h0]
     have go:shiftC f.offset x=some y:=by
      split at h <;> simp only [Option.some.injEq,reduceCtorEq] at h <;> subst h <;> rfl
     obtain ⟨a,e,hr⟩:=hx.shift go
     exact ⟨_,run a e,hr⟩
   ·cases h
  ·cases h
 ·cases h
theorem sub?_some {o n len:Nat}:sub? (some (o,n)) len=(o,n):=rfl
theorem subOk_le {sub:Option (Nat×Nat)} {len:Nat} (h:subOk sub len=true):(sub? sub len).1+(sub? sub len).2≤len:=by
 cases sub with
 | none=>simp [sub?]
 | some p=>exact of_decide_eq_true h
theorem Mem.slice {loc:Loc K.U} {H:List (O K.U)} (M:Mem K F w (getO loc H) pl) {r:Rf} {gen:Nat} {sub:Option (Nat×Nat)} {cl:Bool} {v:Value} {o:O K.U} {g len wd:Nat}
  (hr:getO loc H r=some o) (hi:K.arrI o=some (g,len,wd)) (hg:g=gen) (hx:RepC F w (getO loc H) pl (.asl r gen sub cl) v):
  ∃a,v=.slice a (sub? sub len).2 (if cl then (sub? sub len).2 else (pl r).cap - (sub? sub len).1)∧
   ((if cl then (sub? sub len).2 else (pl r).cap - (sub? sub len).1) ≠ 0→a=some (at' (pl r).blk ((sub? sub len).1 * wd)))∧(len ≠ 0→len≤(pl r).cap):=by
 simp only [RepC] at hx
 obtain ⟨_,o',g',n',wd',h1,h2,h3,h4⟩:=hx
 rw [hr] at h1; cases h1
 rw [hi] at h2; cases h2
 obtain ⟨a,e1,e2⟩:=h4 hg.symm
 refine ⟨a,e1,e2,fun hn=>?_⟩
 have:=M.rep r o hr
 cases o with
 | cells=>simp [Cfg.arrI] at hi
 | map=>simp [Cfg.arrI] at hi
 | arr g v xs=>
  simp only [Cfg.arrI,Option.some.injEq,Prod.mk.injEq] at hi
  obtain ⟨_,rfl,_⟩:=hi
  rcases this with ⟨_,rfl⟩|⟨_,_,_,_,h,_⟩
  ·simp at hn
  ·exact h
 | fro g c xs=>
  simp only [Cfg.arrI,Option.some.injEq,Prod.mk.injEq] at hi
  obtain ⟨_,rfl,_⟩:=hi
  rcases this with rfl|h
  ·simp at hn
  ·cases h with
   | sl0=>simp at hn
   | sl _ _ _ _ _ _ _ hcap=>exact hcap
theorem run_indexAt_slice (L:Laws K) {t e:TypeId} {i j:TI} (hi:K.ti t=some i) (hk:i.kind=.slice e) (hj:K.ti e=some j) {k:IntKind} {n:Int} {a:Addr} {len cap:Nat}
  (h:0≤n∧n<len):(Instr.indexAt t (.slice (some a) len cap) (.int k n)).run K.P w=.ok (.pointer (some (a.add (n.toNat * j.size)))) w:=by
 have hu:=ti_slice L hi hk
 simp [Instr.indexAt,asIntOf,run_underlying hu,run_sizeOf' L hj,h.1,h.2]
theorem decDs_spec (L:Laws K) {c:K.U.Ty} {k:Nat} (hk:K.width c=k):∀{n:Nat} {ds:List (D K.U)} {xs:List (K.U.El c)},K.decDs c n k ds=some xs→xs.length=n∧
  ∀(i:Nat) (x:K.U.El c),xs[i]?=some x→∀(j:Nat) (d':D K.U),(K.enc c x)[j]?=some d'→∃d,ds[i * k+j]?=some d∧d.le d'
 | 0,ds,xs,h=>by
  simp only [Cfg.decDs,Option.some.injEq] at h
  subst h
  exact ⟨rfl,by simp⟩
 | n+1,ds,xs,h=>by
  simp only [Cfg.decDs] at h
  split at h
  ·rename_i x xs' h1 h2
   simp only [Option.some.injEq] at h
   subst h
   obtain ⟨k1,k2⟩:=decDs_spec L hk h2
   obtain ⟨l1,l2⟩:=L.dec c _ _ h1
   refine ⟨by simp [k1],fun i y hy j d' hd=>?_⟩
   cases i with
   | zero=>
    simp only [List.getElem?_cons_zero,Option.some.injEq] at hy
    subst hy
    have hj:j<k:=by
     have:=(List.getElem?_eq_some_iff.1 hd).1
     rw [L.len] at this; omega
    have hlen:(ds.take k).length=k:=by rw [l1,hk]
    have hj2:j<(ds.take k).length:=by omega
    refine ⟨(ds.take k)[j],?_,l2 j _ _ (List.getElem?_eq_getElem hj2) hd⟩
    rw [Nat.zero_mul,Nat.zero_add,←List.getElem?_eq_getElem hj2,List.getElem?_take,if_pos hj]
   | succ i=>
    obtain ⟨d,e1,e2⟩:=k2 i y (by simpa using hy) j d' hd
    refine ⟨d,?_,e2⟩
    rw [List.getElem?_drop] at e1
    rw [←e1]
    congr 1
    rw [Nat.succ_mul]; omega
  ·cases h
theorem indexAddr_sound (L:Laws K) {loc:Loc K.U} {H:List (O K.U)} (M:Mem K F w (getO loc H) pl) {t:TypeId} {x y:C K.U} {k:IntKind} {n:Int} {ok:Bool} {v:Value}
  (h:K.indexAddr loc H t x n=some (ok,y)) (hok:ok=true) (hx:RepC F w (getO loc H) pl x v):
  ∃u,(Instr.indexAt t v (.int k n)).run K.P w=.ok u w∧RepC F w (getO loc H) pl y u:=by
 unfold Cfg.indexAddr at h
 split at h
 ·rename_i e sz by' z hi
  split at h
  ·rename_i j hj
   have data:∀c xs,RepD K F w (.sl c xs) v→K.width c=j.size→inB n (lenL xs)=true→
     ∃u,(Instr.indexAt t v (.int k n)).run K.P w=.ok u w∧RepC F w (getO loc H) pl (.ep (K.enc c (rd (K.dflt c) xs n))) u:=by
    intro c xs hr hw hb
    rw [inB_iff] at hb
    cases hr with
    | sl0=>simp [lenL] at hb; omega
    | sl _ _ b off cap f hF hcap hcell hrep=>
     refine ⟨_,run_indexAt_slice L hi rfl hj hb,?_⟩
     rw [at_add]
     simp only [RepC]
     have hlt:n.toNat<xs.length:=by simp only [lenL] at hb; omega
     have hg:xs[n.toNat]?=some (rd (K.dflt c) xs n):=by simp [rd,hlt]
     refine ⟨b,_,rfl,hF,fun q d hd=>⟨f n.toNat q,?_,hrep _ _ hg q d hd⟩⟩
     rw [←hcell _ _ hg q d hd,hw]
   have arr:∀r gen sub cl o g len wd,x=.asl r gen sub cl→getO loc H r=some o→K.arrI o=some (g,len,wd)→wd=j.size→g=gen→inB n (sub? sub len).2=true→subOk sub len=true→
     ∃u,(Instr.indexAt t v (.int k n)).run K.P w=.ok u w∧RepC F w (getO loc H) pl (.pa r gen ((sub? sub len).1+natI n) 0) u:=by
    intro r gen sub cl o g len wd ex hr hI hwd hg hb hs
    subst ex
    obtain ⟨a,rfl,ha,hlen⟩:=M.slice hr hI hg hx
    rw [inB_iff] at hb
    have hle:=subOk_le hs
    have hcap:(if cl then (sub? sub len).2 else (pl r).cap - (sub? sub len).1) ≠ 0:=by
     have:=hlen (by omega)
     cases cl <;> simp <;> omega
    rw [ha hcap]
    refine ⟨_,run_indexAt_slice L hi rfl hj hb,?_⟩
    simp only [RepC]
    refine ⟨⟨_,rfl⟩,o,g,len,wd,hr,hI,by omega,fun _=>?_⟩
    rw [at_add,hwd,natI,Nat.add_mul,Nat.add_zero]
   split at h
   ·split at h
    ·rename_i hw
     simp only [Option.some.injEq,Prod.mk.injEq] at h
     obtain ⟨rfl,rfl⟩:=h
     simp only [RepC] at hx
     exact data _ _ hx hw hok
    ·cases h
   ·split at h
    ·rename_i hw
     simp only [Option.some.injEq,Prod.mk.injEq] at h
     obtain ⟨rfl,rfl⟩:=h
     simp only [RepC] at hx
     exact data _ _ hx.1 hw hok
    ·cases h
   ·rename_i r gen sub cl
    split at h
    ·rename_i g v' xs hr
     split at h
     ·rename_i hw
      split at h
      ·simp only [Option.some.injEq,Prod.mk.injEq] at h
       obtain ⟨rfl,rfl⟩:=h
       simp only [andB_true,beq_iff_eq] at hok
       have:=arr r gen none cl _ g xs.length _ rfl hr rfl hw hok.1 hok.2 rfl
       simpa [sub?] using this
      ·rename_i o n'
       simp only [Option.some.injEq,Prod.mk.injEq] at h
       obtain ⟨rfl,rfl⟩:=h
       simp only [andB_true,beq_iff_eq] at hok
       have:=arr r gen (some (o,n')) cl _ g xs.length _ rfl hr rfl hw hok.1 hok.2.1 hok.2.2
       simpa [sub?,addN] using this
     ·cases h
    ·rename_i g c xs hr
     split at h
     ·rename_i hw
      split at h
      ·simp only [Option.some.injEq,Prod.mk.injEq] at h
       obtain ⟨rfl,rfl⟩:=h
       simp only [andB_true,beq_iff_eq] at hok
       have:=arr r gen none cl _ g xs.length _ rfl hr rfl hw hok.1 hok.2 rfl
       simpa [sub?] using this
      ·rename_i o n'
       simp only [Option.some.injEq,Prod.mk.injEq] at h
       obtain ⟨rfl,rfl⟩:=h
       simp only [andB_true,beq_iff_eq] at hok
       have:=arr r gen (some (o,n')) cl _ g xs.length _ rfl hr rfl hw hok.1 hok.2.1 hok.2.2
       simpa [sub?,addN] using this
     ·cases h
    ·cases h
   ·cases h
  ·cases h
 ·rename_i n' e sz by' z hi
  split at h
  ·rename_i j hj
   split at h
   ·cases h
   ·rename_i h1
    have run:∀a:Addr,v=.pointer (some a)→inB n n'=true→(Instr.indexAt t v (.int k n)).run K.P w=.ok (.pointer (some (a.add (n.toNat * j.size)))) w:=by
     rintro a rfl hb
     rw [inB_iff] at hb
     have hu:=ti_arr L hi rfl
     simp [Instr.indexAt,asIntOf,run_underlying hu,run_sizeOf' L hj,hb.1,hb.2,Instr.sureAddr]
    have fin:(ok=inB n n'∧shiftC (n.toNat * j.size) x=some y)→∃u,(Instr.indexAt t v (.int k n)).run K.P w=.ok u w∧RepC F w (getO loc H) pl y u:=by
     intro go
     obtain ⟨a,e,hr⟩:=hx.shift go.2
     exact ⟨_,run a e (go.1▸hok),hr⟩
    split at h
    ·rename_i cells
     split at h
     ·rename_i c _
      split at h
      ·rename_i xs hwd hds
       simp only [Option.some.injEq,Prod.mk.injEq] at h
       obtain ⟨rfl,rfl⟩:=h
       have hb:=(inB_iff.1 hok)
       obtain ⟨hl,hxs⟩:=decDs_spec L (Nat.eq_of_beq_eq_true hwd) hds
       simp only [RepC] at hx
       obtain ⟨b,off,rfl,hF,hcell⟩:=hx
       refine ⟨_,run _ rfl hok,?_⟩
       simp only [RepC]
       refine ⟨b,off+n.toNat * j.size,by rw [at_add],hF,fun q d hd=>?_⟩
       have hi':n.toNat<xs.length:=by omega
       have hx':xs[n.toNat]?=some (rd (K.dflt c) xs n):=by
        rw [List.getElem?_eq_getElem hi']
        simp [rd,List.getD_eq_getElem?_getD,List.getElem?_eq_getElem hi']
       obtain ⟨d0,h1,h2⟩:=hxs _ _ hx' q d hd
       obtain ⟨u,h3,h4⟩:=hcell _ _ h1
       exact ⟨u,by rw [Nat.add_assoc]; exact h3,h4.le h2⟩
      ·simp only [Option.some.injEq,Prod.mk.injEq] at h
       exact fin ⟨h.1.symm,by rw [←h.2]; rfl⟩
     ·simp only [Option.some.injEq,Prod.mk.injEq] at h
      exact fin ⟨h.1.symm,by rw [←h.2]; rfl⟩
    all_goals
     simp only [Option.some.injEq,Prod.mk.injEq,reduceCtorEq] at h
     try (obtain ⟨rfl,rfl⟩:=h; exact fin ⟨rfl,rfl⟩)
  ·cases h
 ·cases h
def boundV:Option (C K.U)→Option Value→(F:Nat→Prop)→(w:World)→Obs K→(Rf→Pl)→Prop
 | none,v,_,_,_,_=>v=none
 | some c,v,F,w,ob,pl=>∃u,v=some u∧RepC F w ob pl c u
theorem toI_some {ob:Obs K} {c:Option (C K.U)} {v:Option Value} {d n:Int} (h:toI c d=some n) (hv:boundV c v F w ob pl):(c=none∧v=none∧n=d)∨∃x k,c=some x∧v=some (.int k n):=by
 cases c with
 | none=>simp only [toI,Option.some.injEq] at h; exact .inl ⟨rfl,hv,h.symm⟩
 | some x=>
  obtain ⟨u,rfl,hu⟩:=hv
  unfold toI at h
  split at h
  ·rename_i e; cases e
  ·rename_i e
   simp only [Option.some.injEq] at h e
   subst h; subst e
   exact .inr ⟨_,_,rfl,by rw [repC_int.1 hu]⟩
  ·cases h
theorem run_sliceBound {k:IntKind} {n:Int} {y:Nat} {code:BoundsCode} (h:0≤n∧n≤y) (P:Program):(Instr.sliceBound (.int k n) y code).run P w=.ok n.toNat w:=by
 simp [Instr.sliceBound,asIntOf,h.1,h.2]
theorem run_bounds2 {ob:Obs K} {isS:Bool} {len cap:Nat} {lo hi:Option (C K.U)} {vlo vhi:Option Value} {l h:Int} (h1:toI lo 0=some l) (h2:toI hi (intN len)=some h)
  (r1:boundV lo vlo F w ob pl) (r2:boundV hi vhi F w ob pl) (b1:0≤l) (b2:l≤h) (b4:h≤cap) (P:Program):
  (Instr.sliceBounds isS len cap vlo vhi none).run P w=.ok (l.toNat,h.toNat,cap) w:=by
 rcases toI_some h2 r2 with ⟨_,rfl,rfl⟩|⟨x,k,_,rfl⟩ <;> rcases toI_some h1 r1 with ⟨_,rfl,rfl⟩|⟨x',k',_,rfl⟩ <;>
  simp only [Instr.sliceBounds,Sem.run_bind,Sem.run_pure,Result.andThen_ok]
 ·rfl
 ·rw [run_sliceBound (by simp only [intN] at b2; exact ⟨b1,b2⟩)]; rfl
 ·rw [run_sliceBound ⟨by omega,b4⟩]; rfl
 ·rw [run_sliceBound ⟨by omega,b4⟩]
  simp only [Result.andThen_ok]
  rw [run_sliceBound ⟨b1,by omega⟩]; rfl
theorem run_bounds3 {ob:Obs K} {isS:Bool} {len cap:Nat} {lo:Option (C K.U)} {c c':C K.U} {vlo vhi:Option Value} {vm:Value} {l h m:Int} {k:IntKind} {d:Int} (h1:toI lo 0=some l)
  (h2:toI (some c) d=some h) (r1:boundV lo vlo F w ob pl) (r2:boundV (some c) vhi F w ob pl) (hm:c'=.d (.int k m)) (rm:RepC F w ob pl c' vm) (b1:0≤l) (b2:l≤h) (b4:h≤cap) (e:m=h) (P:Program):
  (Instr.sliceBounds isS len cap vlo vhi (some vm)).run P w=.ok (l.toNat,h.toNat,h.toNat) w:=by
 subst e; subst hm
 rw [repC_int] at rm; subst rm
 rcases toI_some h2 r2 with ⟨e,_⟩|⟨x,k,_,rfl⟩
 ·cases e
 rcases toI_some h1 r1 with ⟨_,rfl,rfl⟩|⟨x',k',_,rfl⟩ <;>
  simp only [Instr.sliceBounds,Sem.run_bind,Sem.run_pure,Result.andThen_ok]
 ·rw [run_sliceBound ⟨by omega,b4⟩]
  simp only [Result.andThen_ok]
  rw [run_sliceBound ⟨by omega,by omega⟩]; rfl
 ·rw [run_sliceBound ⟨by omega,b4⟩]
  simp only [Result.andThen_ok]
  rw [run_sliceBound ⟨by omega,by omega⟩]
  simp only [Result.andThen_ok]
  rw [run_sliceBound ⟨b1,by omega⟩]; rfl
theorem run_slice_slice (L:Laws K) {t e:TypeId} {i j:TI} (hi:K.ti t=some i) (hk:i.kind=.slice e) (hj:K.ti e=some j) {a:Option Addr} {len cap l h m:Nat} {vlo vhi vm:Option Value}
  (hb:(Instr.sliceBounds true len cap vlo vhi vm).run K.P w=.ok (l,h,m) w):
  (Instr.sliceAt t (.slice a len cap) vlo vhi vm).run K.P w=.ok (.slice (if m=l then a else a.map (·.add (l * j.size))) (h - l) (m - l)) w:=by
 have hu:=ti_slice L hi hk
 simp only [Instr.sliceAt,Instr.slice,Sem.run_bind,run_underlying hu,Result.andThen_ok,hb,run_sizeOf' L hj]
 rfl
theorem repD_piece {c:K.U.Ty} {xs:List (K.U.El c)} {a:Option Addr} {len cap l h:Nat} (hr:RepD K F w (.sl c xs) (.slice a len cap)) (h1:l≤h) (h2:h≤xs.length) {m:Nat} (hm:h≤m):
  RepD K F w (.sl c (dropL l (takeL h xs))) (.slice (if m=l then a else a.map (·.add (l * K.width c))) (h - l) (m - l)):=by
 have hlen:(dropL l (takeL h xs)).length=h - l:=by simp [dropL,takeL]; omega
 by_cases e:h=l
 ·have:dropL l (takeL h xs)=[]:=List.eq_nil_of_length_eq_zero (by omega)
  rw [this,show h - l=0 by omega]
  exact .sl0 _ _ _
 ·cases hr with
  | sl0=>simp at h2; omega
  | sl _ _ b off cap f hF hcap hcell hrep hbnd=>
   have hml:m ≠ l:=by omega
   simp only [hml,if_false,Option.map_some,at_add]
   rw [←hlen]
   have get:∀q x,(dropL l (takeL h xs))[q]?=some x→xs[l+q]?=some x:=by
    intro q x hx
    simp only [dropL,takeL,List.getElem?_drop,List.getElem?_take] at hx
    split at hx
    ·exact hx
    ·cases hx
   refine .sl c _ b _ _ (fun q z=>f (l+q) z) hF (by omega) (fun q x hx z d hd=>?_) (fun q x hx z d hd=>hrep _ _ (get q x hx) z d hd) (Nat.le_trans (Nat.mul_le_mul_right _ (by omega)) hbnd)
   rw [←hcell _ _ (get q x hx) z d hd,Nat.add_mul,←Nat.add_assoc]
theorem repD_len {c:K.U.Ty} {xs:List (K.U.El c)} {v:Value} (hr:RepD K F w (.sl c xs) v):∃a cap,v=.slice a xs.length cap∧xs.length≤cap:=by
 cases hr with
 | sl0 a cap=>exact ⟨_,_,rfl,Nat.zero_le _⟩
 | sl _ _ _ _ _ _ _ hcap=>exact ⟨_,_,rfl,hcap⟩
theorem slice_sound (L:Laws K) {loc:Loc K.U} {H:List (O K.U)} (M:Mem K F w (getO loc H) pl) {t:TypeId} {x y:C K.U} {lo hi mx:Option (C K.U)} {vlo vhi vmx:Option Value} {ok:Bool} {v:Value}
  (h:K.slice loc H t x lo hi mx=some (ok,y)) (hok:ok=true) (hx:RepC F w (getO loc H) pl x v) (rlo:boundV lo vlo F w (getO loc H) pl) (rhi:boundV hi vhi F w (getO loc H) pl)
  (rmx:boundV mx vmx F w (getO loc H) pl):∃u,(Instr.sliceAt t v vlo vhi vmx).run K.P w=.ok u w∧RepC F w (getO loc H) pl y u:=by
 unfold Cfg.slice at h
 split at h
 ·rename_i i hi'
  split at h
  ·rename_i hk
   split at h
   ·rename_i s
    obtain ⟨rfl,hsz⟩:=repC_str.1 hx
    unfold sliceStr at h
    split at h
    ·rename_i l hh h1 h2
     simp only [Option.some.injEq,Prod.mk.injEq] at h
     obtain ⟨rfl,rfl⟩:=h
     simp only [andB_true,leI_iff] at hok
     obtain ⟨b1,b2,b3⟩:=hok
     have hv:vmx=none:=rmx
     subst hv
     have hb:=run_bounds2 (isS:=false) (len:=s.size) (cap:=s.size) h1 h2 rlo rhi b1 b2 b3 K.P
     refine ⟨.string (s.extract l.toNat hh.toNat),?_,repC_str.2 ⟨rfl,by simp [strSub]; omega⟩⟩
     have hu:=ti_str L hi' hk
     simp only [Instr.sliceAt,Instr.slice,Sem.run_bind,run_underlying hu,Result.andThen_ok,Option.isSome_none,Bool.false_eq_true,if_false,hb]
     rfl
    ·cases h
   ·cases h
  ·rename_i e hk
   split at h
   ·rename_i j c xs hj
    split at h
    ·rename_i hw
     simp only [RepC] at hx
     obtain ⟨a,cap,rfl,hcap⟩:=repD_len hx
     unfold sliceData at h
     split at h
     ·rename_i l hh h1 h2
      simp only [Option.some.injEq,Prod.mk.injEq] at h
      obtain ⟨rfl,rfl⟩:=h
      simp only [andB_true,leI_iff,lenL,intN] at hok
      obtain ⟨b1,b2,b3⟩:=hok
      have hv:vmx=none:=rmx
      subst hv
      have hb:=run_bounds2 (isS:=true) (len:=xs.length) (cap:=cap) h1 h2 rlo rhi b1 b2 (by omega) K.P
      refine ⟨_,run_slice_slice L hi' hk hj hb,?_⟩
      simp only [RepC,natI]
      rw [←hw]
      exact repD_piece hx (by omega) (by omega) (by omega)
     ·rename_i l hh k m h1 h2
      split at h
      ·rename_i chi
       simp only [Option.some.injEq,Prod.mk.injEq] at h
       obtain ⟨rfl,rfl⟩:=h
       simp only [andB_true,leI_iff,eqI_iff,lenL,intN] at hok
       obtain ⟨b0,b1,b2,b3⟩:=hok
       obtain ⟨vm,rfl,rm⟩:=rmx
       have hb:=run_bounds3 (isS:=true) (len:=xs.length) (cap:=cap) h1 h2 rlo rhi rfl rm b1 b2 (by omega) b0 K.P
       refine ⟨_,run_slice_slice L hi' hk hj hb,?_⟩
       simp only [RepC,natI]
       rw [←hw]
       refine ⟨repD_piece hx (by omega) (by omega) (Nat.le_refl _),(if hh.toNat=l.toNat then a else a.map (·.add (l.toNat * K.width c))),?_⟩
       rw [show (dropL l.toNat (takeL hh.toNat xs)).length=hh.toNat - l.toNat by simp [dropL,takeL]; omega]
      ·cases h
     ·cases h
    ·cases h
   ·rename_i j r gen sub cl hj
    have arr:∀o g len wd,getO loc H r=some o→K.arrI o=some (g,len,wd)→wd=j.size→sliceArr r gen g sub cl len lo hi mx=some (ok,y)→
      ∃u,(Instr.sliceAt t v vlo vhi vmx).run K.P w=.ok u w∧RepC F w (getO loc H) pl y u:=by
     intro o g len wd hr hI hwd hq
     unfold sliceArr at hq
     split at hq
     ·rename_i l hh h1 h2
      split at hq
      ·cases hq
      ·rename_i hcl
       simp only [Bool.not_eq_true] at hcl
       subst hcl
       simp only [Option.some.injEq,Prod.mk.injEq] at hq
       obtain ⟨rfl,rfl⟩:=hq
       simp only [andB_true,leI_iff,beq_iff_eq,intN] at hok
       obtain ⟨b1,b2,b3,b4,b5⟩:=hok
       obtain ⟨a,rfl,ha,hlen⟩:=M.slice hr hI b4 hx
       have hv:vmx=none:=rmx
       subst hv
       have hle:=subOk_le b5
       simp only [Bool.false_eq_true,if_false] at ha ⊢
       have hcap:(sub? sub len).2≤(pl r).cap - (sub? sub len).1:=by
        by_cases e:len=0
        ·omega
        ·have:=hlen e; omega
       have hb:=run_bounds2 (isS:=true) (cap:=(pl r).cap - (sub? sub len).1) h1 h2 rlo rhi b1 b2 (by omega) K.P
       refine ⟨_,run_slice_slice L hi' hk hj hb,?_⟩
       simp only [RepC]
       refine ⟨⟨_,_,_,rfl⟩,o,g,len,wd,hr,hI,by omega,fun _=>?_⟩
       rcases toI_some h1 rlo with ⟨rfl,_,rfl⟩|⟨cx,k,rfl,_⟩
       ·refine ⟨(if (pl r).cap - (sub? sub len).1=Int.toNat 0 then a else a.map (·.add (Int.toNat 0 * j.size))),?_,fun hne=>?_⟩
        ·simp [cutSub,sub?_some,natI]
        ·simp only [cutSub,sub?_some,Bool.false_eq_true,if_false] at hne ⊢
         rw [ha hne,if_neg (by simpa using hne)]
         simp [at_add]
       ·refine ⟨(if (pl r).cap - (sub? sub len).1=l.toNat then a else a.map (·.add (l.toNat * j.size))),?_,fun hne=>?_⟩
        ·simp only [cutSub,sub?_some,natI,addN,subN,Bool.false_eq_true,if_false,Nat.sub_sub]
        ·simp only [cutSub,sub?_some,Bool.false_eq_true,if_false,natI,addN] at hne ⊢
         have hne':(pl r).cap - (sub? sub len).1 ≠ 0:=by omega
         rw [ha hne',if_neg (by omega)]
         simp only [Option.map_some,at_add,Nat.add_mul,hwd]
     ·rename_i l hh k m h1 h2
      split at hq
      ·rename_i chi
       simp only [Option.some.injEq,Prod.mk.injEq] at hq
       obtain ⟨rfl,rfl⟩:=hq
       simp only [andB_true,leI_iff,eqI_iff,beq_iff_eq,intN] at hok
       obtain ⟨b0,b1,b2,b3,b4,b5⟩:=hok
       obtain ⟨a,rfl,ha,hlen⟩:=M.slice hr hI b4 hx
       obtain ⟨vm,rfl,rm⟩:=rmx
       have hle:=subOk_le b5
       have hcap:(sub? sub len).2≤(if cl then (sub? sub len).2 else (pl r).cap - (sub? sub len).1):=by
        cases cl
        ·by_cases e:len=0
         ·simp; omega
         ·have:=hlen e; simp; omega
        ·simp
       have hb:=run_bounds3 (isS:=true) (len:=(sub? sub len).2) (cap:=if cl then (sub? sub len).2 else (pl r).cap - (sub? sub len).1) h1 h2 rlo rhi rfl rm b1 b2 (by omega) b0 K.P
       refine ⟨_,run_slice_slice L hi' hk hj hb,?_⟩
       simp only [RepC]
       refine ⟨⟨_,_,_,rfl⟩,o,g,len,wd,hr,hI,by omega,fun _=>?_⟩
       rcases toI_some h1 rlo with ⟨rfl,_,rfl⟩|⟨cx,k,rfl,_⟩
       ·refine ⟨(if hh.toNat=Int.toNat 0 then a else a.map (·.add (Int.toNat 0 * j.size))),?_,fun hne=>?_⟩
        ·simp [cutSub,sub?_some,natI]
        ·simp only [cutSub,sub?_some,if_true,natI] at hne ⊢
         rw [ha (by omega),if_neg (by simpa using hne)]
         simp [at_add]
       ·refine ⟨(if hh.toNat=l.toNat then a else a.map (·.add (l.toNat * j.size))),?_,fun hne=>?_⟩
        ·simp only [cutSub,sub?_some,natI,addN,subN,if_true]
        ·simp only [cutSub,sub?_some,if_true,natI,addN,subN] at hne ⊢
         rw [ha (by omega),if_neg (by omega)]
         simp only [Option.map_some,at_add,Nat.add_mul,hwd]
      ·cases hq
     ·cases hq
    split at h
    ·rename_i g v' xs hr
     split at h
     ·rename_i hw
      exact arr _ g xs.length _ hr rfl hw h
     ·cases h
    ·rename_i g c xs hr
     split at h
     ·rename_i hw
      exact arr _ g xs.length _ hr rfl hw h
     ·cases h
    ·cases h
   ·rename_i j hj
    rw [repC_nils] at hx
    subst hx
    unfold sliceNil at h
    split at h
    ·rename_i l hh h1 h2
     simp only [Option.some.injEq,Prod.mk.injEq] at h
     obtain ⟨rfl,rfl⟩:=h
     simp only [andB_true,leI_iff] at hok
     obtain ⟨b1,b2,b3⟩:=hok
     have hv:vmx=none:=rmx
     subst hv
     have hb:=run_bounds2 (isS:=true) (len:=0) (cap:=0) h1 h2 rlo rhi b1 b2 (by omega) K.P
     refine ⟨_,run_slice_slice L hi' hk hj hb,?_⟩
     have hl:l.toNat=0:=by omega
     have hr:hh.toNat=0:=by omega
     rw [hl,hr,repC_nils]; rfl
    ·cases h
   ·cases h
  ·rename_i n e hk
   split at h
   ·rename_i ds
    split at h
    ·rename_i j c hj hvc
     split at h
     ·rename_i xs hds
      split at h
      ·rename_i hc
       simp only [Option.some.injEq,Prod.mk.injEq] at h
       obtain ⟨rfl,rfl⟩:=h
       have e1:vlo=none:=rlo
       have e2:vhi=none:=rhi
       have e3:vmx=none:=rmx
       subst e1 e2 e3
       simp only [RepC] at hx
       obtain ⟨b,off,rfl,hF,hcell⟩:=hx
       obtain ⟨hl,hxs⟩:=decDs_spec L hc.1 hds
       have hu:=ti_arr L hi' hk
       refine ⟨.slice (some (at' b off)) n n,?_,?_⟩
       ·simp only [Instr.sliceAt,Sem.run_bind,run_underlying hu,Result.andThen_ok,Instr.sureAddr,Instr.sliceBounds,Sem.run_pure,run_sizeOf' L hj,Nat.zero_mul,Nat.sub_zero]
        split <;> rfl
       ·simp only [RepC]
        have cell:∀i x,xs[i]?=some x→∀q d,(K.enc c x)[q]?=some d→∃u,w.cell? (at' b (off+i * K.width c+q))=some u∧RepD K F w d u:=by
         intro i x hx' q d hd
         obtain ⟨d0,h1,h2⟩:=hxs i x hx' q d hd
         obtain ⟨u,h3,h4⟩:=hcell _ _ h1
         refine ⟨u,?_,h4.le h2⟩
         rw [←h3,hc.1,Nat.add_assoc]
        have fin:=RepD.sl (K:=K) (F:=F) (w:=w) c xs b off n (fun i q=>(w.cell? (at' b (off+i * K.width c+q))).getD undef) hF (by omega)
         (fun i x hx' q d hd=>by obtain ⟨u,h1,_⟩:=cell i x hx' q d hd; rw [h1]; rfl) (fun i x hx' q d hd=>by obtain ⟨u,h1,h2⟩:=cell i x hx' q d hd; rw [h1]; exact h2) (by rw [hl]; exact hc.2)
        rw [hl] at fin
        exact fin
      ·cases h
     ·cases h
    ·cases h
   ·cases h
  ·cases h
 ·cases h
end
end Go.Abs
