/- LEMMAS: operations touch nothing but what they say. Conditions: none. -/
import Derived.Test.YtaldbipmbkapmaaDoorA19
namespace Go.Abs
set_option linter.unusedVariables false
set_option linter.unusedSimpArgs false
section
variable {K:Cfg}
structure Agree {U:Univ} (T:List Tok) (loc:Loc U) (H:List (O U)) (loc':Loc U) (H':List (O U)):Prop where
 l:∀s,some s∈T→loc' s=loc s
 g:none∈T→H'=H
section
variable {T:List Tok} {loc loc':Loc K.U} {H H':List (O K.U)}
theorem Agree.symm (A:Agree T loc H loc' H'):Agree T loc' H' loc H:=⟨fun s hs=>(A.l s hs).symm,fun h=>(A.g h).symm⟩
theorem Agree.sub {T':List Tok} (A:Agree T loc H loc' H') (h:∀t∈T',t∈T):Agree T' loc H loc' H':=⟨fun s hs=>A.l s (h _ hs),fun hn=>A.g (h _ hn)⟩
theorem Agree.getO (A:Agree T loc H loc' H') {r:Rf} (h:r.tok∈T):Go.Abs.getO loc' H' r=Go.Abs.getO loc H r:=by
 cases r with
 | l s=>exact A.l s h
 | g n=>simp only [Go.Abs.getO]; rw [A.g h]
theorem Agree.newO (A:Agree T loc H loc' H') {slot:Option Nat} {r:Rf} (h:newO loc H slot=some r) (ht:r.tok∈T):Go.Abs.newO loc' H' slot=some r:=by
 unfold Go.Abs.newO at *
 cases slot with
 | none=>
  simp only [Option.some.injEq] at h; subst h
  simp only; rw [A.g ht]
 | some s=>
  simp only at h ⊢
  split at h
  ·rename_i h0
   simp only [Option.some.injEq] at h; subst h
   rw [A.l s ht,h0]
  ·cases h
def SameAt (loc:Loc K.U) (H:List (O K.U)) (loc':Loc K.U) (H':List (O K.U)) (rs:List Rf):Prop:=∀r∈rs,getO loc' H' r=getO loc H r
theorem Agree.same (A:Agree T loc H loc' H') {rs:List Rf} (h:∀r∈rs,r.tok∈T):SameAt loc H loc' H' rs:=fun r hr=>A.getO (h r hr)
theorem cellsAt_same {a:C K.U} (h:SameAt loc H loc' H' a.ref):K.cellsAt loc' H' a=K.cellsAt loc H a:=by
 cases a with
 | d x=>cases x <;> rfl
 | asl r g s c=>have e:=h r (by simp [C.ref]); simp only [Cfg.cellsAt,e]
 | ptr r o=>have e:=h r (by simp [C.ref]); simp only [Cfg.cellsAt,e]
 | pa r g i j=>have e:=h r (by simp [C.ref]); simp only [Cfg.cellsAt,e]
 | mp r=>have e:=h r (by simp [C.ref]); simp only [Cfg.cellsAt,e]
 | _=>rfl
theorem lenOf_same {k:TK} {a:C K.U} (h:SameAt loc H loc' H' a.ref):K.lenOf loc' H' k a=K.lenOf loc H k a:=by
 cases a with
 | d x=>cases k <;> cases x <;> rfl
 | asl r g s c=>have e:=h r (by simp [C.ref]); cases k <;> simp only [Cfg.lenOf,e]
 | ptr r o=>have e:=h r (by simp [C.ref]); cases k <;> simp only [Cfg.lenOf,e]
 | pa r g i j=>have e:=h r (by simp [C.ref]); cases k <;> simp only [Cfg.lenOf,e]
 | mp r=>have e:=h r (by simp [C.ref]); cases k <;> simp only [Cfg.lenOf,e]
 | _=>cases k <;> rfl
theorem indexAddr_same {t:TypeId} {a:C K.U} {i:Int} (h:SameAt loc H loc' H' a.ref):K.indexAddr loc' H' t a i=K.indexAddr loc H t a i:=by
 cases a with
 | d x=>cases x <;> rfl
 | asl r g s c=>have e:=h r (by simp [C.ref]); simp only [Cfg.indexAddr,e]
 | ptr r o=>have e:=h r (by simp [C.ref]); simp only [Cfg.indexAddr,e]
 | pa r g i j=>have e:=h r (by simp [C.ref]); simp only [Cfg.indexAddr,e]
 | mp r=>have e:=h r (by simp [C.ref]); simp only [Cfg.indexAddr,e]
 | _=>rfl
theorem slice_same {t:TypeId} {a:C K.U} {x y z:Option (C K.U)} (h:SameAt loc H loc' H' a.ref):K.slice loc' H' t a x y z=K.slice loc H t a x y z:=by
 unfold Cfg.slice
 cases hti:K.ti t with
 | none=>rfl
 | some i=>
  simp only
  cases hk:i.kind with
  | slice e=>
   simp only
   cases hj:K.ti e with
   | none=>rfl
   | some j=>
    cases a with
    | d x=>cases x <;> rfl
    | asl r g s c=>have e:=h r (by simp [C.ref]); simp only [e]
    | _=>rfl
  | _=>rfl
theorem rowsOf_same {v:Vc K.U} {a:C K.U} (h:SameAt loc H loc' H' a.ref):K.rowsOf loc' H' v a=K.rowsOf loc H v a:=by
 cases a with
 | d x=>cases x <;> rfl
 | asl r g s c=>have e:=h r (by simp [C.ref]); simp only [Cfg.rowsOf,e]
 | ptr r o=>have e:=h r (by simp [C.ref]); simp only [Cfg.rowsOf,e]
 | pa r g i j=>have e:=h r (by simp [C.ref]); simp only [Cfg.rowsOf,e]
 | mp r=>have e:=h r (by simp [C.ref]); simp only [Cfg.rowsOf,e]
 | _=>rfl
theorem lookup_same {t:TypeId} {m k:C K.U} {ok:Bool} (h:SameAt loc H loc' H' m.ref):K.lookup loc' H' t m k ok=K.lookup loc H t m k ok:=by
 unfold Cfg.lookup
 cases hti:K.ti t with
 | none=>rfl
 | some i=>
  simp only
  cases hk:i.kind with
  | map kt e=>
   simp only
   cases hj:K.ti e with
   | none=>rfl
   | some j=>
    cases hi:K.ti kt with
    | none=>rfl
    | some i'=>
     cases m with
     | mp r=>have e:=h r (by simp [C.ref]); simp only [e]
     | _=>rfl
  | _=>rfl
theorem store_same {t:TypeId} {a v:C K.U} (h:SameAt loc H loc' H' a.ref):K.store loc' H' t a v=K.store loc H t a v:=by
 cases a with
 | d x=>cases x <;> rfl
 | asl r g s c=>have e:=h r (by simp [C.ref]); simp only [Cfg.store,e]
 | ptr r o=>have e:=h r (by simp [C.ref]); simp only [Cfg.store,e]
 | pa r g i j=>have e:=h r (by simp [C.ref]); simp only [Cfg.store,e]
 | mp r=>have e:=h r (by simp [C.ref]); simp only [Cfg.store,e]
 | _=>rfl
theorem mapUpdate_same {t:TypeId} {m k x:C K.U} (h:SameAt loc H loc' H' m.ref):K.mapUpdate loc' H' t m k x=K.mapUpdate loc H t m k x:=by
 unfold Cfg.mapUpdate
 cases hti:K.ti t with
 | none=>rfl
 | some i=>
  simp only
  cases hk:i.kind with
  | map kt e=>
   simp only
   cases hj:K.ti e with
   | none=>rfl
   | some j=>
    cases hi:K.ti kt with
    | none=>rfl
    | some i'=>
     cases m with
     | mp r=>have e:=h r (by simp [C.ref]); simp only [e]
     | _=>rfl
  | _=>rfl
theorem mapEntry_same {t:TypeId} {m k:C K.U} (h:SameAt loc H loc' H' m.ref):K.mapEntry loc' H' t m k=K.mapEntry loc H t m k:=by
 unfold Cfg.mapEntry
 cases hti:K.ti t with
 | none=>rfl
 | some i=>
  simp only
  cases hk:i.kind with
  | map kt e=>
   simp only
   cases hj:K.ti e with
   | none=>rfl
   | some j=>
    cases hi:K.ti kt with
    | none=>rfl
    | some i'=>
     cases m with
     | mp r=>have e:=h r (by simp [C.ref]); simp only [e]
     | _=>rfl
  | _=>rfl
theorem entryStore_same {t:TypeId} {m k x:C K.U} (h:SameAt loc H loc' H' m.ref):K.entryStore loc' H' t m k x=K.entryStore loc H t m k x:=by
 unfold Cfg.entryStore
 cases hti:K.ti t with
 | none=>rfl
 | some i=>
  simp only
  cases hk:i.kind with
  | map kt e=>
   simp only
   cases hj:K.ti e with
   | none=>rfl
   | some j=>
    cases m with
    | mp r=>
     have e:=h r (by simp [C.ref])
     cases k with
     | d dd=>
      cases dd with
      | int kd n=>cases kd <;> first|rfl|simp only [e]
      | _=>rfl
     | _=>rfl
    | _=>rfl
  | _=>rfl
theorem store_wr {t:TypeId} {a v:C K.U} {r:Out K.U} (h:K.store loc H t a v=some r):∀q∈a.ref,∃x,(q,x)∈r.wr:=by
 unfold Cfg.store at h
 repeat' split at h
 all_goals first|cases h|skip
 all_goals (intro q hq; simp only [C.ref,List.mem_singleton] at hq; subst hq; exact ⟨_,List.mem_singleton.2 rfl⟩)
theorem mapUpdate_wr {t:TypeId} {m k x:C K.U} {r:Out K.U} (h:K.mapUpdate loc H t m k x=some r):∀q∈m.ref,∃y,(q,y)∈r.wr:=by
 unfold Cfg.mapUpdate at h
 repeat' split at h
 all_goals first|cases h|skip
 all_goals (intro q hq; simp only [C.ref,List.mem_singleton] at hq; subst hq; exact ⟨_,List.mem_singleton.2 rfl⟩)
theorem mapEntry_wr {t:TypeId} {m k:C K.U} {r:Out K.U} (h:K.mapEntry loc H t m k=some r):∀q∈m.ref,∃y,(q,y)∈r.wr:=by
 unfold Cfg.mapEntry at h
 repeat' split at h
 all_goals first|cases h|skip
 all_goals (intro q hq; simp only [C.ref,List.mem_singleton] at hq; subst hq; exact ⟨_,List.mem_singleton.2 rfl⟩)
theorem entryStore_wr {t:TypeId} {m k x:C K.U} {r:Out K.U} (h:K.entryStore loc H t m k x=some r):∀q∈m.ref,∃y,(q,y)∈r.wr:=by
 unfold Cfg.entryStore at h
 repeat' split at h
 all_goals first|cases h|skip
 all_goals (intro q hq; simp only [C.ref,List.mem_singleton] at hq; subst hq; exact ⟨_,List.mem_singleton.2 rfl⟩)
theorem load_rd {t:TypeId} {a:C K.U} {r:Out K.U} (h:K.load loc H t a=some r):r.rd=a.ref:=by
 unfold Cfg.load at h
 repeat' split at h
 all_goals first|cases h|skip
 all_goals rfl
theorem lookup_rd {t:TypeId} {m k:C K.U} {ok:Bool} {r:Out K.U} (h:K.lookup loc H t m k ok=some r):r.rd=m.ref:=by
 unfold Cfg.lookup at h
 repeat' split at h
 all_goals first|cases h|skip
 all_goals rfl
def touch (r:Out K.U):List Tok:=r.rd.map Rf.tok ++ r.wr.map fun x=>x.1.tok
theorem touch_rd {r:Out K.U} {q:Rf} (h:q∈r.rd):q.tok∈touch r:=List.mem_append_left _ (List.mem_map_of_mem h)
theorem touch_wr {r:Out K.U} {q:Rf} {x:O K.U} (h:(q,x)∈r.wr):q.tok∈touch r:=List.mem_append_right _ (List.mem_map.2 ⟨(q,x),h,rfl⟩)
theorem appFresh_frame {slot:Option Nat} {j:TI} {rd:List Rf} {v:Vc K.U} {ok:Bool} {xs ys:List v.El} {r:Out K.U} (h:K.appFresh loc H slot j rd v ok xs ys=some r) (A:Agree (touch r) loc H loc' H'):
  K.appFresh loc' H' slot j rd v ok xs ys=some r∧r.rd=rd:=by
 unfold Cfg.appFresh at h ⊢
 split at h
 ·rename_i hc
  rw [if_pos hc]
  split at h
  ·rename_i q hnew
   simp only [Option.some.injEq] at h; subst h
   rw [A.newO hnew (touch_wr (x:=.arr 0 v (appL xs ys)) (by simp))]
   exact ⟨rfl,rfl⟩
  ·cases h
 ·cases h
theorem append_frame {slot:Option Nat} {t:TypeId} {x y:C K.U} {r:Out K.U} (h:K.append loc H slot t x y=some r) (A:Agree (touch r) loc H loc' H'):K.append loc' H' slot t x y=some r:=by
 unfold Cfg.append at h ⊢
 split at h
 ·rename_i i hi
  split at h
  ·rename_i e hk
   split at h
   ·cases h
   ·rename_i j hj
    split at h
    ·split at h
     ·rename_i ok ys hro
      obtain ⟨h1,h2⟩:=appFresh_frame h A
      rw [rowsOf_same (loc:=loc) (H:=H) (A.same fun q hq=>touch_rd (by rw [h2]; exact hq)),hro]
      exact h1
     ·cases h
    ·rename_i c xs
     split at h
     ·rename_i ok ys hro
      obtain ⟨h1,h2⟩:=appFresh_frame h A
      rw [rowsOf_same (loc:=loc) (H:=H) (A.same fun q hq=>touch_rd (by rw [h2]; exact hq)),hro]
      exact h1
     ·cases h
    ·rename_i ref gen sub cl
     split at h
     ·rename_i g v xs hr
      split at h
      ·rename_i ok ys hro
       have h0:=h
       unfold Cfg.appArr at h
       split at h
       ·rename_i hc
        split at h
        ·split at h
         ·rename_i hsame
          simp only [Option.some.injEq] at h; subst h
          rw [A.getO (touch_wr (List.mem_singleton.2 rfl)),hr]
          simp only
          rw [rowsOf_same (loc:=loc) (H:=H) (A.same fun q hq=>touch_rd (by simp [hq])),hro]
          simp only [Cfg.appArr]
          rw [if_pos hc,if_pos hsame]
         rename_i hsame
         split at h
         ·rename_i ref' hnew
          simp only [Option.some.injEq] at h; subst h
          rw [A.getO (touch_rd (by simp)),hr]
          simp only
          rw [rowsOf_same (loc:=loc) (H:=H) (A.same fun q hq=>touch_rd (by simp [hq])),hro]
          simp only [Cfg.appArr]
          rw [if_pos hc,if_neg hsame,A.newO hnew (touch_wr (List.mem_singleton.2 rfl))]
         ·cases h
        ·split at h
         ·rename_i ho
          simp only [Option.some.injEq] at h; subst h
          rw [A.getO (touch_wr (List.mem_singleton.2 rfl)),hr]
          simp only
          rw [rowsOf_same (loc:=loc) (H:=H) (A.same fun q hq=>touch_rd (by simp [hq])),hro]
          simp only [Cfg.appArr]
          rw [if_pos hc,if_pos ho]
         ·cases h
       ·cases h
      ·rename_i hno
       split at h
       ·rename_i ok ys hro
        rw [appEmpty_eq] at h
        obtain ⟨h1,h2⟩:=appFresh_frame h A
        rw [A.getO (touch_rd (by rw [h2]; simp)),hr]
        simp only
        rw [rowsOf_same (loc:=loc) (H:=H) (A.same fun q hq=>touch_rd (by rw [h2]; simp [hq])),hno]
        simp only
        rw [rowsOf_same (loc:=loc) (H:=H) (A.same fun q hq=>touch_rd (by rw [h2]; simp [hq])),hro]
        simp only [appEmpty_eq]
        exact h1
       ·cases h
     ·rename_i g cd xs hr
      split at h
      ·rename_i hcs
       have hcs':=hcs
       rw [Bool.and_eq_true] at hcs'
       obtain ⟨rfl,hsm⟩:=hcs'
       split at h
       ·rename_i ok ys hro
        have h0:=h
        unfold Cfg.appArr at h
        split at h
        ·rename_i hc
         dsimp only at h
         (try rw [if_pos hsm] at h)
         simp only [Option.some.injEq] at h; subst h
         rw [A.getO (touch_wr (List.mem_singleton.2 rfl)),hr]
         simp only [hcs]
         rw [rowsOf_same (loc:=loc) (H:=H) (A.same fun q hq=>touch_rd (by simp [hq])),hro]
         simp only [Cfg.appArr]
         rw [if_pos hc,if_pos hsm]
        ·cases h
       ·cases h
      ·rename_i hno
       split at h
       ·rename_i ok ys hro
        rw [appEmpty_eq] at h
        obtain ⟨h1,h2⟩:=appFresh_frame h A
        rw [A.getO (touch_rd (by rw [h2]; simp)),hr]
        simp only [hno]
        rw [rowsOf_same (loc:=loc) (H:=H) (A.same fun q hq=>touch_rd (by rw [h2]; simp [hq])),hro]
        simp only [appEmpty_eq]
        exact h1
       ·cases h
     ·cases h
    ·cases h
  ·cases h
 ·cases h
theorem buildSlice_frame {slot:Option Nat} {t:TypeId} {n:Nat} {ps:List (Nat×C K.U)} {r:Out K.U} (h:K.buildSlice loc H slot t n ps=some r) (A:Agree (touch r) loc H loc' H'):K.buildSlice loc' H' slot t n ps=some r:=by
 unfold Cfg.buildSlice at h ⊢
 repeat' split at h
 all_goals first|cases h|skip
 rename_i hk _ _ hj hc _ _ hf _ _ _ _ hx hnew
 simp only [hj,hf,hx,if_pos hc]
 rw [A.newO hnew (touch_wr (List.mem_singleton.2 rfl))]
theorem appZeros_frame {slot:Option Nat} {t:TypeId} {x y:C K.U} {r:Out K.U} (h:K.appZeros loc H slot t x y=some r) (A:Agree (touch r) loc H loc' H'):K.appZeros loc' H' slot t x y=some r:=by
 unfold Cfg.appZeros at h ⊢
 repeat' split at h
 all_goals first|cases h|skip
 rename_i hk _ _ _ _ _ hj hc _ _ _ _ hx hnew
 simp only [hj,hx,if_pos hc]
 rw [A.newO hnew (touch_wr (List.mem_singleton.2 rfl))]
theorem makeRows_frame {t:TypeId} {x y:C K.U} {r:Out K.U} (h:K.makeRows H t x y=some r) (A:Agree (touch r) loc H loc' H'):K.makeRows H' t x y=some r:=by
 have key:H'=H:=by
  unfold Cfg.makeRows at h
  repeat' split at h
  all_goals first|cases h|skip
  exact A.g (touch_wr (q:=.g H.length) (List.mem_cons_self ..))
 rw [key]; exact h
theorem makeSlice_frame {slot:Option Nat} {t:TypeId} {x y:C K.U} {r:Out K.U} (h:K.makeSlice loc H slot t x y=some r) (A:Agree (touch r) loc H loc' H'):K.makeSlice loc' H' slot t x y=some r:=by
 unfold Cfg.makeSlice at h ⊢
 repeat' split at h
 all_goals first|cases h|skip
 rename_i hk _ _ _ _ _ _ hj hc _ _ _ _ hx hnew
 simp only [hj,hx,if_pos hc]
 rw [A.newO hnew (touch_wr (List.mem_singleton.2 rfl))]
end
end
end Go.Abs
