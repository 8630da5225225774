/- LEMMAS: append, as a whole. Conditions: none. -/
import Derived.Test.YtaldbipmbkapmaaDoorA9
namespace Go.Abs
set_option linter.unusedVariables false
set_option linter.unusedSimpArgs false
section
variable {K:Cfg} {F:Nat→Prop} {w:World} {pl:Rf→Pl}
structure Did1 (K:Cfg) (F:Nat→Prop) (w:World) (loc:Loc K.U) (H:List (O K.U)) (pl:Rf→Pl) (c:C K.U) (wr:List (Rf×O K.U)) (v:Value) (w':World):Prop where
 ex:∃ref x p,wr=[(ref,x)]∧(∀n,ref=.g n→n≤H.length)∧Upd K F w (getO loc H) pl ref x p w'∧RepO F w' (setOb (getO loc H) ref x) (setPl pl ref p) p x∧
  RepC F w' (setOb (getO loc H) ref x) (setPl pl ref p) c v∧K.bnd x
theorem repC_asl {ob:Obs K} {w':World} {r:Rf} {g:Nat} {v:Vc K.U} {xs:List v.El} {p:Pl} {a:Option Addr} (ha:p.cap ≠ 0→a=some (at' p.blk 0)):
  RepC F w' (setOb ob r (.arr g v xs)) (setPl pl r p) (.asl r g none false) (.slice a xs.length p.cap):=by
 simp only [RepC]
 refine ⟨⟨_,_,_,rfl⟩,_,g,xs.length,K.widthV v,setOb_same _ _ _,rfl,Nat.le_refl _,fun _=>⟨a,by simp [sub?,setPl_same],fun h=>?_⟩⟩
 simp only [sub?,setPl_same,Bool.false_eq_true,if_false,Option.getD_none,Nat.sub_zero,Nat.zero_mul] at h ⊢
 exact ha h
structure AppT (K:Cfg) (t u e:TypeId) (j:TI) (v:Vc K.U):Prop where
 ht:K.P.underlying t=some (.slice e)
 hu:∃d,K.P.underlying u=some d∧∀k,d ≠ .int k
 hj:K.ti e=some j
 hw:K.widthV v=j.size
 hb:∀c,v=.pure c→K.bytesC c=j.bytes
 whole:j.whole=true
 bytes:j.bytes ≠ 0
theorem roomB_spec {n b:Nat} (h:roomB n b=true) (hb:b ≠ 0):n * b≤140737488355328∧n≤9223372036854775807:=by
 have h1:n * b≤room:=of_decide_eq_true h
 have h2:n * 1≤n * b:=Nat.mul_le_mul_left _ (by omega)
 simp only [room] at h1
 omega
theorem app_more (L:Laws K) {loc:Loc K.U} {H:List (O K.U)} (M:Mem K F w (getO loc H) pl) {t u e ty:TypeId} {j:TI} {v:Vc K.U} (T:AppT K t u e j v) {xs ys:List v.El} {base a:Option Addr} {cap c:Nat} {os us:List Value}
  (hold:(Builtin.firstCells (K.widthV v) xs.length (.slice base xs.length cap)).run K.P w.drew=.ok os.toArray w.drew) (ho:Rows' F w (getO loc H) pl v xs os)
  (hnew:∀len cap',(Builtin.firstCells (K.widthV v) ys.length (.slice a len cap')).run K.P w.drew=.ok us.toArray w.drew) (hu:Rows' F w (getO loc H) pl v ys us)
  (hcap:cap<xs.length+ys.length) (hroom:roomB (addN (lenL xs) (lenL ys)) j.bytes=true) {ref:Rf} {g:Nat} (hg:∀n,ref=.g n→n≤H.length)
  (hc:∀o,getO loc H ref=some o→∀nc,Compat K o (pl ref) (.arr g v (xs ++ ys)) ⟨w.heap.size,nc⟩):
  ∃val w',(Builtin.append_ #[t,u] ty #[.slice base xs.length cap,.slice a ys.length c]).run K.P w=.ok val w'∧
   Did1 K F w loc H pl (.asl ref g none false) [(ref,.arr g v (xs ++ ys))] val w':=by
 obtain ⟨hk,hlen⟩:=whole_spec T.whole
 obtain ⟨z,i,h1,h2,h3,h4,h5,h6,h7,_⟩:=zero_sound (F:=F) (w:=w) (pl:=pl) L T.hj hk (getO loc H)
 obtain ⟨d,hd1,hd2⟩:=T.hu
 obtain ⟨r1,r2⟩:=roomB_spec hroom T.bytes
 simp only [addN,lenL] at r1 r2
 have hw:i.size=K.widthV v:=by rw [h3,T.hw]
 have run:=run_append_more (w:=w) (ty:=ty) (c:=c) T.ht hd1 hd2 h1 h2 (by rw [hw]; exact hold) (by rw [hw]; exact hnew) hcap r2 (growslice_fits hcap (by rw [h4]; exact r1))
 have hnc:=grownCap_ge w (xs.length+ys.length) cap e
 obtain ⟨U,R⟩:=append_move M (r:=ref) (g:=g) (e:=e) ho hu (z:=z.cells) (by rw [h7,hlen,T.hw]) h6 hnc fun o h=>hc o h _
 refine ⟨_,_,run,⟨ref,_,_,rfl,hg,U,R,?_,bndV_of T.hb (by rw [List.length_append]; exact of_decide_eq_true hroom)⟩⟩
 have:=repC_asl (F:=F) (ob:=getO loc H) (pl:=pl) (w':=w.drew.alloc (.cells (os.toArray ++ us.toArray ++ Builtin.zeroCells z.cells (grownCap w (xs.length+ys.length) cap e - (xs.length+ys.length))) e)) (r:=ref) (g:=g) (v:=v)
  (xs:=xs ++ ys) (p:=⟨w.heap.size,grownCap w (xs.length+ys.length) cap e⟩) (a:=some ⟨w.heap.size,0,none⟩) fun _=>rfl
 rw [List.length_append] at this
 exact this
theorem app_none (L:Laws K) {loc:Loc K.U} {H:List (O K.U)} {t u e ty:TypeId} {j:TI} {v:Vc K.U} (T:AppT K t u e j v) {base a:Option Addr} {c:Nat} {ref:Rf}
  (hr:getO loc H ref=none) (hg:∀n,ref=.g n→n≤H.length):
  ∃val w',(Builtin.append_ #[t,u] ty #[.slice base 0 0,.slice a 0 c]).run K.P w=.ok val w'∧
   Did1 K F w loc H pl (.asl ref 0 none false) [(ref,.arr 0 v [])] val w':=by
 obtain ⟨hk,_⟩:=whole_spec T.whole
 obtain ⟨z,i,h1,_⟩:=zero_sound (F:=F) (w:=w) (pl:=pl) L T.hj hk (getO loc H)
 obtain ⟨d,hd1,hd2⟩:=T.hu
 have run:=run_append_fit (w:=w) (w':=w) (ty:=ty) (c:=c) (base:=base) (a:=a) (n:=0) (cap:=0) (m:=0) (us:=[]) T.ht hd1 hd2 h1 (fun len cap'=>run_firstCells rfl (by simp) (by simp)) (Nat.le_refl _)
  (by cases base <;> rfl)
 obtain ⟨U,R⟩:=new_empty (F:=F) (w:=w) (pl:=pl) hr v
 exact ⟨_,_,run,⟨ref,_,_,rfl,hg,U,R,repC_asl fun h=>absurd rfl h,bnd_nil v⟩⟩
theorem app_arr (L:Laws K) {loc:Loc K.U} {H:List (O K.U)} (M:Mem K F w (getO loc H) pl) {t u e ty:TypeId} {j:TI} {v:Vc K.U} (T:AppT K t u e j v) {xs ys:List v.El} {base a:Option Addr} {c n:Nat} {os us:List Value}
  {ref:Rf} {gen:Nat} (hr:getO loc H ref=some (.arr gen v xs)) (hn:n≤xs.length) (hbase:(pl ref).cap ≠ 0→base=some (at' (pl ref).blk 0))
  (hold:(Builtin.firstCells (K.widthV v) n (.slice base n (pl ref).cap)).run K.P w.drew=.ok os.toArray w.drew) (ho:Rows' F w (getO loc H) pl v (xs.take n) os)
  (hnew:∀len cap',(Builtin.firstCells (K.widthV v) ys.length (.slice a len cap')).run K.P w.drew=.ok us.toArray w.drew)
  (hnew':∀len cap',(Builtin.firstCells (K.widthV v) ys.length (.slice a len cap')).run K.P w=.ok us.toArray w) (hu:Rows' F w (getO loc H) pl v ys us)
  (hroom:roomB (addN n (lenL ys)) j.bytes=true) (hg:∀n,ref=.g n→n≤H.length):
  ∃val w',(Builtin.append_ #[t,u] ty #[.slice base n (pl ref).cap,.slice a ys.length c]).run K.P w=.ok val w'∧
   Did1 K F w loc H pl (.asl ref (gen+1) none false) [(ref,.arr (gen+1) v (xs.take n ++ ys))] val w':=by
 have hlen:(xs.take n).length=n:=by simp; omega
 by_cases hfit:n+ys.length≤(pl ref).cap
 ·obtain ⟨hk,_⟩:=whole_spec T.whole
  obtain ⟨z,i,h1,_,h3,_⟩:=zero_sound (F:=F) (w:=w) (pl:=pl) L T.hj hk (getO loc H)
  obtain ⟨d,hd1,hd2⟩:=T.hu
  have hw:i.size=K.widthV v:=by rw [h3,T.hw]
  by_cases h0:(pl ref).cap=0
  ·have hn0:n=0:=by omega
   have hy0:ys=[]:=List.eq_nil_of_length_eq_zero (by omega)
   subst hn0; subst hy0
   have run:=run_append_fit (w:=w) (w':=w) (ty:=ty) (c:=c) (base:=base) (a:=a) (n:=0) (cap:=(pl ref).cap) (m:=0) (us:=[]) T.ht hd1 hd2 h1 (fun len cap'=>run_firstCells rfl (by simp) (by simp)) (Nat.zero_le _)
    (by cases base <;> rfl)
   have U:Upd K F w (getO loc H) pl ref (.arr (gen+1) v (xs.take 0 ++ [])) ⟨w.heap.size,0⟩ w:=
    ⟨fun o h=>by rw [hr] at h; cases h; exact .arr rfl rfl (Nat.le_succ _) fun e=>absurd e (by omega),rfl,rfl,rfl,Nat.le_refl _,fun _ _ _=>rfl,.inl ⟨rfl,fun h=>absurd rfl h⟩⟩
   refine ⟨_,_,run,⟨ref,_,_,rfl,hg,U,.inl ⟨rfl,by simp⟩,?_,bndV_of T.hb (by simp)⟩⟩
   rw [h0]
   exact repC_asl fun h=>absurd rfl h
  ·obtain ⟨w',k1,U,R⟩:=append_fit M hr hu hn hfit h0 K.P
   have hb:=hbase h0
   subst hb
   have run:=run_append_fit (w:=w) (w':=w') (ty:=ty) (c:=c) (base:=some (at' (pl ref).blk 0)) (a:=a) (n:=n) (cap:=(pl ref).cap) (m:=ys.length) (us:=us) T.ht hd1 hd2 h1 (by rw [hw]; exact hnew') hfit
    (by simp only [at_add,Nat.zero_add,hw]; exact k1)
   refine ⟨_,_,run,⟨ref,_,_,rfl,hg,U,R,?_,bndV_of T.hb (by rw [List.length_append,hlen]; exact of_decide_eq_true hroom)⟩⟩
   have:=repC_asl (F:=F) (ob:=getO loc H) (pl:=pl) (w':=w') (r:=ref) (g:=gen+1) (v:=v) (xs:=xs.take n ++ ys) (p:=pl ref) (a:=some (at' (pl ref).blk 0)) fun _=>rfl
   rw [List.length_append,hlen] at this
   exact this
 ·have:=app_more (ty:=ty) (c:=c) (cap:=(pl ref).cap) (base:=base) (a:=a) (ref:=ref) (g:=gen+1) L M T (xs:=xs.take n) (ys:=ys) (by rw [hlen]; exact hold) ho hnew hu (by rw [hlen]; omega) (by simpa only [lenL,hlen] using hroom) hg
   (fun o h nc=>by rw [hr] at h; cases h; exact .arr rfl rfl (Nat.le_succ _) fun e=>absurd e (by omega))
  rw [hlen] at this
  exact this
theorem emptyL_iff {α:Type} {xs:List α}:emptyL xs=true↔xs=[]:=by simp [emptyL]
theorem appFresh_ok {loc:Loc K.U} {H:List (O K.U)} {slot:Option Nat} {j:TI} {v:Vc K.U} {rd:List Rf} {ok:Bool} {xs ys:List v.El} {r:Out K.U} (h:K.appFresh loc H slot j rd v ok xs ys=some r) (hok:r.ok=true):ok=true:=by
 unfold Cfg.appFresh at h
 split at h
 ·split at h
  ·simp only [Option.some.injEq] at h; subst h
   simp only [andB_true] at hok
   exact hok.1
  ·cases h
 ·cases h
theorem appFresh_sound' (L:Laws K) {loc:Loc K.U} {H:List (O K.U)} (M:Mem K F w (getO loc H) pl) {slot:Option Nat} {t u e ty:TypeId} {j:TI} (ht:K.P.underlying t=some (.slice e)) (hj:K.ti e=some j)
  (hd:∃d,K.P.underlying u=some d∧∀k,d ≠ .int k) {v:Vc K.U} {y:C K.U} {vy:Value} {rd:List Rf} {ok:Bool} {xs ys:List v.El} {r:Out K.U} (hy:RepC F w (getO loc H) pl y vy)
  {ok':Bool} (hro:K.rowsOf loc H v y=some (ok',ys)) (hok1:ok'=true) (h:K.appFresh loc H slot j rd v ok xs ys=some r) (hok:r.ok=true) {base:Option Addr} {os:List Value}
  (hold:∀w2:World,w2.heap=w.heap→∀len cap',(Builtin.firstCells (K.widthV v) xs.length (.slice base len cap')).run K.P w2=.ok os.toArray w2) (ho:Rows' F w (getO loc H) pl v xs os):
  ∃val w',(Builtin.append_ #[t,u] ty #[.slice base xs.length xs.length,vy]).run K.P w=.ok val w'∧Did1 K F w loc H pl r.v r.wr val w':=by
 unfold Cfg.appFresh at h
 split at h
 ·rename_i hc
  split at h
  ·rename_i ref hnew
   simp only [Option.some.injEq] at h; subst h
   simp only [andB_true] at hok
   obtain ⟨_,hok2,hok3⟩:=hok
   obtain ⟨h1,h2⟩:=newO_spec hnew
   obtain ⟨a,c,rfl,us,k1,k2⟩:=rowsOf_sound L M hro hok1 hy
   have T:AppT K t u e j v:=⟨ht,hd,hj,(fitsV_spec hc.1).1,(fitsV_spec hc.1).2,hc.2.1,hc.2.2⟩
   by_cases hys:ys=[]
   ·have hxs:xs=[]:=by
     simp only [orB,Bool.or_eq_true,emptyL_iff,notB_iff] at hok2
     rcases hok2 with h|h
     ·exact h
     ·rw [hys] at h; cases h
    subst hxs; subst hys
    exact app_none L T h1 h2
   ·have hpos:0<ys.length:=List.length_pos_iff.2 hys
    exact app_more (cap:=xs.length) L M T (hold w.drew rfl _ _) ho (k1 w.drew rfl) k2 (by omega) hok3 h2 (fun o h=>by rw [h1] at h; cases h)
  ·cases h
 ·cases h
theorem appFresh_sound (L:Laws K) {loc:Loc K.U} {H:List (O K.U)} (M:Mem K F w (getO loc H) pl) {slot:Option Nat} {t u e ty:TypeId} {j:TI} (ht:K.P.underlying t=some (.slice e)) (hj:K.ti e=some j)
  (hd:∃d,K.P.underlying u=some d∧∀k,d ≠ .int k) {v:Vc K.U} {y:C K.U} {vy:Value} {rd:List Rf} {ok:Bool} {xs ys:List v.El} {r:Out K.U} (hy:RepC F w (getO loc H) pl y vy)
  (hro:K.rowsOf loc H v y=some (ok,ys)) (h:K.appFresh loc H slot j rd v ok xs ys=some r) (hok:r.ok=true) {base:Option Addr} {os:List Value}
  (hold:∀w2:World,w2.heap=w.heap→∀len cap',(Builtin.firstCells (K.widthV v) xs.length (.slice base len cap')).run K.P w2=.ok os.toArray w2) (ho:Rows' F w (getO loc H) pl v xs os):
  ∃val w',(Builtin.append_ #[t,u] ty #[.slice base xs.length xs.length,vy]).run K.P w=.ok val w'∧Did1 K F w loc H pl r.v r.wr val w':=
 appFresh_sound' L M ht hj hd hy hro (appFresh_ok h hok) h hok hold ho
theorem append_sound (L:Laws K) {loc:Loc K.U} {H:List (O K.U)} (M:Mem K F w (getO loc H) pl) {slot:Option Nat} {t u ty:TypeId} {x y:C K.U} {vx vy:Value} {r:Out K.U} (hH:∀n o,getO loc H (.g n)=some o→n≤H.length)
  (h:K.append loc H slot t x y=some r) (hok:r.ok=true) (hd:∃d,K.P.underlying u=some d∧∀k,d ≠ .int k) (hx:RepC F w (getO loc H) pl x vx) (hy:RepC F w (getO loc H) pl y vy):
  ∃val w',(Builtin.append_ #[t,u] ty #[vx,vy]).run K.P w=.ok val w'∧Did1 K F w loc H pl r.v r.wr val w':=by
 unfold Cfg.append at h
 split at h
 ·rename_i i hi
  split at h
  ·rename_i e hk
   have ht:=ti_slice L hi hk
   split at h
   ·cases h
   ·rename_i j hj
    split at h
    ·split at h
     ·rename_i ok ys hro
      rw [repC_nils] at hx; subst hx
      exact appFresh_sound L M ht hj hd hy hro h hok (base:=none) (os:=[]) (fun w2 hw2 len cap'=>run_firstCells (w:=w) hw2 (by simp) (by simp)) (.nil _)
     ·cases h
    ·rename_i c xs
     split at h
     ·rename_i ok ys hro
      simp only [RepC] at hx
      obtain ⟨hD,a,rfl⟩:=hx
      obtain ⟨_,os,k1,k2⟩:=data_source L (ob:=getO loc H) (pl:=pl) hD
      exact appFresh_sound L M ht hj hd hy hro h hok k1 k2
     ·cases h
    ·rename_i ref gen sub cl
     split at h
     ·rename_i g v xs hr
      split at h
      ·rename_i ok ys hro
       unfold Cfg.appArr at h
       split at h
       ·rename_i hc
        have T:AppT K t u e j v:=⟨ht,hd,hj,(fitsV_spec hc.1).1,(fitsV_spec hc.1).2,hc.2.1,hc.2.2⟩
        split at h
        ·split at h
         ·rename_i hsame
          simp only [Option.some.injEq] at h; subst h
          simp only [andB_true,beq_iff_eq] at hok
          obtain ⟨hok1,hok2,hok3,hok4,hok5⟩:=hok
          obtain ⟨a,c,rfl,us,k1,k2⟩:=rowsOf_sound L M hro hok1 hy
          obtain ⟨b,cap,hv1,os,k3,k4⟩:=M.piece L hr (.inl rfl) hok2 hok3 hx
          obtain ⟨b',hv2,_⟩:=M.slice hr rfl hok2 hx
          rw [hv2] at hv1
          simp only [if_true,Value.slice.injEq] at hv1
          obtain ⟨rfl,e2,rfl⟩:=hv1
          rw [hv2]
          have hys:ys ≠ []:=fun e=>by rw [notB_iff] at hok4; rw [e] at hok4; cases hok4
          have hpos:0<ys.length:=List.length_pos_iff.2 hys
          simp only [if_true]
          simp only [lenL] at e2 k3 hok5
          rw [e2] at hok5 ⊢
          exact app_more (cap:=(subBy sub xs).length) L M T (k3 w.drew rfl _ _) k4 (k1 w.drew rfl) k2 (by omega) (by simpa only [lenL] using hok5) (fun n e=>hH n _ (e▸hr))
           (fun o h nc=>by rw [hr] at h; cases h; exact .arr rfl rfl (by omega) fun e=>absurd e (by omega))
         split at h
         ·rename_i ref' hnew
          simp only [Option.some.injEq] at h; subst h
          simp only [andB_true,beq_iff_eq] at hok
          obtain ⟨hok1,hok2,hok3,hok4,hok5⟩:=hok
          obtain ⟨h1,h2⟩:=newO_spec hnew
          obtain ⟨a,c,rfl,us,k1,k2⟩:=rowsOf_sound L M hro hok1 hy
          obtain ⟨b,cap,hv1,os,k3,k4⟩:=M.piece L hr (.inl rfl) hok2 hok3 hx
          obtain ⟨b',hv2,_⟩:=M.slice hr rfl hok2 hx
          rw [hv2] at hv1
          simp only [if_true,Value.slice.injEq] at hv1
          obtain ⟨rfl,e2,rfl⟩:=hv1
          rw [hv2]
          have hys:ys ≠ []:=fun e=>by rw [notB_iff] at hok4; rw [e] at hok4; cases hok4
          have hpos:0<ys.length:=List.length_pos_iff.2 hys
          simp only [if_true]
          simp only [lenL] at e2 k3 hok5
          rw [e2] at hok5 ⊢
          exact app_more (cap:=(subBy sub xs).length) L M T (k3 w.drew rfl _ _) k4 (k1 w.drew rfl) k2 (by omega) (by simpa only [lenL] using hok5) h2 (fun o h=>by rw [h1] at h; cases h)
         ·cases h
        ·split at h
         ·rename_i ho
          simp only [Option.some.injEq] at h; subst h
          simp only [andB_true,beq_iff_eq] at hok
          obtain ⟨hok1,hok2,hok3,hok4⟩:=hok
          subst hok2
          obtain ⟨a,c,rfl,us,k1,k2⟩:=rowsOf_sound L M hro hok1 hy
          obtain ⟨b,cap,hv1,os,k3,k4⟩:=M.piece L hr (.inl rfl) rfl hok3 hx
          obtain ⟨b',hv2,hb',_⟩:=M.slice hr rfl rfl hx
          rw [hv2] at hv1
          simp only [lenL] at ho hok4
          simp only [Bool.false_eq_true,if_false,ho,Nat.sub_zero,Nat.zero_mul,Value.slice.injEq] at hv1 hv2 hb'
          obtain ⟨rfl,e2,rfl⟩:=hv1
          have hle:=subOk_le hok3
          simp only [lenL] at hle
          have hsb:subBy sub xs=xs.take (sub? sub xs.length).2:=by rw [subBy_eq,ho,List.drop_zero]
          have hct:cutTo sub xs=xs.take (sub? sub xs.length).2:=by
           cases sub with
           | none=>simp [cutTo,sub?]
           | some p=>rfl
          rw [hsb] at k3 k4 e2
          rw [hv2,hct]
          have hl:(xs.take (sub? sub xs.length).2).length=(sub? sub xs.length).2:=by simp; omega
          have k3':=k3 w.drew rfl (sub? sub xs.length).2 (pl ref).cap
          simp only [lenL,hl] at k3'
          exact app_arr L M T hr (by omega) hb' k3' k4 (k1 w.drew rfl) (k1 w rfl) k2 hok4 (fun n e=>hH n _ (e▸hr))
         ·cases h
       ·cases h
      ·split at h
       ·rename_i ok ys hro
        rw [appEmpty_eq] at h
        have hok0:=appFresh_ok h hok
        simp only [andB_true,beq_iff_eq] at hok0
        obtain ⟨hok1,hok2,hok3,hok4⟩:=hok0
        obtain ⟨b',hv2,_⟩:=M.slice hr rfl hok2 hx
        have h0:(sub? sub (lenL xs)).2=0:=Nat.le_zero.1 (of_decide_eq_true hok4)
        have hv3:vx=.slice b' 0 0:=by rw [hv2]; simp only [if_true,lenL] at h0 ⊢; rw [h0]
        rw [hv3]
        exact appFresh_sound' L M ht hj hd hy hro hok1 h hok (base:=b') (os:=[]) (fun w2 hw2 len cap'=>run_firstCells (w:=w) hw2 (by simp) (by simp)) (.nil _)
       ·cases h
     ·rename_i g cd xs hr
      split at h
      ·rename_i hcs
       rw [Bool.and_eq_true] at hcs
       obtain ⟨rfl,hsm⟩:=hcs
       split at h
       ·rename_i ok ys hro
        unfold Cfg.appArr at h
        split at h
        ·rename_i hc
         have T:AppT K t u e j (.pure cd):=⟨ht,hd,hj,(fitsV_spec hc.1).1,(fitsV_spec hc.1).2,hc.2.1,hc.2.2⟩
         dsimp only at h
         (try rw [if_pos hsm] at h)
         simp only [Option.some.injEq] at h; subst h
         simp only [andB_true,beq_iff_eq] at hok
         obtain ⟨hok1,hok2,hok3,hok4,hok5⟩:=hok
         obtain ⟨a,c,rfl,us,k1,k2⟩:=rowsOf_sound L M hro hok1 hy
         obtain ⟨b,cap,hv1,os,k3,k4⟩:=M.piece (vc:=.pure cd) (xs:=xs) L hr (.inr ⟨cd,xs,rfl,rfl,rfl⟩) hok2 hok3 hx
         obtain ⟨b',hv2,_⟩:=M.slice hr rfl hok2 hx
         rw [hv2] at hv1
         simp only [if_true,Value.slice.injEq] at hv1
         obtain ⟨rfl,e2,rfl⟩:=hv1
         rw [hv2]
         have hys:ys ≠ []:=fun e=>by rw [notB_iff] at hok4; rw [e] at hok4; cases hok4
         have hpos:0<ys.length:=List.length_pos_iff.2 hys
         simp only [if_true]
         simp only [lenL] at e2 k3 hok5
         rw [e2] at hok5 ⊢
         exact app_more (cap:=(subBy sub xs).length) L M T (k3 w.drew rfl _ _) k4 (k1 w.drew rfl) k2 (by omega) (by simpa only [lenL] using hok5) (fun n e=>hH n _ (e▸hr))
          (fun o h nc=>by rw [hr] at h; cases h; exact .arr rfl rfl (by omega) fun e=>absurd e (by omega))
        ·cases h
       ·cases h
      ·split at h
       ·rename_i ok ys hro _
        rw [appEmpty_eq] at h
        have hok0:=appFresh_ok h hok
        simp only [andB_true,beq_iff_eq] at hok0
        obtain ⟨hok1,hok2,hok3,hok4⟩:=hok0
        obtain ⟨b',hv2,_⟩:=M.slice hr rfl hok2 hx
        have h0:(sub? sub (lenL xs)).2=0:=Nat.le_zero.1 (of_decide_eq_true hok4)
        have hv3:vx=.slice b' 0 0:=by rw [hv2]; simp only [if_true,lenL] at h0 ⊢; rw [h0]
        rw [hv3]
        exact appFresh_sound' L M ht hj hd hy hro hok1 h hok (base:=b') (os:=[]) (fun w2 hw2 len cap'=>run_firstCells (w:=w) hw2 (by simp) (by simp)) (.nil _)
       ·cases h
     ·cases h
    ·cases h
  ·cases h
 ·cases h
theorem Did1.whole {loc:Loc K.U} {H:List (O K.U)} {r:Rf} {g:Nat} {v:Vc K.U} {zs:List v.El} {val:Value} {w':World} {m:Nat} (hm:zs.length=m) (D:Did1 K F w loc H pl (.asl r g none false) [(r,.arr g v zs)] val w'):
  Did1 K F w loc H pl (.asl r g (some (0,m)) false) [(r,.arr g v zs)] val w':=by
 obtain ⟨ref,x,p,e,hg,U,R,hc,hb⟩:=D.ex
 simp only [List.cons.injEq,Prod.mk.injEq,and_true] at e
 obtain ⟨rfl,rfl⟩:=e
 refine ⟨_,_,p,rfl,hg,U,R,?_,hb⟩
 subst hm
 simp only [RepC,setOb_same] at hc ⊢
 obtain ⟨h1,o,g2,n,wd,h2,h3,h4,h5⟩:=hc
 refine ⟨h1,o,g2,n,wd,h2,h3,h4,fun e=>?_⟩
 cases h2; cases h3
 exact h5 e
theorem app_piece (L:Laws K) {loc:Loc K.U} {H:List (O K.U)} (M:Mem K F w (getO loc H) pl) {t u e ty:TypeId} {j:TI} {v:Vc K.U} (T:AppT K t u e j v) {xs ys:List v.El} {a:Option Addr} {c n p s:Nat} {us:List Value} {vx:Value}
    {gen:Nat} (hr:getO loc H (.l s)=some (.arr gen v xs)) (hs:subOk (some (p,n)) (lenL xs)=true) (hx:RepC F w (getO loc H) pl (.asl (.l s) gen (some (p,n)) false) vx)
    (hnew:∀len cap',(Builtin.firstCells (K.widthV v) ys.length (.slice a len cap')).run K.P w.drew=.ok us.toArray w.drew)
    (hnew':∀len cap',(Builtin.firstCells (K.widthV v) ys.length (.slice a len cap')).run K.P w=.ok us.toArray w) (hu:Rows' F w (getO loc H) pl v ys us)
    (hroom':roomB (addN (addN p n) (lenL ys)) j.bytes=true):
    ∃val w',(Builtin.append_ #[t,u] ty #[vx,.slice a ys.length c]).run K.P w=.ok val w'∧
      (Did1 K F w loc H pl (.asl (.l s) (gen+1) (some (p,n+ys.length)) false) [(.l s,.arr (gen+1) v (xs.take (p+n) ++ ys))] val w'∨
       Did1 K F w loc H pl (.asl (.l s) (gen+1) (some (0,n+ys.length)) false) [(.l s,.arr (gen+1) v ((xs.drop p).take n ++ ys))] val w'):=by
  have hg:∀n,Rf.l s=.g n→n≤H.length:=fun n e=>by cases e
  have hle:p+n≤xs.length:=subOk_le hs
  have hr1:(p+n+ys.length) * j.bytes≤room:=of_decide_eq_true hroom'
  have hroom:roomB (addN n (lenL ys)) j.bytes=true:=decide_eq_true (Nat.le_trans (Nat.mul_le_mul_right _ (by simp only [addN,lenL]; omega)) hr1)
  obtain ⟨a0,hv,ha0,hlen⟩:=M.slice hr rfl rfl hx
  simp only [Bool.false_eq_true,if_false,sub?,Option.getD_some] at hv ha0
  obtain ⟨a1,cap1,hv1,os,k3,k4⟩:=M.piece L hr (.inl rfl) rfl hs hx
  have hsb:subBy (some (p,n)) xs=(xs.drop p).take n:=rfl
  rw [hsb] at k3 k4
  have hl:((xs.drop p).take n).length=n:=by simp; omega
  simp only [lenL,hl] at k3
  subst hv
  have hk3:=k3 w.drew rfl n ((pl (.l s)).cap - p)
  have e1:a1=a0:=by
    simp only [Value.slice.injEq] at hv1; exact hv1.1.symm
  subst e1
  have moved:¬n+ys.length≤(pl (.l s)).cap - p→∃val w',(Builtin.append_ #[t,u] ty #[.slice a1 n ((pl (.l s)).cap - p),.slice a ys.length c]).run K.P w=.ok val w'∧
      Did1 K F w loc H pl (.asl (.l s) (gen+1) (some (0,n+ys.length)) false) [(.l s,.arr (gen+1) v ((xs.drop p).take n ++ ys))] val w':=by
    intro hfit
    have:=app_more (ty:=ty) (c:=c) (cap:=(pl (.l s)).cap - p) (base:=a1) (a:=a) (ref:=.l s) (g:=gen+1) L M T (xs:=(xs.drop p).take n) (ys:=ys) (by rw [hl]; exact hk3) k4 hnew hu (by rw [hl]; omega) (by simpa only [lenL,hl] using hroom) hg
      (fun o h nc=>by rw [hr] at h; cases h; exact .arr rfl rfl (Nat.le_succ _) fun e=>absurd e (by omega))
    rw [hl] at this
    obtain ⟨val,w',h1,h2⟩:=this
    exact ⟨val,w',h1,h2.whole (by rw [List.length_append,hl])⟩
  by_cases hfit:n+ys.length≤(pl (.l s)).cap - p
  · obtain ⟨hk,_⟩:=whole_spec T.whole
    obtain ⟨z,i,h1,_,h3,_⟩:=zero_sound (F:=F) (w:=w) (pl:=pl) L T.hj hk (getO loc H)
    obtain ⟨d,hd1,hd2⟩:=T.hu
    have hw:i.size=K.widthV v:=by rw [h3,T.hw]
    by_cases h0:(pl (.l s)).cap - p=0
    · have hn0:n=0:=by omega
      have hy0:ys=[]:=List.eq_nil_of_length_eq_zero (by omega)
      subst hn0; subst hy0
      have run:=run_append_fit (w:=w) (w':=w) (ty:=ty) (c:=c) (base:=a1) (a:=a) (n:=0) (cap:=(pl (.l s)).cap - p) (m:=0) (us:=[]) T.ht hd1 hd2 h1 (fun len cap'=>run_firstCells rfl (by simp) (by simp)) (Nat.zero_le _)
        (by cases a1 <;> rfl)
      have U:Upd K F w (getO loc H) pl (.l s) (.arr (gen+1) v ((xs.drop p).take 0 ++ [])) ⟨w.heap.size,0⟩ w:=
        ⟨fun o h=>by rw [hr] at h; cases h; exact .arr rfl rfl (Nat.le_succ _) fun e=>absurd e (by omega),rfl,rfl,rfl,Nat.le_refl _,fun _ _ _=>rfl,.inl ⟨rfl,fun h=>absurd rfl h⟩⟩
      refine ⟨_,_,run,.inr (Did1.whole (by simp) ⟨_,_,_,rfl,hg,U,.inl ⟨rfl,by simp⟩,?_,bndV_of T.hb (by simp)⟩)⟩
      rw [h0]
      exact repC_asl fun h=>absurd rfl h
    · have hcap:(pl (.l s)).cap ≠ 0:=by omega
      obtain ⟨w',k1,U,R⟩:=append_fit M hr hu (n:=p+n) hle (by omega) hcap K.P
      have hb:=ha0 h0
      subst hb
      have run:=run_append_fit (w:=w) (w':=w') (ty:=ty) (c:=c) (base:=some (at' (pl (.l s)).blk (p * K.widthV v))) (a:=a) (n:=n) (cap:=(pl (.l s)).cap - p) (m:=ys.length) (us:=us) T.ht hd1 hd2 h1 (by rw [hw]; exact hnew') hfit
        (by simp only [at_add,hw,←Nat.add_mul]; exact k1)
      have hb:K.bnd (.arr (gen+1) v (xs.take (p+n) ++ ys)):=bndV_of T.hb (by rw [List.length_append,List.length_take,Nat.min_eq_left hle]; exact hr1)
      refine ⟨_,_,run,.inl ⟨_,_,_,rfl,hg,U,R,?_,hb⟩⟩
      simp only [RepC]
      refine ⟨⟨_,_,_,rfl⟩,_,gen+1,(xs.take (p+n) ++ ys).length,K.widthV v,setOb_same _ _ _,rfl,Nat.le_refl _,fun _=>⟨some (at' (pl (.l s)).blk (p * K.widthV v)),?_,fun _=>?_⟩⟩
      · simp [sub?,setPl_same]
      · simp [sub?,setPl_same]
  · obtain ⟨val,w',h1,h2⟩:=moved hfit
    exact ⟨val,w',h1,.inr h2⟩
end
end Go.Abs
