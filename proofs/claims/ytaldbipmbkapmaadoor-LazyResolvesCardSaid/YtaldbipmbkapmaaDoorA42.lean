/- LEMMAS: functions that make rows of slices, told as functions that answer pure data. Conditions: none. -/
import Derived.Test.YtaldbipmbkapmaaDoorA41
namespace Go.Abs
set_option linter.unusedVariables false
set_option linter.unusedSimpArgs false
section
variable {K:Cfg}
def RowIs (K:Cfg) (H:List (O K.U)) (c:K.U.Ty) (r:Nat×Nat×Option (Nat×Nat)×Bool) (ys:List (K.U.El c)):Prop:=
 (ys=[]∧∃v xs,H[r.1]?=some (.arr r.2.1 v xs)∧(sub? r.2.2.1 (List.length xs)).2=0)∨∃xs:List (K.U.El c),H[r.1]?=some (.arr r.2.1 (.pure c) xs)∧subOk r.2.2.1 xs.length=true∧ys=subBy r.2.2.1 xs
structure RowsAre (K:Cfg) (H:List (O K.U)) (n gen:Nat) (c:K.U.Ty) (yss:List (List (K.U.El c))):Prop where
 len:∃rows:List (Nat×Nat×Option (Nat×Nat)×Bool),H[n]?=some (.arr gen .row rows)∧rows.length=yss.length∧∀(i:Nat) (r:Nat×Nat×Option (Nat×Nat)×Bool) (ys:List (K.U.El c)),rows[i]?=some r→yss[i]?=some ys→RowIs K H c r ys
theorem row_repD (L:Laws K) {F F':Nat→Prop} {w:World} {H:List (O K.U)} {pl:Rf→Pl} (M:Mem K F w (obH H) pl) (hF:∀b,F b→F' b) (hf:∀n o,H[n]?=some o→Owns K o (pl (.g n))→F' (pl (.g n)).blk)
  {c:K.U.Ty} {r:Nat×Nat×Option (Nat×Nat)×Bool} {ys:List (K.U.El c)} (h:RowIs K H c r ys) {u:Value} (hu:RepC F w (obH H) pl (.asl (.g r.1) r.2.1 r.2.2.1 r.2.2.2) u):RepD K F' w (.sl c ys) u:=by
 rcases h with ⟨rfl,v,xs,h1,h2⟩|⟨xs,h1,h2,rfl⟩
 ·simp only [RepC] at hu
  obtain ⟨_,o,g,n,wd,h3,h4,_,h5⟩:=hu
  have:o=.arr r.2.1 v xs:=by
   have h3:H[r.1]?=some o:=h3
   rw [h1] at h3; cases h3; rfl
  subst this
  have h4:some (r.2.1,List.length xs,K.widthV v)=some (g,n,wd):=h4
  simp only [Option.some.injEq,Prod.mk.injEq] at h4
  obtain ⟨rfl,rfl,rfl⟩:=h4
  obtain ⟨a,rfl,_⟩:=h5 rfl
  rw [h2]
  exact .sl0 _ _ _
 ·have hnow:K.now (fun _=>none) H (.g r.1) r.2.1 r.2.2.1=some (andB (r.2.1 == r.2.1) (subOk r.2.2.1 (lenL (α:=Vc.El (.pure c)) xs)),.sl c (subBy r.2.2.1 xs),.fro r.2.1 c xs):=by
   unfold Cfg.now
   have:getO (fun _=>none) H (.g r.1)=some (.arr r.2.1 (.pure c) xs):=h1
   rw [this]
  have hok:andB (r.2.1 == r.2.1) (subOk r.2.2.1 (lenL (α:=Vc.El (.pure c)) xs))=true:=by
   have:subOk r.2.2.1 (lenL (α:=Vc.El (.pure c)) xs)=true:=h2
   rw [this]; simp [andB]
  obtain ⟨_,hval⟩:=now_sound (loc:=fun _=>none) (H:=H) M hnow hok hu
  have hr:RepO F' w (obH H) pl (pl (.g r.1)) (.fro r.2.1 c xs):=by
   have ho:obH H (.g r.1)=some (.arr r.2.1 (.pure c) xs):=h1
   rcases M.rep _ _ ho with ⟨_,h3⟩|⟨vs,e,k1,k2,k3,k4,k5⟩
   ·exact .inl h3
   ·by_cases h0:(pl (.g r.1)).cap=0
    ·left
     have:List.length (α:=Vc.El (.pure c)) xs=0:=by omega
     exact List.eq_nil_of_length_eq_zero this
    ·right
     have hb:=M.bnd _ _ ho
     exact ArrIn.repD L k1 (k5.mono hF (fun _ _=>rfl) fun r o h=>⟨o,h,.refl _ _⟩) (hf _ _ h1 h0) k3 hb
  have:=hval F' (obH H) pl hr (obH H) pl
  simpa only [RepC] using this
theorem repCs_pure {F:Nat→Prop} {w:World} {ob ob':Obs K} {pl pl':Rf→Pl}:∀{cs:List (C K.U)} {vs:List Value},cs.all C.pureC=true→RepCs F w ob pl cs vs→RepCs F w ob' pl' cs vs
 | [],vs,_,h=>by simp only [RepCs] at h ⊢; exact h
 | c :: cs,vs,hp,h=>by
  simp only [List.all_cons,Bool.and_eq_true] at hp
  simp only [RepCs] at h ⊢
  obtain ⟨v,rest,rfl,h1,h2⟩:=h
  exact ⟨v,rest,rfl,repC_pure hp.1 h1,repCs_pure hp.2 h2⟩
theorem Runs.rowsD (L:Laws K) {f:FuncId} {args:List (C K.U)} {H:List (O K.U)} (hp:args.all C.pureC=true) {c c2:K.U.Ty} (e:List (K.U.El c)→K.U.El c2) (he:∀ys,K.enc c2 (e ys)=[.sl c ys]) {yss:List (List (K.U.El c))} (hb:yss.length * K.bytesC c2≤room)
  (h:Runs K f args [] fun c' H'=>∃n gen,c'=.asl (.g n) gen none false∧RowsAre K H' n gen c yss):
  Runs K f args H fun c' H'=>c'=.d (.sl c2 (yss.map e))∧H'=H:=by
 intro w F pl vs hok M hr
 have hr':RepCs F w (obH []) (plS pl fun n=>n) args vs:=repCs_pure hp hr
 refine (h w F (plS pl fun n=>n) vs (HOk.pures fun n o h=>by simp at h) ((d_among (H:=H) (ds:=[])).1.mem M) hr').mono ?_
 rintro e1 w' ⟨v,rfl,c',H',F',pl',own,⟨n,gen,rfl,⟨rows,hrows,hlen,hrow⟩⟩,Fi⟩
 obtain ⟨rfl,hv⟩:own=[]∧RepC F' w' (obH H') pl' (.asl (.g n) gen none false) v:=Fi.rep
 have noG:∀b,¬(Base.of w F ([]:List (O K.U)) (plS pl fun n=>n)).G b:=fun b ⟨n,o,h1,_⟩=>by simp [Base.of] at h1
 have hnew:∀(m:Nat) (o:O K.U),H'[m]?=some o→Owns K o (pl' (.g m))→w.heap.size≤(pl' (.g m)).blk∧(pl' (.g m)).blk<w'.heap.size:=fun m o h1 h2=>by
  refine ⟨?_,(Fi.mem.free (.g m) o h1 h2).2⟩
  rcases Fi.fr.own (.g m) o h1 h2 with h3|h3
  ·exact h3
  ·exact (noG _ h3).elim
 let F2:Nat→Prop:=fun b=>F' b∨∃m o,H'[m]?=some o∧Owns K o (pl' (.g m))∧b=(pl' (.g m)).blk
 have hF2:∀b,F' b→F2 b:=fun _ h=>.inl h
 have hold:∀b,b<w.heap.size→w'.heap[b]?=w.heap[b]?:=fun b hb=>Fi.fr.old b hb (noG b)
 have hFF:∀b,F b→F2 b:=fun b hb=>.inl (Fi.fr.Fsub b hb)
 have hN:∀b,F2 b→F b∨w.heap.size≤b:=fun b hb=>by
  rcases hb with hb|⟨m,o,h1,h2,rfl⟩
  ·rcases Fi.fr.Fnew b hb with h3|h3|h3
   ·exact .inl h3
   ·exact .inr h3
   ·exact (noG _ h3).elim
  ·exact .inr (hnew m o h1 h2).1
 have hfree:∀r o,obH H r=some o→Owns K o (pl r)→¬F2 (pl r).blk:=fun r o h ho hc=>by
  have:=M.free r o h ho
  rcases hN _ hc with h1|h1
  ·exact this.1 h1
  ·omega
 have hFw:∀b,F b→w'.heap[b]?=w.heap[b]?:=fun b hb=>hold b (M.frozen b hb)
 refine ⟨v,rfl,_,_,F2,pl,[],⟨rfl,rfl⟩,⟨rfl,?_⟩,?_,?_,List.nodup_nil,hok,fun b hb=>by cases hb⟩
 ·have hd:RepD K F2 w' (.sl c2 (yss.map e)) v:=by
   have ho:obH H' (.g n)=some (.arr gen .row rows):=hrows
   simp only [RepC] at hv
   obtain ⟨_,o,g,k,wd,h3,h4,_,h5⟩:=hv
   rw [ho] at h3; cases h3
   have h4:some (gen,rows.length,1)=some (g,k,wd):=h4
   simp only [Option.some.injEq,Prod.mk.injEq] at h4
   obtain ⟨rfl,rfl,rfl⟩:=h4
   obtain ⟨a,rfl,ha⟩:=h5 rfl
   have e0:(sub? none rows.length).2=yss.length:=hlen
   have e1:(sub? none rows.length).1=0:=rfl
   rw [e0,e1] at *
   simp only [Bool.false_eq_true,if_false,Nat.sub_zero,Nat.zero_mul] at ha ⊢
   by_cases hz:yss.length=0
   ·have:yss=[]:=List.eq_nil_of_length_eq_zero hz
    subst this
    exact .sl0 _ _ _
   ·rcases Fi.mem.rep _ _ ho with ⟨_,h6⟩|⟨vs,t,k1,k2,k3,k4,k5⟩
    ·subst h6; simp at hlen; omega
    ·have k3:rows.length≤(pl' (.g n)).cap:=k3
     have hc:(pl' (.g n)).cap ≠ 0:=by omega
     rw [ha hc]
     have hw1:K.width c2=1:=by
      have:=L.len c2 (e [])
      rw [he] at this; simpa using this.symm
     have hcell:∀(i:Nat) (r:Nat×Nat×Option (Nat×Nat)×Bool),rows[i]?=some r→∃u,vs[i]?=some u∧RepC F' w' (obH H') pl' (.asl (.g r.1) r.2.1 r.2.2.1 r.2.2.2) u:=fun i r hi=>by
      have:=k5 i r hi
      simp only [Cfg.encV,Cfg.widthV,Nat.mul_one,RepCs] at this
      obtain ⟨u,rest,q1,q2,rfl⟩:=this
      refine ⟨u,?_,q2⟩
      have:((vs.drop i).take 1)[0]?=some u:=by rw [q1]; rfl
      simpa [List.getElem?_take,List.getElem?_drop] using this
     have hl:(yss.map e).length=yss.length:=by simp
     rw [←hl]
     refine .sl c2 (yss.map e) _ 0 _ (fun i _=>vs.getD i undef) (.inr ⟨n,_,hrows,hc,rfl⟩) (by simp; omega) (fun i x hx j d hd=>?_) (fun i x hx j d hd=>?_) (by simpa using hb)
     all_goals
      rw [List.getElem?_map,Option.map_eq_some_iff] at hx
      obtain ⟨ys,hy,rfl⟩:=hx
      rw [he] at hd
      have hj:j=0:=by
       have:=(List.getElem?_eq_some_iff.1 hd).1
       simpa using this
      subst hj
      simp only [List.getElem?_cons_zero,Option.some.injEq] at hd
      subst hd
      have hi:i<rows.length:=by rw [hlen]; exact (List.getElem?_eq_some_iff.1 hy).1
      obtain ⟨u,hu,hu2⟩:=hcell i rows[i] (List.getElem?_eq_getElem hi)
      have hg:vs.getD i undef=u:=by rw [List.getD_eq_getElem?_getD,hu]; rfl
     ·rw [hw1,hg,cell_of_row w' _ _ _ t (0,0) k1]
      simpa using hu
     ·rw [hg]
      exact row_repD L Fi.mem hF2 (fun m o h1 h2=>.inr ⟨m,o,h1,h2,rfl⟩) (hrow i _ ys (List.getElem?_eq_getElem hi) hy) hu2
  simpa only [RepC] using hd
 ·exact ⟨fun r o h=>(M.rep r o h).mono hFF hFw (fun r o h=>⟨o,h,.refl _ _⟩) fun ho=>hold _ (M.free r o h ho).2,fun r r' o o' h h'=>M.apart r r' o o' h h',fun r o h ho=>⟨hfree r o h ho,Nat.lt_of_lt_of_le (M.free r o h ho).2 Fi.fr.size⟩,
   fun b hb=>by
    rcases hb with hb|⟨m,o,h1,h2,rfl⟩
    ·exact Fi.mem.frozen b hb
    ·exact (hnew m o h1 h2).2,
   fun g cells hg=>by
    obtain ⟨h1,h2⟩:=Fi.mem.glob g cells hg
    refine ⟨.inl h1,fun j d hd=>?_⟩
    obtain ⟨u,h3,h4⟩:=h2 j d hd
    exact ⟨u,h3,h4.mono hF2 fun _ _=>rfl⟩,M.bnd⟩
 ·exact ⟨Fi.fr.os,Fi.fr.tape,Fi.fr.output,Fi.fr.size,fun b hb _=>hold b hb,hFF,fun b hb=>by
   rcases hN b hb with h|h
   ·exact .inl h
   ·exact .inr (.inl h),fun r o h ho=>by
   obtain ⟨m,rfl,h1,_⟩:=obH_some (loc:=fun _=>none) h
   exact .inr ⟨m,o,h1,ho,rfl⟩,fun m o h=>⟨o,h,.refl _ _⟩⟩
end
end Go.Abs
