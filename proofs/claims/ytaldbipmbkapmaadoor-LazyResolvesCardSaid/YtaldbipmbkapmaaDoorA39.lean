/- LEMMAS: **a range over a slice from its end on.** Conditions: none. -/
import Derived.Test.YtaldbipmbkapmaaDoorA38
namespace Go.Abs
set_option linter.unusedVariables false
set_option linter.unusedSimpArgs false
section
variable {K:Cfg} {Rs:Res K} {β:Base K} {nt:Nat} {st:St K.U} {a:Act} {F:Nat→Prop} {pl:Rf→Pl} {w:World}
theorem RepO.drop {ob ob':Obs K} {keep:Nat→Bool} {o:O K.U} {p:Pl} (ho:∀r o,r.kept keep=true→ob r=some o→ob' r=some o) (hk:o.refsOk keep=true) (h:RepO F w ob pl p o):RepO F w ob' pl p o:=by
 have ho':∀r o,r.kept keep=true→ob r=some o→∃o',ob' r=some o'∧Compat K o (pl r) o' (pl r):=fun r o h1 h2=>⟨o,ho r o h1 h2,.refl _ _⟩
 cases o with
 | cells cs=>
  obtain ⟨vs,e,h1,h2,h3⟩:=h
  exact ⟨vs,e,h1,RepCs.mono' (fun _ h=>h) (fun _ _=>rfl) ho' hk h2,h3⟩
 | arr g v xs=>
  have hv:∀n,v ≠ .raw n:=by rintro n rfl; simp [O.refsOk] at hk
  rcases h with h|⟨vs,e,h1,h2,h3,h4,h5⟩
  ·exact .inl h
  ·exact .inr ⟨vs,e,h1,h2,h3,h4,fun i x hx=>RepCs.mono' (fun _ h=>h) (fun _ _=>rfl) ho' (refsAll_encV x hv) (h5 i x hx)⟩
 | fro g c xs=>exact h
 | map ag kc v es=>
  have hv:∀n,v ≠ .raw n:=by rintro n rfl; simp [O.refsOk] at hk
  obtain ⟨en,cl,h1,h2,hbn,hcl,h3⟩:=h
  refine ⟨en,cl,h1,h2,hbn,hcl,fun i k x hx=>?_⟩
  obtain ⟨e,k1,k2,k3,k4,k5⟩:=h3 i k x hx
  exact ⟨e,k1,k2,k3,RepCs.mono' (fun _ h=>h) (fun _ _=>rfl) ho' (refsAll_d _) k4,RepCs.mono' (fun _ h=>h) (fun _ _=>rfl) ho' (refsAll_encV x hv) k5⟩
mutual
theorem C.refsOk_mono {U:Univ} {keep keep':Nat→Bool} (hk:∀s,keep s=true→keep' s=true):∀(c:C U),c.refsOk keep=true→c.refsOk keep'=true
 | .ptr (.l s) _,h|.pa (.l s) _ _ _,h|.asl (.l s) _ _ _,h|.mp (.l s),h=>by simp only [C.refsOk] at h ⊢; exact hk s h
 | .fn _ a b,h=>by simp only [C.refsOk,Bool.and_eq_true] at h ⊢; exact ⟨C.refsAll_mono hk a h.1,C.refsAll_mono hk b h.2⟩
 | .agg cs,h|.tup cs,h=>by simp only [C.refsOk] at h ⊢; exact C.refsAll_mono hk cs h
 | .ifc _ x,h=>by simp only [C.refsOk] at h ⊢; exact C.refsOk_mono hk x h
 | .d _,_|.clip _ _,_|.ep _,_|.ptr (.g _) _,_|.pa (.g _) _ _ _,_|.asl (.g _) _ _ _,_|.osl _ _,_|.mp (.g _),_|.optr _,_|.fp _ _ _,_|.dead,_=>by simp [C.refsOk]
theorem C.refsAll_mono {U:Univ} {keep keep':Nat→Bool} (hk:∀s,keep s=true→keep' s=true):∀(cs:List (C U)),C.refsAll keep cs=true→C.refsAll keep' cs=true
 | [],_=>by simp [C.refsAll]
 | c :: cs,h=>by simp only [C.refsAll,Bool.and_eq_true] at h ⊢; exact ⟨C.refsOk_mono hk c h.1,C.refsAll_mono hk cs h.2⟩
end
theorem O.refsOk_mono {U:Univ} {keep keep':Nat→Bool} (hk:∀s,keep s=true→keep' s=true) {o:O U} (h:o.refsOk keep=true):o.refsOk keep'=true:=by
 cases o with
 | cells cs=>exact C.refsAll_mono hk cs h
 | arr g v xs=>cases v <;> first|rfl|(simp [O.refsOk] at h)
 | fro g c xs=>rfl
 | map ag kc v es=>cases v <;> first|rfl|(simp [O.refsOk] at h)
theorem sameAll_get {U:Univ} {loc loc':Loc U}:∀{l:List (Nat×List (Option U.Ty))} {p:Prop},sameAll loc loc' l p→∀s,hasKey l s=true→loc s=loc' s
 | [],_,_,s,h=>by simp [hasKey] at h
 | (k,c) :: l,p,h,s,hs=>by
  simp only [sameAll] at h
  simp only [hasKey,Bool.or_eq_true] at hs
  rcases hs with hs|hs
  ·rw [Nat.eq_of_beq_eq_true hs]; exact h.1
  ·exact sameAll_get h.2 s hs
theorem Sim.drop {st2 st0:St K.U} (S:Sim K β nt st2 a F pl w) {objs:List (Nat×List (Option K.U.Ty))} (hdom:∀s,hasKey objs s=false→st0.loc s=none) (hobj:∀s o,hasKey objs s=true→st0.loc s=some o→o.refsOk (hasKey objs)=true)
  (hsame:sameAll st2.loc st0.loc objs True) (hH:st2.H=st0.H) (hgh:∀t,(β.ghost t).1.refsOk (hasKey objs)=true):Sim K β 0 ⟨fun _=>.dead,st0.loc,st0.H⟩ ⟨#[],[]⟩ F pl w:=by
 have sub:∀r o,getO st0.loc st0.H r=some o→st2.obs r=some o∧(∀s,r=.l s→hasKey objs s=true):=by
  intro r o h
  cases r with
  | g n=>exact ⟨by show st2.H[n]?=_; rw [hH]; exact h,fun s e=>by cases e⟩
  | l s=>
   have h:st0.loc s=some o:=h
   have hk:hasKey objs s=true:=by
    cases hk:hasKey objs s with
    | true=>rfl
    | false=>rw [hdom s hk] at h; cases h
   exact ⟨(sameAll_get hsame s hk).trans h,fun s' e=>by cases e; exact hk⟩
 have ho:∀r o,r.kept (hasKey objs)=true→st2.obs r=some o→getO st0.loc st0.H r=some o:=by
  intro r o hk h
  cases r with
  | g n=>show st0.H[n]?=_; rw [←hH]; exact h
  | l s=>exact (sameAll_get hsame s hk).symm.trans h
 have ho':∀r o,r.kept (hasKey objs)=true→st2.obs r=some o→∃o',getO st0.loc st0.H r=some o'∧Compat K o (pl r) o' (pl r):=fun r o h1 h2=>⟨o,ho r o h1 h2,.refl _ _⟩
 have hok:∀r o,getO st0.loc st0.H r=some o→o.refsOk (hasKey objs)=true:=by
  intro r o h
  cases r with
  | g n=>
   have h0:st2.H[n]?=some o:=by rw [hH]; exact h
   have:=S.hok n o h0
   exact O.refsOk_mono (fun s h=>by cases h) this
  | l s=>exact hobj s o ((sub (.l s) o h).2 s rfl) h
 refine ⟨rfl,marks_nil,S.pins,fun t=>RepC.mono' (fun _ h=>h) (fun _ _=>rfl) ho' (hgh t) (S.ghosts t),fun _=>repC_dead _,⟨fun r o h=>(S.mem.rep r o (sub r o h).1).drop ho (hok r o h),fun r r' o o' h h'=>S.mem.apart r r' o o' (sub r o h).1 (sub r' o' h').1,fun r o h=>S.mem.free r o (sub r o h).1,S.mem.frozen,S.mem.glob,fun r o h=>S.mem.bnd r o (sub r o h).1⟩,
  ⟨S.fr.os,S.fr.tape,S.fr.output,S.fr.size,S.fr.old,S.fr.Fsub,S.fr.Fnew,fun r o h=>S.fr.own r o (sub r o h).1,fun n o h=>?_⟩,fun n o h=>S.hok n o (by rw [hH]; exact h)⟩
 obtain ⟨o',h1,h2⟩:=S.fr.glob n o h
 exact ⟨o',ho (.g n) o' rfl h1,h2⟩
theorem Marks.set {w0:World} {pin:Nat→Option Obj} {ds:List Deferred} (h:Marks w0 pin ds) {l:Nat} {o:Obj} (hl:pin l ≠ some (.deferred (some []))):Marks w0 (fun b=>if b=l then some o else pin b) ds:=by
 refine ⟨fun d hd=>?_,h.2⟩
 obtain ⟨D,e,h1,h2⟩:=h.1 d hd
 refine ⟨D,e,h1,?_⟩
 show (if D=l then some o else pin D)=_
 rw [if_neg (by rintro rfl; exact hl h2)]; exact h2
theorem Sim.plain (S:Sim K β nt st a F pl w):Sim K { β with ghost:=fun _=>(.dead,undef) } nt st a F pl w:=
 ⟨S.size,S.defers,S.pins,fun _=>repC_dead _,S.tmps,S.mem,Alike.fr (β:=β) (β':={ β with ghost:=fun _=>(.dead,undef) }) ⟨rfl,rfl,rfl,rfl⟩ S.fr,S.hok⟩
theorem valOf_ok {j:TI} {cs:List (C K.U)} {k:C K.U→Prop} (h:okP (valOf j cs) k):valOf j cs=some ((valOf j cs).getD .dead)∧k ((valOf j cs).getD .dead):=by
 cases hv:valOf j cs with
 | none=>rw [hv] at h; exact h.elim
 | some v=>rw [hv] at h; exact ⟨rfl,h⟩
theorem Held.marks {β'':Base K} {gh:Nat→C K.U×Value} {D l:Nat} {o:Obj} (h:Held β β'' gh D l o) (hD:D=w.heap.size) (S:Sim K β nt st a F pl w):Marks β''.w β''.pin ([{ target:=.collected D,args:=#[] }] ++ a.defers):=by
 refine ⟨fun d hd=>?_,List.nodup_cons.2 ⟨fun hm=>?_,S.defers.2⟩⟩
 ·rcases List.mem_cons.1 hd with rfl|hd
  ·exact ⟨D,rfl,by rw [h.alike.w,hD]; exact S.fr.size,h.d⟩
  ·obtain ⟨D0,e,h1,h2⟩:=S.defers.1 d hd
   exact ⟨D0,e,by rw [h.alike.w]; exact h1,h.old _ _ h2⟩
 ·obtain ⟨D0,e,h1,h2⟩:=S.defers.1 _ hm
  have:=S.mem.frozen D0 (S.pins D0 _ h2).1
  simp only [Deferred.mk.injEq,Target.collected.injEq,and_true] at e
  omega
theorem rangeP_sound (L:Laws K) {R:Nat→Array Oper→St K.U→(St K.U→Prop)→Prop} (hR:RegOk K R) {f:FuncId} {fn:Func} {post:C K.U→List (O K.U)→Prop} {g:Operand} {ps:Array Tmp} {assign body:Code} {cont:St K.U→Prop}
  (h:rangeP R f fn post g ps assign body st cont) (hg:β.plain) (S:Sim K β fn.ntmps st a F pl w):
  (Code.rangeFunc g ps assign body).wpIn Fence.wide 1 K.P (fun e a' w'=>(e=.normal∧∃β' st' F' pl',Alike β β'∧β'.plain∧Sim K β' fn.ntmps st' a' F' pl' w'∧cont st')∨(e=.ret∧∃β' st' F' pl',Alike β β'∧Sim K β' fn.ntmps st' a' F' pl' w'∧endP f fn st' post)) a w:=by
 unfold rangeP at h
 split at h
 rotate_left
 ·exact h.elim
 rename_i live objs gf r hlive hev
 split at h
 rotate_left
 ·exact h.elim
 rename_i x p0 p1 hclr hback hps
 split at h
 rotate_left
 ·exact h.elim
 rename_i it j c hit hj hvc
 split at h
 rotate_left
 ·exact h.elim
 rename_i hcd
 obtain ⟨hk,hcw,hbc,hp0,hp1⟩:=hcd
 obtain ⟨xs,hobj,b,hall,hdone⟩:=h
 simp only [Bool.and_eq_true] at hclr
 obtain ⟨hc1,hc2,hda,hdb⟩:=hclr
 have hps':ps=#[p0,p1]:=by apply Array.ext'; simpa using hps
 subst hps'
 have rg:=S.ev hev
 simp only [RepC,RepCs] at rg
 obtain ⟨a1,b1,hgv,ha1,v1,rest,hb1,hptr,hrest⟩:=rg
 subst ha1; subst hrest; subst hb1
 have hgv:a.eval g=.func (.func gf) #[] #[v1]:=hgv
 have hH:st.H[r]?=some (.cells [.d (.sl c xs)]):=hobj
 have S0:=S.clear hg hc1
 have hlen:xs.length<4611686018427387904:=by
  have hm:=S.mem.rep (.g r) _ (show st.obs (.g r)=_ from hH)
  obtain ⟨vs,e,h1,h2,h3⟩:=hm
  simp only [RepCs] at h2
  obtain ⟨v,_,_,h2,_⟩:=h2
  simp only [RepC] at h2
  have hb:xs.length * K.bytesC c≤room:=by
   cases h2 with
   | sl0=>simp
   | sl _ _ _ _ _ _ _ _ _ _ hbnd=>exact hbnd
  have:xs.length * 1≤xs.length * K.bytesC c:=Nat.mul_le_mul_left _ hbc
  simp only [room] at hb
  omega
 generalize hst0:st.clear live objs=st0 at *
 have hH0:st0.H=st.H:=by rw [←hst0]; rfl
 have hdom:∀s,hasKey objs s=false→st0.loc s=none:=by
  intro s hs
  rw [←hst0]
  show ofList none (objs.map fun (s,c)=>(s,(st.loc s).map fun o=>(o.regen st.loc).coO c)) s=none
  rcases ofList_map none (fun s c=>(st.loc s).map fun o=>(o.regen st.loc).coO c) objs s with ⟨_,h1⟩|⟨c,_,h1,_⟩
  ·exact h1
  ·rw [hs] at h1; cases h1
 simp only [St.clearOk,Bool.and_eq_true,List.all_eq_true] at hc2
 have hobjs:∀s o,hasKey objs s=true→st0.loc s=some o→o.refsOk (hasKey objs)=true:=by
  intro s o hs ho
  have:∀l:List (Nat×List (Option K.U.Ty)),hasKey l s=true→∃c,(s,c)∈l:=by
   intro l
   induction l with
   | nil=>intro h; simp [hasKey] at h
   | cons p l ih=>
    intro h
    simp only [hasKey,Bool.or_eq_true] at h
    rcases h with h|h
    ·exact ⟨p.2,by rw [Nat.eq_of_beq_eq_true h]; exact List.mem_cons_self ..⟩
    ·obtain ⟨c,hc⟩:=ih h
     exact ⟨c,List.mem_cons_of_mem _ hc⟩
  obtain ⟨c,hc⟩:=this objs hs
  have:=hc2.2 (s,c) hc
  rw [ho] at this; exact this
 have htm:∀t,(st0.tmps t).refsOk (hasKey objs)=true:=by
  intro t
  rcases ofList_map .dead (fun t c=>((st.tmps t).regen st.loc).coV c) live t with ⟨_,h1⟩|⟨c,hm,_,h1⟩
  ·have:st0.tmps t=.dead:=by rw [←hst0]; exact h1
   rw [this]; simp [C.refsOk]
  ·exact hc2.1 (t,c) hm
 let gh:Nat→C K.U×Value:=fun t=>match t with|0=>(.ptr (.g r) 0,v1)|t+1=>(st0.tmps t,a.tmps.getD t undef)
 have hghk:∀t,(gh t).1.refsOk (hasKey objs)=true:=fun t=>match t with|0=>(by simp [gh,C.refsOk])|t+1=>htm t
 have S1:Sim K { β with ghost:=gh } 0 ⟨fun _=>.dead,st0.loc,st.H⟩ ⟨#[],[]⟩ F pl w:=by
  rw [←hH0]
  refine ⟨rfl,marks_nil,S0.pins,fun t=>?_,fun _=>repC_dead _,S0.mem,Alike.fr (β:=β) (β':={ β with ghost:=gh }) ⟨rfl,rfl,rfl,rfl⟩ S0.fr,S0.hok⟩
  cases t with
  | zero=>
   show RepC F w (getO st0.loc st0.H) pl (.ptr (.g r) 0) v1
   rw [hH0]
   simp only [RepC] at hptr ⊢
   exact hptr
  | succ t=>exact S0.tmps t
 have hsz:(w.alloc (.deferred (some []))).heap.size=w.heap.size+1:=by simp
 have hlo:∀b x,β.pin b=some x→b<w.heap.size:=fun b x h=>S.mem.frozen b (S.pins b x h).1
 have hl0:β.pin (w.heap.size+1)=none:=by
  cases hp:β.pin (w.heap.size+1) with
  | none=>rfl
  | some x=>have:=hlo _ x hp; omega
 refine wpIn_rangeFunc ?_
 intro fid _
 have S3:=(S1.allocNC (.deferred (some []))).allocNC (recO fid a.tmps #[p0,p1] assign body w.heap.size .ready none)
 rw [hsz] at S3
 have hh3:Held β ((Base.set { β with ghost:=gh } w.heap.size (.deferred (some []))).set (w.heap.size+1) (recO fid a.tmps #[p0,p1] assign body w.heap.size .ready none)) gh w.heap.size (w.heap.size+1) (recO fid a.tmps #[p0,p1] assign body w.heap.size .ready none):=by
  refine ⟨⟨rfl,rfl,rfl,rfl⟩,rfl,?_,if_pos rfl,fun b x hx=>?_⟩
  ·show (if w.heap.size=w.heap.size+1 then _ else if w.heap.size=w.heap.size then _ else _)=_
   rw [if_neg (by omega),if_pos rfl]
  ·have:=hlo b x hx
   show (if b=w.heap.size+1 then _ else if b=w.heap.size then _ else β.pin b)=_
   rw [if_neg (by omega),if_neg (by omega)]; exact hx
 have hsize:=S.fr.size
 have hne:w.heap.size ≠ w.heap.size+1:=by omega
 have hfn:∃fnB,K.P.funcs[gf]?=some fnB∧fnB.body=some (backBody x):=by
  obtain ⟨fnB,h1,h2,_⟩:=L.back gf x hback
  exact ⟨fnB,h1,h2⟩
 obtain ⟨fnB,hf1,hf2⟩:=hfn
 refine ⟨w.heap.size+1,[{ target:=.collected w.heap.size,args:=#[] }],((w.alloc (.deferred (some []))).alloc (recO fid a.tmps #[p0,p1] assign body w.heap.size .ready none)),{ target:=.fn (.func gf) #[v1],args:=#[.func (.yield (w.heap.size+1)) #[] #[]] },((w.alloc (.deferred (some []))).alloc (recO fid a.tmps #[p0,p1] assign body w.heap.size .ready none)),gf,#[.func (.yield (w.heap.size+1)) #[] #[]] ++ #[v1],((w.alloc (.deferred (some []))).alloc (recO fid a.tmps #[p0,p1] assign body w.heap.size .ready none)),run_enterLoop_outer ..,?_,fun _ _=>trivial,?_,fun h=>by simp [Fence.wide] at h,?_⟩
 ·simp only [resolve,hgv,Sem.run_bind,Deferred.ofValue,Sem.run_pure,Result.andThen_ok,Array.empty_append,List.map_toArray,List.map_cons,List.map_nil]
  rfl
 ·simp only [invoke]
  exact run_callFunc L hf1 hf2 _
 let Stop:World→Prop:=fun W'=>∃(β'':Base K) (F'':Nat→Prop) (pl'':Rf→Pl) (st2:St K.U),Held β β'' gh w.heap.size (w.heap.size+1) (recO fid a.tmps #[p0,p1] assign body w.heap.size .done (some .ret))∧Sim K β'' 0 ⟨fun _=>.dead,st2.loc,st2.H⟩ ⟨#[],[]⟩ F'' pl'' W'∧endP f fn ⟨st0.tmps,st2.loc,st2.H⟩ post
 have hcalls:=back_calls L (n:=0) (gh:=gh) (D:=w.heap.size) (l:=w.heap.size+1) (r:=r) (v1:=v1) hback hit hk hj hcw hlen (fid:=fid) (tm0:=a.tmps) (ps:=#[p0,p1]) (assign:=assign) (body:=body) rfl (loc:=st0.loc) (H:=st.H) hH rfl b
  (fun i=>(valOf j ((K.enc c (rd (K.dflt c) xs (intN i))).map .d)).getD .dead) (fun i hi hn=>(valOf_ok (hall i hi hn)).1) Stop ?_ hh3 S3
 ·refine hcalls.mono ?_
  rintro e W' ⟨v,rfl,(⟨hno,β'',F'',pl'',hh,S'⟩|⟨β'',F'',pl'',st2,hh,S',hend⟩)⟩
  ·have hl:=(S'.pins _ _ hh.l).2
   refine ⟨_,_,run_endLoop hl (by simp),?_⟩
   have hh':=hh.set hne hl0 (recO fid a.tmps #[p0,p1] assign body w.heap.size .exhausted none)
   have S4:=S'.putNC (o':=recO fid a.tmps #[p0,p1] assign body w.heap.size .exhausted none) (a':=⟨#[],[]⟩) (by rw [hh.alike.w]; omega) hh.l rfl rfl rfl marks_nil
   have S5:=S4.act (x:={ a with defers:=[{ target:=.collected w.heap.size,args:=#[] }] ++ a.defers }) (tm:=st0.tmps) (nt:=fn.ntmps) S.size (hh'.marks rfl S) fun t=>by
    have:=S4.ghosts (t+1)
    rw [hh'.ghost] at this
    exact this
   have S6:=S5.plain
   refine .inl ⟨rfl,{ β''.set (w.heap.size+1) (recO fid a.tmps #[p0,p1] assign body w.heap.size .exhausted none) with ghost:=fun _=>(.dead,undef) },st0,F'',pl'',hh'.alike.trans ⟨rfl,rfl,rfl,rfl⟩,rfl,?_,hdone hno⟩
   have e:st0=⟨st0.tmps,st0.loc,st.H⟩:=by rw [←hH0]
   rw [e]
   exact S6
  ·have hl:=(S'.pins _ _ hh.l).2
   refine ⟨_,_,run_endLoop hl (by simp),?_⟩
   have hh':=hh.set hne hl0 (recO fid a.tmps #[p0,p1] assign body w.heap.size .exhausted (some .ret))
   have S4:=S'.putNC (o':=recO fid a.tmps #[p0,p1] assign body w.heap.size .exhausted (some .ret)) (a':=⟨#[],[]⟩) (by rw [hh.alike.w]; omega) hh.l rfl rfl rfl marks_nil
   have S5:=S4.act (x:={ a with defers:=[{ target:=.collected w.heap.size,args:=#[] }] ++ a.defers }) (tm:=st0.tmps) (nt:=fn.ntmps) S.size (hh'.marks rfl S) fun t=>by
    have:=S4.ghosts (t+1)
    rw [hh'.ghost] at this
    exact this
   exact wpIn_ret (.inr ⟨rfl,_,_,_,_,hh'.alike,S5,hend⟩)
 intro i hi hn β' F' pl' W v hh SB hv
 obtain ⟨-,hbody⟩:=valOf_ok (hall i hi hn)
 have SA:=SB.act (x:=⟨a.tmps,[]⟩) (tm:=st0.tmps) (nt:=fn.ntmps) S.size marks_nil fun t=>by
  have:=SB.ghosts (t+1)
  rw [hh.ghost] at this
  exact this
 have SR:=(SA.put (dst:=some p0) (by rintro d ⟨⟩; exact hp0) (c:=.d (.int .i64 (intN i))) (v:=.int .i64 i) (repC_int.2 rfl)).put (dst:=some p1) (by rintro d ⟨⟩; exact hp1) hv
 have ef:((#[p0,p1]:Array Tmp).zip #[.int .i64 i,v]).foldl (fun tmps (t,v)=>tmps.setIfInBounds t v) a.tmps=(a.tmps.setIfInBounds p0 (.int .i64 i)).setIfInBounds p1 v:=by simp
 rw [ef]
 refine roundIn_of_wpIn trivial (bodyC_sound hR _ 0 assign SR hda hbody (fun st1 a1 F1 pl1 W1 S1 hk1=>?_) (fun _ _ _ _ _ _ h=>h.elim) fun _ _ h=>h)
 have hl1:=(S1.pins _ _ hh.l).2
 refine ⟨_,run_beginRound hl1 rfl,?_⟩
 have hD':∀{β2:Base K},Alike β β2→β2.w.heap.size≤w.heap.size+1:=fun h=>by rw [h.w]; omega
 have hhb:=hh.set hne hl0 (recO fid a.tmps #[p0,p1] assign body w.heap.size .busy none)
 have S1b:=S1.putNC (o':=recO fid a.tmps #[p0,p1] assign body w.heap.size .busy none) (a':=a1) (hD' hh.alike) hh.l rfl rfl rfl (S1.defers.set (by rw [hh.l]; simp [recO]))
 refine bodyC_sound hR _ 0 body S1b hdb hk1 (fun st2 a2 F2 pl2 W2 S2 hk2=>?_) (fun st2 a2 F2 pl2 W2 S2 hk2=>?_) fun _ _ h=>h
 ·obtain ⟨hbi,hH2,hs2⟩:=hk2
  have hl2:=(S2.pins _ _ hhb.l).2
  have S3:=S2.putNC (o':=recO fid a.tmps #[p0,p1] assign body w.heap.size .ready none) (a':=a2) (hD' hhb.alike) hhb.l rfl rfl rfl (S2.defers.set (by rw [hhb.l]; simp [recO]))
  have hh2:=hhb.set hne hl0 (recO fid a.tmps #[p0,p1] assign body w.heap.size .ready none)
  refine ⟨_,_,run_endRound none hl2,.inl ⟨rfl,hbi,_,F2,pl2,hh2,?_⟩⟩
  have:=S3.drop (st0:=st0) (objs:=objs) hdom hobjs hs2 (hH2.trans hH0.symm) (fun t=>by rw [hh2.ghost]; exact hghk t)
  rw [hH0] at this
  exact this
 ·obtain ⟨hbi,hend⟩:=hk2
  have hl2:=(S2.pins _ _ hhb.l).2
  have S3:=S2.putNC (o':=recO fid a.tmps #[p0,p1] assign body w.heap.size .done (some .ret)) (a':=a2) (hD' hhb.alike) hhb.l rfl rfl rfl (S2.defers.set (by rw [hhb.l]; simp [recO]))
  exact ⟨_,_,run_endRound (some .ret) hl2,.inr ⟨rfl,_,F2,pl2,st2,hhb.set hne hl0 _,S3.bare,hend⟩⟩
end
end Go.Abs
