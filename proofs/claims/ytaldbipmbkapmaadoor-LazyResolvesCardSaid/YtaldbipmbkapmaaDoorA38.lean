/- LEMMAS: a function that hands a slice to yield, from its end on. Conditions: none. -/
import Derived.Test.YtaldbipmbkapmaaDoorA37
import Derived.RangeFuncIn
namespace Go.Abs
set_option linter.unusedVariables false
set_option linter.unusedSimpArgs false
section
variable {K:Cfg} {Rs:Res K} {β β':Base K} {nt n0:Nat} {st:St K.U} {a a0:Act} {F:Nat→Prop} {pl:Rf→Pl} {w:World}
def recO (fid:FuncId) (tm:Array Value) (ps:Array Tmp) (assign body:Code) (D:Nat) (s:LoopState) (pe:Option Code):Obj:=.loop { state:=s,pending:=pe,fn:=fid,tmps:=tm,params:=ps,assign,body,defers:=D }
structure Held (β β':Base K) (gh:Nat→C K.U×Value) (D l:Nat) (o:Obj):Prop where
 alike:Alike β β'
 ghost:β'.ghost=gh
 d:β'.pin D=some (.deferred (some []))
 l:β'.pin l=some o
 old:∀b x,β.pin b=some x→β'.pin b=some x
theorem Held.set {gh:Nat→C K.U×Value} {D l:Nat} {o:Obj} (h:Held β β' gh D l o) (hD:D ≠ l) (hl:β.pin l=none) (o':Obj):Held β (β'.set l o') gh D l o':=
 ⟨h.alike.trans (Base.set_alike _ _ _),h.ghost,by show (if D=l then some o' else β'.pin D)=_; rw [if_neg hD]; exact h.d,if_pos rfl,fun b x hx=>by
  show (if b=l then some o' else β'.pin b)=_
  rw [if_neg (by rintro rfl; rw [hl] at hx; cases hx)]; exact h.old b x hx⟩
theorem Sim.bare (S:Sim K β nt st a F pl w):Sim K β 0 ⟨fun _=>.dead,st.loc,st.H⟩ ⟨#[],[]⟩ F pl w:=
 ⟨rfl,⟨fun _ h=>by simp at h,List.nodup_nil⟩,S.pins,S.ghosts,fun _=>repC_dead _,S.mem,S.fr,S.hok⟩
theorem Sim.act (S:Sim K β n0 st a0 F pl w) {x:Act} {tm:Nat→C K.U} (hs:x.tmps.size=nt) (hm:Marks β.w β.pin x.defers) (ht:∀t,RepC F w st.obs pl (tm t) (x.tmps.getD t undef)):Sim K β nt ⟨tm,st.loc,st.H⟩ x F pl w:=
 ⟨hs,hm,S.pins,S.ghosts,ht,S.mem,S.fr,S.hok⟩
theorem marks_nil {w0:World} {pin:Nat→Option Obj}:Marks w0 pin []:=⟨fun _ h=>by simp at h,List.nodup_nil⟩
theorem put_same {U:Univ} (tm:Nat→C U) (d:Nat) (v:C U):put tm (some d) v d=v:=by simp [put]
theorem put_ne {U:Univ} (tm:Nat→C U) {d t:Nat} (v:C U) (h:t ≠ d):put tm (some d) v t=tm t:=by simp [put,beqF h]
theorem getD_some {v:Value} {t:Nat} {xs:Array Value} (h:xs[t]?=some v):xs.getD t undef=v:=by simp [Array.getD_eq_getD_getElem?,h]
theorem move_in {n:Nat} {ops:Array Oper} {i d:Nat} {o:Oper} {is:List Nat} {x:Operand} (ho:ops[i]?=some o) (hg:o.guard=none) (hop:o.op=.move x) {Q:Exit→Act→World→Prop} (hd:o.dst=some d)
  (hn:wpOpsIn Fence.wide n K.P ops Q is (a.put (some d) (a.eval x)) w):wpOpsIn Fence.wide n K.P ops Q (i :: is) a w:=by
 simp only [wpOpsIn,ho]
 rw [if_pos (by simp [Region.wanted,hg])]
 refine ⟨fun _ _=>trivial,?_⟩
 show o.uponIn Fence.wide n K.P a _ Q ((execOp a.eval o).run K.P w)
 have e:(execOp a.eval o).run K.P w=.ok (.value (a.eval x)) w:=by simp only [execOp,hop]; rfl
 rw [e,Oper.uponIn_value,hd]; exact hn
theorem put_at {a:Act} {d:Nat} {v:Value} (h:d<a.tmps.size):(a.put (some d) v).tmps[d]?=some v:=by
 simp only [Act.put]
 rw [Array.getElem?_setIfInBounds_self,if_pos h]
theorem op_on (L:Laws K) {n:Nat} (S:Sim K β nt st a F pl w) {ops:Array Oper} {i d:Nat} {o:Oper} {is:List Nat} (ho:ops[i]?=some o) (hg:o.guard=none) (hds:o.dst=some d) {r:Out K.U} (hr:K.aop {} o (K.ev st.tmps) st.loc st.H=some (.out r)) (hok:r.ok=true)
  (hd:d<nt) (hW:r.wr=[]) {Q:Exit→Act→World→Prop}
  (hn:∀a' F' pl' w',Sim K β nt ⟨put st.tmps (some d) r.v,st.loc,st.H⟩ a' F' pl' w'→a'.defers=a.defers→(∀t,t ≠ d→a'.tmps[t]?=a.tmps[t]?)→wpOpsIn Fence.wide n K.P ops Q is a' w'):wpOpsIn Fence.wide n K.P ops Q (i :: is) a w:=by
 refine op_in L S ho hg hr hok (fun e he=>by rw [hds] at he; cases he; exact hd) hW fun v F' pl' w' S'=>?_
 rw [hds] at S' ⊢
 exact hn _ _ _ _ S' rfl fun t ht=>put_other fun e he=>by cases he; exact fun h=>ht h.symm
theorem move_on {n:Nat} (S:Sim K β nt st a F pl w) {ops:Array Oper} {i d:Nat} {o:Oper} {is:List Nat} {x:Operand} (ho:ops[i]?=some o) (hg:o.guard=none) (hds:o.dst=some d) (hop:o.op=.move x) (hd:d<nt) {c:C K.U} (hc:RepC F w st.obs pl c (a.eval x)) {Q:Exit→Act→World→Prop}
  (hn:∀a',Sim K β nt ⟨put st.tmps (some d) c,st.loc,st.H⟩ a' F pl w→a'.defers=a.defers→(∀t,t ≠ d→a'.tmps[t]?=a.tmps[t]?)→a'.tmps[d]?=some (a.eval x)→wpOpsIn Fence.wide n K.P ops Q is a' w):wpOpsIn Fence.wide n K.P ops Q (i :: is) a w:=
 move_in ho hg hop hds (hn _ (S.put (by rintro e ⟨⟩; exact hd) hc) rfl (fun t ht=>put_other fun e he=>by cases he; exact fun h=>ht h.symm) (put_at (by rw [S.size]; exact hd)))
theorem not_in {n:Nat} {ops:Array Oper} {i d:Nat} {o:Oper} {is:List Nat} {t:TypeId} {x:Operand} {b:Bool} (ho:ops[i]?=some o) (hg:o.guard=none) (hop:o.op=.unOp .not t x) {Q:Exit→Act→World→Prop} (hd:o.dst=some d) (hx:a.eval x=.bool b)
  (hn:wpOpsIn Fence.wide n K.P ops Q is (a.put (some d) (.bool (!b))) w):wpOpsIn Fence.wide n K.P ops Q (i :: is) a w:=by
 simp only [wpOpsIn,ho]
 rw [if_pos (by simp [Region.wanted,hg])]
 refine ⟨fun _ _=>trivial,?_⟩
 show o.uponIn Fence.wide n K.P a _ Q ((execOp a.eval o).run K.P w)
 have e:(execOp a.eval o).run K.P w=.ok (.value (.bool (!b))) w:=by
  obtain ⟨z,k1,k2⟩:=unOp_sound (K:=K) (F:=fun _=>False) (w:=w) (ob:=fun _=>none) (pl:=fun _=>⟨0,0⟩) (op:=.not) (x:=.d (.bool b)) (c:=.d (.bool (notB b))) (v:=a.eval x) rfl (repC_bool.2 hx) K.P
  simp only [execOp,hop,Sem.run_bind,k1,Result.andThen_ok,Sem.run_pure,repC_bool.1 k2]; rfl
 rw [e,Oper.uponIn_value,hd]; exact hn
theorem yield_in {n:Nat} {ops:Array Oper} {i l d:Nat} {o:Oper} {is:List Nat} {f x y:Operand} {ts:Array TypeId} (ho:ops[i]?=some o) (hg:o.guard=none) (hop:o.op=.call { callee:=.value f,args:=#[x,y],argTypes:=ts })
  (hd:o.dst=some d) (hf:a.eval f=.func (.yield l) #[] #[]) {r:Loop} (hl:w.heap[l]?=some (.loop r)) (hs:r.params.size=2) {Q:Exit→Act→World→Prop}
  (hr:RoundIn Fence.wide (n - 1) K.P l r.fn ((r.params.zip #[a.eval x,a.eval y]).foldl (fun tmps (t,v)=>tmps.setIfInBounds t v) r.tmps) r.assign r.body w fun e w'=>∃b,e=.returned (.bool b)∧wpOpsIn Fence.wide n K.P ops Q is (a.put (some d) (.bool b)) w'):
  wpOpsIn Fence.wide n K.P ops Q (i :: is) a w:=by
 simp only [wpOpsIn,ho]
 rw [if_pos (by simp [Region.wanted,hg])]
 refine ⟨fun _ _=>trivial,?_⟩
 show o.uponIn Fence.wide n K.P a _ Q ((execOp a.eval o).run K.P w)
 have hy:=run_yield (P:=K.P) (args:=#[a.eval x,a.eval y]) hl (by rw [hs]; rfl)
 have e:(execOp a.eval o).run K.P w=.ok (.round l r.fn ((r.params.zip #[a.eval x,a.eval y]).foldl (fun tmps (t,v)=>tmps.setIfInBounds t v) r.tmps) r.assign r.body) w:=by
  rw [←hy]
  simp only [execOp,hop,Sem.run_bind,resolve,hf,Deferred.ofValue,Sem.run_pure,Result.andThen_ok,invoke]
  have e2:(#[] ++ Array.map a.eval #[x,y])=#[a.eval x,a.eval y]:=by simp
  rw [e2]
 rw [e,Oper.uponIn_round]
 refine ⟨fun h=>by simp [Fence.wide] at h,hr.mono ?_⟩
 rintro e w' ⟨b,rfl,h⟩
 simp only [hd]; exact h
section
variable (L:Laws K) {gf:FuncId} {x:BackI} {it j:TI} {c:K.U.Ty} {xs:List (K.U.El c)} {r:Nat} {v1:Value} {gh:Nat→C K.U×Value} {D l:Nat} {o:Obj}
def tmL (r k:Nat):Nat→C K.U:=put (put (fun _=>.dead) (some 1) (.ptr (.g r) 0)) (some 3) (.d (.int .i64 ((k:Int) - 1)))
theorem Sim.weaken {tm tm':Nat→C K.U} {loc:Loc K.U} {H:List (O K.U)} (S:Sim K β nt ⟨tm,loc,H⟩ a F pl w) (h:∀t,tm' t=.dead∨tm' t=tm t):Sim K β nt ⟨tm',loc,H⟩ a F pl w:=
 ⟨S.size,S.defers,S.pins,S.ghosts,fun t=>by
  rcases h t with e|e
  ·show RepC F w _ pl (tm' t) _
   rw [e]; exact repC_dead _
  ·show RepC F w _ pl (tm' t) _
   rw [e]; exact S.tmps t,S.mem,S.fr,S.hok⟩
theorem tmL_get (r k t:Nat):(tmL (K:=K) r k t=.dead)∨(t=1∧tmL (K:=K) r k t=.ptr (.g r) 0)∨(t=3∧tmL (K:=K) r k t=.d (.int .i64 ((k:Int) - 1))):=by
 by_cases h3:t=3
 ·subst h3; exact .inr (.inr ⟨rfl,put_same _ _ _⟩)
 ·by_cases h1:t=1
  ·subst h1; exact .inr (.inl ⟨rfl,(put_ne _ _ h3).trans (put_same _ _ _)⟩)
  ·exact .inl ((put_ne _ _ h3).trans (put_ne _ _ h1))
theorem load_box {loc:Loc K.U} {H:List (O K.U)} (hit:K.ti x.t=some it) (hk:it.kind=.slice x.e) (hH:H[r]?=some (.cells [.d (.sl c xs)])) {o:Oper} (ho:o.op=.load x.t (.tmp 1)) {tm:Nat→C K.U} (h1:tm 1=.ptr (.g r) 0):
  K.aop {} o (K.ev tm) loc H=some (.out { ok:=true,v:=.d (.sl c xs),rd:=[.g r] }):=by
 have ha:it.agg=false:=by unfold TI.agg; rw [hk]
 unfold Cfg.aop Cfg.aopAt
 simp only [ho,Cfg.ev,h1,Cfg.load,hit,Cfg.cellsAt,getO,hH,List.drop_zero,valOf,ha,Bool.false_eq_true,if_false,stepOut,Option.map_some,C.ref]
theorem len_box {loc:Loc K.U} {H:List (O K.U)} (hit:K.ti x.t=some it) (hk:it.kind=.slice x.e) {o:Oper} (ho:o.op=.call { callee:=.builtin .len,args:=#[.tmp 4],argTypes:=#[x.t] }) {tm:Nat→C K.U} (h4:tm 4=.d (.sl c xs)):
  K.aop {} o (K.ev tm) loc H=some (.out { ok:=true,v:=.d (.int .i64 (intN (lenL xs))),rd:=[] }):=by
 unfold Cfg.aop Cfg.aopAt
 simp only [ho,evs,Cfg.ev,h4,Cfg.builtin,hit,hk,Cfg.lenOf,stepOut,Option.map_some,C.ref]
theorem sub_op {loc:Loc K.U} {H:List (O K.U)} {o:Oper} {s:Nat} {t u:TypeId} (ho:o.op=.binOp .sub t (.tmp s) (.const (.int .i64 1)) u) {tm:Nat→C K.U} {n:Int} (hs:tm s=.d (.int .i64 n)):
  K.aop {} o (K.ev tm) loc H=some (.out { ok:=true,v:=.d (.int .i64 (subW .i64 n 1)) }):=by
 unfold Cfg.aop Cfg.aopAt
 simp only [ho,Cfg.ev,hs,ofV,ofV1,Cfg.binOp,natOp,if_true,outV]
theorem geq_op {loc:Loc K.U} {H:List (O K.U)} {o:Oper} {s:Nat} {t u:TypeId} (ho:o.op=.binOp .geq t (.tmp s) (.const (.int .i64 0)) u) {tm:Nat→C K.U} {n:Int} (hs:tm s=.d (.int .i64 n)):
  K.aop {} o (K.ev tm) loc H=some (.out { ok:=true,v:=.d (.bool (leI 0 n)) }):=by
 unfold Cfg.aop Cfg.aopAt
 simp only [ho,Cfg.ev,hs,ofV,ofV1,Cfg.binOp,natOp,cmpOp,if_true,outV,Option.map_some]
theorem mv_op {loc:Loc K.U} {H:List (O K.U)} {o:Oper} {s:Nat} (ho:o.op=.move (.tmp s)∨o.op=.assign (.tmp s)) {tm:Nat→C K.U}:K.aop {} o (K.ev tm) loc H=some (.out { ok:=true,v:=tm s }):=by
 unfold Cfg.aop Cfg.aopAt
 rcases ho with ho|ho <;> simp only [ho,Cfg.ev,ownOut]
theorem idx_op {loc:Loc K.U} {H:List (O K.U)} (hit:K.ti x.t=some it) (hk:it.kind=.slice x.e) (hj:K.ti x.e=some j) (hcw:K.width c=j.size) {o:Oper} {s q:Nat} (ho:o.op=.indexAddr x.t (.tmp s) (.tmp q)) {tm:Nat→C K.U} {n:Int}
  (hs:tm s=.d (.sl c xs)) (hq:tm q=.d (.int .i64 n)):K.aop {} o (K.ev tm) loc H=some (.out { ok:=inB n (lenL xs),v:=.ep (K.enc c (rd (K.dflt c) xs n)) }):=by
 have hi:K.indexAddr loc H x.t (.d (.sl c xs)) n=some (inB n (lenL xs),.ep (K.enc c (rd (K.dflt c) xs n))):=by
  obtain ⟨k,sz,by',z⟩:=it
  simp only at hk
  subst hk
  unfold Cfg.indexAddr
  simp only [hit,hj,hcw,if_true]
 unfold Cfg.aop Cfg.aopAt
 simp only [ho,Cfg.ev,hs,hq,hi,outV,C.ref]
theorem elem_op {loc:Loc K.U} {H:List (O K.U)} (hj:K.ti x.e=some j) {o:Oper} {s:Nat} (ho:o.op=.load x.e (.tmp s)) {tm:Nat→C K.U} {ds:List (Go.Abs.D K.U)} {v:C K.U} (hs:tm s=.ep ds) (hv:valOf j (ds.map .d)=some v):
  K.aop {} o (K.ev tm) loc H=some (.out { ok:=true,v:=v,rd:=[] }):=by
 unfold Cfg.aop Cfg.aopAt
 simp only [ho,Cfg.ev,hs,Cfg.load,hj,Cfg.cellsAt,hv,stepOut,Option.map_some,C.ref]
include L
theorem back_calls {n:Nat} (hb:K.back gf=some x) (hit:K.ti x.t=some it) (hk:it.kind=.slice x.e) (hj:K.ti x.e=some j) (hcw:K.width c=j.size) (hlen:xs.length<4611686018427387904)
  {fid:FuncId} {tm0:Array Value} {ps:Array Tmp} {assign body:Code} (hps:ps.size=2) {loc:Loc K.U} {H:List (O K.U)} (hH:H[r]?=some (.cells [.d (.sl c xs)])) (hgh:gh 0=(.ptr (.g r) 0,v1)) (b:Nat→Bool) (el:Nat→C K.U)
  (hel:∀i,i<xs.length→(∀q,i<q→q<xs.length→b q=false)→valOf j ((K.enc c (rd (K.dflt c) xs (intN i))).map .d)=some (el i)) (Stop:World→Prop)
  (hround:∀i,i<xs.length→(∀q,i<q→q<xs.length→b q=false)→∀(β':Base K) (F':Nat→Prop) (pl':Rf→Pl) (W:World) (v:Value),Held β β' gh D l (recO fid tm0 ps assign body D .ready none)→Sim K β' 0 ⟨fun _=>.dead,loc,H⟩ ⟨#[],[]⟩ F' pl' W→RepC F' W (getO loc H) pl' (el i) v→
   RoundIn Fence.wide (n - 1) K.P l fid ((ps.zip #[.int .i64 i,v]).foldl (fun tmps (t,v)=>tmps.setIfInBounds t v) tm0) assign body W fun e W'=>
    (e=.returned (.bool true)∧b i=false∧∃β'' F'' pl'',Held β β'' gh D l (recO fid tm0 ps assign body D .ready none)∧Sim K β'' 0 ⟨fun _=>.dead,loc,H⟩ ⟨#[],[]⟩ F'' pl'' W')∨(e=.returned (.bool false)∧Stop W'))
  {β0:Base K} {F0:Nat→Prop} {pl0:Rf→Pl} {W0:World} (hh0:Held β β0 gh D l (recO fid tm0 ps assign body D .ready none)) (S0:Sim K β0 0 ⟨fun _=>.dead,loc,H⟩ ⟨#[],[]⟩ F0 pl0 W0):
  CallsIn Fence.wide n K.P gf (#[.func (.yield l) #[] #[]] ++ #[v1]) W0 fun e W'=>∃v,e=.returned v∧
   (((∀q,q<xs.length→b q=false)∧∃β'' F'' pl'',Held β β'' gh D l (recO fid tm0 ps assign body D .ready none)∧Sim K β'' 0 ⟨fun _=>.dead,loc,H⟩ ⟨#[],[]⟩ F'' pl'' W')∨Stop W'):=by
 obtain ⟨fnB,hf,hbody,hnt,hres⟩:=L.back gf x hb
 have ends:∀(t:Array Value) (W:World),(results fnB t).run K.P W=.ok (oneV []) W:=fun t W=>results_run (by rw [hres]; rfl)
 refine callsIn_of_wp hf hbody trivial ?_
 let I:Act→World→Prop:=fun a W=>a.defers=[]∧a.tmps[0]?=some (.func (.yield l) #[] #[])∧∃k:Nat,k≤xs.length∧(∀q,k≤q→q<xs.length→b q=false)∧∃β' F' pl',Held β β' gh D l (recO fid tm0 ps assign body D .ready none)∧Sim K β' 19 ⟨tmL r k,loc,H⟩ a F' pl' W
 let μ:Act→World→Nat:=fun a _=>match a.tmps.getD 3 undef with|.int _ m=>(m+1).toNat|_=>0
 have box:∀{β':Base K} {F':Nat→Prop} {pl':Rf→Pl} {W:World} {nt:Nat} {tm:Nat→C K.U} {a:Act},β'.ghost=gh→Sim K β' nt ⟨tm,loc,H⟩ a F' pl' W→RepC F' W (getO loc H) pl' (.ptr (.g r) 0) v1:=by
  intro β' F' pl' W nt tm a hg S
  have:=S.ghosts 0
  rw [hg,hgh] at this
  exact this
 have loop:∀{a:Act} {W:World},I a W→(Code.block 0 (.loop (.seq
   (.seq (.region 1 #[⟨some 7, .move (.tmp 3), x.i, "iter.go:28", #[], none⟩, ⟨some 8, .binOp .geq x.i (.tmp 7) (.const (.int .i64 0)) x.i, x.b, "iter.go:28", #[⟨0, .data⟩], none⟩] false) (.cond (.tmp 8) .skip (.exit 0)))
   (.seq (.block 1 (.seq (.region 3 #[⟨some 11, .move (.tmp 0), x.y, "iter.go:29", #[], none⟩, ⟨some 12, .move (.tmp 3), x.i, "iter.go:29", #[], none⟩, ⟨some 13, .load x.t (.tmp 1), x.t, "iter.go:29", #[], none⟩, ⟨some 14, .move (.tmp 3), x.i, "iter.go:29", #[], none⟩,
     ⟨some 15, .indexAddr x.t (.tmp 13) (.tmp 14), 0, "iter.go:29", #[⟨2, .data⟩, ⟨3, .data⟩], none⟩, ⟨some 16, .load x.e (.tmp 15), x.e, "iter.go:29", #[⟨4, .data⟩], none⟩,
     ⟨some 17, .call { callee := .value (.tmp 11), args := #[.tmp 12, .tmp 16], argTypes := #[x.i, x.e] }, x.b, "iter.go:29", #[⟨0, .data⟩, ⟨1, .data⟩, ⟨5, .data⟩], none⟩, ⟨some 18, .unOp .not x.b (.tmp 17), x.b, "iter.go:29", #[⟨6, .data⟩], none⟩] false)
    (.cond (.tmp 18) .ret .skip)))
    (.region 2 #[⟨some 9, .move (.tmp 3), x.i, "iter.go:28", #[], none⟩, ⟨some 10, .binOp .sub x.i (.tmp 9) (.const (.int .i64 1)) x.i, x.i, "iter.go:28", #[⟨0, .data⟩], none⟩, ⟨some 3, .assign (.tmp 10), x.i, "iter.go:28", #[⟨1, .data⟩, ⟨0, .phase⟩, ⟨1, .phase⟩], none⟩] false))))).wpIn Fence.wide n K.P (bodyPost K.P fnB fun e W' => ∃ v, e = .returned v ∧
   (((∀q,q<xs.length→b q=false)∧∃β'' F'' pl'',Held β β'' gh D l (recO fid tm0 ps assign body D .ready none)∧Sim K β'' 0 ⟨fun _=>.dead,loc,H⟩ ⟨#[],[]⟩ F'' pl'' W')∨Stop W')) a W:=by
  intro a W hI
  refine wpIn_block (wpIn_loop I μ hI ?_)
  rintro a W ⟨hd,hy,k,hkl,hnone,β',F',pl',hh,S⟩
  refine wpIn_seq (wpIn_seq (wpIn_region ?_))
  have h3:a.tmps.getD 3 undef=.int .i64 ((k:Int) - 1):=repC_int.1 (S.tmps 3)
  have dead:∀v:Value,RepC F' W (getO loc H) pl' .dead v:=fun v=>repC_dead v
  refine move_on S (d:=7) (x:=.tmp 3) rfl rfl rfl rfl (by decide) (c:=.d (.int .i64 ((k:Int) - 1))) (repC_int.2 h3) fun a1 S1 d1 p1 _=>?_
  refine op_on L S1 (d:=8) rfl rfl rfl (geq_op (n:=(k:Int) - 1) rfl (put_same _ _ _)) rfl (by decide) rfl fun a2 F2 pl2 W2 S2 d2 p2=>?_
  have hc:a2.eval (.tmp 8)=.bool (leI 0 ((k:Int) - 1)):=repC_bool.1 (S2.tmps 8)
  have hy2:a2.tmps[0]?=some (.func (.yield l) #[] #[]):=by rw [p2 _ (by decide),p1 _ (by decide)]; exact hy
  have hd2:a2.defers=[]:=(d2.trans d1).trans hd
  show (Code.cond (.tmp 8) .skip (.exit 0)).wpIn _ _ _ _ _ _
  by_cases hk0:k=0
  ·subst hk0
   refine wpIn_cond (t:=false) (hc.trans (by rfl)) (wpIn_exit ?_)
   exact ⟨hd2,_,ends _ _,_,rfl,.inl ⟨fun q hq=>hnone q (Nat.zero_le _) hq,β',F2,pl2,hh,S2.bare⟩⟩
  obtain ⟨i,rfl⟩:∃i,k=i+1:=⟨k - 1,by omega⟩
  have ei:((i+1:Nat):Int) - 1=(i:Int):=by omega
  refine wpIn_cond (t:=true) (hc.trans (by rw [ei]; simp [leI])) (wpIn_skip ?_)
  show (Code.seq _ _).wpIn _ _ _ _ _ _
  have hi:i<xs.length:=by omega
  refine wpIn_seq (wpIn_block (wpIn_seq (wpIn_region ?_)))
  have i2:a2.tmps.getD 3 undef=.int .i64 (i:Int):=by rw [←ei]; exact repC_int.1 (S2.tmps 3)
  refine move_on S2 (d:=11) rfl rfl rfl rfl (by decide) (c:=.dead) (repC_dead _) fun a3 S3 d3 p3 q3=>?_
  have i3:a3.tmps.getD 3 undef=.int .i64 (i:Int):=by rw [←ei]; exact repC_int.1 (S3.tmps 3)
  refine move_on S3 (d:=12) (x:=.tmp 3) rfl rfl rfl rfl (by decide) (c:=.d (.int .i64 i)) (repC_int.2 i3) fun a4 S4 d4 p4 q4=>?_
  refine op_on L S4 (d:=13) rfl rfl rfl (load_box (r:=r) hit hk hH rfl rfl) rfl (by decide) rfl fun a5 F5 pl5 W5 S5 d5 p5=>?_
  have i5:a5.tmps.getD 3 undef=.int .i64 (i:Int):=by rw [←ei]; exact repC_int.1 (S5.tmps 3)
  refine move_on S5 (d:=14) (x:=.tmp 3) rfl rfl rfl rfl (by decide) (c:=.d (.int .i64 i)) (repC_int.2 i5) fun a6 S6 d6 p6 q6=>?_
  have inb:inB (i:Int) (lenL xs)=true:=by simp [inB,lenL]; omega
  refine op_on L S6 (d:=15) rfl rfl rfl (idx_op hit hk hj hcw (n:=i) rfl (s:=13) (q:=14) rfl rfl) inb (by decide) rfl fun a7 F7 pl7 W7 S7 d7 p7=>?_
  refine op_on L S7 (d:=16) rfl rfl rfl (elem_op hj (s:=15) rfl rfl (hel i hi fun q h1 h2=>hnone q h1 h2)) rfl (by decide) rfl fun a8 F8 pl8 W8 S8 d8 p8=>?_
  have y8:a8.eval (.tmp 11)=.func (.yield l) #[] #[]:=by
   refine getD_some ?_
   rw [p8 _ (by decide),p7 _ (by decide),p6 _ (by decide),p5 _ (by decide),p4 _ (by decide),q3]
   exact congrArg some (getD_some hy2)
  have hd8:a8.defers=[]:=by rw [d8,d7,d6,d5,d4,d3,hd2]
  have hy8:a8.tmps[0]?=some (.func (.yield l) #[] #[]):=by rw [p8 _ (by decide),p7 _ (by decide),p6 _ (by decide),p5 _ (by decide),p4 _ (by decide),p3 _ (by decide),hy2]
  have x8:a8.eval (.tmp 12)=.int .i64 (i:Int):=repC_int.1 (S8.tmps 12)
  have i8:a8.tmps.getD 3 undef=.int .i64 (i:Int):=by rw [←ei]; exact repC_int.1 (S8.tmps 3)
  have v8:a8.tmps.getD 1 undef=v1:=by
   have h1:RepC F8 W8 (getO loc H) pl8 (.ptr (.g r) 0) (a8.tmps.getD 1 undef):=S8.tmps 1
   have h2:=box hh.ghost S8
   simp only [RepC] at h1 h2
   rw [h1.2,h2.2]
  have hl8:=(S8.pins l _ hh.l).2
  have hnone':∀q,i<q→q<xs.length→b q=false:=fun q h1 h2=>hnone q h1 h2
  refine yield_in (d:=17) (l:=l) rfl rfl rfl rfl y8 hl8 hps ?_
  have hro:=hround i hi hnone' β' F8 pl8 W8 (a8.eval (.tmp 16)) hh S8.bare (S8.tmps 16)
  rw [←x8] at hro
  refine hro.mono ?_
  rintro e W' (⟨rfl,hbi,β'',F'',pl'',hh',S'⟩|⟨rfl,hstop⟩)
  ·refine ⟨true,rfl,not_in (d:=18) (x:=.tmp 17) (b:=true) rfl rfl rfl rfl (getD_some (put_at (by rw [S8.size]; decide))) ?_⟩
   have hd9:((a8.put (some 17) (.bool true)).put (some 18) (.bool (!true))).defers=[]:=hd8
   have c9:((a8.put (some 17) (.bool true)).put (some 18) (.bool (!true))).eval (.tmp 18)=.bool false:=getD_some (put_at (by simp [Act.put,S8.size]))
   have sz9:((a8.put (some 17) (.bool true)).put (some 18) (.bool (!true))).tmps.size=19:=by simp [Act.put,S8.size]
   have p9:∀t,t ≠ 17→t ≠ 18→((a8.put (some 17) (.bool true)).put (some 18) (.bool (!true))).tmps[t]?=a8.tmps[t]?:=fun t h1 h2=>by
    rw [put_other (by rintro d ⟨⟩; exact fun h=>h2 h.symm),put_other (by rintro d ⟨⟩; exact fun h=>h1 h.symm)]
   generalize (a8.put (some 17) (.bool true)).put (some 18) (.bool (!true))=a9 at hd9 c9 sz9 p9 ⊢
   show (Code.cond (.tmp 18) .ret .skip).wpIn _ _ _ _ _ _
   refine wpIn_cond (t:=false) c9 (wpIn_skip ?_)
   show (Code.region 2 _ false).wpIn _ _ _ _ _ _
   refine wpIn_region ?_
   have g9:∀t,t ≠ 17→t ≠ 18→a9.tmps.getD t undef=a8.tmps.getD t undef:=fun t h1 h2=>by rw [Array.getD_eq_getD_getElem?,p9 t h1 h2,←Array.getD_eq_getD_getElem?]
   have S9:Sim K β'' 19 ⟨tmL r (i+1),loc,H⟩ a9 F'' pl'' W':=by
    refine S'.act sz9 (by rw [hd9]; exact marks_nil) fun t=>?_
    rcases tmL_get (K:=K) r (i+1) t with e|⟨rfl,e⟩|⟨rfl,e⟩
    ·rw [e]; exact repC_dead _
    ·rw [e,g9 _ (by decide) (by decide),v8]; exact box hh'.ghost S'
    ·rw [e,g9 _ (by decide) (by decide),i8,ei]; exact repC_int.2 rfl
   have i9:a9.tmps.getD 3 undef=.int .i64 (i:Int):=by rw [←ei]; exact repC_int.1 (S9.tmps 3)
   have hy9:a9.tmps[0]?=some (.func (.yield l) #[] #[]):=by rw [p9 _ (by decide) (by decide)]; exact hy8
   refine move_on S9 (d:=9) (x:=.tmp 3) rfl rfl rfl rfl (by decide) (c:=.d (.int .i64 i)) (repC_int.2 i9) fun a10 S10 d10 p10 _=>?_
   refine op_on L S10 (d:=10) rfl rfl rfl (sub_op (n:=i) rfl (put_same _ _ _)) rfl (by decide) rfl fun a11 F11 pl11 W11 S11 d11 p11=>?_
   refine op_on L S11 (d:=3) rfl rfl rfl (mv_op (s:=10) (.inr rfl)) rfl (by decide) rfl fun a12 F12 pl12 W12 S12 d12 p12=>?_
   have esub:subW .i64 (i:Int) 1=(i:Int) - 1:=by
    unfold subW IntKind.wrap
    simp only [IntKind.signed,IntKind.bits]
    simp
    omega
   have S13:Sim K β'' 19 ⟨tmL r i,loc,H⟩ a12 F12 pl12 W12:=S12.weaken fun t=>by
    rcases tmL_get (K:=K) r i t with e|⟨rfl,e⟩|⟨rfl,e⟩
    ·exact .inl e
    ·exact .inr (e.trans rfl)
    ·refine .inr (e.trans ?_)
     show _=C.d (.int .i64 (subW .i64 (i:Int) 1))
     rw [esub]
   have hd13:a12.defers=[]:=by rw [d12,d11,d10,hd9]
   have hy13:a12.tmps[0]?=some (.func (.yield l) #[] #[]):=by rw [p12 _ (by decide),p11 _ (by decide),p10 _ (by decide),hy9]
   refine ⟨⟨hd13,hy13,i,by omega,fun q h1 h2=>?_,β'',F12,pl12,hh',S13⟩,?_⟩
   ·by_cases e:q=i
    ·rw [e]; exact hbi
    ·exact hnone' q (by omega) h2
   ·have m1:a12.tmps.getD 3 undef=.int .i64 ((i:Int) - 1):=repC_int.1 (S13.tmps 3)
    show (match a12.tmps.getD 3 undef with|.int _ m=>(m+1).toNat|_=>0)<(match a.tmps.getD 3 undef with|.int _ m=>(m+1).toNat|_=>0)
    rw [m1,h3]
    show ((i:Int) - 1+1).toNat<(((i+1:Nat):Int) - 1+1).toNat
    omega
  ·refine ⟨false,rfl,not_in (d:=18) (x:=.tmp 17) (b:=false) rfl rfl rfl rfl (getD_some (put_at (by rw [S8.size]; decide))) ?_⟩
   have hd9:((a8.put (some 17) (.bool false)).put (some 18) (.bool (!false))).defers=[]:=hd8
   have c9:((a8.put (some 17) (.bool false)).put (some 18) (.bool (!false))).eval (.tmp 18)=.bool true:=getD_some (put_at (by simp [Act.put,S8.size]))
   generalize (a8.put (some 17) (.bool false)).put (some 18) (.bool (!false))=a9 at hd9 c9 ⊢
   show (Code.cond (.tmp 18) .ret .skip).wpIn _ _ _ _ _ _
   exact wpIn_cond (t:=true) c9 (wpIn_ret ⟨hd9,_,ends _ _,_,rfl,.inr hstop⟩)
 unfold backBody
 refine wpIn_seq (wpIn_region ?_)
 have hv1:RepC F0 W0 (getO loc H) pl0 (.ptr (.g r) 0) v1:=box hh0.ghost S0
 have hsz:(#[.func (.yield l) #[] #[]] ++ #[v1]:Array Value).size=2:=by simp
 rw [hsz,hnt]
 have sz0:((#[.func (.yield l) #[] #[]] ++ #[v1]:Array Value) ++ Array.replicate (19 - 2) undef).size=19:=by simp
 have t0:((#[.func (.yield l) #[] #[]] ++ #[v1]:Array Value) ++ Array.replicate (19 - 2) undef)[0]?=some (.func (.yield l) #[] #[]):=by rw [Array.getElem?_append_left (by simp)]; rfl
 have t1:((#[.func (.yield l) #[] #[]] ++ #[v1]:Array Value) ++ Array.replicate (19 - 2) undef)[1]?=some v1:=by rw [Array.getElem?_append_left (by simp)]; rfl
 generalize ((#[.func (.yield l) #[] #[]] ++ #[v1]:Array Value) ++ Array.replicate (19 - 2) undef)=tms at sz0 t0 t1 ⊢
 have SA:Sim K β0 19 ⟨put (fun _=>.dead) (some 1) (.ptr (.g r) 0),loc,H⟩ ⟨tms,[]⟩ F0 pl0 W0:=by
  refine S0.act sz0 marks_nil fun t=>?_
  by_cases e:t=1
  ·subst e; rw [put_same,getD_some t1]; exact hv1
  ·rw [put_ne _ _ e]; exact repC_dead _
 refine op_on L SA (d:=4) rfl rfl rfl (load_box (r:=r) hit hk hH rfl rfl) rfl (by decide) rfl fun a1 F1 pl1 W1 S1 d1 p1=>?_
 refine op_on L S1 (d:=5) rfl rfl rfl (len_box hit hk rfl rfl) rfl (by decide) rfl fun a2 F2 pl2 W2 S2 d2 p2=>?_
 refine op_on L S2 (d:=6) rfl rfl rfl (sub_op (s:=5) (n:=intN (lenL xs)) rfl rfl) rfl (by decide) rfl fun a3 F3 pl3 W3 S3 d3 p3=>?_
 refine op_on L S3 (d:=3) rfl rfl rfl (mv_op (s:=6) (.inr rfl)) rfl (by decide) rfl fun a4 F4 pl4 W4 S4 d4 p4=>?_
 have esub:subW .i64 (intN (lenL xs)) 1=(xs.length:Int) - 1:=by
  unfold subW IntKind.wrap intN lenL
  simp only [IntKind.signed,IntKind.bits]
  simp
  omega
 have S5:Sim K β0 19 ⟨tmL r xs.length,loc,H⟩ a4 F4 pl4 W4:=S4.weaken fun t=>by
  rcases tmL_get (K:=K) r xs.length t with e|⟨rfl,e⟩|⟨rfl,e⟩
  ·exact .inl e
  ·exact .inr (e.trans rfl)
  ·refine .inr (e.trans ?_)
   show _=C.d (.int .i64 (subW .i64 (intN (lenL xs)) 1))
   rw [esub]
 refine loop ⟨by rw [d4,d3,d2,d1],by rw [p4 _ (by decide),p3 _ (by decide),p2 _ (by decide),p1 _ (by decide)]; exact t0,xs.length,Nat.le_refl _,fun q h1 h2=>by omega,β0,F4,pl4,hh0,S5⟩
end
end
end Go.Abs
