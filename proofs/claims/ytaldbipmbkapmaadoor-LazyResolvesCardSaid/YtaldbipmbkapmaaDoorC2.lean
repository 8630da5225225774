/- LEMMAS: the laws of this reading of the program. Conditions: none. (Written by a program of mine, mkcfg.py.) -/
import Derived.Test.YtaldbipmbkapmaaDoorC1
import Derived.Test.YtaldbipmbkapmaaDoorA25
import Derived.Test.YtaldbipmbkapmaaDoorA31
import Derived.KernelRfl
set_option maxRecDepth 4000
namespace Go.Proofs.YtaldbipmbkapmaaDoor.V
set_option linter.unusedVariables false
set_option linter.unusedSimpArgs false
open Go Go.Abs
theorem ofList_mem {α:Type} {d:α}:∀{l:List (Nat×α)} {t:Nat} {x:α},ofList d l t=x→x=d∨(t,x)∈l
 | [],_,_,h=>.inl h.symm
 | (k,v) :: l,t,x,h=>by
  simp only [ofList] at h
  cases hb:Nat.beq t k with
  | true=>
   rw [hb] at h
   right
   rw [Nat.eq_of_beq_eq_true hb,←h]
   simp
  | false=>
   rw [hb] at h
   rcases ofList_mem h with h|h
   ·exact .inl h
   ·exact .inr (by simp [h])
theorem ti_all:tiL.all (fun p=>p.2.ok Tryd.prog p.1)=true:=by kernel_rfl
theorem names_all : Tryd.prog.funcs.toList.all (fun f => !(f.name == "runtime.NumGoroutine")) = true := by kernel_rfl
theorem enc_len:∀(c:Ty) (x:El c),(enc c x).length=width c:=by
 intro c x; cases c <;> rfl
theorem flat_bare:∀(c:Ty),flat c=true→∀(x:El c),∀d∈enc c x,(C.d d:C U).bare=true:=by
 intro c hc x d hd
 cases c <;> simp only [flat,Bool.false_eq_true] at hc
 all_goals
  simp only [enc,List.mem_cons,List.not_mem_nil,or_false] at hd
  repeat (first|(subst hd; rfl)|(rcases hd with rfl|hd; rfl))
theorem asSl_le {c:Ty} {d:D U} {xs:List (El c)} (h:asSl c d=some xs):d.le (.sl c xs):=by
 unfold asSl at h
 split at h
 ·rename_i c' ys
  obtain ⟨e,h⟩:=castL_some (G:=El) h
  subst e
  cases h
  exact .inl rfl
 ·simp only [Option.some.injEq] at h; subst h
  exact .inr ⟨rfl,c,rfl⟩
 ·cases h
theorem le_cons {a b:D U} {l m:List (D U)} (h:a.le b) (h':l.length=m.length∧∀(j:Nat) (d d':D U),l[j]?=some d→m[j]?=some d'→d.le d'):(a :: l).length=(b :: m).length∧∀(j:Nat) (d d':D U),(a :: l)[j]?=some d→(b :: m)[j]?=some d'→d.le d':=by
 refine ⟨by simp [h'.1],fun j d d' h1 h2=>?_⟩
 cases j with
 | zero=>simp only [List.getElem?_cons_zero,Option.some.injEq] at h1 h2; subst h1; subst h2; exact h
 | succ j=>exact h'.2 j d d' (by simpa using h1) (by simpa using h2)
theorem le_nil:([]:List (D U)).length=([]:List (D U)).length∧∀(j:Nat) (d d':D U),([]:List (D U))[j]?=some d→([]:List (D U))[j]?=some d'→d.le d':=⟨rfl,by simp⟩
theorem dec_le_api_Closer (ds:List (D U)) (x:El .api_Closer) (h:dec_api_Closer ds=some x):ds.length=(enc .api_Closer x).length∧∀(j:Nat) (d d':D U),ds[j]?=some d→(enc .api_Closer x)[j]?=some d'→d.le d':=by
 unfold dec_api_Closer at h
 split at h
 ·obtain rfl:=Option.some.inj h
  exact le_cons (.inl rfl) (le_cons (.inl rfl) (le_nil))
 ·cases h
theorem dec_le_api_Fault (ds:List (D U)) (x:El .api_Fault) (h:dec_api_Fault ds=some x):ds.length=(enc .api_Fault x).length∧∀(j:Nat) (d d':D U),ds[j]?=some d→(enc .api_Fault x)[j]?=some d'→d.le d':=by
 unfold dec_api_Fault at h
 split at h
 ·obtain rfl:=Option.some.inj h
  exact le_cons (.inl rfl) (le_cons (.inl rfl) (le_nil))
 ·cases h
theorem dec_le_api_Op (ds:List (D U)) (x:El .api_Op) (h:dec_api_Op ds=some x):ds.length=(enc .api_Op x).length∧∀(j:Nat) (d d':D U),ds[j]?=some d→(enc .api_Op x)[j]?=some d'→d.le d':=by
 unfold dec_api_Op at h
 split at h
 ·obtain rfl:=Option.some.inj h
  exact le_cons (.inl rfl) (le_cons (.inl rfl) (le_cons (.inl rfl) (le_cons (.inl rfl) (le_nil))))
 ·cases h
theorem dec_le_api_Own (ds:List (D U)) (x:El .api_Own) (h:dec_api_Own ds=some x):ds.length=(enc .api_Own x).length∧∀(j:Nat) (d d':D U),ds[j]?=some d→(enc .api_Own x)[j]?=some d'→d.le d':=by
 unfold dec_api_Own at h
 split at h
 ·split at h
  ·rename_i h_x2
   obtain rfl:=Option.some.inj h
   exact le_cons (.inl rfl) (le_cons (.inl rfl) (le_cons (asSl_le h_x2) (le_cons (.inl rfl) (le_cons (.inl rfl) (le_cons (.inl rfl) (le_cons (.inl rfl) (le_cons (.inl rfl) (le_cons (.inl rfl) (le_cons (.inl rfl) (le_nil))))))))))
  ·cases h
 ·cases h
theorem dec_le_api_Policy (ds:List (D U)) (x:El .api_Policy) (h:dec_api_Policy ds=some x):ds.length=(enc .api_Policy x).length∧∀(j:Nat) (d d':D U),ds[j]?=some d→(enc .api_Policy x)[j]?=some d'→d.le d':=by
 unfold dec_api_Policy at h
 split at h
 ·obtain rfl:=Option.some.inj h
  exact le_cons (.inl rfl) (le_cons (.inl rfl) (le_cons (.inl rfl) (le_cons (.inl rfl) (le_nil))))
 ·cases h
theorem dec_le_api_Provider (ds:List (D U)) (x:El .api_Provider) (h:dec_api_Provider ds=some x):ds.length=(enc .api_Provider x).length∧∀(j:Nat) (d d':D U),ds[j]?=some d→(enc .api_Provider x)[j]?=some d'→d.le d':=by
 unfold dec_api_Provider at h
 split at h
 ·split at h
  ·rename_i h_x1
   obtain rfl:=Option.some.inj h
   exact le_cons (.inl rfl) (le_cons (asSl_le h_x1) (le_cons (.inl rfl) (le_cons (.inl rfl) (le_cons (.inl rfl) (le_cons (.inl rfl) (le_cons (.inl rfl) (le_cons (.inl rfl) (le_cons (.inl rfl) (le_nil)))))))))
  ·cases h
 ·cases h
theorem dec_le_api_World (ds:List (D U)) (x:El .api_World) (h:dec_api_World ds=some x):ds.length=(enc .api_World x).length∧∀(j:Nat) (d d':D U),ds[j]?=some d→(enc .api_World x)[j]?=some d'→d.le d':=by
 unfold dec_api_World at h
 split at h
 ·split at h
  ·rename_i h_x0 h_x1 h_x2
   obtain rfl:=Option.some.inj h
   exact le_cons (asSl_le h_x0) (le_cons (asSl_le h_x1) (le_cons (asSl_le h_x2) (le_nil)))
  ·cases h
 ·cases h
theorem dec_le_bool (ds:List (D U)) (x:El .bool) (h:dec_bool ds=some x):ds.length=(enc .bool x).length∧∀(j:Nat) (d d':D U),ds[j]?=some d→(enc .bool x)[j]?=some d'→d.le d':=by
 unfold dec_bool at h
 split at h
 ·obtain rfl:=Option.some.inj h
  exact le_cons (.inl rfl) (le_nil)
 ·cases h
theorem dec_le_int (ds:List (D U)) (x:El .int) (h:dec_int ds=some x):ds.length=(enc .int x).length∧∀(j:Nat) (d d':D U),ds[j]?=some d→(enc .int x)[j]?=some d'→d.le d':=by
 unfold dec_int at h
 split at h
 ·obtain rfl:=Option.some.inj h
  exact le_cons (.inl rfl) (le_nil)
 ·cases h
theorem dec_le_lazy_key (ds:List (D U)) (x:El .lazy_key) (h:dec_lazy_key ds=some x):ds.length=(enc .lazy_key x).length∧∀(j:Nat) (d d':D U),ds[j]?=some d→(enc .lazy_key x)[j]?=some d'→d.le d':=by
 unfold dec_lazy_key at h
 split at h
 ·obtain rfl:=Option.some.inj h
  exact le_cons (.inl rfl) (le_cons (.inl rfl) (le_nil))
 ·cases h
theorem dec_le_sl_int (ds:List (D U)) (x:El .sl_int) (h:dec_sl_int ds=some x):ds.length=(enc .sl_int x).length∧∀(j:Nat) (d d':D U),ds[j]?=some d→(enc .sl_int x)[j]?=some d'→d.le d':=by
 unfold dec_sl_int at h
 split at h
 ·split at h
  ·rename_i h_x0
   obtain rfl:=Option.some.inj h
   exact le_cons (asSl_le h_x0) (le_nil)
  ·cases h
 ·cases h
theorem dec_le_str (ds:List (D U)) (x:El .str) (h:dec_str ds=some x):ds.length=(enc .str x).length∧∀(j:Nat) (d d':D U),ds[j]?=some d→(enc .str x)[j]?=some d'→d.le d':=by
 unfold dec_str at h
 split at h
 ·obtain rfl:=Option.some.inj h
  exact le_cons (.inl rfl) (le_nil)
 ·cases h
theorem key_eq:∀(c:Ty) (zs:List Z) (eq:El c→El c→Bool),keyEq c=some (zs,eq)→∀x y:El c,sameCells (U:=U) zs ((enc c x).map .d) ((enc c y).map .d)=some (eq x y):=by
 intro c zs eq h x y
 cases c <;> simp only [keyEq] at h <;> cases h <;> rfl
theorem meth_all:∀(t:Nat) (nm:String) (g:Nat),methods t nm=some g→∀(v:Value) (w:World),(method (Tryd.prog.types.size+Made.depth) t v nm).run Tryd.prog w=.ok (g,v) w:=by
 intro t nm g h
 unfold methods at h
 split at h
 cases h
theorem ti_ok (t:Nat) (i:TI) (h:ofList none (tiL.map fun x=>(x.1,some x.2)) t=some i):i.ok Tryd.prog t=true:=by
 rcases ofList_mem h with h|h
 ·cases h
 ·obtain ⟨p,hp,e⟩:=List.mem_map.1 h
  simp only [Prod.mk.injEq,Option.some.injEq] at e
  obtain ⟨e1,e2⟩:=e
  have:=List.all_eq_true.1 ti_all p hp
  rw [e1,e2] at this
  exact this
theorem name_ok (g : Nat) (fn : Func) (h : Tryd.prog.funcs[g]? = some fn) : (fn.name == "runtime.NumGoroutine") = false := by
 have:=List.all_eq_true.1 names_all fn (by simpa using Array.mem_of_getElem? h)
 simpa using this
theorem dec_ok (c:Ty) (ds:List (D U)) (x:El c) (h:dec c ds=some x):ds.length=width c∧∀(j:Nat) (d d':D U),ds[j]?=some d→(enc c x)[j]?=some d'→d.le d':=by
 rw [←enc_len c x]
 cases c <;> first
  | exact dec_le_api_Closer ds x h
  | exact dec_le_api_Fault ds x h
  | exact dec_le_api_Op ds x h
  | exact dec_le_api_Own ds x h
  | exact dec_le_api_Policy ds x h
  | exact dec_le_api_Provider ds x h
  | exact dec_le_api_World ds x h
  | exact dec_le_bool ds x h
  | exact dec_le_int ds x h
  | exact dec_le_lazy_key ds x h
  | exact dec_le_sl_int ds x h
  | exact dec_le_str ds x h
theorem laws:Laws K where
 ti:=ti_ok
 len:=enc_len
 flat:=flat_bare
 dec:=dec_ok
 name:=name_ok
 meth:=meth_all
 key:=key_eq
 back:=fun _ _ h=>by cases h
abbrev Post:=C U→List (O U)→Prop
abbrev Gives (f:Nat) (args:List (C U)) (c:C U):Prop:=Runs K f args [] fun c' H'=>c'=c∧H'=[]
abbrev GivesM (f:Nat) (args:List (C U)) (H:List (O U)) (c:C U) (H1:List (O U)):Prop:=Runs K f args H fun c' H'=>c'=c∧H'=H1
theorem ofW {f:Nat} {args:List (C U)} {X:Prop} {post:Post} (fn:Func) (hf:Tryd.prog.funcs[f]?=some fn) (hb:fn.body=some (fn.body.getD .skip)) (hl:Nat.ble args.length fn.ntmps=true)
  (e:walkP Rs (Runs K) (At K f post) f fn post 2000 true [.code (fn.body.getD .skip)] ⟨fun t=>args.getD t .dead,fun _=>none,[]⟩=X) (h:X):Runs K f args [] post:=
 Runs.of_walk laws Rs 2000 hf hb hl (fun _=>rfl) (Eq.mpr e h)
theorem ofH {f:Nat} {args:List (C U)} {X:Prop} {post:Post} {H:List (O U)} (fn:Func) (hf:Tryd.prog.funcs[f]?=some fn) (hb:fn.body=some (fn.body.getD .skip)) (hl:Nat.ble args.length fn.ntmps=true) (hp:(K.ann f).pure=false)
  (e:walkP Rs (Runs K) (At K f post) f fn post 2000 true [.code (fn.body.getD .skip)] ⟨fun t=>args.getD t .dead,fun _=>none,H⟩=X) (h:X):Runs K f args H post:=
 Runs.of_walk laws Rs 2000 hf hb hl (fun h=>Bool.noConfusion (hp.symm.trans h)) (Eq.mpr e h)
theorem atW {f:Nat} {X:Prop} {post:Post} {todo:List Item} {st:St U} (fn:Func) (hf:Tryd.prog.funcs[f]?=some fn) (e:walkP Rs (Runs K) (At K f post) f fn post 2000 true todo st=X) (h:X):At K f post todo st:=
 At.of_walk laws Rs 2000 hf (Eq.mpr e h)
theorem ofWS {f:Nat} {args:List (C U)} {X:Prop} {post:Post} (fn:Func) (hf:Tryd.prog.funcs[f]?=some fn) (hb:fn.body=some (fn.body.getD .skip)) (hl:Nat.ble args.length fn.ntmps=true)
  (e:walkS Sh Rs (Runs K) (At K f post) f fn post 2000 true [.code (fn.body.getD .skip)] ⟨fun t=>args.getD t .dead,fun _=>none,[]⟩=X) (h:X):Runs K f args [] post:=
 Runs.of_walkS laws Sh Rs 2000 hf hb hl (fun _=>rfl) (Eq.mpr e h)
theorem ofHS {f:Nat} {args:List (C U)} {X:Prop} {post:Post} {H:List (O U)} (fn:Func) (hf:Tryd.prog.funcs[f]?=some fn) (hb:fn.body=some (fn.body.getD .skip)) (hl:Nat.ble args.length fn.ntmps=true) (hp:(K.ann f).pure=false)
  (e:walkS Sh Rs (Runs K) (At K f post) f fn post 2000 true [.code (fn.body.getD .skip)] ⟨fun t=>args.getD t .dead,fun _=>none,H⟩=X) (h:X):Runs K f args H post:=
 Runs.of_walkS laws Sh Rs 2000 hf hb hl (fun h=>Bool.noConfusion (hp.symm.trans h)) (Eq.mpr e h)
theorem atWS {f:Nat} {X:Prop} {post:Post} {todo:List Item} {st:St U} (fn:Func) (hf:Tryd.prog.funcs[f]?=some fn) (e:walkS Sh Rs (Runs K) (At K f post) f fn post 2000 true todo st=X) (h:X):At K f post todo st:=
 At.of_walkS laws Sh Rs 2000 hf (Eq.mpr e h)
end Go.Proofs.YtaldbipmbkapmaaDoor.V
