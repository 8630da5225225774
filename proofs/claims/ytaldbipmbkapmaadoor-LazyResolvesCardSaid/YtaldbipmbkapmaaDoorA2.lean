/- DEFINITIONS, and first lemmas: what an abstract state says of memory. Conditions: none. -/
import Derived.Test.YtaldbipmbkapmaaDoorA1
import Derived.Below
import Derived.Wp
namespace Go.Abs
set_option linter.unusedVariables false
set_option linter.unusedSimpArgs false
open Go.RowKit (Below)
structure Pl where
 blk:Nat
 cap:Nat
section
variable {K:Cfg}
abbrev at' (b o:Nat):Addr:=⟨b,o,none⟩
inductive RepD (K:Cfg) (F:Nat→Prop) (w:World):D K.U→Value→Prop
 | int (k:IntKind) (n:Int):RepD K F w (.int k n) (.int k n)
 | bool (b:Bool):RepD K F w (.bool b) (.bool b)
 | str (s:ByteArray) (h:s.size≤maxStr):RepD K F w (.str s) (.string s)
 | nils:RepD K F w .nils (.slice none 0 0)
 | nilp:RepD K F w .nilp (.pointer none)
 | nilf:RepD K F w .nilf .nilFunc
 | nilm:RepD K F w .nilm (.map none)
 | nili:RepD K F w .nili .nilIface
 | sl0 (c:K.U.Ty) (a:Option Addr) (cap:Nat):RepD K F w (.sl c []) (.slice a 0 cap)
 | sl (c:K.U.Ty) (xs:List (K.U.El c)) (b off cap:Nat) (f:Nat→Nat→Value) (hF:F b) (hcap:xs.length≤cap)
   (hcell:∀i x,xs[i]?=some x→∀j d,(K.enc c x)[j]?=some d→w.cell? (at' b (off+i * K.width c+j))=some (f i j))
   (hrep:∀i x,xs[i]?=some x→∀j d,(K.enc c x)[j]?=some d→RepD K F w d (f i j))
   (hbnd:xs.length * K.bytesC c≤room):RepD K F w (.sl c xs) (.slice (some (at' b off)) xs.length cap)
def SameC (F:Nat→Prop) (w w':World):Prop:=∀b,F b→∀o,w'.cell? (at' b o)=w.cell? (at' b o)
theorem SameC.of {F:Nat→Prop} {w w':World} (hw:∀b,F b→w'.heap[b]?=w.heap[b]?):SameC F w w':=fun b hb o=>by simp only [World.cell?,hw b hb]
theorem RepD.monoC {F F':Nat→Prop} {w w':World} (hF:∀b,F b→F' b) (hw:SameC F w w') {d:D K.U} {v:Value}
  (h:RepD K F w d v):RepD K F' w' d v:=by
 induction h with
 | int=>exact .int _ _
 | bool=>exact .bool _
 | str _ h=>exact .str _ h
 | nils=>exact .nils
 | nilp=>exact .nilp
 | nilf=>exact .nilf
 | nilm=>exact .nilm
 | nili=>exact .nili
 | sl0=>exact .sl0 _ _ _
 | sl c xs b off cap f hf hcap hcell _ hbnd ih=>
  refine .sl c xs b off cap f (hF _ hf) hcap (fun i x hx j d hd=>?_) ih hbnd
  have:=hcell i x hx j d hd
  rw [←this]
  exact hw b hf _
theorem RepD.mono {F F':Nat→Prop} {w w':World} (hF:∀b,F b→F' b) (hw:∀b,F b→w'.heap[b]?=w.heap[b]?) {d:D K.U} {v:Value}
  (h:RepD K F w d v):RepD K F' w' d v:=h.monoC hF (.of hw)
theorem RepD.oneCell {F:Nat→Prop} {w:World} {d:D K.U} {v:Value} (h:RepD K F w d v):v.oneCell=true:=by
 cases h <;> rfl
theorem RepD.cells {F:Nat→Prop} {w:World} {d:D K.U} {v:Value} (h:RepD K F w d v):v.cells=#[v]:=by
 cases h <;> rfl
def Cfg.arrI (K:Cfg):O K.U→Option (Nat×Nat×Nat)
 | .arr g v xs=>some (g,List.length xs,K.widthV v)
 | .fro g c xs=>some (g,xs.length,K.width c)
 | _=>none
def sliceVal (n wd:Nat) (p:Pl) (sub:Option (Nat×Nat)) (cl:Bool) (v:Value):Prop:=
 ∃a,v=.slice a (sub? sub n).2 (if cl then (sub? sub n).2 else p.cap - (sub? sub n).1)∧
  ((if cl then (sub? sub n).2 else p.cap - (sub? sub n).1) ≠ 0→a=some (at' p.blk ((sub? sub n).1 * wd)))
abbrev Obs (K:Cfg):=Rf→Option (O K.U)
def gOnly (ob:Obs K):Obs K
 | .l _=>none
 | .g o=>ob (.g o)
mutual
def RepC (F:Nat→Prop) (w:World) (ob:Obs K) (pl:Rf→Pl):C K.U→Value→Prop
 | .d x,v=>RepD K F w x v
 | .clip c xs,v=>RepD K F w (.sl c xs) v∧∃a,v=.slice a xs.length xs.length
 | .ep cells,v=>∃b off,v=.pointer (some (at' b off))∧F b∧∀j d,cells[j]?=some d→∃u,w.cell? (at' b (off+j))=some u∧RepD K F w d u
 | .ptr r off,v=>(∃cs,ob r=some (.cells cs))∧v=.pointer (some (at' (pl r).blk off))
 | .pa r gen row col,v=>(∃a,v=.pointer (some a))∧∃o g n wd,ob r=some o∧K.arrI o=some (g,n,wd)∧gen≤g∧(gen=g→v=.pointer (some (at' (pl r).blk (row * wd+col))))
 | .asl r gen sub cl,v=>(∃a l c,v=.slice a l c)∧∃o g n wd,ob r=some o∧K.arrI o=some (g,n,wd)∧gen≤g∧(gen=g→sliceVal n wd (pl r) sub cl v)
 | .osl _ _,_=>False
 | .mp r,v=>(∃ag kc vc es,ob r=some (.map ag kc vc es))∧v=.map (some (pl r).blk)
 | .fn f first caps,v=>∃a b:List Value,v=.func (.func f) a.toArray b.toArray∧RepCs F w ob pl first a∧RepCs F w ob pl caps b
 | .fp f first caps,v=>∃a b:List Value,v=.func (.func f) a.toArray b.toArray∧RepCs F w (gOnly ob) pl first a∧RepCs F w (gOnly ob) pl caps b
 | .optr none,v=>v=.pointer none
 | .optr (some n),v=>(∃cs,ob (.g n)=some (.cells cs))∧v=.pointer (some (at' (pl (.g n)).blk 0))
 | .agg cs,v=>∃vs:List Value,v=.agg vs.toArray∧RepCs F w ob pl cs vs
 | .tup cs,v=>∃vs:List Value,v=.tuple vs.toArray∧RepCs F w ob pl cs vs
 | .ifc t x,v=>∃u,v=.iface t u∧RepC F w ob pl x u
 | .dead,_=>True
def RepCs (F:Nat→Prop) (w:World) (ob:Obs K) (pl:Rf→Pl):List (C K.U)→List Value→Prop
 | [],vs=>vs=[]
 | c :: cs,vs=>∃v rest,vs=v :: rest∧RepC F w ob pl c v∧RepCs F w ob pl cs rest
end
def Compat (K:Cfg) (o:O K.U) (p:Pl) (o':O K.U) (p':Pl):Prop:=
 match o with
 | .cells _=>(∃cs,o'=.cells cs)∧p'.blk=p.blk
 | .map ..=>(∃ag kc vc es,o'=.map ag kc vc es)∧p'.blk=p.blk
 | o=>∃g n wd g' n' wd',K.arrI o=some (g,n,wd)∧K.arrI o'=some (g',n',wd')∧g≤g'∧(g=g'→n'=n∧wd'=wd∧p'.blk=p.blk∧p'.cap=p.cap)
theorem Compat.refl (o:O K.U) (p:Pl):Compat K o p o p:=by
 cases o with
 | cells cs=>exact ⟨⟨_,rfl⟩,rfl⟩
 | map=>exact ⟨⟨_,_,_,_,rfl⟩,rfl⟩
 | arr g v xs=>exact ⟨_,_,_,_,_,_,rfl,rfl,Nat.le_refl _,fun _=>⟨rfl,rfl,rfl,rfl⟩⟩
 | fro g c xs=>exact ⟨_,_,_,_,_,_,rfl,rfl,Nat.le_refl _,fun _=>⟨rfl,rfl,rfl,rfl⟩⟩
theorem Compat.arr {o o':O K.U} {p p':Pl} {g n wd g' n' wd':Nat} (h:K.arrI o=some (g,n,wd)) (h':K.arrI o'=some (g',n',wd')) (hg:g≤g')
  (he:g=g'→n'=n∧wd'=wd∧p'.blk=p.blk∧p'.cap=p.cap):Compat K o p o' p':=by
 cases o with
 | cells cs=>simp [Cfg.arrI] at h
 | map=>simp [Cfg.arrI] at h
 | arr=>exact ⟨_,_,_,_,_,_,h,h',hg,he⟩
 | fro=>exact ⟨_,_,_,_,_,_,h,h',hg,he⟩
theorem Compat.arrI {o o':O K.U} {p p':Pl} (h:Compat K o p o' p') {g n wd:Nat} (hi:K.arrI o=some (g,n,wd)):
  ∃g' n' wd',K.arrI o'=some (g',n',wd')∧g≤g'∧(g=g'→n'=n∧wd'=wd∧p'.blk=p.blk∧p'.cap=p.cap):=by
 cases o with
 | cells cs=>simp [Cfg.arrI] at hi
 | map=>simp [Cfg.arrI] at hi
 | arr=>
  obtain ⟨_,_,_,_,_,_,h1,h2,h3,h4⟩:=h
  rw [hi] at h1; cases h1
  exact ⟨_,_,_,h2,h3,h4⟩
 | fro=>
  obtain ⟨_,_,_,_,_,_,h1,h2,h3,h4⟩:=h
  rw [hi] at h1; cases h1
  exact ⟨_,_,_,h2,h3,h4⟩
theorem Compat.trans {o o' o'':O K.U} {p p' p'':Pl} (h:Compat K o p o' p') (h':Compat K o' p' o'' p''):Compat K o p o'' p'':=by
 cases o with
 | cells cs=>
  obtain ⟨⟨cs',rfl⟩,hb⟩:=h
  obtain ⟨⟨cs'',rfl⟩,hb'⟩:=h'
  exact ⟨⟨_,rfl⟩,hb'.trans hb⟩
 | map=>
  obtain ⟨⟨_,_,_,_,rfl⟩,hb⟩:=h
  obtain ⟨⟨_,_,_,_,rfl⟩,hb'⟩:=h'
  exact ⟨⟨_,_,_,_,rfl⟩,hb'.trans hb⟩
 | arr=>
  obtain ⟨g,n,wd,g',n',wd',h1,h2,h3,h4⟩:=h
  obtain ⟨g'',n'',wd'',k2,k3,k4⟩:=h'.arrI h2
  refine Compat.arr h1 k2 (Nat.le_trans h3 k3) fun e=>?_
  have e1:g=g':=by omega
  have e2:g'=g'':=by omega
  obtain ⟨a,b,c,d⟩:=h4 e1
  obtain ⟨a',b',c',d'⟩:=k4 e2
  exact ⟨a'.trans a,b'.trans b,c'.trans c,d'.trans d⟩
 | fro=>
  obtain ⟨g,n,wd,g',n',wd',h1,h2,h3,h4⟩:=h
  obtain ⟨g'',n'',wd'',k2,k3,k4⟩:=h'.arrI h2
  refine Compat.arr h1 k2 (Nat.le_trans h3 k3) fun e=>?_
  have e1:g=g':=by omega
  have e2:g'=g'':=by omega
  obtain ⟨a,b,c,d⟩:=h4 e1
  obtain ⟨a',b',c',d'⟩:=k4 e2
  exact ⟨a'.trans a,b'.trans b,c'.trans c,d'.trans d⟩
def Rf.kept (keep:Nat→Bool):Rf→Bool
 | .l s=>keep s
 | .g _=>true
mutual
theorem C.refsOk_all {U:Univ}:∀(c:C U),c.refsOk (fun _=>true)=true
 | .d _|.clip _ _|.ep _|.ptr (.l _) _|.ptr (.g _) _|.pa (.l _) _ _ _|.pa (.g _) _ _ _|.asl (.l _) _ _ _|.asl (.g _) _ _ _|.osl _ _|.mp (.l _)|.mp (.g _)|.optr _|.dead=>by simp [C.refsOk]
 | .fn _ a b=>by simp [C.refsOk,C.refsAll_all a,C.refsAll_all b]
 | .fp _ _ _=>by simp [C.refsOk]
 | .agg cs|.tup cs=>by simp [C.refsOk,C.refsAll_all cs]
 | .ifc _ x=>by simp [C.refsOk,C.refsOk_all x]
theorem C.refsAll_all {U:Univ}:∀(cs:List (C U)),C.refsAll (fun _=>true) cs=true
 | []=>by simp [C.refsAll]
 | c :: cs=>by simp [C.refsAll,C.refsOk_all c,C.refsAll_all cs]
end
mutual
theorem RepC.monoC' {F F':Nat→Prop} {w w':World} {ob ob':Obs K} {pl pl':Rf→Pl} {keep:Nat→Bool} (hF:∀b,F b→F' b) (hw:SameC F w w')
  (ho:∀r o,r.kept keep=true→ob r=some o→∃o',ob' r=some o'∧Compat K o (pl r) o' (pl' r)):
  ∀{c:C K.U} {v:Value},c.refsOk keep=true→RepC F w ob pl c v→RepC F' w' ob' pl' c v
 | .d x,v,_,h=>by simp only [RepC] at h ⊢; exact h.monoC hF hw
 | .clip c xs,v,_,h=>by simp only [RepC] at h ⊢; exact ⟨h.1.monoC hF hw,h.2⟩
 | .ep cells,v,_,h=>by
  simp only [RepC] at h ⊢
  obtain ⟨b,off,hv,hb,hc⟩:=h
  refine ⟨b,off,hv,hF _ hb,fun j d hd=>?_⟩
  obtain ⟨u,hu,hr⟩:=hc j d hd
  exact ⟨u,by rw [←hu]; exact hw b hb _,hr.monoC hF hw⟩
 | .ptr r off,v,hk,h=>by
  simp only [RepC] at h ⊢
  obtain ⟨⟨cs,hr⟩,hv⟩:=h
  obtain ⟨o',h1,⟨cs',rfl⟩,h2⟩:=ho r _ (by cases r <;> simp_all [C.refsOk,Rf.kept]) hr
  exact ⟨⟨cs',h1⟩,by rw [hv,h2]⟩
 | .pa r gen row col,v,hk,h=>by
  simp only [RepC] at h ⊢
  obtain ⟨h1c,o,g,n,wd,hr,hi,hg,hv⟩:=h
  obtain ⟨o',h1,hc⟩:=ho r _ (by cases r <;> simp_all [C.refsOk,Rf.kept]) hr
  obtain ⟨g',n',wd',h2,h3,h4⟩:=hc.arrI hi
  refine ⟨h1c,o',g',n',wd',h1,h2,Nat.le_trans hg h3,fun e=>?_⟩
  have e1:gen=g:=by omega
  obtain ⟨_,e2,e3,_⟩:=h4 (by omega)
  rw [hv e1,e2,e3]
 | .asl r gen sub cl,v,hk,h=>by
  simp only [RepC] at h ⊢
  obtain ⟨h1c,o,g,n,wd,hr,hi,hg,hv⟩:=h
  obtain ⟨o',h1,hc⟩:=ho r _ (by cases r <;> simp_all [C.refsOk,Rf.kept]) hr
  obtain ⟨g',n',wd',h2,h3,h4⟩:=hc.arrI hi
  refine ⟨h1c,o',g',n',wd',h1,h2,Nat.le_trans hg h3,fun e=>?_⟩
  have e1:gen=g:=by omega
  obtain ⟨e0,e2,e3,e4⟩:=h4 (by omega)
  have:=hv e1
  rw [e0,e2]
  simp only [sliceVal,e3,e4] at this ⊢
  exact this
 | .osl _ _,_,_,h=>by simp only [RepC] at h
 | .mp r,v,hk,h=>by
  simp only [RepC] at h ⊢
  obtain ⟨⟨ag,kc,vc,es,hr⟩,hv⟩:=h
  obtain ⟨o',h1,⟨ag',kc',vc',es',rfl⟩,h2⟩:=ho r _ (by cases r <;> simp_all [C.refsOk,Rf.kept]) hr
  exact ⟨⟨_,_,_,_,h1⟩,by rw [hv,h2]⟩
 | .fn f first caps,v,hk,h=>by
  simp only [RepC] at h ⊢
  simp only [C.refsOk,Bool.and_eq_true] at hk
  obtain ⟨a,b,hv,h1,h2⟩:=h
  exact ⟨a,b,hv,RepCs.monoC' hF hw ho hk.1 h1,RepCs.monoC' hF hw ho hk.2 h2⟩
 | .fp f first caps,v,_,h=>by
  simp only [RepC] at h ⊢
  obtain ⟨a,b,hv,h1,h2⟩:=h
  have ho':∀(r:Rf) (o:O K.U),r.kept (fun _=>false)=true→gOnly ob r=some o→∃o',gOnly ob' r=some o'∧Compat K o (pl r) o' (pl' r):=by
   intro r o hk hr
   cases r with
   | l s=>cases hr
   | g n=>exact ho (.g n) o rfl hr
  have hz:∀(r:Rf) (o:O K.U),r.kept (fun _=>true)=true→gOnly ob r=some o→∃o',gOnly ob' r=some o'∧Compat K o (pl r) o' (pl' r):=by
   intro r o _ hr
   cases r with
   | l s=>cases hr
   | g n=>exact ho' (.g n) o rfl hr
  exact ⟨a,b,hv,RepCs.monoC' hF hw hz (C.refsAll_all first) h1,RepCs.monoC' hF hw hz (C.refsAll_all caps) h2⟩
 | .optr none,v,_,h=>by simp only [RepC] at h ⊢; exact h
 | .optr (some n),v,_,h=>by
  simp only [RepC] at h ⊢
  obtain ⟨⟨cs,hr⟩,hv⟩:=h
  obtain ⟨o',h1,⟨cs',rfl⟩,h2⟩:=ho (.g n) _ rfl hr
  exact ⟨⟨cs',h1⟩,by rw [hv,h2]⟩
 | .agg cs,v,hk,h=>by
  simp only [RepC] at h ⊢
  obtain ⟨vs,hv,h1⟩:=h
  exact ⟨vs,hv,RepCs.monoC' hF hw ho hk h1⟩
 | .tup cs,v,hk,h=>by
  simp only [RepC] at h ⊢
  obtain ⟨vs,hv,h1⟩:=h
  exact ⟨vs,hv,RepCs.monoC' hF hw ho hk h1⟩
 | .ifc t x,v,hk,h=>by
  simp only [RepC] at h ⊢
  obtain ⟨u,hv,h1⟩:=h
  exact ⟨u,hv,RepC.monoC' hF hw ho hk h1⟩
 | .dead,_,_,_=>by simp only [RepC]
theorem RepCs.monoC' {F F':Nat→Prop} {w w':World} {ob ob':Obs K} {pl pl':Rf→Pl} {keep:Nat→Bool} (hF:∀b,F b→F' b) (hw:SameC F w w')
  (ho:∀r o,r.kept keep=true→ob r=some o→∃o',ob' r=some o'∧Compat K o (pl r) o' (pl' r)):
  ∀{cs:List (C K.U)} {vs:List Value},C.refsAll keep cs=true→RepCs F w ob pl cs vs→RepCs F' w' ob' pl' cs vs
 | [],vs,_,h=>by simp only [RepCs] at h ⊢; exact h
 | c :: cs,vs,hk,h=>by
  simp only [RepCs] at h ⊢
  simp only [C.refsAll,Bool.and_eq_true] at hk
  obtain ⟨v,rest,hv,h1,h2⟩:=h
  exact ⟨v,rest,hv,RepC.monoC' hF hw ho hk.1 h1,RepCs.monoC' hF hw ho hk.2 h2⟩
end
theorem RepC.mono' {F F':Nat→Prop} {w w':World} {ob ob':Obs K} {pl pl':Rf→Pl} {keep:Nat→Bool} (hF:∀b,F b→F' b) (hw:∀b,F b→w'.heap[b]?=w.heap[b]?)
  (ho:∀r o,r.kept keep=true→ob r=some o→∃o',ob' r=some o'∧Compat K o (pl r) o' (pl' r)) {c:C K.U} {v:Value} (hk:c.refsOk keep=true) (h:RepC F w ob pl c v):RepC F' w' ob' pl' c v:=
 RepC.monoC' hF (.of hw) ho hk h
theorem RepCs.mono' {F F':Nat→Prop} {w w':World} {ob ob':Obs K} {pl pl':Rf→Pl} {keep:Nat→Bool} (hF:∀b,F b→F' b) (hw:∀b,F b→w'.heap[b]?=w.heap[b]?)
  (ho:∀r o,r.kept keep=true→ob r=some o→∃o',ob' r=some o'∧Compat K o (pl r) o' (pl' r)) {cs:List (C K.U)} {vs:List Value} (hk:C.refsAll keep cs=true) (h:RepCs F w ob pl cs vs):RepCs F' w' ob' pl' cs vs:=
 RepCs.monoC' hF (.of hw) ho hk h
theorem RepC.mono {F F':Nat→Prop} {w w':World} {ob ob':Obs K} {pl pl':Rf→Pl} (hF:∀b,F b→F' b) (hw:∀b,F b→w'.heap[b]?=w.heap[b]?)
  (ho:∀r o,ob r=some o→∃o',ob' r=some o'∧Compat K o (pl r) o' (pl' r)) {c:C K.U} {v:Value} (h:RepC F w ob pl c v):RepC F' w' ob' pl' c v:=
 RepC.mono' (keep:=fun _=>true) hF hw (fun r o _=>ho r o) (C.refsOk_all c) h
theorem RepCs.mono {F F':Nat→Prop} {w w':World} {ob ob':Obs K} {pl pl':Rf→Pl} (hF:∀b,F b→F' b) (hw:∀b,F b→w'.heap[b]?=w.heap[b]?)
  (ho:∀r o,ob r=some o→∃o',ob' r=some o'∧Compat K o (pl r) o' (pl' r)) {cs:List (C K.U)} {vs:List Value} (h:RepCs F w ob pl cs vs):RepCs F' w' ob' pl' cs vs:=
 RepCs.mono' (keep:=fun _=>true) hF hw (fun r o _=>ho r o) (C.refsAll_all cs) h
def ArrIn (F:Nat→Prop) (w:World) (ob:Obs K) (pl:Rf→Pl) (v:Vc K.U) (xs:List v.El) (vs:List Value):Prop:=
 ∀i x,xs[i]?=some x→RepCs F w ob pl (K.encV v x) ((vs.drop (i * K.widthV v)).take (K.widthV v))
def isAggV:Value→Bool
 | .agg _=>true
 | _=>false
def RepO (F:Nat→Prop) (w:World) (ob:Obs K) (pl:Rf→Pl) (p:Pl):O K.U→Prop
 | .cells cs=>∃(vs:List Value) (e:TypeId),w.heap[p.blk]?=some (.cells vs.toArray e (0,0))∧RepCs F w ob pl cs vs∧∀v∈vs,v.oneCell=true
 | .arr _ v xs=>(p.cap=0∧xs=[])∨∃(vs:List Value) (e:TypeId),w.heap[p.blk]?=some (.cells vs.toArray e (0,0))∧vs.length=p.cap * K.widthV v∧
   List.length xs≤p.cap∧(∀v∈vs,v.oneCell=true)∧ArrIn F w ob pl v xs vs
 | .fro _ c xs=>xs=[]∨RepD K F w (.sl c xs) (.slice (some (at' p.blk 0)) xs.length p.cap)
 | .map ag kc v es=>∃(en:Array MapEntry) (clock:Nat),w.heap[p.blk]?=some (.map en clock)∧en.size=List.length es∧
   (∀(n:Nat) (e:MapEntry),en[n]?=some e→e.born=n)∧clock=en.size∧
   ∀(i:Nat) (k:K.U.El kc) (x:v.El),(es:List (K.U.El kc×v.El))[i]?=some (k,x)→∃e:MapEntry,en[i]?=some e∧isAggV e.key=ag.1∧isAggV e.val=ag.2∧
    RepCs F w ob pl ((K.enc kc k).map .d) e.key.cells.toList∧RepCs F w ob pl (K.encV v x) e.val.cells.toList
def Owns (K:Cfg) (o:O K.U) (p:Pl):Prop:=
 match o with
 | .cells _|.map ..=>True
 | .arr ..=>p.cap ≠ 0
 | .fro ..=>False
def Cfg.bndV (K:Cfg):Vc K.U→Nat→Prop
 | .pure c,n=>n * K.bytesC c≤room
 | _,_=>True
def Cfg.bnd (K:Cfg):O K.U→Prop
 | .arr _ v xs=>K.bndV v (List.length xs)
 | _=>True
structure Mem (K:Cfg) (F:Nat→Prop) (w:World) (ob:Obs K) (pl:Rf→Pl):Prop where
 rep:∀r o,ob r=some o→RepO F w ob pl (pl r) o
 apart:∀r r' o o',ob r=some o→ob r'=some o'→Owns K o (pl r)→Owns K o' (pl r')→(pl r).blk=(pl r').blk→r=r'
 free:∀r o,ob r=some o→Owns K o (pl r)→¬F (pl r).blk∧(pl r).blk<w.heap.size
 frozen:∀b,F b→b<w.heap.size
 glob:∀g cells,K.glob g=some cells→F g∧∀j d,cells[j]?=some d→∃u,w.cell? (at' g j)=some u∧RepD K F w d u
 bnd:∀r o,ob r=some o→K.bnd o
structure Base (K:Cfg) where
 w:World
 F:Nat→Prop
 H:List (O K.U)
 pl:Rf→Pl
 pin:Nat→Option Obj
 ghost:Nat→C K.U×Value
def Base.of (w:World) (F:Nat→Prop) (H:List (O K.U)) (pl:Rf→Pl):Base K:=⟨w,F,H,pl,fun _=>none,fun _=>(.dead,undef)⟩
def Base.plain (β:Base K):Prop:=β.ghost=fun t=>(.dead,(β.ghost t).2)
def Base.G (β:Base K) (b:Nat):Prop:=∃n o,β.H[n]?=some o∧Owns K o (β.pl (.g n))∧b=(β.pl (.g n)).blk
structure Fr (K:Cfg) (β:Base K) (F:Nat→Prop) (w:World) (ob:Obs K) (pl:Rf→Pl):Prop where
 os:w.os=β.w.os
 tape:w.tape=β.w.tape
 output:w.output=β.w.output
 size:β.w.heap.size≤w.heap.size
 old:∀b,b<β.w.heap.size→¬β.G b→w.heap[b]?=β.w.heap[b]?
 Fsub:∀b,β.F b→F b
 Fnew:∀b,F b→β.F b∨β.w.heap.size≤b∨β.G b
 own:∀r o,ob r=some o→Owns K o (pl r)→β.w.heap.size≤(pl r).blk∨β.G (pl r).blk
 glob:∀n o,β.H[n]?=some o→∃o',ob (.g n)=some o'∧Compat K o (β.pl (.g n)) o' (pl (.g n))
def obH (H:List (O K.U)):Obs K:=getO (fun _=>none) H
def HOk {U:Univ} (H:List (O U)):Prop:=∀(n:Nat) (o:O U),H[n]?=some o→o.refsOk (fun _=>false)=true
def RepR1 (F:Nat→Prop) (w:World) (ob:Obs K) (pl:Rf→Pl) (c:C K.U) (v:Value) (own:List Nat):Prop:=
 match c with
 | .osl cd xs=>(xs=[]∧own=[]∧∃a,v=.slice a 0 0)∨
   ∃(b cap:Nat) (vs:List Value) (e:TypeId),cap ≠ 0∧own=[b]∧v=.slice (some (at' b 0)) xs.length cap∧w.heap[b]?=some (.cells vs.toArray e (0,0))∧
    vs.length=cap * K.width cd∧xs.length≤cap∧(∀u∈vs,u.oneCell=true)∧ArrIn F w ob pl (.pure cd) xs vs∧xs.length * K.bytesC cd≤room
 | c=>own=[]∧RepC F w ob pl c v
def RepRs (F:Nat→Prop) (w:World) (ob:Obs K) (pl:Rf→Pl):List (C K.U)→List Value→List Nat→Prop
 | [],vs,own=>vs=[]∧own=[]
 | c :: cs,vs,own=>∃v rest o1 o2,vs=v :: rest∧own=o1 ++ o2∧RepR1 F w ob pl c v o1∧RepRs F w ob pl cs rest o2
def RepR (F:Nat→Prop) (w:World) (ob:Obs K) (pl:Rf→Pl) (c:C K.U) (v:Value) (own:List Nat):Prop:=
 match c with
 | .tup cs=>∃vs:List Value,v=.tuple vs.toArray∧RepRs F w ob pl cs vs own
 | c=>RepR1 F w ob pl c v own
structure Fin (K:Cfg) (β:Base K) (c:C K.U) (v:Value) (H:List (O K.U)) (F:Nat→Prop) (pl:Rf→Pl) (w:World) (own:List Nat):Prop where
 rep:RepR F w (obH H) pl c v own
 mem:Mem K F w (obH H) pl
 fr:Fr K β F w (obH H) pl
 nodup:own.Nodup
 hok:HOk H
 mine:∀b∈own,β.w.heap.size≤b∧b<w.heap.size∧¬F b∧∀r o,obH H r=some o→Owns K o (pl r)→(pl r).blk ≠ b
def Runs (K:Cfg) (f:FuncId) (args:List (C K.U)) (H:List (O K.U)) (post:C K.U→List (O K.U)→Prop):Prop:=
 ∀(w:World) (F:Nat→Prop) (pl:Rf→Pl) (vs:List Value),HOk H→Mem K F w (obH H) pl→RepCs F w (obH H) pl args vs→
  Calls K.P f vs.toArray w fun e w'=>∃v,e=.returned v∧∃c H' F' pl' own,post c H'∧Fin K (.of w F H pl) c v H' F' pl' w' own
def St.obs {K:Cfg} (st:St K.U):Obs K:=getO st.loc st.H
def Marks (w0:World) (pin:Nat→Option Obj) (ds:List Deferred):Prop:=
 (∀d∈ds,∃D,d={ target:=.collected D,args:=#[] }∧w0.heap.size≤D∧pin D=some (.deferred (some [])))∧ds.Nodup
structure Sim (K:Cfg) (β:Base K) (nt:Nat) (st:St K.U) (a:Act) (F:Nat→Prop) (pl:Rf→Pl) (w:World):Prop where
 size:a.tmps.size=nt
 defers:Marks β.w β.pin a.defers
 pins:∀b o,β.pin b=some o→F b∧w.heap[b]?=some o
 ghosts:∀t,RepC F w st.obs pl (β.ghost t).1 (β.ghost t).2
 tmps:∀t,RepC F w st.obs pl (st.tmps t) (a.tmps.getD t undef)
 mem:Mem K F w st.obs pl
 fr:Fr K β F w st.obs pl
 hok:HOk st.H
def At (K:Cfg) (f:FuncId) (post:C K.U→List (O K.U)→Prop) (todo:List Item) (st:St K.U):Prop:=
 ∀fn,K.P.funcs[f]?=some fn→∀(β:Base K) (b:Frame) (a:Act) (w:World) (F:Nat→Prop) (pl:Rf→Pl) (cs:List Frame),
  b.fn=f→b.kind=.normal→((K.ann f).pure=true→β.H=[])→β.plain→Sim K β fn.ntmps st a F pl w→
  ∃v w' fr,Steps K.P (lone (b.at a todo) cs w) (lone fr cs w')∧fr.fn=f∧fr.leaving K.P w' (.returned v)∧
   ∃c H' F' pl' own,post c H'∧Fin K β c v H' F' pl' w' own
theorem Runs.mono {f:FuncId} {args:List (C K.U)} {H:List (O K.U)} {post post':C K.U→List (O K.U)→Prop} (h:Runs K f args H post) (hp:∀c H,post c H→post' c H):
  Runs K f args H post':=fun w F pl vs ho hm hr=>
 (h w F pl vs ho hm hr).mono fun _ _ ⟨v,he,c,H',F',pl',own,hq,hf⟩=>⟨v,he,c,H',F',pl',own,hp _ _ hq,hf⟩
theorem At.mono {f:FuncId} {post post':C K.U→List (O K.U)→Prop} {todo:List Item} {st:St K.U} (h:At K f post todo st) (hp:∀c H,post c H→post' c H):
  At K f post' todo st:=fun fn hfn β b a w F pl cs hb hk hp' hg hs=>
 let ⟨v,w',fr,h1,h2,h3,c,H',F',pl',own,hq,hf⟩:=h fn hfn β b a w F pl cs hb hk hp' hg hs
 ⟨v,w',fr,h1,h2,h3,c,H',F',pl',own,hp _ _ hq,hf⟩
end
end Go.Abs
