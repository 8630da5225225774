/- LEMMAS: arguments that hold no pointers, as pure data. Conditions: none. -/
import Derived.Test.YtaldbipmbkapmaaDoorA26
import Derived.WalkKit
import Derived.ProofKit
import Derived.OpenShut
import Derived.ShutString
import Derived.ChangeOld
import Derived.Below
import Derived.SizedLaws
namespace Go.Abs
set_option linter.unusedVariables false
set_option linter.unusedSimpArgs false
open Go.RowKit
section
variable {K:Cfg}
def Old (w:World):Nat→Prop:=fun b=>b<w.heap.size
def RepL (K:Cfg) (w:World):List (D K.U)→List Value→Prop
 | [],[]=>True
 | d :: ds,v :: vs=>RepD K (Old w) w d v∧RepL K w ds vs
 | _,_=>False
theorem RepL.length {w:World}:∀{ds:List (D K.U)} {cs:List Value},RepL K w ds cs→cs.length=ds.length
 | [],[],_=>rfl
 | _ :: _,_ :: _,h=>by simp [h.2.length]
 | [],_ :: _,h=>h.elim
 | _ :: _,[],h=>h.elim
theorem RepL.get {w:World}:∀{ds:List (D K.U)} {cs:List Value},RepL K w ds cs→∀(j:Nat) (d:D K.U),ds[j]?=some d→∃v,cs[j]?=some v∧RepD K (Old w) w d v
 | [],[],_,j,d,h=>by simp at h
 | _ :: ds,_ :: cs,h,j,d,hd=>by
  cases j with
  | zero=>simp only [List.getElem?_cons_zero,Option.some.injEq] at hd; subst hd; exact ⟨_,rfl,h.1⟩
  | succ j=>simpa using h.2.get j d (by simpa using hd)
 | [],_ :: _,h,_,_,_=>h.elim
 | _ :: _,[],h,_,_,_=>h.elim
theorem RepL.append {w:World}:∀{d1 d2:List (D K.U)} {c1 c2:List Value},RepL K w d1 c1→RepL K w d2 c2→RepL K w (d1 ++ d2) (c1 ++ c2)
 | [],_,[],_,_,h=>h
 | _ :: _,_,_ :: _,_,h,h'=>⟨h.1,h.2.append h'⟩
 | [],_,_ :: _,_,h,_=>h.elim
 | _ :: _,_,[],_,h,_=>h.elim
theorem RepL.cells {w:World}:∀{ds:List (D K.U)} {vs:List Value},RepL K w ds vs→∀{ob:Obs K} {pl:Rf→Pl},RepCs (Old w) w ob pl (ds.map .d) vs
 | [],[],_,_,_=>by simp [RepCs]
 | _ :: _,_ :: _,h,_,_=>by
  simp only [List.map_cons,RepCs]
  exact ⟨_,_,rfl,by simp only [RepC]; exact h.1,h.2.cells⟩
 | [],_ :: _,h,_,_=>h.elim
 | _ :: _,[],h,_,_=>h.elim
def Opens (K:Cfg) (t:TypeId) (R:List (D K.U)→Prop):Prop:=
 ∀(H:Type) (enc:TypeId×Value→H) (w:World) (fuel:Nat) (cs:List Value) (y:DataW H×List MemPlace),
  DataW.trod enc K.P w 0 (fun _=>true) true fuel t cs=some y→(∀n∈y.1.weights K.P t,n≤reachBytes)→∃ds,R ds∧RepL K w ds cs
theorem ti_sizes (L:Laws K) {t:TypeId} {i:TI} (h:K.ti t=some i):K.P.cellsOf t=i.size∧K.P.bytesOf t=i.bytes:=by
 obtain ⟨d,j,_,_,h3,h4,h5,_⟩:=ti_spec L h
 simp [Program.cellsOf,Program.bytesOf,h3,h4,h5]
theorem opens_int (L:Laws K) {t:TypeId} {i:TI} {k:IntKind} (h:K.ti t=some i) (hk:i.kind=.int k):Opens K t fun ds=>∃n,ds=[.int k n]:=by
 obtain ⟨d,_,h1,h2,_⟩:=ti_spec L h
 rw [hk] at h2
 cases d <;> first|exact (Bool.false_ne_true h2).elim|skip
 have:=eq_of_beq (show (k == _)=true from h2)
 subst this
 intro H enc w fuel cs y hy _
 obtain ⟨n,rfl,_,_⟩:=DataW.trod_int h1 hy
 exact ⟨_,⟨n,rfl⟩,.int _ _,trivial⟩
theorem opens_bool (L:Laws K) {t:TypeId} {i:TI} (h:K.ti t=some i) (hk:i.kind=.bool):Opens K t fun ds=>∃b,ds=[.bool b]:=by
 obtain ⟨d,_,h1,h2,_⟩:=ti_spec L h
 rw [hk] at h2
 cases d <;> first|exact (Bool.false_ne_true h2).elim|skip
 intro H enc w fuel cs y hy _
 obtain ⟨b,rfl,_⟩:=DataW.trod_bool h1 hy
 exact ⟨_,⟨b,rfl⟩,.bool _,trivial⟩
theorem opens_str (L:Laws K) {t:TypeId} {i:TI} (h:K.ti t=some i) (hk:i.kind=.str):Opens K t fun ds=>∃s,ds=[.str s]:=by
 obtain ⟨d,_,h1,h2,_⟩:=ti_spec L h
 rw [hk] at h2
 cases d <;> first|exact (Bool.false_ne_true h2).elim|skip
 intro H enc w fuel cs y hy hw
 obtain ⟨s,rfl,rfl,_⟩:=DataW.trod_string h1 hy
 refine ⟨_,⟨s,rfl⟩,.str _ ?_,trivial⟩
 have:=hw s.data.toList.length (by simp [DataW.weights])
 have e1:s.data.toList.length=s.size:=by simp
 have e2:reachBytes<140737488355328:=reachBytes_lt
 have e3:maxStr=4611686018427387904:=rfl
 omega
theorem choose_list {α:Type} {n:Nat} {Q:Nat→α→Prop} (h:∀i,i<n→∃x,Q i x):∃xs:List α,xs.length=n∧∀i x,xs[i]?=some x→Q i x:=by
 induction n with
 | zero=>exact ⟨[],rfl,by simp⟩
 | succ n ih=>
  obtain ⟨xs,h1,h2⟩:=ih fun i hi=>h i (by omega)
  obtain ⟨x,hx⟩:=h n (by omega)
  refine ⟨xs ++ [x],by simp [h1],fun i y hy=>?_⟩
  by_cases hi:i<n
  ·exact h2 i y (by rwa [List.getElem?_append_left (by omega)] at hy)
  ·rw [List.getElem?_append_right (by omega)] at hy
   have:i - xs.length=0:=by
    have:=(List.getElem?_eq_some_iff.1 hy).1
    simp at this; omega
   rw [this] at hy
   simp at hy; subst hy
   have:i=n:=by omega
   subst this; exact hx
theorem weightsAll_mem {H:Type} {P:Program} {e:TypeId} {n:Nat}:∀{ds:List (DataW H)} {d:DataW H},d∈ds→n∈d.weights P e→n∈DataW.weightsAll P e ds
 | [],_,h,_=>by simp at h
 | d' :: ds,d,h,hn=>by
  simp only [DataW.weightsAll,List.mem_append]
  rcases List.mem_cons.1 h with rfl|h
  ·exact .inl hn
  ·exact .inr (weightsAll_mem h hn)
theorem at_add1 (b o n:Nat):(at' b o).add n=at' b (o+n):=by
 unfold Addr.add
 by_cases h:n=0
 ·rw [if_pos h,h]; rfl
 ·rw [if_neg h]
theorem at_add2 (b o n m:Nat):((at' b o).add n).add m=at' b (o+n+m):=by rw [at_add1,at_add1]
theorem opens_slice (L:Laws K) {t e:TypeId} {i j:TI} {c:K.U.Ty} {R:List (D K.U)→Prop} (h:K.ti t=some i) (hk:i.kind=.slice e) (he:K.ti e=some j) (O:Opens K e R) (hR:∀ds,R ds→∃x:K.U.El c,ds=K.enc c x)
  (hw:j.size=K.width c) (hb:j.bytes=K.bytesC c) (h0:0<j.size):Opens K t fun ds=>∃xs:List (K.U.El c),ds=[.sl c xs]:=by
 obtain ⟨d,_,h1,h2,_⟩:=ti_spec L h
 rw [hk] at h2
 cases d <;> first|exact (Bool.false_ne_true h2).elim|skip
 have:=eq_of_beq (show (e == _)=true from h2)
 subst this
 obtain ⟨s1,s2⟩:=ti_sizes L he
 intro H enc w fuel cs y hy hwt
 rcases DataW.trod_slice h1 hy with ⟨rfl,_⟩|⟨a,len,cap,elems,rest,n,_,rfl,rfl,_,hl,hm,hlen,hel,hsp,_⟩
 ·exact ⟨_,⟨[],rfl⟩,.sl0 c none 0,trivial⟩
 rw [s1] at hel
 have wts:∀m∈DataW.weights K.P t (.slice (elems.map (·.1)) (rest.map (·.1))),m≤reachBytes:=hwt
 simp only [DataW.weights,h1,s2] at wts
 have hr:reachBytes≤room:=by have:=reachBytes_lt; unfold room; omega
 by_cases hz:len=0
 ·subst hz
  exact ⟨_,⟨[],rfl⟩,.sl0 c (some a) cap,trivial⟩
 have each:∀k,k<len→∃x:K.U.El c,∃ws:List Value,w.cells? 0 (a.add (k * j.size)) j.size=some ws∧RepL K w (K.enc c x) ws:=by
  intro k hk'
  have hb':=hel k hk'
  have hk2:k<elems.length:=by omega
  rw [List.getElem?_eq_getElem hk2,Option.bind_eq_some_iff] at hb'
  obtain ⟨ws,hws,ht⟩:=hb'
  obtain ⟨ds,hds,hrep⟩:=O H enc w n ws _ ht fun m hm'=>wts m (List.mem_cons_of_mem _ (List.mem_append_left _ (weightsAll_mem (List.mem_map.2 ⟨_,List.getElem_mem hk2,rfl⟩) hm')))
  obtain ⟨x,rfl⟩:=hR ds hds
  exact ⟨x,ws,hws,hrep⟩
 obtain ⟨xs,hxl,hxs⟩:=choose_list each
 have hspot:a.spot=none:=by
  obtain ⟨x,ws,hws,hrep⟩:=each 0 (by omega)
  obtain ⟨_,hwl,hc⟩:=World.cells?_some hws
  have:=hc 0 h0
  rw [List.getElem?_eq_getElem (by omega)] at this
  simp only [Nat.zero_mul,Addr.add,if_true] at this
  unfold World.cell? at this
  cases hs:a.spot with
  | none=>rfl
  | some z=>
   rw [hs] at this
   split at this
   ·rw [if_pos (show (some z).isSome=true from rfl)] at this; cases this
   ·cases this
 have ha:a=at' a.block a.off:=by cases a; simp_all
 have cell:∀k x,xs[k]?=some x→∀q d,(K.enc c x)[q]?=some d→∃v,w.cell? (at' a.block (a.off+k * K.width c+q))=some v∧RepD K (Old w) w d v:=by
  intro k x hx q d hd
  obtain ⟨ws,hws,hrep⟩:=hxs k x hx
  obtain ⟨_,hwl,hc⟩:=World.cells?_some hws
  obtain ⟨v,hv,hrd⟩:=hrep.get q d hd
  have hq:q<j.size:=by have:=(List.getElem?_eq_some_iff.1 hv).1; omega
  refine ⟨v,?_,hrd⟩
  have:=hc q hq
  rw [hv,ha] at this
  rw [←this,←hw,at_add2]
 have hF:Old w a.block:=by
  obtain ⟨x,hx⟩:∃x,xs[0]?=some x:=⟨_,List.getElem?_eq_getElem (by omega)⟩
  obtain ⟨ws,hws,hrep⟩:=hxs 0 x hx
  obtain ⟨_,hwl,hc⟩:=World.cells?_some hws
  have:=hc 0 h0
  rw [List.getElem?_eq_getElem (by omega)] at this
  simp only [Nat.zero_mul,Addr.add,if_true] at this
  unfold World.cell? at this
  split at this
  ·rename_i hh
   exact (Array.getElem?_eq_some_iff.1 hh).1
  ·cases this
 refine ⟨_,⟨xs,rfl⟩,?_,trivial⟩
 have fin:=RepD.sl (K:=K) (F:=Old w) (w:=w) c xs a.block a.off cap (fun k q=>(w.cell? (at' a.block (a.off+k * K.width c+q))).getD undef) hF (by omega)
  (fun k x hx q d hd=>by obtain ⟨v,h1,_⟩:=cell k x hx q d hd; rw [h1]; rfl) (fun k x hx q d hd=>by obtain ⟨v,h1,h2⟩:=cell k x hx q d hd; rw [h1]; exact h2)
  (by
   have:=wts _ (List.mem_cons_self ..)
   rw [←hb,hxl]
   simp only [List.length_map] at this
   have h3:len * j.bytes≤(elems.length+rest.length) * j.bytes:=Nat.mul_le_mul_right _ (by omega)
   omega)
 rw [hxl,←ha] at fin
 exact fin
def Parts {U:Univ}:List (List (D U)→Prop)→List (D U)→Prop
 | [],ds=>ds=[]
 | R :: Rs,ds=>∃d1 d2,ds=d1 ++ d2∧R d1∧Parts Rs d2
def inRow (P:Program):List (TypeId×Nat)→Nat→Nat→Bool
 | [],off,n=>Nat.beq off n
 | (t,o) :: fs,off,n=>Nat.beq o off && inRow P fs (off+P.cellsOf t) n
inductive OpensAll (K:Cfg):List (TypeId×Nat)→List (List (D K.U)→Prop)→Prop
 | nil:OpensAll K [] []
 | cons {t:TypeId} {o:Nat} {fs:List (TypeId×Nat)} {R:List (D K.U)→Prop} {Rs:List (List (D K.U)→Prop)}:Opens K t R→OpensAll K fs Rs→OpensAll K ((t,o) :: fs) (R :: Rs)
theorem weightsEach_mem {H:Type} {P:Program} {n:Nat}:∀{ts:List TypeId} {ds:List (DataW H)} {j:Nat} {t:TypeId} {d:DataW H},ts[j]?=some t→ds[j]?=some d→n∈d.weights P t→n∈DataW.weightsEach P ts ds
 | [],_,j,_,_,h,_,_=>by simp at h
 | _ :: _,[],j,_,_,_,h,_=>by simp at h
 | t' :: ts,d' :: ds,j,t,d,h1,h2,hn=>by
  simp only [DataW.weightsEach,List.mem_append]
  cases j with
  | zero=>
   simp only [List.getElem?_cons_zero,Option.some.injEq] at h1 h2
   subst h1 h2; exact .inl hn
  | succ j=>exact .inr (weightsEach_mem (by simpa using h1) (by simpa using h2) hn)
theorem parts_open {H:Type} {enc:TypeId×Value→H} {w:World} {n:Nat} {cs:List Value}:∀{fs:List (TypeId×Nat)} {Rs:List (List (D K.U)→Prop)},OpensAll K fs Rs→∀{off:Nat},inRow K.P fs off cs.length=true→
  (∀(p:TypeId×Nat),p∈fs→∃y,DataW.trod enc K.P w 0 (fun _=>true) true n p.1 ((cs.drop p.2).take (K.P.cellsOf p.1))=some y∧∀m∈y.1.weights K.P p.1,m≤reachBytes)→∃ds,Parts Rs ds∧RepL K w ds (cs.drop off)
 | _,_,.nil,off,h,_=>by
  have:=Nat.eq_of_beq_eq_true h
  refine ⟨[],rfl,?_⟩
  rw [this,List.drop_eq_nil_of_le (Nat.le_refl _)]
  trivial
 | _,_,.cons (t:=t) (o:=o) O Os,off,h,hy=>by
  simp only [inRow,Bool.and_eq_true] at h
  have ho:=Nat.eq_of_beq_eq_true h.1
  subst ho
  obtain ⟨y,h1,h2⟩:=hy (t,o) (List.mem_cons_self ..)
  obtain ⟨d1,hR,hr1⟩:=O H enc w n _ y h1 h2
  obtain ⟨d2,hP,hr2⟩:=parts_open Os h.2 fun p hp=>hy p (List.mem_cons_of_mem _ hp)
  refine ⟨d1 ++ d2,⟨d1,d2,rfl,hR,hP⟩,?_⟩
  have:=hr1.append hr2
  rwa [←List.drop_drop,List.take_append_drop] at this
theorem opens_struct (L:Laws K) {t:TypeId} {i:TI} {fs:List (TypeId×Nat)} {Rs:List (List (D K.U)→Prop)} (h:K.ti t=some i) (hk:i.kind=.strct fs) (Os:OpensAll K fs Rs) (hin:inRow K.P fs 0 i.size=true):
  Opens K t (Parts Rs):=by
 obtain ⟨d,_,h1,h2,_⟩:=ti_spec L h
 rw [hk] at h2
 cases d <;> first|exact (Bool.false_ne_true h2).elim|skip
 rename_i fa
 have h3:(fa.toList.map fun f=>(f.type,f.offset))=fs:=by
  have : ((fa.toList.map fun f => (f.type, f.offset)) == fs && fa.toList.all fun f => f.name != "_") = true := h2
  rw [Bool.and_eq_true] at this
  exact eq_of_beq this.1
 intro H enc w fuel cs y hy hwt
 obtain ⟨xs,n,_,rfl,hcl,hxl,hf⟩:=DataW.trod_struct h1 hy
 have hl:cs.length=i.size:=by rw [hcl]; exact (ti_sizes L h).1
 rw [←hl] at hin
 obtain ⟨ds,k1,k2⟩:=parts_open (enc:=enc) (w:=w) (n:=n) (cs:=cs) Os hin fun p hp=>by
  rw [←h3] at hp
  obtain ⟨f,hfm,rfl⟩:=List.mem_map.1 hp
  obtain ⟨j,hj⟩:=List.getElem?_of_mem hfm
  have hj':fa[j]?=some f:=by simpa using hj
  have hjs:j<xs.length:=by rw [hxl]; exact (Array.getElem?_eq_some_iff.1 hj').1
  refine ⟨xs[j],by rw [hf j f hj',List.getElem?_eq_getElem hjs],fun m hm=>hwt m ?_⟩
  simp only [DataW.weights,h1]
  exact weightsEach_mem (j:=j) (t:=f.type) (d:=xs[j].1) (by simp [hj']) (by simp [List.getElem?_eq_getElem hjs]) hm
 exact ⟨ds,k1,by simpa using k2⟩
theorem Opens.weaken {t:TypeId} {R R':List (D K.U)→Prop} (O:Opens K t R) (h:∀ds,R ds→R' ds):Opens K t R':=fun H enc w fuel cs y hy hw=>by
 obtain ⟨ds,h1,h2⟩:=O H enc w fuel cs y hy hw
 exact ⟨ds,h ds h1,h2⟩
theorem open_one {t:TypeId} {R:List (D K.U)→Prop} (O:Opens K t R) {H:Type} {enc:TypeId×Value→H} {w:World} {v:Value} {d:DataW H} {ps:List MemPlace} (h:DataW.Trod enc K.P w 0 (fun _=>true) true t v d ps)
  {ts:List TypeId} {ds:List (DataW H)} {j:Nat} (hsz:(DataW.weightsEach K.P ts ds).all (·≤reachBytes)=true) (ht:ts[j]?=some t) (hd:ds[j]?=some d):∃xs,R xs∧RepL K w xs v.cells.toList:=by
 obtain ⟨fuel,hf⟩:=h
 exact O H enc w fuel _ _ hf fun n hn=>by simpa using List.all_eq_true.1 hsz n (weightsEach_mem ht hd hn)
end
end Go.Abs
