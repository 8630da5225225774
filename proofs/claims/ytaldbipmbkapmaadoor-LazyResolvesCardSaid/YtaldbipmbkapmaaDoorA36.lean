/- LEMMAS: blocks of the machine's own; the marks of ranges over functions. Conditions: none. -/
import Derived.Test.YtaldbipmbkapmaaDoorA23
import Derived.RangeFuncLeaves
import Derived.RangeFuncRecord
namespace Go.Abs
set_option linter.unusedVariables false
set_option linter.unusedSimpArgs false
section
variable {K:Cfg} {β:Base K} {nt:Nat} {st:St K.U} {a:Act} {F:Nat→Prop} {w w':World} {ob:Obs K} {pl:Rf→Pl}
theorem RepC.monoC (hw:SameC F w w') {c:C K.U} {v:Value} (h:RepC F w ob pl c v):RepC F w' ob pl c v:=
 RepC.monoC' (keep:=fun _=>true) (fun _ h=>h) hw (fun r o _ h=>⟨o,h,.refl _ _⟩) (C.refsOk_all c) h
theorem RepCs.monoC (hw:SameC F w w') {cs:List (C K.U)} {vs:List Value} (h:RepCs F w ob pl cs vs):RepCs F w' ob pl cs vs:=
 RepCs.monoC' (keep:=fun _=>true) (fun _ h=>h) hw (fun r o _ h=>⟨o,h,.refl _ _⟩) (C.refsAll_all cs) h
theorem RepO.monoC (hw:SameC F w w') {p:Pl} {o:O K.U} (hb:Owns K o p→w'.heap[p.blk]?=w.heap[p.blk]?) (h:RepO F w ob pl p o):RepO F w' ob pl p o:=by
 cases o with
 | cells cs=>
  obtain ⟨vs,e,h1,h2,h3⟩:=h
  exact ⟨vs,e,by rw [hb trivial,h1],h2.monoC hw,h3⟩
 | arr g v xs=>
  rcases h with h|⟨vs,e,h1,h2,h3,h4,h5⟩
  ·exact .inl h
  ·by_cases hc:p.cap=0
   ·left
    refine ⟨hc,?_⟩
    have:List.length xs=0:=by omega
    exact List.eq_nil_of_length_eq_zero this
   ·exact .inr ⟨vs,e,by rw [hb hc,h1],h2,h3,h4,fun i x hx=>(h5 i x hx).monoC hw⟩
 | fro g c xs=>
  rcases h with h|h
  ·exact .inl h
  ·exact .inr (h.monoC (fun _ h=>h) hw)
 | map ag kc v es=>
  obtain ⟨en,cl,h1,h2,hbn,hcl,h3⟩:=h
  refine ⟨en,cl,by rw [hb trivial,h1],h2,hbn,hcl,fun i k x hx=>?_⟩
  obtain ⟨e,k1,k2,k3,k4,k5⟩:=h3 i k x hx
  exact ⟨e,k1,k2,k3,k4.monoC hw,k5.monoC hw⟩
def noCells:Obj→Bool
 | .cells ..=>false
 | _=>true
theorem noCells_cell {b i:Nat} {o:Obj} (h:w.heap[b]?=some o) (hc:noCells o=true):w.cell? (at' b i)=none:=by
 unfold World.cell?
 simp only [h]
 cases o <;> first|rfl|(simp [noCells] at hc)
theorem SameC.putObj {D:Nat} {o o':Obj} (h:w.heap[D]?=some o) (hc:noCells o=true) (hc':noCells o'=true):SameC F w (w.putObj D o'):=by
 intro b _ i
 by_cases e:b=D
 ·subst e
  have hlt:=(Array.getElem?_eq_some_iff.1 h).1
  rw [noCells_cell h hc,noCells_cell (World.putObj_heap_same hlt) hc']
 ·simp only [World.cell?,World.putObj_heap_other e]
theorem Mem.putObj (M:Mem K F w ob pl) {D:Nat} {o o':Obj} (hF:F D) (h:w.heap[D]?=some o) (hc:noCells o=true) (hc':noCells o'=true):Mem K F (w.putObj D o') ob pl:=by
 have hS:SameC F w (w.putObj D o'):=.putObj h hc hc'
 refine ⟨fun r x hx=>(M.rep r x hx).monoC hS fun hown=>World.putObj_heap_other fun e=>(M.free r x hx hown).1 (e▸hF),M.apart,fun r x hx hown=>⟨(M.free r x hx hown).1,?_⟩,fun b hb=>?_,fun g cells hg=>?_,M.bnd⟩
 ·rw [World.putObj_size]; exact (M.free r x hx hown).2
 ·rw [World.putObj_size]; exact M.frozen b hb
 ·obtain ⟨h1,h2⟩:=M.glob g cells hg
  refine ⟨h1,fun j d hd=>?_⟩
  obtain ⟨u,k1,k2⟩:=h2 j d hd
  exact ⟨u,(hS g h1 j).trans k1,k2.monoC (fun _ h=>h) hS⟩
theorem Fr.putObj (f:Fr K β F w ob pl) {D:Nat} (o':Obj) (hD:β.w.heap.size≤D):Fr K β F (w.putObj D o') ob pl:=
 ⟨f.os,f.tape,f.output,by rw [World.putObj_size]; exact f.size,fun b hb hg=>(World.putObj_heap_other (by omega)).trans (f.old b hb hg),f.Fsub,f.Fnew,f.own,f.glob⟩
structure Alike (β β':Base K):Prop where
 w:β'.w=β.w
 F:β'.F=β.F
 H:β'.H=β.H
 pl:β'.pl=β.pl
theorem Alike.refl (β:Base K):Alike β β:=⟨rfl,rfl,rfl,rfl⟩
theorem Alike.trans {β1 β2 β3:Base K} (h:Alike β1 β2) (h':Alike β2 β3):Alike β1 β3:=⟨h'.w.trans h.w,h'.F.trans h.F,h'.H.trans h.H,h'.pl.trans h.pl⟩
theorem Alike.symm {β β':Base K} (h:Alike β β'):Alike β' β:=⟨h.w.symm,h.F.symm,h.H.symm,h.pl.symm⟩
theorem Alike.fr {β β':Base K} (h:Alike β β') (f:Fr K β F w ob pl):Fr K β' F w ob pl:=by
 obtain ⟨w0,F0,H0,pl0,p0,g0⟩:=β
 obtain ⟨w1,F1,H1,pl1,p1,g1⟩:=β'
 obtain ⟨h1,h2,h3,h4⟩:=h
 simp only at h1 h2 h3 h4
 subst h1; subst h2; subst h3; subst h4
 exact ⟨f.os,f.tape,f.output,f.size,f.old,f.Fsub,f.Fnew,f.own,f.glob⟩
theorem Alike.fin {β β':Base K} (h:Alike β β') {c:C K.U} {v:Value} {H:List (O K.U)} {own:List Nat} (f:Fin K β c v H F pl w own):Fin K β' c v H F pl w own:=
 ⟨f.rep,f.mem,h.fr f.fr,f.nodup,f.hok,fun b hb=>by rw [h.w]; exact f.mine b hb⟩
def Base.set (β:Base K) (D:Nat) (o:Obj):Base K:={ β with pin:=fun b=>if b=D then some o else β.pin b }
theorem Base.set_alike (β:Base K) (D:Nat) (o:Obj):Alike β (β.set D o):=⟨rfl,rfl,rfl,rfl⟩
theorem Sim.putNC (S:Sim K β nt st a F pl w) {D:Nat} {o o':Obj} (hD:β.w.heap.size≤D) (hp:β.pin D=some o) (hc:noCells o=true) (hc':noCells o'=true) {a':Act} (ht:a'.tmps=a.tmps) (hd:Marks β.w (β.set D o').pin a'.defers):
  Sim K (β.set D o') nt st a' F pl (w.putObj D o'):=by
 obtain ⟨hF,hh⟩:=S.pins D o hp
 have hS:SameC F w (w.putObj D o'):=.putObj hh hc hc'
 have hlt:=(Array.getElem?_eq_some_iff.1 hh).1
 refine ⟨by rw [ht]; exact S.size,hd,fun b x hx=>?_,fun t=>(S.ghosts t).monoC hS,fun t=>by rw [ht]; exact (S.tmps t).monoC hS,S.mem.putObj hF hh hc hc',(Base.set_alike β D o').fr (S.fr.putObj o' hD),S.hok⟩
 have hx:(if b=D then some o' else β.pin b)=some x:=hx
 by_cases e:b=D
 ·subst e
  rw [if_pos rfl] at hx; cases hx
  exact ⟨hF,World.putObj_heap_same hlt⟩
 ·rw [if_neg e] at hx
  exact ⟨(S.pins b x hx).1,(World.putObj_heap_other e).trans (S.pins b x hx).2⟩
theorem Ext.alloc (w:World) (o:Obj):Ext w (w.alloc o):=⟨rfl,rfl,rfl,by simp,fun b hb=>heap_alloc_old w o b hb⟩
theorem Sim.allocNC (S:Sim K β nt st a F pl w) (o:Obj):Sim K (β.set w.heap.size o) nt st a (fun b=>F b∨b=w.heap.size) pl (w.alloc o):=by
 have E:=Ext.alloc w o
 have S1:=S.ext E
 have hsz:(w.alloc o).heap.size=w.heap.size+1:=by simp
 have hnew:(w.alloc o).heap[w.heap.size]?=some o:=World.alloc_heap_new w o
 have hF:∀b,F b→F b∨b=w.heap.size:=fun b h=>.inl h
 have hpin:∀b x,β.pin b=some x→b<w.heap.size:=fun b x h=>S.mem.frozen b (S.pins b x h).1
 refine ⟨S.size,⟨fun d hd=>?_,S.defers.2⟩,fun b x hx=>?_,fun t=>(S1.ghosts t).mono hF (fun _ _=>rfl) (fun r o h=>⟨o,h,.refl _ _⟩),fun t=>(S1.tmps t).mono hF (fun _ _=>rfl) (fun r o h=>⟨o,h,.refl _ _⟩),
  S1.mem.growF hF (N:=w.heap.size) (fun b h=>h.elim .inl fun e=>.inr (by omega)) (fun b h=>?_) (fun r x hx hown=>(S.mem.free r x hx hown).2),(Base.set_alike β _ o).fr (S1.fr.growF hF fun b h=>h.elim .inl fun e=>.inr (by rw [e]; exact S.fr.size)),S.hok⟩
 ·obtain ⟨D,e,h1,h2⟩:=S.defers.1 d hd
  have:=hpin D _ h2
  exact ⟨D,e,h1,by show (if D=w.heap.size then some o else β.pin D)=_; rw [if_neg (by omega)]; exact h2⟩
 ·have hx:(if b=w.heap.size then some o else β.pin b)=some x:=hx
  by_cases e:b=w.heap.size
  ·subst e
   rw [if_pos rfl] at hx; cases hx
   exact ⟨.inr rfl,hnew⟩
  ·rw [if_neg e] at hx
   exact ⟨.inl (S1.pins b x hx).1,(S1.pins b x hx).2⟩
 ·rcases h with h|h
  ·have:=S.mem.frozen b h; omega
  ·omega
theorem marks_out:∀(ds:List Deferred) {β:Base K} {a:Act} {w:World},a.defers=ds→Sim K β nt st a F pl w→∀(b:Frame) (cs:List Frame) (todo:List Item),
  ∃(β':Base K) (w':World),Steps K.P (lone { b.at a todo with mode:=.returning } cs w) (lone { b.at { a with defers:=[] } todo with mode:=.returning } cs w')∧Sim K β' nt st { a with defers:=[] } F pl w'∧Alike β β'
 | [],β,a,w,h,S,b,cs,todo=>by
  obtain ⟨t,d⟩:=a
  simp only at h; subst h
  exact ⟨β,w,Steps.refl _ _,S,.refl β⟩
 | d :: ds,β,a,w,h,S,b,cs,todo=>by
  obtain ⟨t,dd⟩:=a
  simp only at h; subst h
  obtain ⟨D,hd,hD,hp⟩:=S.defers.1 d (by simp)
  obtain ⟨hF,hh⟩:=S.pins D _ hp
  have hnd:=List.nodup_cons.1 S.defers.2
  have hm:Marks β.w (β.set D (.deferred none)).pin ds:=by
   refine ⟨fun e he=>?_,hnd.2⟩
   obtain ⟨E,h1,h2,h3⟩:=S.defers.1 e (by simp [he])
   refine ⟨E,h1,h2,?_⟩
   show (if E=D then _ else β.pin E)=_
   rw [if_neg,h3]
   rintro rfl
   exact hnd.1 (hd.trans h1.symm▸he)
  have S1:=S.putNC (o':=.deferred none) (a':={ tmps:=t,defers:=ds }) hD hp rfl rfl rfl hm
  have hs:=step_collected (P:=K.P) (fr:={ b.at { tmps:=t,defers:=d :: ds } todo with mode:=.returning }) (cs:=cs) (w:=w) (d:=d) (r:=D) (ds:=ds) (by simp) rfl (by rw [hd]) (run_takeDeferred hh)
  obtain ⟨β',w',h1,h2,h3⟩:=marks_out ds rfl S1 b cs todo
  exact ⟨β',w',.head hs h1,h2,(Base.set_alike β D _).trans h3⟩
end
end Go.Abs
