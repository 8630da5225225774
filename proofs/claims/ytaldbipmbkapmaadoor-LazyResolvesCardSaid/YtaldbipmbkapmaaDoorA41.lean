/- LEMMAS: functions told over some arrays alone, called where there is more. Conditions: none. -/
import Derived.Test.YtaldbipmbkapmaaDoorA34
namespace Go.Abs
set_option linter.unusedVariables false
set_option linter.unusedSimpArgs false
section
variable {K:Cfg}
theorem repCs_ds {F F':Nat→Prop} {w w':World} {ob ob':Obs K} {pl pl':Rf→Pl} (hF:∀b,F b→F' b) (hw:∀b,F b→w'.heap[b]?=w.heap[b]?):
  ∀{ds:List (D K.U)} {vs:List Value},RepCs F w ob pl (ds.map .d) vs→RepCs F' w' ob' pl' (ds.map .d) vs
 | [],vs,h=>by simp only [List.map_nil,RepCs] at h ⊢; exact h
 | d :: ds,vs,h=>by
  simp only [List.map_cons,RepCs] at h ⊢
  obtain ⟨v,rest,rfl,h1,h2⟩:=h
  refine ⟨v,rest,rfl,?_,repCs_ds hF hw h2⟩
  simp only [RepC] at h1 ⊢
  exact h1.mono hF hw
theorem RepO.pureArr {F F':Nat→Prop} {w w':World} {ob ob':Obs K} {pl pl':Rf→Pl} {p:Pl} (hF:∀b,F b→F' b) (hw:∀b,F b→w'.heap[b]?=w.heap[b]?) {g:Nat} {c:K.U.Ty} {xs:List (K.U.El c)}
  (hb:p.cap ≠ 0→w'.heap[p.blk]?=w.heap[p.blk]?) (h:RepO F w ob pl p (.arr g (.pure c) xs)):RepO F' w' ob' pl' p (.arr g (.pure c) xs):=by
 rcases h with h|⟨vs,e,h1,h2,h3,h4,h5⟩
 ·exact .inl h
 ·by_cases hc:p.cap=0
  ·left
   refine ⟨hc,?_⟩
   have:List.length (α:=Vc.El (.pure c)) xs=0:=by omega
   exact List.eq_nil_of_length_eq_zero this
  ·exact .inr ⟨vs,e,by rw [hb hc,h1],h2,h3,h4,fun i x hx=>repCs_ds hF hw (h5 i x hx)⟩
structure Among {U:Univ} (Hs H:List (O U)) (σ:Nat→Nat):Prop where
 at':∀(n:Nat) (o:O U),Hs[n]?=some o→H[σ n]?=some o
 pure:∀(n:Nat) (o:O U),Hs[n]?=some o→∃(g:Nat) (c:U.Ty) (xs:List (U.El c)),o=O.arr g (.pure c) xs
 inj:∀(n m:Nat) (o o':O U),Hs[n]?=some o→Hs[m]?=some o'→σ n=σ m→n=m
def plS (pl:Rf→Pl) (σ:Nat→Nat):Rf→Pl
 | .l s=>pl (.l s)
 | .g n=>pl (.g (σ n))
theorem HOk.pures {U:Univ} {H:List (O U)} (h:∀(n:Nat) (o:O U),H[n]?=some o→∃(g:Nat) (c:U.Ty) (xs:List (U.El c)),o=O.arr g (.pure c) xs):HOk H:=by
 intro n o ho
 obtain ⟨g,c,xs,rfl⟩:=h n o ho
 rfl
theorem Among.mem {Hs H:List (O K.U)} {σ:Nat→Nat} {F:Nat→Prop} {w:World} {pl:Rf→Pl} (A:Among Hs H σ) (M:Mem K F w (obH H) pl):Mem K F w (obH Hs) (plS pl σ):=by
 have hsome:∀{r:Rf} {o:O K.U},obH Hs r=some o→∃n,r=.g n∧Hs[n]?=some o∧obH H (.g (σ n))=some o:=fun {r o} h=>by
  obtain ⟨n,rfl,h1,_⟩:=obH_some (loc:=fun _=>none) h
  exact ⟨n,rfl,h1,A.at' n o h1⟩
 refine ⟨fun r o h=>?_,fun r r' o o' h h' ho ho' e=>?_,fun r o h ho=>?_,M.frozen,M.glob,fun r o h=>?_⟩
 ·obtain ⟨n,rfl,h1,h2⟩:=hsome h
  obtain ⟨g,c,xs,rfl⟩:=A.pure n o h1
  exact (M.rep _ _ h2).pureArr (fun _ h=>h) (fun _ _=>rfl) fun _=>rfl
 ·obtain ⟨n,rfl,h1,h2⟩:=hsome h
  obtain ⟨m,rfl,h1',h2'⟩:=hsome h'
  have:=M.apart _ _ o o' h2 h2' ho ho' e
  injection this with this
  rw [A.inj n m o o' h1 h1' this]
 ·obtain ⟨n,rfl,h1,h2⟩:=hsome h
  exact M.free _ o h2 ho
 ·obtain ⟨n,rfl,h1,h2⟩:=hsome h
  exact M.bnd _ o h2
structure Left (K:Cfg) (Hs H:List (O K.U)) (F:Nat→Prop) (w:World) (pl:Rf→Pl) (x:O K.U) (F':Nat→Prop) (w':World) (p:Pl):Prop where
 mem:Mem K F' w' (obH H) pl
 fr:Fr K (.of w F H pl) F' w' (obH H) pl
 rep:∀(ob:Obs K) (pl':Rf→Pl),RepO F' w' ob pl' p x
 bnd:K.bnd x
 new:Owns K x p→w.heap.size≤p.blk∧p.blk<w'.heap.size∧¬F' p.blk
theorem Among.left {Hs H:List (O K.U)} {σ:Nat→Nat} {F F':Nat→Prop} {w w':World} {pl pl':Rf→Pl} (A:Among Hs H σ) (M:Mem K F w (obH H) pl) {g:Nat} {c:K.U.Ty} {ys:List (K.U.El c)}
  {cc:C K.U} {v:Value} {own:List Nat} (Fi:Fin K (.of w F Hs (plS pl σ)) cc v (Hs ++ [.arr g (.pure c) ys]) F' pl' w' own):Left K Hs H F w pl (.arr g (.pure c) ys) F' w' (pl' (.g Hs.length)):=by
 have hS:∀n o,Hs[n]?=some o→obH (Hs ++ [.arr g (.pure c) ys]) (.g n)=some o:=fun n o h=>by
  have hl:=(List.getElem?_eq_some_iff.1 h).1
  show (Hs ++ [_])[n]?=some o
  rw [List.getElem?_append_left hl,h]
 have hN:obH (Hs ++ [O.arr g (.pure c) ys]) (.g Hs.length)=some (.arr g (.pure c) ys):=by simp [obH,getO]
 have hpl:∀n o,Hs[n]?=some o→pl' (.g n)=pl (.g (σ n)):=fun n o h=>by
  obtain ⟨o',h1,h2⟩:=Fi.fr.glob n o h
  rw [hS n o h] at h1; cases h1
  obtain ⟨g0,c0,xs0,rfl⟩:=A.pure n o h
  obtain ⟨g1,n1,wd1,k1,k2,k3⟩:=h2.arrI (g:=g0) (n:=xs0.length) (wd:=K.width c0) rfl
  have k1:some (g0,xs0.length,K.width c0)=some (g1,n1,wd1):=k1
  simp only [Option.some.injEq,Prod.mk.injEq] at k1
  obtain ⟨_,_,k4,k5⟩:=k3 k1.1
  have:(Base.of w F Hs (plS pl σ)).pl (.g n)=pl (.g (σ n)):=rfl
  rw [this] at k4 k5
  cases hq:pl' (.g n); cases hr:pl (.g (σ n))
  rw [hq,hr] at k4 k5
  simp only at k4 k5
  rw [k4,k5]
 have hG:∀b,(Base.of w F Hs (plS pl σ)).G b→∃n o,Hs[n]?=some o∧Owns K o (pl (.g (σ n)))∧b=(pl (.g (σ n))).blk:=fun b ⟨n,o,h1,h2,h3⟩=>⟨n,o,h1,h2,h3⟩
 have hFw:∀b,F b→w'.heap[b]?=w.heap[b]?:=fun b hb=>Fi.fr.old b (M.frozen b hb) fun hg=>by
  obtain ⟨n,o,h1,h2,rfl⟩:=hG b hg
  exact (M.free (.g (σ n)) o (A.at' n o h1) h2).1 hb
 have hnF:∀r o,obH H r=some o→Owns K o (pl r)→¬F' (pl r).blk:=fun r o h ho hf=>by
  rcases Fi.fr.Fnew _ hf with h1|h1|h1
  ·exact (M.free r o h ho).1 h1
  ·have:=(M.free r o h ho).2
   exact absurd h1 (Nat.not_le.2 this)
  ·obtain ⟨n,o',k1,k2,k3⟩:=hG _ h1
   have:=M.apart r (.g (σ n)) o o' h (A.at' n o' k1) ho k2 k3
   subst this
   have h0:=Fi.mem.free (.g n) o' (hS n o' k1) (by rw [hpl n o' k1]; exact k2)
   rw [hpl n o' k1] at h0
   exact h0.1 hf
 have hnew:Owns K (.arr g (.pure c) ys) (pl' (.g Hs.length))→w.heap.size≤(pl' (.g Hs.length)).blk:=fun ho=>by
  rcases Fi.fr.own _ _ hN ho with h|h
  ·exact h
  ·obtain ⟨n,o,k1,k2,k3⟩:=hG _ h
   have hl:=(List.getElem?_eq_some_iff.1 k1).1
   have:=Fi.mem.apart (.g Hs.length) (.g n) _ o hN (hS n o k1) ho (by rw [hpl n o k1]; exact k2) (by rw [hpl n o k1]; exact k3)
   injection this with this
   omega
 refine ⟨⟨fun r o h=>?_,fun r r' o o' h h'=>M.apart r r' o o' h h',fun r o h ho=>⟨hnF r o h ho,Nat.lt_of_lt_of_le (M.free r o h ho).2 Fi.fr.size⟩,Fi.mem.frozen,Fi.mem.glob,M.bnd⟩,
  ⟨Fi.fr.os,Fi.fr.tape,Fi.fr.output,Fi.fr.size,fun b hb hg=>Fi.fr.old b hb fun h=>hg ?_,Fi.fr.Fsub,fun b hb=>?_,fun r o h ho=>?_,fun n o h=>⟨o,h,.refl _ _⟩⟩,
  fun ob pl0=>(Fi.mem.rep _ _ hN).pureArr (fun _ h=>h) (fun _ _=>rfl) fun _=>rfl,Fi.mem.bnd _ _ hN,fun ho=>⟨hnew ho,(Fi.mem.free _ _ hN ho).2,(Fi.mem.free _ _ hN ho).1⟩⟩
 ·obtain ⟨m,rfl,h1,h2⟩:=obH_some (loc:=fun _=>none) h
  by_cases hm:∃n o',Hs[n]?=some o'∧σ n=m
  ·obtain ⟨n,o',k1,rfl⟩:=hm
   have:o'=o:=by
    have:=A.at' n o' k1
    rw [h1] at this; cases this; rfl
   subst this
   obtain ⟨g0,c0,xs0,rfl⟩:=A.pure n o' k1
   have:=Fi.mem.rep (.g n) _ (hS n _ k1)
   rw [hpl n _ k1] at this
   exact this.pureArr (fun _ h=>h) (fun _ _=>rfl) fun _=>rfl
  ·refine (M.rep _ o h).mono Fi.fr.Fsub hFw (fun r o h=>⟨o,h,.refl _ _⟩) fun ho=>Fi.fr.old _ (M.free _ o h ho).2 fun hg=>?_
   obtain ⟨n,o',k1,k2,k3⟩:=hG _ hg
   have:=M.apart (.g m) (.g (σ n)) o o' h (A.at' n o' k1) ho k2 k3
   injection this with this
   exact hm ⟨n,o',k1,this.symm⟩
 ·obtain ⟨n,o,k1,k2,k3⟩:=hG _ h
  exact ⟨σ n,o,A.at' n o k1,k2,k3⟩
 ·rcases Fi.fr.Fnew b hb with h|h|h
  ·exact .inl h
  ·exact .inr (.inl h)
  ·obtain ⟨n,o,k1,k2,k3⟩:=hG _ h
   exact .inr (.inr ⟨σ n,o,A.at' n o k1,k2,k3⟩)
 ·obtain ⟨n,rfl,h1,_⟩:=obH_some (loc:=fun _=>none) h
  exact .inr ⟨n,o,h1,ho,rfl⟩
theorem d_among {H:List (O K.U)} {ds:List (D K.U)}:Among [] H (fun n=>n)∧∀(w:World) (F:Nat→Prop) (pl:Rf→Pl) (vs:List Value),RepCs F w (obH H) pl (ds.map .d) vs→RepCs F w (obH []) (plS pl fun n=>n) (ds.map .d) vs:=
 ⟨⟨fun n o h=>by simp at h,fun n o h=>by simp at h,fun n m o o' h=>by simp at h⟩,fun _ _ _ _ h=>repCs_ds (fun _ h=>h) (fun _ _=>rfl) h⟩
end
end Go.Abs
