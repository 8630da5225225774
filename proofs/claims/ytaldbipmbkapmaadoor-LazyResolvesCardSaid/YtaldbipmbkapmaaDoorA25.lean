/- LEMMAS: what is known of what a call is handed: it lies in memory, so it is not too great. Conditions: none. -/
import Derived.Test.YtaldbipmbkapmaaDoorA24
namespace Go.Abs
set_option linter.unusedVariables false
set_option linter.unusedSimpArgs false
section
variable {K:Cfg}
def D.Known (K:Cfg) (d:D K.U):Prop:=∃F w v,RepD K F w d v
def C.Known (K:Cfg) (c:C K.U):Prop:=∃F w ob pl v,RepC (K:=K) F w ob pl c v
def O.Known (K:Cfg) (o:O K.U):Prop:=K.bnd o∧∃F w ob pl p,RepO (K:=K) F w ob pl p o
theorem D.Known.str {s:ByteArray} (h:D.Known K (.str s)):s.size≤maxStr:=by
 obtain ⟨F,w,v,h⟩:=h
 cases h with
 | str _ h=>exact h
theorem D.Known.sl {c:K.U.Ty} {xs:List (K.U.El c)} (h:D.Known K (.sl c xs)):xs.length * K.bytesC c≤room∧∀x∈xs,∀d∈K.enc c x,D.Known K d:=by
 obtain ⟨F,w,v,h⟩:=h
 cases h with
 | sl0=>exact ⟨by simp,by simp⟩
 | sl _ _ b off cap f hF hcap hcell hrep hbnd=>
  refine ⟨hbnd,fun x hx d hd=>?_⟩
  obtain ⟨i,hi,e⟩:=List.getElem_of_mem hx
  obtain ⟨j,hj,e'⟩:=List.getElem_of_mem hd
  exact ⟨F,w,f i j,hrep i x (by rw [←e]; exact List.getElem?_eq_getElem hi) j d (by rw [←e']; exact List.getElem?_eq_getElem hj)⟩
theorem C.Known.d {x:D K.U} (h:C.Known K (.d x)):D.Known K x:=by
 obtain ⟨F,w,ob,pl,v,h⟩:=h
 simp only [RepC] at h
 exact ⟨F,w,v,h⟩
theorem repCs_known {F:Nat→Prop} {w:World} {ob:Obs K} {pl:Rf→Pl} {cs:List (C K.U)} {vs:List Value} (h:RepCs F w ob pl cs vs):∀c∈cs,C.Known K c:=by
 intro c hc
 obtain ⟨i,hi,e⟩:=List.getElem_of_mem hc
 obtain ⟨v,_,hv⟩:=h.get (j:=i) (c:=c) (by rw [←e]; exact List.getElem?_eq_getElem hi)
 exact ⟨F,w,ob,pl,v,hv⟩
theorem C.Known.agg {cs:List (C K.U)} (h:C.Known K (.agg cs)):∀c∈cs,C.Known K c:=by
 obtain ⟨F,w,ob,pl,v,h⟩:=h
 simp only [RepC] at h
 obtain ⟨vs,_,h⟩:=h
 exact repCs_known h
theorem C.Known.tup {cs:List (C K.U)} (h:C.Known K (.tup cs)):∀c∈cs,C.Known K c:=by
 obtain ⟨F,w,ob,pl,v,h⟩:=h
 simp only [RepC] at h
 obtain ⟨vs,_,h⟩:=h
 exact repCs_known h
theorem C.Known.ep {cs:List (D K.U)} (h:C.Known K (.ep cs)):∀d∈cs,D.Known K d:=by
 obtain ⟨F,w,ob,pl,v,h⟩:=h
 simp only [RepC] at h
 obtain ⟨b,off,_,_,h⟩:=h
 intro d hd
 obtain ⟨i,hi,e⟩:=List.getElem_of_mem hd
 obtain ⟨u,_,hu⟩:=h i d (by rw [←e]; exact List.getElem?_eq_getElem hi)
 exact ⟨F,w,u,hu⟩
theorem O.Known.cells {cs:List (C K.U)} (h:O.Known K (.cells cs)):∀c∈cs,C.Known K c:=by
 obtain ⟨_,F,w,ob,pl,p,vs,e,_,h,_⟩:=h
 exact repCs_known h
theorem O.Known.arr {g:Nat} {c:K.U.Ty} {xs:List (K.U.El c)} (h:O.Known K (.arr g (.pure c) xs)):xs.length * K.bytesC c≤room∧∀x∈xs,∀d∈K.enc c x,D.Known K d:=by
 obtain ⟨hb,F,w,ob,pl,p,h⟩:=h
 refine ⟨hb,fun x hx d hd=>?_⟩
 rcases h with ⟨_,rfl⟩|⟨vs,e,h1,h2,h3,h4,h5⟩
 ·cases hx
 ·obtain ⟨i,hi,e⟩:=List.getElem_of_mem hx
  have:=h5 i x (by rw [←e]; exact List.getElem?_eq_getElem hi)
  exact (repCs_known this (.d d) (by simp only [Cfg.encV]; exact List.mem_map_of_mem hd)).d
theorem Runs.known {f:FuncId} {args:List (C K.U)} {H:List (O K.U)} {post:C K.U→List (O K.U)→Prop} (h:(∀c∈args,C.Known K c)→(∀o∈H,O.Known K o)→Runs K f args H post):Runs K f args H post:=by
 intro w F pl vs hok M hr
 refine h (repCs_known hr) (fun o ho=>?_) w F pl vs hok M hr
 obtain ⟨i,hi,e⟩:=List.getElem_of_mem ho
 have hg:obH H (.g i)=some o:=by show H[i]?=some o; rw [←e]; exact List.getElem?_eq_getElem hi
 exact ⟨M.bnd _ _ hg,F,w,obH H,pl,_,M.rep _ _ hg⟩
theorem At.known {f:FuncId} {post:C K.U→List (O K.U)→Prop} {todo:List Item} {st:St K.U} (h:(∀t,C.Known K (st.tmps t))→(∀r o,st.obs r=some o→O.Known K o)→At K f post todo st):At K f post todo st:=by
 intro fn hfn β b a w F pl cs hb hk hp hg S
 exact h (fun t=>⟨F,w,st.obs,pl,_,S.tmps t⟩) (fun r o hr=>⟨S.mem.bnd r o hr,F,w,st.obs,pl,_,S.mem.rep r o hr⟩) fn hfn β b a w F pl cs hb hk hp hg S
end
end Go.Abs
