/- LEMMAS: what calls need, and leave (goes on). Conditions: none. -/
import Derived.Test.YtaldbipmbkapmaaDoorA14
namespace Go.Abs
set_option linter.unusedVariables false
set_option linter.unusedSimpArgs false
section
variable {K:Cfg} {β:Base K} {F F' F2:Nat→Prop} {pl pl':Rf→Pl} {w w' w2:World} {ob ob':Obs K}
theorem obH_g (loc:Loc K.U) (H:List (O K.U)) (n:Nat):getO loc H (.g n)=obH H (.g n):=rfl
theorem gOnly_obH (loc:Loc K.U) (H:List (O K.U)):gOnly (getO loc H)=obH H:=by
 funext r; cases r <;> rfl
def AllL {U:Univ} (wr:List (Rf×O U)):Prop:=∀p∈wr,∃s,p.1=.l s
theorem AllL.app {U:Univ} {wr wr':List (Rf×O U)} (h:AllL wr) (h':AllL wr'):AllL (wr ++ wr'):=by
 intro p hp
 rcases List.mem_append.1 hp with hp|hp
 ·exact h p hp
 ·exact h' p hp
theorem AllL.apH {U:Univ}:∀{wr:List (Rf×O U)} {H:List (O U)},AllL wr→apH H wr=H
 | [],_,_=>rfl
 | (r,o) :: wr,H,h=>by
  obtain ⟨s,hs⟩:=h (r,o) (by simp)
  simp only at hs; subst hs
  simp only [Go.Abs.apH]
  exact AllL.apH fun p hp=>h p (by simp [hp])
mutual
theorem down_sound {loc:Loc K.U} {H:List (O K.U)} (M:Mem K F w (getO loc H) pl):∀{c y:C K.U} {wr:List (Rf×O K.U)} {ok:Bool} {v:Value},K.down loc H c=some (ok,y,wr)→ok=true→RepC F w (getO loc H) pl c v→
  FrzW K loc H wr∧AllL wr∧∀F',Frozen F w pl F' wr→RepC F' w (obH H) pl y v
 | .ptr (.g o) off,y,wr,ok,v,h,hok,hv=>by
  simp only [Cfg.down,Option.some.injEq,Prod.mk.injEq] at h
  obtain ⟨_,rfl,rfl⟩:=h
  refine ⟨.nil,by intro p hp; simp at hp,fun F' hF=>?_⟩
  simp only [RepC,obH_g] at hv ⊢
  exact hv
 | .pa (.g o) g i j,y,wr,ok,v,h,hok,hv=>by
  simp only [Cfg.down,Option.some.injEq,Prod.mk.injEq] at h
  obtain ⟨_,rfl,rfl⟩:=h
  refine ⟨.nil,by intro p hp; simp at hp,fun F' hF=>?_⟩
  simp only [RepC,obH_g] at hv ⊢
  exact hv
 | .mp (.g o),y,wr,ok,v,h,hok,hv=>by
  simp only [Cfg.down,Option.some.injEq,Prod.mk.injEq] at h
  obtain ⟨_,rfl,rfl⟩:=h
  refine ⟨.nil,by intro p hp; simp at hp,fun F' hF=>?_⟩
  simp only [RepC,obH_g] at hv ⊢
  exact hv
 | .asl (.g o) g sub cl,y,wr,ok,v,h,hok,hv=>by
  simp only [Cfg.down,Option.some.injEq,Prod.mk.injEq] at h
  obtain ⟨_,rfl,rfl⟩:=h
  refine ⟨.nil,by intro p hp; simp at hp,fun F' hF=>?_⟩
  simp only [RepC,obH_g] at hv ⊢
  exact hv
 | .optr none,y,wr,ok,v,h,hok,hv=>by
  simp only [Cfg.down,Option.some.injEq,Prod.mk.injEq] at h
  obtain ⟨_,rfl,rfl⟩:=h
  refine ⟨.nil,by intro p hp; simp at hp,fun F' hF=>?_⟩
  simp only [RepC] at hv ⊢
  exact hv
 | .optr (some n),y,wr,ok,v,h,hok,hv=>by
  simp only [Cfg.down,Option.some.injEq,Prod.mk.injEq] at h
  obtain ⟨_,rfl,rfl⟩:=h
  refine ⟨.nil,by intro p hp; simp at hp,fun F' hF=>?_⟩
  simp only [RepC,obH_g] at hv ⊢
  exact hv
 | .d x,y,wr,ok,v,h,hok,hv=>by
  simp only [Cfg.down,Option.some.injEq,Prod.mk.injEq] at h
  obtain ⟨_,rfl,rfl⟩:=h
  refine ⟨.nil,by intro p hp; simp at hp,fun F' hF=>?_⟩
  simp only [RepC] at hv ⊢
  exact hv.mono hF.1 fun _ _=>rfl
 | .clip c xs,y,wr,ok,v,h,hok,hv=>by
  simp only [Cfg.down,Option.some.injEq,Prod.mk.injEq] at h
  obtain ⟨_,rfl,rfl⟩:=h
  refine ⟨.nil,by intro p hp; simp at hp,fun F' hF=>?_⟩
  simp only [RepC] at hv ⊢
  exact hv.1.mono hF.1 fun _ _=>rfl
 | .ep cs,y,wr,ok,v,h,hok,hv=>by
  simp only [Cfg.down,Option.some.injEq,Prod.mk.injEq] at h
  obtain ⟨_,rfl,rfl⟩:=h
  refine ⟨.nil,by intro p hp; simp at hp,fun F' hF=>?_⟩
  simp only [RepC] at hv ⊢
  obtain ⟨b,off,h1,h2,h3⟩:=hv
  refine ⟨b,off,h1,hF.1 _ h2,fun j d hd=>?_⟩
  obtain ⟨u,k1,k2⟩:=h3 j d hd
  exact ⟨u,k1,k2.mono hF.1 fun _ _=>rfl⟩
 | .asl (.l s) gen sub cl,y,wr,ok,v,h,hok,hv=>by
  simp only [Cfg.down] at h
  split at h
  ·rename_i hn
   simp only [Option.some.injEq,Prod.mk.injEq] at h
   obtain ⟨rfl,rfl,rfl⟩:=h
   obtain ⟨h1,h2⟩:=now_sound M hn hok hv
   refine ⟨h1,by intro p hp; simp only [List.mem_singleton] at hp; subst hp; exact ⟨s,rfl⟩,fun F' hF=>?_⟩
   obtain ⟨ob',pl',hr⟩:=hF.2 (.l s,_) (List.mem_singleton.2 rfl)
   exact h2 F' ob' pl' hr _ _
  ·cases h
 | .fn f first caps,y,wr,ok,v,h,hok,hv=>by
  simp only [Cfg.down] at h
  split at h
  ·rename_i h1 h2
   simp only [Option.some.injEq,Prod.mk.injEq] at h
   obtain ⟨rfl,rfl,rfl⟩:=h
   simp only [andB_true] at hok
   simp only [RepC] at hv
   obtain ⟨a,b,rfl,ha,hb⟩:=hv
   obtain ⟨k1,l1,k2⟩:=downAll_sound M h1 hok.1 ha
   obtain ⟨k3,l2,k4⟩:=downAll_sound M h2 hok.2 hb
   refine ⟨k1.app k3,l1.app l2,fun F' hF=>?_⟩
   simp only [RepC]
   have e:=gOnly_obH (K:=K) (fun _=>none) H
   refine ⟨a,b,rfl,?_,?_⟩
   ·rw [show gOnly (obH H)=obH H from e]; exact k2 F' hF.left
   ·rw [show gOnly (obH H)=obH H from e]; exact k4 F' hF.right
  ·cases h
 | .fp f a b,y,wr,ok,v,h,hok,hv=>by
  simp only [Cfg.down,Option.some.injEq,Prod.mk.injEq] at h
  obtain ⟨_,rfl,rfl⟩:=h
  refine ⟨.nil,by intro p hp; simp at hp,fun F' hF=>?_⟩
  have e1:=gOnly_obH loc H
  have e2:=gOnly_obH (K:=K) (fun _=>none) H
  simp only [RepC] at hv ⊢
  rw [e1] at hv
  rw [show gOnly (obH H)=obH H from e2]
  obtain ⟨x,z,h1,h2,h3⟩:=hv
  have ho:∀r o,obH H r=some o→∃o',obH H r=some o'∧Compat K o (pl r) o' (pl r):=fun r o h=>⟨o,h,.refl _ _⟩
  exact ⟨x,z,h1,h2.mono hF.1 (fun _ _=>rfl) ho,h3.mono hF.1 (fun _ _=>rfl) ho⟩
 | .agg cs,y,wr,ok,v,h,hok,hv=>by
  simp only [Cfg.down] at h
  split at h
  ·rename_i h1
   simp only [Option.some.injEq,Prod.mk.injEq] at h
   obtain ⟨rfl,rfl,rfl⟩:=h
   simp only [RepC] at hv
   obtain ⟨a,rfl,ha⟩:=hv
   obtain ⟨k1,l1,k2⟩:=downAll_sound M h1 hok ha
   refine ⟨k1,l1,fun F' hF=>?_⟩
   simp only [RepC]
   exact ⟨a,rfl,k2 F' hF⟩
  ·cases h
 | .tup cs,y,wr,ok,v,h,hok,hv=>by
  simp only [Cfg.down] at h
  split at h
  ·rename_i h1
   simp only [Option.some.injEq,Prod.mk.injEq] at h
   obtain ⟨rfl,rfl,rfl⟩:=h
   simp only [RepC] at hv
   obtain ⟨a,rfl,ha⟩:=hv
   obtain ⟨k1,l1,k2⟩:=downAll_sound M h1 hok ha
   refine ⟨k1,l1,fun F' hF=>?_⟩
   simp only [RepC]
   exact ⟨a,rfl,k2 F' hF⟩
  ·cases h
 | .ifc t x,y,wr,ok,v,h,hok,hv=>by
  simp only [Cfg.down] at h
  split at h
  ·rename_i h1
   simp only [Option.some.injEq,Prod.mk.injEq] at h
   obtain ⟨rfl,rfl,rfl⟩:=h
   simp only [RepC] at hv
   obtain ⟨u,rfl,hu⟩:=hv
   obtain ⟨k1,l1,k2⟩:=down_sound M h1 hok hu
   refine ⟨k1,l1,fun F' hF=>?_⟩
   simp only [RepC]
   exact ⟨u,rfl,k2 F' hF⟩
  ·cases h
 | .ptr (.l _) _,_,_,_,_,h,_,_|.pa (.l _) _ _ _,_,_,_,_,h,_,_|.osl _ _,_,_,_,_,h,_,_|.mp (.l _),_,_,_,_,h,_,_|.dead,_,_,_,_,h,_,_=>by
  simp [Cfg.down] at h
theorem downAll_sound {loc:Loc K.U} {H:List (O K.U)} (M:Mem K F w (getO loc H) pl):∀{cs ys:List (C K.U)} {wr:List (Rf×O K.U)} {ok:Bool} {vs:List Value},K.downAll loc H cs=some (ok,ys,wr)→ok=true→RepCs F w (getO loc H) pl cs vs→
  FrzW K loc H wr∧AllL wr∧∀F',Frozen F w pl F' wr→RepCs F' w (obH H) pl ys vs
 | [],ys,wr,ok,vs,h,hok,hv=>by
  simp only [Cfg.downAll,Option.some.injEq,Prod.mk.injEq] at h
  obtain ⟨_,rfl,rfl⟩:=h
  simp only [RepCs] at hv
  exact ⟨.nil,by intro p hp; simp at hp,fun F' hF=>by simp only [RepCs]; exact hv⟩
 | c :: cs,ys,wr,ok,vs,h,hok,hv=>by
  simp only [Cfg.downAll] at h
  split at h
  ·rename_i h1 h2
   simp only [Option.some.injEq,Prod.mk.injEq] at h
   obtain ⟨rfl,rfl,rfl⟩:=h
   simp only [andB_true] at hok
   simp only [RepCs] at hv
   obtain ⟨v,rest,rfl,hc,hr⟩:=hv
   obtain ⟨k1,l1,k2⟩:=down_sound M h1 hok.1 hc
   obtain ⟨k3,l2,k4⟩:=downAll_sound M h2 hok.2 hr
   refine ⟨k1.app k3,l1.app l2,fun F' hF=>?_⟩
   simp only [RepCs]
   exact ⟨v,rest,rfl,k2 F' hF.left,k4 F' hF.right⟩
  ·cases h
end
theorem coVs_sound:∀{os:List (List (Option K.U.Ty))} {cs:List (C K.U)} {vs:List Value},RepCs F w ob pl cs vs→RepCs F w ob pl (C.coVs os cs) vs
 | [],cs,vs,h=>by simpa [C.coVs] using h
 | o :: os,[],vs,h=>by simpa [C.coVs] using h
 | o :: os,c :: cs,vs,h=>by
  simp only [RepCs] at h
  obtain ⟨v,rest,rfl,h1,h2⟩:=h
  simp only [C.coVs,RepCs]
  exact ⟨v,rest,rfl,coV_sound h1,coVs_sound h2⟩
theorem repR1_repC {c:C K.U} {v:Value} {own:List Nat} (hn:∀cd xs,c ≠ .osl cd xs) (h:RepR1 F w ob pl c v own):RepC F w ob pl c v:=by
 cases c <;> first|exact h.2|exact absurd rfl (hn _ _)
theorem repRs_repCs:∀{cs:List (C K.U)} {vs:List Value} {own:List Nat},(∀c∈cs,∀cd xs,c ≠ .osl cd xs)→RepRs F w ob pl cs vs own→RepCs F w ob pl cs vs
 | [],vs,own,_,h=>by simp only [RepRs] at h; simp only [RepCs]; exact h.1
 | c :: cs,vs,own,hn,h=>by
  simp only [RepRs] at h
  obtain ⟨v,rest,o1,o2,rfl,rfl,h1,h2⟩:=h
  simp only [RepCs]
  exact ⟨v,rest,rfl,repR1_repC (hn c (by simp)) h1,repRs_repCs (fun c' hc=>hn c' (by simp [hc])) h2⟩
theorem repR_repC {c:C K.U} {v:Value} {own:List Nat} (hn:c.noOsl=true) (h:RepR F w ob pl c v own):RepC F w ob pl c v:=by
 unfold RepR at h
 split at h
 ·rename_i cs
  obtain ⟨vs,rfl,h⟩:=h
  simp only [RepC]
  refine ⟨vs,rfl,repRs_repCs (fun c hc cd xs e=>?_) h⟩
  subst e
  simp only [C.noOsl,List.all_eq_true] at hn
  have:=hn _ hc
  simp at this
 ·exact repR1_repC (fun cd xs e=>by subst e; simp [C.noOsl] at hn) h
theorem bare_any {c:C K.U} {v:Value} (hb:c.bare=true) (h:RepC F w ob pl c v) {F':Nat→Prop} {w':World} {ob':Obs K} {pl':Rf→Pl}:RepC F' w' ob' pl' c v:=by
 cases c with
 | d x=>
  simp only [RepC] at h ⊢
  cases h with
  | int=>exact .int _ _
  | bool=>exact .bool _
  | str _ h=>exact .str _ h
  | nils=>exact .nils
  | nilp=>exact .nilp
  | nilf=>exact .nilf
  | nilm=>exact .nilm
  | nili=>exact .nili
  | sl0=>simp [C.bare] at hb
  | sl=>simp [C.bare] at hb
 | _=>simp [C.bare] at hb
theorem bare_anys:∀{cs:List (C K.U)} {vs:List Value},cs.all C.bare=true→RepCs F w ob pl cs vs→∀{F':Nat→Prop} {w':World} {ob':Obs K} {pl':Rf→Pl},RepCs F' w' ob' pl' cs vs
 | [],vs,_,h,_,_,_,_=>by simpa [RepCs] using h
 | c :: cs,vs,hb,h,_,_,_,_=>by
  simp only [List.all_cons,Bool.and_eq_true] at hb
  simp only [RepCs] at h ⊢
  obtain ⟨v,rest,rfl,h1,h2⟩:=h
  exact ⟨v,rest,rfl,bare_any hb.1 h1,bare_anys hb.2 h2⟩
theorem lent1_any (L:Laws K) {c:C K.U} {v:Value} {own:List Nat} (hb:K.lent1 c=true) (h:RepR1 F w ob pl c v own) {F':Nat→Prop} {ob':Obs K} {pl':Rf→Pl}:RepR1 F' w ob' pl' c v own:=by
 unfold Cfg.lent1 at hb
 split at hb
 ·rename_i cd xs
  simp only [RepR1] at h ⊢
  rcases h with h|⟨b,cap,vs,e,h1,h2,h3,h4,h5,h6,h7,h8,h9⟩
  ·exact .inl h
  ·refine .inr ⟨b,cap,vs,e,h1,h2,h3,h4,h5,h6,h7,fun i x hx=>bare_anys ?_ (h8 i x hx),h9⟩
   simp only [Cfg.encV,List.all_map,List.all_eq_true]
   exact fun d hd=>L.flat cd hb x d hd
 ·rename_i cs
  refine ⟨h.1,?_⟩
  have:=h.2
  simp only [RepC] at this ⊢
  obtain ⟨vs,rfl,hr⟩:=this
  exact ⟨vs,rfl,bare_anys hb hr⟩
 ·rename_i h1 h2
  have hc:∀(own:List Nat),RepR1 F w ob pl c v own→own=[]∧RepC F w ob pl c v:=by
   intro own h
   cases c <;> first|exact h|exact absurd rfl (h1 _ _)
  obtain ⟨k1,k2⟩:=hc _ h
  have k3:RepC F' w ob' pl' c v:=bare_any hb k2
  cases c <;> first|exact ⟨k1,k3⟩|exact absurd rfl (h1 _ _)
theorem lents_any (L:Laws K):∀{cs:List (C K.U)} {vs:List Value} {own:List Nat},cs.all K.lent1=true→RepRs F w ob pl cs vs own→∀{F':Nat→Prop} {ob':Obs K} {pl':Rf→Pl},RepRs F' w ob' pl' cs vs own
 | [],vs,own,_,h,_,_,_=>by simpa [RepRs] using h
 | c :: cs,vs,own,hb,h,_,_,_=>by
  simp only [List.all_cons,Bool.and_eq_true] at hb
  simp only [RepRs] at h ⊢
  obtain ⟨v,rest,o1,o2,e1,e2,h1,h2⟩:=h
  exact ⟨v,rest,o1,o2,e1,e2,lent1_any L hb.1 h1,lents_any L hb.2 h2⟩
theorem lent_any (L:Laws K) {c:C K.U} {v:Value} {own:List Nat} (hb:K.lent c=true) (h:RepR F w ob pl c v own) {F':Nat→Prop} {ob':Obs K} {pl':Rf→Pl}:RepR F' w ob' pl' c v own:=by
 cases c with
 | tup vs=>
  simp only [RepR] at h ⊢
  obtain ⟨us,e,h⟩:=h
  exact ⟨us,e,lents_any L hb h⟩
 | _=>
  simp only [Cfg.lent] at hb
  exact lent1_any L hb h
theorem Mem.add (M:Mem K F w ob pl) {r:Rf} {x:O K.U} {p:Pl} (hr:ob r=none) (hx:RepO F w (setOb ob r x) (setPl pl r p) p x) (hbx:K.bnd x) (hF:Owns K x p→¬F p.blk∧p.blk<w.heap.size)
  (hap:Owns K x p→∀r' o,ob r'=some o→Owns K o (pl r')→(pl r').blk ≠ p.blk):Mem K F w (setOb ob r x) (setPl pl r p):=by
 have ho:∀r' o,ob r'=some o→∃o',setOb ob r x r'=some o'∧Compat K o (pl r') o' (setPl pl r p r'):=by
  intro r' o h
  have e:r' ≠ r:=by rintro rfl; rw [hr] at h; cases h
  exact ⟨o,by rw [setOb_other _ _ e,h],by rw [setPl_other _ _ e]; exact .refl _ _⟩
 refine ⟨fun r' o h=>?_,fun r1 r2 o1 o2 h1 h2 ho1 ho2 e=>?_,fun r' o h hown=>?_,M.frozen,M.glob,fun r' o h=>?_⟩
 ·by_cases e:r'=r
  ·subst e
   rw [setOb_same] at h; cases h
   rw [setPl_same]; exact hx
  ·rw [setOb_other _ _ e] at h
   rw [setPl_other _ _ e]
   exact (M.rep r' o h).mono (fun _ h=>h) (fun _ _=>rfl) ho fun _=>rfl
 ·by_cases e1:r1=r
  ·by_cases e2:r2=r
   ·rw [e1,e2]
   ·subst e1
    rw [setOb_same] at h1; cases h1
    rw [setOb_other _ _ e2] at h2
    rw [setPl_same] at e ho1
    rw [setPl_other _ _ e2] at e ho2
    exact absurd e.symm (hap ho1 r2 o2 h2 ho2)
  ·by_cases e2:r2=r
   ·subst e2
    rw [setOb_same] at h2; cases h2
    rw [setOb_other _ _ e1] at h1
    rw [setPl_same] at e ho2
    rw [setPl_other _ _ e1] at e ho1
    exact absurd e (hap ho2 r1 o1 h1 ho1)
   ·rw [setOb_other _ _ e1] at h1
    rw [setOb_other _ _ e2] at h2
    rw [setPl_other _ _ e1] at e ho1
    rw [setPl_other _ _ e2] at e ho2
    exact M.apart r1 r2 o1 o2 h1 h2 ho1 ho2 e
 ·by_cases e:r'=r
  ·subst e
   rw [setOb_same] at h; cases h
   rw [setPl_same] at hown ⊢
   exact hF hown
  ·rw [setOb_other _ _ e] at h
   rw [setPl_other _ _ e] at hown ⊢
   exact M.free r' o h hown
 ·by_cases e:r'=r
  ·subst e; rw [setOb_same] at h; cases h; exact hbx
  ·rw [setOb_other _ _ e] at h; exact M.bnd r' o h
theorem Goes.add {r:Rf} {x:O K.U} {p:Pl} (hr:ob r=none):Goes K F w ob pl F w (setOb ob r x) (setPl pl r p):=
 ⟨fun _ h=>h,fun _ _=>rfl,fun r' o h=>by
  have e:r' ≠ r:=by rintro rfl; rw [hr] at h; cases h
  exact ⟨o,by rw [setOb_other _ _ e,h],by rw [setPl_other _ _ e]; exact .refl _ _⟩⟩
theorem Fr.add (f:Fr K β F w ob pl) {r:Rf} {x:O K.U} {p:Pl} (hr:ob r=none) (hp:Owns K x p→β.w.heap.size≤p.blk∨β.G p.blk):Fr K β F w (setOb ob r x) (setPl pl r p):=by
 refine ⟨f.os,f.tape,f.output,f.size,f.old,f.Fsub,f.Fnew,fun r' o h hown=>?_,fun n o h=>?_⟩
 ·by_cases e:r'=r
  ·subst e
   rw [setOb_same] at h; cases h
   rw [setPl_same] at hown ⊢
   exact hp hown
  ·rw [setOb_other _ _ e] at h
   rw [setPl_other _ _ e] at hown ⊢
   exact f.own r' o h hown
 ·obtain ⟨o',h1,h2⟩:=f.glob n o h
  obtain ⟨o'',h3,h4⟩:=(Goes.add (F:=F) (w:=w) (pl:=pl) (x:=x) (p:=p) hr).ho _ o' h1
  exact ⟨o'',h3,h2.trans h4⟩
theorem adopt_slots {loc:Loc K.U}:∀{n s:Nat} {cs ws:List (C K.U)} {wr:List (Rf×O K.U)},adopt loc n s cs=some (ws,wr)→∀p∈wr,∃t,p.1=.l t∧s≤t
 | 0,s,[],ws,wr,h|_+1,s,[],ws,wr,h=>by
  simp only [adopt,Option.some.injEq,Prod.mk.injEq] at h
  obtain ⟨_,rfl⟩:=h
  simp
 | 0,s,_ :: _,ws,wr,h=>by simp [adopt] at h
 | n+1,s,x :: xs,ws,wr,h=>by
  simp only [adopt] at h
  split at h
  ·cases h
  ·rename_i ys wr' hrec
   have ih:=adopt_slots hrec
   split at h
   ·split at h
    ·simp only [Option.some.injEq,Prod.mk.injEq] at h
     obtain ⟨_,rfl⟩:=h
     intro p hp
     rcases List.mem_append.1 hp with hp|hp
     ·obtain ⟨t,h1,h2⟩:=ih p hp
      exact ⟨t,h1,by omega⟩
     ·simp only [List.mem_singleton] at hp; subst hp
      exact ⟨s,rfl,Nat.le_refl _⟩
    ·cases h
   ·simp only [Option.some.injEq,Prod.mk.injEq] at h
    obtain ⟨_,rfl⟩:=h
    intro p hp
    obtain ⟨t,h1,h2⟩:=ih p hp
    exact ⟨t,h1,by omega⟩
theorem apL_other:∀{wr:List (Rf×O K.U)} {loc:Loc K.U} {s:Nat},(∀p∈wr,∃t,p.1=.l t∧s<t)→apL loc wr s=loc s
 | [],_,_,_=>rfl
 | (r,o) :: wr,loc,s,h=>by
  obtain ⟨t,h1,h2⟩:=h (r,o) (by simp)
  simp only at h1; subst h1
  simp only [apL]
  rw [apL_other fun p hp=>h p (by simp [hp]),beqF (by omega)]
  rfl
theorem apL_append:∀(wr:List (Rf×O K.U)) (loc:Loc K.U) (wr':List (Rf×O K.U)),apL loc (wr ++ wr')=apL (apL loc wr) wr'
 | [],_,_=>rfl
 | (.l s,o) :: wr,loc,wr'=>by simp only [List.cons_append,apL]; exact apL_append wr _ wr'
 | (.g n,o) :: wr,loc,wr'=>by simp only [List.cons_append,apL]; exact apL_append wr _ wr'
theorem adopt_sound {H:List (O K.U)} {loc:Loc K.U} {N:Nat} (hN:β.w.heap.size≤N) (M:Mem K F w (getO loc H) pl) (f:Fr K β F w (getO loc H) pl) (hlow:∀r o,getO loc H r=some o→Owns K o (pl r)→(pl r).blk<N)
  {obr:Obs K} {plr:Rf→Pl} (hobr:∀r,obr r=none):∀{n s:Nat} {cs ws:List (C K.U)} {wr:List (Rf×O K.U)} {vs:List Value} {own:List Nat},adopt loc n s cs=some (ws,wr)→RepRs F w obr plr cs vs own→
  own.Nodup→(∀b∈own,N≤b∧b<w.heap.size∧¬F b)→
  ∃pl',Mem K F w (getO (apL loc wr) H) pl'∧Fr K β F w (getO (apL loc wr) H) pl'∧Goes K F w (getO loc H) pl F w (getO (apL loc wr) H) pl'∧RepCs F w (getO (apL loc wr) H) pl' ws vs∧
   (∀r o,getO (apL loc wr) H r=some o→Owns K o (pl' r)→(pl' r).blk<N∨(pl' r).blk∈own)
 | 0,s,[],ws,wr,vs,own,h,hr,_,_|_+1,s,[],ws,wr,vs,own,h,hr,_,_=>by
  simp only [adopt,Option.some.injEq,Prod.mk.injEq] at h
  obtain ⟨rfl,rfl⟩:=h
  simp only [RepRs] at hr
  exact ⟨pl,M,f,.refl,by simp only [RepCs]; exact hr.1,fun r o h ho=>.inl (hlow r o h ho)⟩
 | 0,s,_ :: _,ws,wr,vs,own,h,_,_,_=>by simp [adopt] at h
 | n+1,s,x :: xs,ws,wr,vs,own,h,hr,hnd,hmine=>by
  simp only [RepRs] at hr
  obtain ⟨v,rest,o1,o2,rfl,rfl,h1,h2⟩:=hr
  simp only [adopt] at h
  split at h
  ·cases h
  ·rename_i ys wr' hrec
   have hnd':=List.nodup_append.1 hnd
   obtain ⟨pl1,M1,f1,G1,R1,B1⟩:=adopt_sound hN M f hlow hobr hrec h2 hnd'.2.1 fun b hb=>hmine b (by simp [hb])
   split at h
   ·rename_i cd zs
    split at h
    ·rename_i hs
     simp only [Option.some.injEq,Prod.mk.injEq] at h
     obtain ⟨rfl,rfl⟩:=h
     have hs1:getO (apL loc wr') H (.l s)=none:=by
      simp only [getO]
      rw [apL_other fun p hp=>by obtain ⟨t,k1,k2⟩:=adopt_slots hrec p hp; exact ⟨t,k1,by omega⟩]
      exact hs
     have hset:getO (apL loc (wr' ++ [(.l s,.arr 0 (.pure cd) zs)])) H=setOb (getO (apL loc wr') H) (.l s) (.arr 0 (.pure cd) zs):=by
      rw [apL_append]
      exact getO_ap1 (r:=.l s) (x:=.arr 0 (.pure cd) zs) (H:=H) (loc:=apL loc wr') (by intro n e; cases e)
     rw [hset]
     have blk:∃(p:Pl) (a:Option Addr),v=.slice a zs.length p.cap∧(p.cap ≠ 0→a=some (at' p.blk 0)∧p.blk∈o1)∧
       RepO F w (setOb (getO (apL loc wr') H) (.l s) (.arr 0 (.pure cd) zs)) (setPl pl1 (.l s) p) p (.arr 0 (.pure cd) zs)∧zs.length * K.bytesC cd≤room:=by
      simp only [RepR1] at h1
      rcases h1 with ⟨rfl,_,a,rfl⟩|⟨b,cap,vs',e,k1,k2,k3,k4,k5,k6,k7,k8,k9⟩
      ·exact ⟨⟨0,0⟩,a,rfl,fun h=>absurd rfl h,.inl ⟨rfl,rfl⟩,by simp⟩
      ·refine ⟨⟨b,cap⟩,some (at' b 0),k3,fun _=>⟨rfl,by rw [k2]; simp⟩,.inr ⟨vs',e,k4,k5,k6,k7,fun i x hx=>?_⟩,k9⟩
       exact (k8 i x hx).mono (fun _ h=>h) (fun _ _=>rfl) fun r o h=>by rw [hobr] at h; cases h
     obtain ⟨p,a,hv,ha,hrep,hbz⟩:=blk
     have hap:Owns K (.arr 0 (.pure cd) zs:O K.U) p→∀r' o,getO (apL loc wr') H r'=some o→Owns K o (pl1 r')→(pl1 r').blk ≠ p.blk:=by
      intro hc r' o ho hown e
      have hb:=(ha hc).2
      rcases B1 r' o ho hown with k|k
      ·have:=(hmine _ (List.mem_append_left _ hb)).1; omega
      ·rw [e] at k; exact hnd'.2.2 _ hb _ k rfl
     refine ⟨setPl pl1 (.l s) p,M1.add hs1 hrep hbz (fun hc=>?_) hap,f1.add hs1 fun hc=>?_,G1.trans (Goes.add hs1),?_,fun r' o ho hown=>?_⟩
     ·have:=hmine _ (List.mem_append_left _ (ha hc).2)
      exact ⟨this.2.2,this.2.1⟩
     ·have:=hmine _ (List.mem_append_left _ (ha hc).2)
      exact .inl (by omega)
     ·simp only [RepCs]
      refine ⟨v,rest,rfl,?_,(Goes.add hs1).repCs R1⟩
      rw [hv]
      exact repC_asl (v:=.pure cd) (xs:=zs) (p:=p) fun hc=>(ha hc).1
     ·by_cases e:r'=.l s
      ·subst e
       rw [setOb_same] at ho; cases ho
       rw [setPl_same] at hown ⊢
       exact .inr (List.mem_append_left _ (ha hown).2)
      ·rw [setOb_other _ _ e] at ho
       rw [setPl_other _ _ e] at hown ⊢
       exact (B1 r' o ho hown).imp id fun h=>List.mem_append_right _ h
    ·cases h
   ·rename_i hno
    simp only [Option.some.injEq,Prod.mk.injEq] at h
    obtain ⟨rfl,rfl⟩:=h
    have hc:=repR1_repC (fun cd xs' e=>hno cd xs' e) h1
    refine ⟨pl1,M1,f1,G1,?_,fun r o ho hown=>(B1 r o ho hown).imp id fun h=>List.mem_append_right _ h⟩
    simp only [RepCs]
    exact ⟨v,rest,rfl,hc.mono (fun _ h=>h) (fun _ _=>rfl) (fun r o h=>by rw [hobr] at h; cases h),R1⟩
theorem adoptV_sound {H:List (O K.U)} {loc:Loc K.U} {N:Nat} (hN:β.w.heap.size≤N) (M:Mem K F w (getO loc H) pl) (f:Fr K β F w (getO loc H) pl) (hlow:∀r o,getO loc H r=some o→Owns K o (pl r)→(pl r).blk<N)
  {obr:Obs K} {plr:Rf→Pl} (hobr:∀r,obr r=none) {slot:Option Nat} {c d:C K.U} {wr:List (Rf×O K.U)} {v:Value} {own:List Nat} (h:adoptV loc slot c=some (d,wr)) (hr:RepR F w obr plr c v own)
  (hnd:own.Nodup) (hmine:∀b∈own,N≤b∧b<w.heap.size∧¬F b):
  ∃pl',Mem K F w (getO (apL loc wr) H) pl'∧Fr K β F w (getO (apL loc wr) H) pl'∧Goes K F w (getO loc H) pl F w (getO (apL loc wr) H) pl'∧RepC F w (getO (apL loc wr) H) pl' d v:=by
 unfold adoptV at h
 split at h
 ·rename_i s vs
  split at h
  ·rename_i ws wr' hrec
   simp only [Option.some.injEq,Prod.mk.injEq] at h
   obtain ⟨rfl,rfl⟩:=h
   simp only [RepR] at hr
   obtain ⟨us,rfl,hr⟩:=hr
   obtain ⟨pl',M1,f1,G1,R1,_⟩:=adopt_sound hN M f hlow hobr hrec hr hnd hmine
   refine ⟨pl',M1,f1,G1,?_⟩
   simp only [RepC]
   exact ⟨us,rfl,R1⟩
  ·cases h
 ·rename_i s x hx
  split at h
  ·rename_i y wr' hrec
   simp only [Option.some.injEq,Prod.mk.injEq] at h
   obtain ⟨rfl,rfl⟩:=h
   have hr1:RepR1 F w obr plr c v own:=by
    unfold RepR at hr
    split at hr
    ·exact absurd rfl (hx _)
    ·exact hr
   have hrs:RepRs F w obr plr [c] [v] own:=by
    simp only [RepRs]
    exact ⟨v,[],own,[],rfl,by simp,hr1,rfl,rfl⟩
   obtain ⟨pl',M1,f1,G1,R1,_⟩:=adopt_sound hN M f hlow hobr hrec hrs hnd hmine
   refine ⟨pl',M1,f1,G1,?_⟩
   simp only [RepCs] at R1
   obtain ⟨u,_,e,hu,_⟩:=R1
   simp only [List.cons.injEq] at e
   rw [e.1]; exact hu
  ·cases h
 ·cases h
end
end Go.Abs
