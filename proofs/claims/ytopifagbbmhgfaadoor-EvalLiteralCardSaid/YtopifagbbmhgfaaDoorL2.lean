/- LEMMAS: what functions answer, and what is true of it. Conditions: none. -/
import Derived.Test.YtopifagbbmhgfaaDoorL1
import Derived.Test.YtopifagbbmhgfaaDoorW4
import Derived.Test.YtopifagbbmhgfaaDoorW3
import Derived.Test.YtopifagbbmhgfaaDoorW5
import Derived.Test.YtopifagbbmhgfaaDoorA34
import Derived.Test.YtopifagbbmhgfaaDoorRows
import Derived.LaidMore
set_option maxRecDepth 4000
set_option linter.unusedSectionVars false
namespace Go.Proofs.YtopifagbbmhgfaaDoor.V
set_option linter.unusedVariables false
set_option linter.unusedSimpArgs false
open Go Go.Abs
theorem clone19 (v:ValL):Gives 19 [.d (.sl .api_Atom v)] (.d (.sl .api_Atom v)):=by
 refine Runs.known fun hk _=>?_
 have hl:=known_atoms (hk _ (List.mem_cons_self ..))
 refine e19 _ _ ⟨and_t (roomB_t (by simpa [addN,lenL,nilL] using hl)) ⟨rfl,rfl⟩,ite_w (fun h=>?_) (fun _=>trivial)⟩
 cases v with
 | nil=>exact ⟨rfl,rfl⟩
 | cons _ _=>cases h
theorem clone20 (v:List api_Crack):Gives 20 [.d (.sl .api_Crack v)] (.d (.sl .api_Crack v)):=by
 refine Runs.known fun hk _=>?_
 have hl:=known_cracks (hk _ (List.mem_cons_self ..))
 refine e20 _ _ ⟨and_t (roomB_t (by simpa [addN,lenL,nilL] using hl)) ⟨rfl,rfl⟩,ite_w (fun h=>?_) (fun _=>trivial)⟩
 cases v with
 | nil=>exact ⟨rfl,rfl⟩
 | cons _ _=>cases h
def OkO (o:api_Outcome):Prop:=o.gKind=1→o.gValue ≠ []
theorem outR_ok {o:api_Outcome} (h:outR o=true):OkO o:=by
 intro hk hv
 unfold outR at h
 rw [if_pos (eqI_t.2 hk),hv,Bool.and_eq_true] at h
 have:=h.2
 revert this
 decide
theorem findK_in {n k:ByteArray} {x o:api_Outcome}:∀{es:List (ByteArray×api_Outcome)},findK kS n (updK kS k x es)=some o→o=x∨findK kS n es=some o
 | [],h=>by
  unfold updK findK at h
  simp only [List.find?] at h
  split at h
  ·simp at h; exact .inl h.symm
  ·simp at h
 | e :: es,h=>by
  unfold updK at h
  by_cases hk:kS k e.1=true
  ·rw [if_pos hk] at h
   unfold findK at h ⊢
   simp only [List.find?] at h ⊢
   have he:k=e.1:=kS_iff.1 hk
   rw [he] at h
   split at h
   ·rename_i hb
    simp at h; exact .inl h.symm
   ·rename_i hb
    exact .inr h
  ·rw [if_neg hk] at h
   unfold findK at h ⊢
   simp only [List.find?] at h ⊢
   split at h
   ·rename_i hb
    exact .inr h
   ·rename_i hb
    exact findK_in (es:=es) h
theorem scanK_ok:∀{r:List api_Known} {es:List (ByteArray×api_Outcome)},(scanK es r).1=0→(∀n o,findK kS n es=some o→OkO o)→∀n o,findK kS n (scanK es r).2=some o→OkO o
 | [],es,_,h=>h
 | k :: r,es,h0,h=>by
  unfold scanK at h0 ⊢
  by_cases h1:nameB k.gName=false
  ·rw [if_pos h1] at h0; cases h0
  rw [if_neg h1] at h0 ⊢
  by_cases h2:(findK kS k.gName es).isSome=true
  ·rw [if_pos h2] at h0; cases h0
  rw [if_neg h2] at h0 ⊢
  by_cases h3:outR k.gOutcome=false
  ·rw [if_pos h3] at h0; cases h0
  rw [if_neg h3] at h0 ⊢
  refine scanK_ok h0 fun n o ho=>?_
  rcases findK_in ho with rfl|ho
  ·exact outR_ok (by simpa using h3)
  ·exact h n o ho
noncomputable def envOf (kn:List api_Known) (op:List ByteArray):Env:=⟨knownF (scanK [] kn).2,fun n=>inB' op n,doneF,wordF⟩
noncomputable def evalF (x:List api_Op) (kn:List api_Known) (op:List ByteArray):api_Meaning×Int:=
 if exprE x ≠ 0 then (⟨nilO,bs [],[]⟩,5)
 else if givenE kn op ≠ 0 then (⟨nilO,bs [],[]⟩,givenE kn op)
 else match exprT x with
  | some [t]=>if (ev (envOf kn op) t [] ⟨[],bs []⟩).1.gKind=0 then (⟨nilO,(ev (envOf kn op) t [] ⟨[],bs []⟩).2.gate,(ev (envOf kn op) t [] ⟨[],bs []⟩).2.asked⟩,0) else (⟨(ev (envOf kn op) t [] ⟨[],bs []⟩).1,bs [],(ev (envOf kn op) t [] ⟨[],bs []⟩).2.asked⟩,0)
  | _=>(⟨nilO,bs [],[]⟩,0)
abbrev meanC (m:api_Meaning):C U:=.agg [.d (.int .i64 m.gOutcome.gKind),.d (.sl .api_Atom m.gOutcome.gValue),.d (.sl .api_Crack m.gOutcome.gFail),.d (.str m.gGate),.d (.sl .str m.gAsked)]
theorem frz_mean {H:List (O U)} {a g:Nat} {asked:List ByteArray} {k:Int} {v:ValL} {f:List api_Crack} {t:ByteArray} (h:obj H a=some (arrS g asked)):
  K.frz (fun _=>none) H (.agg [.d (.int .i64 k),.d (.sl (U:=U) .api_Atom v),.d (.sl (U:=U) .api_Crack f),.d (.str t),.asl (.g a) g none false])=some (true,.agg [.d (.int .i64 k),.d (.sl (U:=U) .api_Atom v),.d (.sl (U:=U) .api_Crack f),.d (.str t),.d (.sl (U:=U) .str asked)],[(.g a,.fro (U:=U) g .str asked)]):=by
 have h:getO (fun _=>none) H (.g a)=some (.arr g (.pure .str) asked):=h
 have hn:K.now (fun _=>none) H (.g a) g none=some (true,.sl (U:=U) .str asked,.fro (U:=U) g .str asked):=by
  unfold Cfg.now
  split
  ·rename_i g1 c xs he
   have:=h.symm.trans he
   cases this
   simp [andB,subOk,subBy]
   rfl
  ·rename_i g1 c xs he
   have:=h.symm.trans he
   cases this
  ·rename_i he _
   exact absurd h (he _ _ _)
 simp only [Cfg.frz,Cfg.frzAll,hn]
 rfl
theorem gives7 (x:List api_Op) (kn:List api_Known) (op:List ByteArray) (H:List (O U)):∃H',GivesM 7 [.d (.sl .api_Op x),.d (.sl .api_Known kn),.d (.sl .str op)] H (.tup [meanC (evalF x kn op).1,.d (.int .i64 (evalF x kn op).2)]) H':=by
 by_cases h0:exprE x ≠ 0
 ·have e:evalF x kn op=(⟨nilO,bs [],[]⟩,5):=if_pos h0
  rw [e]
  exact ⟨H,e7 _ _ _ _ _ ⟨_,gives15 x,ite_t (notB_t.2 (eqI_f.2 h0)) ⟨rfl,rfl⟩⟩⟩
 have hE:notB (eqI (exprE x) 0)=false:=notB_f.2 (eqI_t.2 (by omega))
 obtain ⟨m,y,g1,g2⟩:=gives16 kn op H
 by_cases h1:givenE kn op ≠ 0
 ·have e:evalF x kn op=(⟨nilO,bs [],[]⟩,givenE kn op):=by unfold evalF; rw [if_neg h0,if_pos h1]
  rw [e]
  have g1:GivesM 16 [.d (.sl .api_Known kn),.d (.sl .str op)] H (.tup [.d .nilm,.d (.int .i64 (givenE kn op))]) y:=by
   have ea:ansK m (givenE kn op)=.tup [.d .nilm,.d (.int .i64 (givenE kn op))]:=by unfold ansK; rw [if_neg h1]
   rw [←ea]; exact g1
  exact ⟨y,e7n _ _ _ _ _ ⟨_,gives15 x,ite_f hE ⟨givenE kn op,y,g1,ite_t (notB_t.2 (eqI_f.2 h1)) ⟨rfl,rfl⟩⟩⟩⟩
 have h1:givenE kn op=0:=by omega
 have h0:exprE x=0:=by omega
 have hlen:x.length≤256:=by
  by_cases hl:256<x.length
  ·unfold exprE at h0; rw [if_pos hl] at h0; cases h0
  ·omega
 have ht:∃t,exprT x=some [t]∧bndB [] t=true:=by
  unfold exprE at h0
  rw [if_neg (by omega)] at h0
  split at h0
  ·rename_i t ht
   by_cases hb:bndB [] t=true
   ·exact ⟨t,ht,hb⟩
   ·rw [if_neg hb] at h0; cases h0
  ·cases h0
 obtain ⟨t,ht,hbnd⟩:=ht
 obtain ⟨hxt,hgood⟩:=Tr.read_one ht
 have hsz:t.size=x.length:=by rw [hxt,Tr.post_length]
 have hscan:(scanK [] kn).1=0:=by
  unfold givenE at h1
  split at h1
  ·cases h1
  ·split at h1
   ·assumption
   ·assumption
 have hm:=g2 h1
 let d:WayD:=⟨x,Ns (t.fronts 0),m,op,lenO y,lenO (pushO y (O.arr 0 (Vc.pure Ty.str) (nilL ByteArray))),(scanK [] kn).2⟩
 let H1:List (O U):=pushO (pushO y (O.arr 0 (Vc.pure Ty.str) (nilL ByteArray))) (wayO d 0 (bs []))
 have hM:MR d H1 [] (bs []):=by
  refine ⟨0,obj_push,?_,?_⟩
  ·show obj H1 (lenO y)=_
   have e:=obj_push (H:=y) (o:=O.arr 0 (Vc.pure Ty.str) (nilL ByteArray))
   rw [obj_push_lt (obj_len e)]; exact e
  ·show obj H1 m=_
   have e:obj (pushO y (O.arr 0 (Vc.pure Ty.str) (nilL ByteArray))) m=some (mapK (scanK [] kn).2):=by rw [obj_push_lt (obj_len hm)]; exact hm
   rw [obj_push_lt (obj_len e)]; exact e
 have hat:=at_main (d:=d) (frN:=t.fronts 0) rfl hlen (scanK_ok hscan (fun n o h=>by cases h)) t.size (p:=0) (t:=t) (loc:=[]) (s:=⟨[],bs []⟩) (H:=H1) (Nat.le_refl _) (by show InT x _ 0 t; rw [hxt]; exact InT.whole t) hgood hbnd (fun _ h=>by cases h) (by simp; omega) (by simp; omega) hM
 obtain ⟨H',f1,f2,f3⟩:=hat
 have hev:evalF x kn op=if (ev (wayE d) t [] ⟨[],bs []⟩).1.gKind=0 then (⟨nilO,(ev (wayE d) t [] ⟨[],bs []⟩).2.gate,(ev (wayE d) t [] ⟨[],bs []⟩).2.asked⟩,0) else (⟨(ev (wayE d) t [] ⟨[],bs []⟩).1,bs [],(ev (wayE d) t [] ⟨[],bs []⟩).2.asked⟩,0):=by
  unfold evalF
  rw [if_neg (by omega),if_neg (by omega),ht]
  rfl
 generalize ev (wayE d) t [] ⟨[],bs []⟩=r at f1 f2 f3 hev
 obtain ⟨g',w1,w2,w3⟩:=f2
 have ep:subW .i64 (intN (lenL x)) 1=((0+t.size - 1:Nat):Int):=by
  have:=Tr.size_pos t
  rw [intN_eq,lenL_eq,subW_id (by omega) (by omega),hsz]; omega
 have g1':GivesM 16 [.d (.sl .api_Known kn),.d (.sl .str op)] H (.tup [.mp (.g m),.d (.int .i64 0)]) y:=by
  rw [h1] at g1; exact g1
 rw [hev]
 refine ⟨apH H' [(.g (lenO y),.fro (U:=U) g' .str r.2.asked)],runs_frz (e7 _ _ _ _ _ ⟨_,gives15 x,ite_f hE ⟨(m,0),y,g1',ite_f rfl ⟨Ns (t.fronts 0),gives17 ht (by omega),r.1,H',by rw [ep]; exact f1,ite_w (fun hk=>?_) (fun hk=>?_)⟩⟩⟩)⟩
 ·rw [if_pos (eqI_t.1 hk)]
  exact ⟨⟨x,Ns (t.fronts 0),m,op,lenO y,g',none,r.2.gate⟩,w1,⟨x,Ns (t.fronts 0),m,op,lenO y,g',none,r.2.gate⟩,w1,_,_,_,_,rfl,frz_mean w2,fun l=>rfl,rfl,rfl⟩
 ·rw [if_neg (eqI_f.1 hk)]
  exact ⟨_,clone19 _,_,clone20 _,⟨x,Ns (t.fronts 0),m,op,lenO y,g',none,r.2.gate⟩,w1,_,_,_,_,rfl,frz_mean w2,fun l=>rfl,rfl,rfl⟩
noncomputable def eqv {α:Type} (a b:α):Bool:=@decide (a=b) (Classical.propDecidable _)
theorem eqv_t {α:Type} {a b:α}:eqv a b=true↔a=b:=by unfold eqv; exact @decide_eq_true_iff _ (Classical.propDecidable _)
theorem eqv_f {α:Type} {a b:α}:eqv a b=false↔a ≠ b:=by rw [←Bool.not_eq_true,eqv_t]
theorem eqv_self {α:Type} (a:α):eqv a a=true:=eqv_t.2 rfl
theorem atomE_iff {x y:api_Atom}:(andB (eqI x.1 y.1) (andB (eqI x.2 y.2) (andB (eqI x.3 y.3) (andB (strEq x.4 y.4) true))))=true↔x=y:=by
 obtain ⟨a,b,c,d⟩:=x
 obtain ⟨a',b',c',d'⟩:=y
 simp only [andB_true,eqI_t,strEq_iff',and_true,api_Atom.mk.injEq]
theorem gives11 (a b:List api_Atom):Gives 11 [.d (.sl .api_Atom a),.d (.sl .api_Atom b)] (.d (.bool (eqv a b))):=by
 refine Runs.known fun hk _=>?_
 have hl:=known_atoms (hk _ (List.mem_cons_self ..))
 refine e11 _ _ _ (ite_w (fun h=>?_) (fun h=>?_))
 ·have h:=eqI_f.1 (notB_t.1 h)
  have:a ≠ b:=fun e=>h (by rw [e])
  rw [eqv_f.2 this]; exact ⟨rfl,rfl⟩
 ·have hn:a.length=b.length:=by
   have h:=eqI_t.1 (notB_f.1 h)
   simp only [intN_eq,lenL_eq] at h; omega
  have loop:∀i,i≤a.length→(∀j (h:j<a.length),j<i→a[j]=b[j]'(hn▸h))→At K 11 (fun c' H'=>c'=(.d (.bool (eqv a b)):C U)∧H'=[]) t11_4 (s11_4 a b i):=by
   refine upto ?_ fun i hi ih=>?_
   ·intro hb
    have:a=b:=List.ext_getElem hn fun j h _=>hb j h h
    rw [eqv_t.2 this]
    exact l11_4 _ _ _ _ (ite_f (lt_len_f (Nat.le_refl _)) ⟨rfl,rfl⟩)
   ·intro hb
    refine l11_4 _ _ _ _ (ite_t (lt_len hi) (and_t (in_len hi) (and_t (in_len (hn▸hi)) ?_)))
    rw [rd_at hi,rd_at (hn▸hi)]
    refine ite_w (fun h=>?_) (fun h=>?_)
    ·have:a ≠ b:=fun e=>by
      subst e
      have:=notB_t.1 h
      rw [atomE_iff.2 rfl] at this; cases this
     rw [eqv_f.2 this]; exact ⟨rfl,rfl⟩
    ·have h:=atomE_iff.1 (notB_f.1 h)
     rw [add_one (by omega)]
     refine ih fun j hj hji=>?_
     by_cases e:j=i
     ·subst e; exact h
     ·exact hb j hj (by omega)
  exact loop 0 (Nat.zero_le _) fun _ _ h=>absurd h (Nat.not_lt_zero _)
theorem gives6 (a:List api_Atom):Gives 6 [.d (.sl .api_Atom a)] (.d (.sl .api_Atom a)):=by
 refine Runs.known fun hk _=>?_
 have hl:=known_atoms (hk _ (List.mem_cons_self ..))
 exact e6 _ _ (and_t (roomB_t (by simp only [addN,lenL_eq,List.length_nil]; omega)) ⟨rfl,rfl⟩)
theorem gives12 (a b:List ByteArray):Gives 12 [.d (.sl .str a),.d (.sl .str b)] (.d (.bool (eqv a b))):=by
 refine Runs.known fun hk _=>?_
 have hl:=known_strs (hk _ (List.mem_cons_self ..))
 refine e12 _ _ _ (ite_w (fun h=>?_) (fun h=>?_))
 ·have h:=eqI_f.1 (notB_t.1 h)
  have:a ≠ b:=fun e=>h (by rw [e])
  rw [eqv_f.2 this]; exact ⟨rfl,rfl⟩
 ·have hn:a.length=b.length:=by
   have h:=eqI_t.1 (notB_f.1 h)
   simp only [intN_eq,lenL_eq] at h; omega
  have loop:∀i,i≤a.length→(∀j (h:j<a.length),j<i→a[j]=b[j]'(hn▸h))→At K 12 (fun c' H'=>c'=(.d (.bool (eqv a b)):C U)∧H'=[]) t12_4 (s12_4 a b i):=by
   refine upto ?_ fun i hi ih=>?_
   ·intro hb
    have:a=b:=List.ext_getElem hn fun j h _=>hb j h h
    rw [eqv_t.2 this]
    exact l12_4 _ _ _ _ (ite_f (lt_len_f (Nat.le_refl _)) ⟨rfl,rfl⟩)
   ·intro hb
    refine l12_4 _ _ _ _ (ite_t (lt_len hi) (and_t (in_len hi) (and_t (in_len (hn▸hi)) ?_)))
    rw [rd_at hi,rd_at (hn▸hi)]
    refine ite_w (fun h=>?_) (fun h=>?_)
    ·have:a ≠ b:=fun e=>by
      subst e
      have:=notB_t.1 h
      rw [strEq_iff'.2 rfl] at this; cases this
     rw [eqv_f.2 this]; exact ⟨rfl,rfl⟩
    ·have h:=strEq_iff'.1 (notB_f.1 h)
     rw [add_one (by omega)]
     refine ih fun j hj hji=>?_
     by_cases e:j=i
     ·subst e; exact h
     ·exact hb j hj (by omega)
  exact loop 0 (Nat.zero_le _) fun _ _ h=>absurd h (Nat.not_lt_zero _)
theorem gives8 (a:List api_Op):Gives 8 [.d (.sl .api_Op a)] (.d (.sl .api_Op a)):=by
 refine Runs.known fun hk _=>?_
 have hl:=known_ops (hk _ (List.mem_cons_self ..))
 exact e8 _ _ (and_t (roomB_t (by simp only [addN,lenL_eq,List.length_nil]; omega)) ⟨rfl,rfl⟩)
def exX:List api_Op:=[api_Op.mk 3 0 0 (bs [97]),api_Op.mk 1 0 7 (bs []),api_Op.mk 15 2 0 (bs [])]
def exT:Tr api_Op:=.nd (api_Op.mk 15 2 0 (bs [])) [.nd (api_Op.mk 3 0 0 (bs [97])) [],.nd (api_Op.mk 1 0 7 (bs [])) []]
def exK:List api_Known:=[api_Known.mk (bs [97]) (api_Outcome.mk 1 [api_Atom.mk 2 0 0 (bs [116])] (nilL api_Crack))]
theorem exX_ok:exprE exX=0:=by kernel_rfl
theorem exT_ok:exprT exX=some [exT]:=by kernel_rfl
theorem ex_given0:givenE [] []=0:=by kernel_rfl
theorem ex_given1:givenE exK []=0:=by kernel_rfl
theorem ex_known0:knownF (scanK [] []).2 (bs [97])=none:=by kernel_rfl
theorem ex_known1:knownF (scanK [] exK).2 (bs [97])=some (api_Outcome.mk 1 [api_Atom.mk 2 0 0 (bs [116])] (nilL api_Crack)):=by kernel_rfl
theorem ex_ev0:ev (envOf [] []) exT [] ⟨[],bs []⟩=(comesO [⟨1,0,7,⟨#[]⟩⟩],⟨[bs [97]],bs []⟩):=by
 have h0:evn (envOf [] []) [.nd (api_Op.mk 3 0 0 (bs [97])) [],.nd (api_Op.mk 1 0 7 (bs [])) []] 0 [] ⟨[],bs []⟩=(failO 4 (bs [97]),⟨[bs [97]],bs []⟩):=by
  rw [evn,ev_3 rfl]
  show ((knownF (scanK [] []).2 (bs [97])).getD _,_)=_
  rw [ex_known0]; rfl
 rw [exT,ev_15 rfl,h0,goTry,if_pos (show (failO 4 (bs [97])).gKind=2 from rfl),evn,evn,ev_1 rfl]
theorem ex_ev1:ev (envOf exK []) exT [] ⟨[],bs []⟩=(⟨1,[⟨2,0,0,bs [116]⟩],[]⟩,⟨[bs [97]],bs []⟩):=by
 have h0:evn (envOf exK []) [.nd (api_Op.mk 3 0 0 (bs [97])) [],.nd (api_Op.mk 1 0 7 (bs [])) []] 0 [] ⟨[],bs []⟩=(⟨1,[⟨2,0,0,bs [116]⟩],[]⟩,⟨[bs [97]],bs []⟩):=by
  rw [evn,ev_3 rfl]
  show ((knownF (scanK [] exK).2 (bs [97])).getD _,_)=_
  rw [ex_known1]; rfl
 rw [exT,ev_15 rfl,h0,goTry,if_neg (by decide)]
theorem ex_eval0:evalF exX [] []=(⟨⟨1,[⟨1,0,7,bs []⟩],[]⟩,bs [],[bs [97]]⟩,0):=by
 unfold evalF
 rw [if_neg (by rw [exX_ok]; decide),if_neg (by rw [ex_given0]; decide),exT_ok]
 dsimp only
 rw [ex_ev0]; rfl
theorem ex_eval1:evalF exX exK []=(⟨⟨1,[⟨2,0,0,bs [116]⟩],[]⟩,bs [],[bs [97]]⟩,0):=by
 unfold evalF
 rw [if_neg (by rw [exX_ok]; decide),if_neg (by rw [ex_given1]; decide),exT_ok]
 dsimp only
 rw [ex_ev1]; rfl
theorem gives4:Gives 4 [] (.d (.bool true)):=by
 obtain ⟨H1,f1⟩:=gives7 exX [] [] []
 obtain ⟨H2,f2⟩:=gives7 exX exK [] H1
 rw [ex_eval0] at f1
 rw [ex_eval1] at f2
 refine e4 _ ⟨(⟨⟨1,[⟨1,0,7,bs []⟩],[]⟩,bs [],[bs [97]]⟩,0),H1,f1,(⟨⟨1,[⟨2,0,0,bs [116]⟩],[]⟩,bs [],[bs [97]]⟩,0),H2,f2,true,ite_t rfl rfl,true,ite_t rfl rfl,true,ite_t rfl ⟨_,gives11 _ _,eqv_self _⟩,true,ite_t rfl ⟨_,gives12 _ _,eqv_self _⟩,true,ite_t rfl (strEq_iff'.2 rfl),true,ite_t rfl ⟨_,gives11 _ _,eqv_self _⟩,rfl,rfl⟩
section
variable {E:Env} (hk:∀n o,E.known n=some o→o.gKind ≠ 0) (hd:∀k a,(E.done k a).gKind ≠ 0)
include hk hd
mutual
theorem ev_gate:∀(t:Tr api_Op) (loc:Loc') (s:Sta),t.good opB (·.gN)→(ev E t loc s).1.gKind=0→nameB (ev E t loc s).2.gate=true
 | .nd o l,loc,s,hg,h=>by
  simp only [Tr.good] at hg
  have h1:=fun n loc' s'=>evn_gate l n loc' s' hg.2
  have h2:=evl_gate l [] o.gKind loc s hg.2
  by_cases c1:o.gKind=1
  ·rw [ev_1 c1] at h; cases h
  by_cases c2:o.gKind=2
  ·rw [ev_2 c2] at h; cases h
  by_cases c3:o.gKind=3
  ·rw [ev_3 c3] at h
   have h:((E.known o.gText).getD (failO 4 o.gText)).gKind=0:=h
   cases hq:E.known o.gText with
   | none=>rw [hq] at h; cases h
   | some x=>rw [hq] at h; exact absurd h (hk _ _ hq)
  by_cases c4:o.gKind=4
  ·rw [ev_4 c4] at h; cases h
  by_cases c5:o.gKind=18
  ·rw [ev_18 c5] at h ⊢
   by_cases hb:E.opn o.gText=true
   ·rw [if_pos hb] at h ⊢; exact h1 _ _ _ h
   ·rw [if_neg hb]
    have ho:=hg.1.1
    simp only [opB,Bool.and_eq_true] at ho
    have ho:=ho.2
    rw [if_neg (by omega),if_neg (by omega),if_pos (by omega),Bool.and_eq_true] at ho
    exact ho.2
  by_cases c6:o.gKind=15
  ·rw [ev_15 c6] at h ⊢
   unfold goTry at h ⊢
   by_cases hb:(evn E l 0 loc s).1.gKind=2
   ·rw [if_pos hb] at h ⊢; exact h1 _ _ _ h
   ·rw [if_neg hb] at h ⊢; exact h1 _ _ _ h
  by_cases c7:o.gKind=14∨o.gKind=19∨o.gKind=16∨o.gKind=17
  ·rw [ev_g c7] at h ⊢
   exact goOn_ind (P:=fun x=>x.1.gKind=0→nameB x.2.gate=true) (fun _ h=>h1 _ _ _ h) (fun n loc' _ _ h=>h1 _ _ _ h) (fun x hx h=>by dsimp only at h; omega) h
  ·rw [ev_r (by omega)] at h ⊢; exact h2 h
theorem evn_gate:∀(l:List (Tr api_Op)) (n:Nat) (loc:Loc') (s:Sta),Tr.goods opB (·.gN) l→(evn E l n loc s).1.gKind=0→nameB (evn E l n loc s).2.gate=true
 | [],_,_,s,_,h=>by rw [evn] at h; cases h
 | t :: _,0,loc,s,hg,h=>by
  simp only [Tr.goods] at hg
  rw [evn] at h ⊢; exact ev_gate t loc s hg.1 h
 | _ :: l,n+1,loc,s,hg,h=>by
  simp only [Tr.goods] at hg
  rw [evn] at h ⊢; exact evn_gate l n loc s hg.2 h
theorem evl_gate:∀(l:List (Tr api_Op)) (args:List Val) (k:Int) (loc:Loc') (s:Sta),Tr.goods opB (·.gN) l→(evl E l args k loc s).1.gKind=0→nameB (evl E l args k loc s).2.gate=true
 | [],args,k,loc,s,_,h=>by rw [evl] at h; exact absurd h (hd _ _)
 | t :: l,args,k,loc,s,hg,h=>by
  simp only [Tr.goods] at hg
  rw [evl] at h ⊢
  by_cases hb:(ev E t loc s).1.gKind=1
  ·rw [if_pos hb] at h ⊢; exact evl_gate l _ k loc _ hg.2 h
  ·rw [if_neg hb] at h ⊢; exact ev_gate t loc s hg.1 h
end
end
abbrev sta0:Sta:=⟨[],bs []⟩
noncomputable def meanF (r:api_Outcome×Sta):api_Meaning:=if r.1.gKind=0 then ⟨nilO,r.2.gate,r.2.asked⟩ else ⟨r.1,bs [],r.2.asked⟩
def litA (a:api_Atom):api_Op:=⟨if a.gKind=2 then 2 else if a.gKind=3 then 5 else 1,a.gN,a.gInt,a.gText⟩
theorem atomB_cases {a:api_Atom} (h:atomB a=true):(a.gKind=1∧a.gN=0∧a.gText=bs []∧-9007199254740992≤a.gInt∧a.gInt≤9007199254740992)∨(a.gKind=2∧a.gN=0∧a.gInt=0∧a.gText.size≤4096)∨(a.gKind=3∧0≤a.gN∧a.gInt=0∧a.gText=bs []):=by
 unfold atomB at h
 split at h
 ·rename_i hk
  simp only [Bool.and_eq_true,eqI_t,strEq_iff'] at h
  exact .inl ⟨hk,h.1.1.1,h.1.1.2,of_decide_eq_true h.1.2,of_decide_eq_true h.2⟩
 ·split at h
  ·rename_i hk
   simp only [Bool.and_eq_true,eqI_t] at h
   have:=of_decide_eq_true h.2
   simp only [intN,strLen] at this
   exact .inr (.inl ⟨hk,h.1.1,h.1.2,by omega⟩)
  ·split at h
   ·rename_i hk
    simp only [Bool.and_eq_true,eqI_t,strEq_iff'] at h
    exact .inr (.inr ⟨hk,of_decide_eq_true h.1.1,h.1.2,h.2⟩)
   ·cases h
theorem lit_ok {a:api_Atom} (h:atomB a=true):opB (litA a)=true∧(litA a).gText.size≤4096∧((litA a).gKind=1∨(litA a).gKind=2∨(litA a).gKind=5):=by
 obtain ⟨k,n,i,t⟩:=a
 rcases atomB_cases h with ⟨h1,h2,h3,h4,h5⟩|⟨h1,h2,h3,h4⟩|⟨h1,h2,h3,h4⟩ <;> dsimp only at * <;> subst h1
 ·subst h2; subst h3
  refine ⟨?_,Nat.zero_le _,.inl rfl⟩
  have e:opB (litA ⟨1,0,i,bs []⟩)=((leI (Int.negSucc 9007199254740991) i && leI i 9007199254740992) && strEq (bs []) (bs [])):=rfl
  rw [e,strEq_self,Bool.and_true,Bool.and_eq_true]
  exact ⟨decide_eq_true h4,decide_eq_true h5⟩
 ·subst h2; subst h3
  exact ⟨rfl,h4,.inr (.inl rfl)⟩
 ·subst h3; subst h4
  refine ⟨?_,Nat.zero_le _,.inr (.inr rfl)⟩
  show (notB (ltI n 0 || notB (eqI n n)) && (eqI 0 0 && strEq (bs []) (bs [])))=true
  rw [strEq_self,eqI_self,eqI_self]
  have:ltI n 0=false:=decide_eq_false (by omega)
  rw [this]; rfl
mutual
def litT:Tr api_Atom→Tr api_Op
 | .nd a l=>.nd (litA a) (litTs l)
def litTs:List (Tr api_Atom)→List (Tr api_Op)
 | []=>[]
 | t :: l=>litT t :: litTs l
end
mutual
theorem litT_post:∀t:Tr api_Atom,(litT t).post=t.post.map litA
 | .nd a l=>by simp only [litT,Tr.post,List.map_append,litTs_posts l]; rfl
theorem litTs_posts:∀l:List (Tr api_Atom),Tr.posts (litTs l)=(Tr.posts l).map litA
 | []=>rfl
 | t :: l=>by simp only [litTs,Tr.posts,List.map_append,litT_post t,litTs_posts l]
end
mutual
theorem litT_deep:∀t:Tr api_Atom,(litT t).deep=t.deep
 | .nd a l=>by simp only [litT,Tr.deep,litTs_deeps l]
theorem litTs_deeps:∀l:List (Tr api_Atom),Tr.deeps (litTs l)=Tr.deeps l
 | []=>rfl
 | t :: l=>by simp only [litTs,Tr.deeps,litT_deep t,litTs_deeps l]
end
theorem litTs_length:∀l:List (Tr api_Atom),(litTs l).length=l.length
 | []=>rfl
 | t :: l=>by simp only [litTs,List.length_cons,litTs_length l]
mutual
theorem litT_good:∀t:Tr api_Atom,t.good atomB (·.gN)→(litT t).good opB (·.gN)
 | .nd a l,h=>by
  simp only [Tr.good] at h
  simp only [litT,Tr.good]
  exact ⟨⟨(lit_ok h.1.1).1,by rw [litTs_length]; exact h.1.2⟩,litTs_goods l h.2⟩
theorem litTs_goods:∀l:List (Tr api_Atom),Tr.goods atomB (·.gN) l→Tr.goods opB (·.gN) (litTs l)
 | [],_=>trivial
 | t :: l,h=>by
  simp only [Tr.goods] at h
  simp only [litTs,Tr.goods]
  exact ⟨litT_good t h.1,litTs_goods l h.2⟩
end
mutual
theorem litT_bnd:∀(t:Tr api_Atom) (loc:List ByteArray),t.good atomB (·.gN)→bndB loc (litT t)=true
 | .nd a l,loc,h=>by
  simp only [Tr.good] at h
  have hk:=(lit_ok h.1.1).2.2
  rw [litT,bndB,Bool.and_eq_true]
  refine ⟨?_,litTs_bnd l loc (litA a) 0 (eqI_f.2 (by omega)) h.2⟩
  rw [eqI_f.2 (show (litA a).gKind ≠ 4 by omega)]; rfl
theorem litTs_bnd:∀(l:List (Tr api_Atom)) (loc:List ByteArray) (a:api_Op) (i:Nat),eqI a.gKind 19=false→Tr.goods atomB (·.gN) l→bndsB loc a i (litTs l)=true
 | [],_,_,_,_,_=>rfl
 | t :: l,loc,a,i,ha,h=>by
  simp only [Tr.goods] at h
  rw [litTs,bndsB,Bool.and_eq_true]
  refine ⟨?_,litTs_bnd l loc a (i+1) ha h.2⟩
  rw [if_neg (by rw [ha]; exact Bool.false_ne_true)]
  exact litT_bnd t loc h.1
end
theorem lit_expr {v:ValL} (h:valE v=0):exprE (v.map litA)=if 256<v.length then 3 else 0:=by
 have hv:valOk v=true∧v.length≤1024:=by
  unfold valE at h
  split at h
  ·cases h
  ·split at h
   ·exact ⟨by assumption,by omega⟩
   ·cases h
 obtain ⟨t,rfl,ht⟩:=valOk_tree hv.1 hv.2
 unfold exprE
 rw [List.length_map]
 by_cases hl:256<t.post.length
 ·rw [if_pos hl,if_pos hl]
 ·rw [if_neg hl,if_neg hl,←litT_post]
  have e:exprT (litT t).post=some [litT t]:=Tr.read_post (st:=[]) (litT_good t ht.good)
  rw [e]
  dsimp only
  rw [if_pos (litT_bnd t [] ht.good),restE,if_neg,if_neg]
  ·have hd:=ht.deep
   rw [litT_deep]
   intro hc
   have hc:=of_decide_eq_true hc
   omega
  ·intro hc
   rw [List.any_eq_true] at hc
   obtain ⟨o,ho,hc⟩:=hc
   rw [litT_post,List.mem_map] at ho
   obtain ⟨a,ha,rfl⟩:=ho
   have h1:=(lit_ok (good_all ht.good a ha)).2.1
   have hc:=of_decide_eq_true hc
   simp only [intN,strLen] at hc
   omega
def isLit (o:api_Op):Bool:=(eqI o.gKind 1 || eqI o.gKind 2) || eqI o.gKind 5
def litB (x:List api_Op):Bool:=x.all isLit
theorem isLit_iff {o:api_Op}:isLit o=true↔o.gKind=1∨o.gKind=2∨o.gKind=5:=by
 unfold isLit
 rw [Bool.or_eq_true,Bool.or_eq_true,eqI_t,eqI_t,eqI_t,or_assoc]
def unA (o:api_Op):api_Atom:=if o.gKind=1 then ⟨1,0,o.gInt,bs []⟩ else if o.gKind=2 then ⟨2,0,0,o.gText⟩ else ⟨3,o.gN,0,bs []⟩
theorem un_ok {o:api_Op} (h:opB o=true) (hl:isLit o=true) (ht:o.gText.size≤4096):atomB (unA o)=true∧litA (unA o)=o∧(unA o).gN=o.gN:=by
 obtain ⟨k,n,i,t⟩:=o
 rcases isLit_iff.1 hl with h1|h1|h1 <;> dsimp only at h1 ht <;> subst h1
 ·have e:opB ⟨1,n,i,t⟩=(notB (ltI 0 0 || notB (eqI 0 n)) && ((leI (Int.negSucc 9007199254740991) i && leI i 9007199254740992) && strEq t (bs []))):=rfl
  rw [e,Bool.and_eq_true,Bool.and_eq_true,Bool.and_eq_true,notB_t,Bool.or_eq_false_iff,notB_f,eqI_t,strEq_iff'] at h
  obtain ⟨⟨_,rfl⟩,⟨h2,h3⟩,rfl⟩:=h
  refine ⟨?_,rfl,rfl⟩
  show (((eqI 0 0 && strEq (bs []) (bs [])) && leI (-9007199254740992) i) && leI i 9007199254740992)=true
  have h2:leI (-9007199254740992) i=true:=h2
  rw [h2,h3,strEq_self]; rfl
 ·have e:opB ⟨2,n,i,t⟩=(notB (ltI 0 0 || notB (eqI 0 n)) && eqI i 0):=rfl
  rw [e,Bool.and_eq_true,notB_t,Bool.or_eq_false_iff,notB_f,eqI_t,eqI_t] at h
  obtain ⟨⟨_,rfl⟩,rfl⟩:=h
  refine ⟨?_,rfl,rfl⟩
  show ((eqI 0 0 && eqI 0 0) && leI (intN (strLen t)) 4096)=true
  have:leI (intN (strLen t)) 4096=true:=decide_eq_true (by simp only [intN,strLen]; omega)
  rw [this]; rfl
 ·have e:opB ⟨5,n,i,t⟩=(notB (ltI n 0 || notB (eqI n n)) && (eqI i 0 && strEq t (bs []))):=rfl
  rw [e,Bool.and_eq_true,Bool.and_eq_true,notB_t,Bool.or_eq_false_iff,strEq_iff'] at h
  obtain ⟨⟨h2,_⟩,hi,rfl⟩:=h
  have hi:=eqI_t.1 hi
  subst hi
  have h2:=of_decide_eq_false h2
  refine ⟨?_,rfl,rfl⟩
  show ((leI 0 n && eqI 0 0) && strEq (bs []) (bs []))=true
  have:leI 0 n=true:=decide_eq_true (by omega)
  rw [this,strEq_self]; rfl
structure ExT (t:Tr api_Op):Prop where
 good:t.good opB (·.gN)
 text:∀o∈t.post,o.gText.size≤4096
 deep:t.deep≤32
 size:t.size≤256
theorem mem_posts {α:Type} {l:List (Tr α)} {k:Tr α} (hk:k∈l) {x:α} (hx:x∈k.post):x∈Tr.posts l:=by
 induction l with
 | nil=>cases hk
 | cons t l ih=>
  rw [Tr.posts,List.mem_append]
  rcases List.mem_cons.1 hk with rfl|hk
  ·exact .inl hx
  ·exact .inr (ih hk)
theorem ExT.kid {a:api_Op} {l:List (Tr api_Op)} (h:ExT (.nd a l)) {k:Tr api_Op} (hk:k∈l):ExT k:=by
 have h1:=h.good
 simp only [Tr.good] at h1
 have h2:=Tr.le_deeps hk
 have h3:=Tr.le_sizes hk
 have h4:=h.deep
 have h5:=h.size
 simp only [Tr.deep,Tr.size] at h4 h5
 exact ⟨Tr.goods_mem h1.2 hk,fun o ho=>h.text o (by rw [Tr.post,List.mem_append]; exact .inl (mem_posts hk ho)),by omega,by omega⟩
mutual
def unT:Tr api_Op→Tr api_Atom
 | .nd a l=>.nd (unA a) (unTs l)
def unTs:List (Tr api_Op)→List (Tr api_Atom)
 | []=>[]
 | t :: l=>unT t :: unTs l
end
theorem unTs_map:∀l:List (Tr api_Op),unTs l=l.map unT
 | []=>rfl
 | t :: l=>by simp only [unTs,List.map_cons,unTs_map l]
mutual
theorem unT_post:∀t:Tr api_Op,(unT t).post=t.post.map unA
 | .nd a l=>by simp only [unT,Tr.post,List.map_append,unTs_posts l]; rfl
theorem unTs_posts:∀l:List (Tr api_Op),Tr.posts (unTs l)=(Tr.posts l).map unA
 | []=>rfl
 | t :: l=>by simp only [unTs,Tr.posts,List.map_append,unT_post t,unTs_posts l]
end
mutual
theorem unT_deep:∀t:Tr api_Op,(unT t).deep=t.deep
 | .nd a l=>by simp only [unT,Tr.deep,unTs_deeps l]
theorem unTs_deeps:∀l:List (Tr api_Op),Tr.deeps (unTs l)=Tr.deeps l
 | []=>rfl
 | t :: l=>by simp only [unTs,Tr.deeps,unT_deep t,unTs_deeps l]
end
theorem unT_size (t:Tr api_Op):(unT t).size=t.size:=by rw [←Tr.post_length,unT_post,List.length_map,Tr.post_length]
theorem unTs_length:∀l:List (Tr api_Op),(unTs l).length=l.length
 | []=>rfl
 | t :: l=>by simp only [unTs,List.length_cons,unTs_length l]
mutual
theorem lit_un:∀t:Tr api_Op,t.good opB (·.gN)→(∀o∈t.post,o.gText.size≤4096)→litB t.post=true→litT (unT t)=t∧(unT t).good atomB (·.gN)
 | .nd a l,hg,ht,hl=>by
  simp only [Tr.good] at hg
  rw [litB,List.all_eq_true] at hl
  have ha:a∈(Tr.nd a l).post:=by rw [Tr.post,List.mem_append]; exact .inr (List.mem_singleton.2 rfl)
  have hp:∀o∈Tr.posts l,o∈(Tr.nd a l).post:=fun o ho=>by rw [Tr.post,List.mem_append]; exact .inl ho
  obtain ⟨h1,h2,h3⟩:=un_ok hg.1.1 (hl a ha) (ht a ha)
  obtain ⟨k1,k2⟩:=lits_un l hg.2 (fun o ho=>ht o (hp o ho)) (by rw [litB,List.all_eq_true]; exact fun o ho=>hl o (hp o ho))
  simp only [unT,litT,Tr.good,h2,k1,h3,unTs_length]
  exact ⟨trivial,⟨h1,hg.1.2⟩,k2⟩
theorem lits_un:∀l:List (Tr api_Op),Tr.goods opB (·.gN) l→(∀o∈Tr.posts l,o.gText.size≤4096)→litB (Tr.posts l)=true→litTs (unTs l)=l∧Tr.goods atomB (·.gN) (unTs l)
 | [],_,_,_=>⟨rfl,trivial⟩
 | t :: l,hg,ht,hl=>by
  simp only [Tr.goods] at hg
  rw [litB,List.all_eq_true] at hl
  simp only [Tr.posts,List.mem_append] at ht hl
  obtain ⟨h1,h2⟩:=lit_un t hg.1 (fun o ho=>ht o (.inl ho)) (by rw [litB,List.all_eq_true]; exact fun o ho=>hl o (.inl ho))
  obtain ⟨k1,k2⟩:=lits_un l hg.2 (fun o ho=>ht o (.inr ho)) (by rw [litB,List.all_eq_true]; exact fun o ho=>hl o (.inr ho))
  simp only [unTs,litTs,Tr.goods,h1,k1]
  exact ⟨trivial,h2,k2⟩
end
theorem ExT.val {t:Tr api_Op} (h:ExT t) (hl:litB t.post=true):ValTr (unT t):=
 ⟨(lit_un t h.good h.text hl).2,by rw [unT_deep]; exact h.deep,by rw [unT_size]; have:=h.size; omega⟩
theorem ExT.back {t:Tr api_Op} (h:ExT t) (hl:litB t.post=true):litT (unT t)=t:=(lit_un t h.good h.text hl).1
theorem litT_size (t:Tr api_Atom):(litT t).size=t.size:=by rw [←Tr.post_length,litT_post,List.length_map,Tr.post_length]
theorem litT_ex {t:Tr api_Atom} (h:ValTr t) (hs:t.size≤256):ExT (litT t)∧litB (litT t).post=true:=by
 refine ⟨⟨litT_good t h.good,fun o ho=>?_,by rw [litT_deep]; exact h.deep,by rw [litT_size]; exact hs⟩,?_⟩
 ·rw [litT_post,List.mem_map] at ho
  obtain ⟨a,ha,rfl⟩:=ho
  exact (lit_ok (good_all h.good a ha)).2.1
 ·rw [litB,List.all_eq_true]
  intro o ho
  rw [litT_post,List.mem_map] at ho
  obtain ⟨a,ha,rfl⟩:=ho
  exact isLit_iff.2 (lit_ok (good_all h.good a ha)).2.2
theorem litB_kids {a:api_Op} {l:List (Tr api_Op)} (h:litB (Tr.nd a l).post=true):isLit a=true∧∀k∈l,litB k.post=true:=by
 rw [litB,List.all_eq_true] at h
 refine ⟨h a (by rw [Tr.post,List.mem_append]; exact .inr (List.mem_singleton.2 rfl)),fun k hk=>?_⟩
 rw [litB,List.all_eq_true]
 exact fun o ho=>h o (by rw [Tr.post,List.mem_append]; exact .inl (mem_posts hk ho))
theorem flat_posts:∀ts:List (Tr api_Atom),(ts.map Tr.post).flatten=Tr.posts ts
 | []=>rfl
 | t :: ts=>by simp only [List.map_cons,List.flatten_cons,Tr.posts,flat_posts ts]
theorem madeV_tree {ts:List (Tr api_Atom)} (h:ValTr (.nd ⟨3,(ts.length:Int),0,bs []⟩ ts)):madeV (ts.map Tr.post)=some (Tr.nd ⟨3,(ts.length:Int),0,bs []⟩ ts).post:=by
 have hs:=h.size
 simp only [Tr.size] at hs
 unfold madeV
 rw [flat_posts,List.length_map,Tr.posts_length,if_neg (by omega)]
 have e:Tr.posts ts ++ [⟨3,(ts.length:Int),0,bs []⟩]=(Tr.nd ⟨3,(ts.length:Int),0,bs []⟩ ts).post:=rfl
 rw [e,if_pos (valE_tree h)]
theorem doV_list {ts:List (Tr api_Atom)} (h:ValTr (.nd ⟨3,(ts.length:Int),0,bs []⟩ ts)):doV 5 (ts.map Tr.post)=some (Tr.nd ⟨3,(ts.length:Int),0,bs []⟩ ts).post:=by
 have hs:=h.size
 simp only [Tr.size] at hs
 have hl:=Tr.length_le_sizes ts
 have hf:firstE (ts.map Tr.post)=0:=firstE_zero.2 fun v hv=>by
  obtain ⟨t,ht,rfl⟩:=List.mem_map.1 hv
  exact valE_tree (h.kid ht)
 unfold doV
 have e2:(leI 0 (cntV 5) && notB (eqI ((ts.map Tr.post).length:Int) (cntV 5)))=false:=rfl
 rw [List.length_map] at e2
 rw [List.length_map,if_neg (by omega),e2,if_neg Bool.false_ne_true,if_neg (by omega)]
 exact madeV_tree h
section
variable {E:Env} (hd:E.done=doneF)
include hd
mutual
theorem ev_lit:∀(t:Tr api_Op) (loc:Loc') (s:Sta),ExT t→litB t.post=true→ev E t loc s=(comesO (unT t).post,s)
 | .nd o l,loc,s,hx,hl=>by
  have hv:=hx.val hl
  obtain ⟨ho,hk⟩:=litB_kids hl
  have hg:=hx.good
  simp only [Tr.good] at hg
  rcases isLit_iff.1 ho with h1|h1|h1
  ·rw [ev_1 h1]
   have e:=hg.1.2
   have h0:=(opB_ar hg.1.1).1
   have h0':arN o=0:=by unfold arN; rw [if_pos (by omega)]
   have hll:l=[]:=List.eq_nil_of_length_eq_zero (by omega)
   subst hll
   have e2:(unT (.nd o [])).post=[unA o]:=rfl
   rw [e2,unA,if_pos h1]; rfl
  ·rw [ev_2 h1]
   have e:=hg.1.2
   have h0:=(opB_ar hg.1.1).1
   have h0':arN o=0:=by unfold arN; rw [if_pos (by omega)]
   have hll:l=[]:=List.eq_nil_of_length_eq_zero (by omega)
   subst hll
   have e2:(unT (.nd o [])).post=[unA o]:=rfl
   rw [e2,unA,if_neg (by omega),if_pos h1]
  ·rw [ev_r (by omega),evl_lit l [] o.gKind loc s (fun k hk'=>⟨hx.kid hk',hk k hk'⟩),h1,hd,List.nil_append]
   have ea:unA o=⟨3,((unTs l).length:Int),0,bs []⟩:=by
    rw [unTs_length,←hg.1.2,unA,if_neg (by omega),if_neg (by omega)]
   rw [unT,ea] at hv
   have:=doV_list hv
   rw [unTs_map,List.map_map] at this
   unfold doneF
   have e3:(l.map fun t=>(unT t).post)=l.map (Tr.post∘unT):=rfl
   rw [e3,this,unT,ea,unTs_map]; rfl
theorem evl_lit:∀(l:List (Tr api_Op)) (args:List Val) (k:Int) (loc:Loc') (s:Sta),(∀t∈l,ExT t∧litB t.post=true)→evl E l args k loc s=(E.done k (args ++ l.map fun t=>(unT t).post),s)
 | [],args,k,loc,s,_=>by rw [evl,List.map_nil,List.append_nil]
 | t :: l,args,k,loc,s,h=>by
  have h1:=h t (List.mem_cons_self ..)
  rw [evl,ev_lit t loc s h1.1 h1.2,if_pos (show (comesO (unT t).post).gKind=1 from rfl)]
  rw [evl_lit l _ k loc s fun t ht=>h t (List.mem_cons_of_mem _ ht),List.map_cons,List.append_assoc]; rfl
end
end
def treeV (v:ValL):Tr api_Atom:=match valT v with
 | some [t]=>t
 | _=>.nd ⟨0,0,0,bs []⟩ []
theorem treeV_post {t:Tr api_Atom} (h:ValTr t):treeV t.post=t:=by unfold treeV; rw [h.read]
theorem treeV_ok {v:ValL} (h:valE v=0):(treeV v).post=v∧ValTr (treeV v):=by
 have hv:valOk v=true∧v.length≤1024:=by
  unfold valE at h
  split at h
  ·cases h
  ·split at h
   ·exact ⟨by assumption,by omega⟩
   ·cases h
 obtain ⟨t,rfl,ht⟩:=valOk_tree hv.1 hv.2
 rw [treeV_post ht]; exact ⟨rfl,ht⟩
mutual
def usesB (n:ByteArray):Tr api_Op→Bool
 | .nd o l=>if o.gKind=4 then strEq o.gText n else usesBs n o 0 l
def usesBs (n:ByteArray) (o:api_Op) (i:Nat):List (Tr api_Op)→Bool
 | []=>false
 | t :: l=>(if o.gKind=19∧i=1∧o.gText=n then false else usesB n t) || usesBs n o (i+1) l
end
def litsB (l:List (Tr api_Op)):Bool:=l.all fun t=>litB t.post
def foldOp (o:api_Op) (l:List (Tr api_Op)):Tr api_Op:=
 if o.gKind=14 then match l with
  | c :: a :: b :: _=>if litB c.post=true∧(lastA (unT c).post).gKind=1 then (if (lastA (unT c).post).gInt ≠ 0 then a else b) else .nd o l
  | _=>.nd o l
 else if o.gKind=15 then match l with
  | c :: _=>if litB c.post=true then c else .nd o l
  | _=>.nd o l
 else if o.gKind=19 then match l with
  | c :: a :: _=>if litB c.post=true∧usesB o.gText a=false then a else .nd o l
  | _=>.nd o l
 else if 5≤o.gKind∧o.gKind≤13 then
  if litsB l=true then match doV o.gKind (l.map fun t=>(unT t).post) with
   | some v=>if v.length≤Tr.sizes l+1 then litT (treeV v) else .nd o l
   | none=>.nd o l
  else .nd o l
 else .nd o l
mutual
def foldT:Tr api_Op→Tr api_Op
 | .nd o l=>foldOp o (foldTs l)
def foldTs:List (Tr api_Op)→List (Tr api_Op)
 | []=>[]
 | t :: l=>foldT t :: foldTs l
end
theorem foldTs_length:∀l:List (Tr api_Op),(foldTs l).length=l.length
 | []=>rfl
 | t :: l=>by simp only [foldTs,List.length_cons,foldTs_length l]
theorem foldOp_cases (o:api_Op) (l:List (Tr api_Op)):foldOp o l=.nd o l∨(∃k∈l,foldOp o l=k∧(o.gKind=14∨o.gKind=15∨o.gKind=19))∨
  (∃v,foldOp o l=litT (treeV v)∧litsB l=true∧5≤o.gKind∧o.gKind≤13∧doV o.gKind (l.map fun t=>(unT t).post)=some v∧v.length≤Tr.sizes l+1):=by
 unfold foldOp
 by_cases h1:o.gKind=14
 ·rw [if_pos h1]
  split
  ·split
   ·split
    ·exact .inr (.inl ⟨_,by simp,rfl,by omega⟩)
    ·exact .inr (.inl ⟨_,by simp,rfl,by omega⟩)
   ·exact .inl rfl
  ·exact .inl rfl
 rw [if_neg h1]
 by_cases h2:o.gKind=15
 ·rw [if_pos h2]
  split
  ·split
   ·exact .inr (.inl ⟨_,by simp,rfl,by omega⟩)
   ·exact .inl rfl
  ·exact .inl rfl
 rw [if_neg h2]
 by_cases h3:o.gKind=19
 ·rw [if_pos h3]
  split
  ·split
   ·exact .inr (.inl ⟨_,by simp,rfl,by omega⟩)
   ·exact .inl rfl
  ·exact .inl rfl
 rw [if_neg h3]
 by_cases h4:5≤o.gKind∧o.gKind≤13
 ·rw [if_pos h4]
  by_cases h5:litsB l=true
  ·rw [if_pos h5]
   cases hd:doV o.gKind (l.map fun t=>(unT t).post) with
   | none=>exact .inl rfl
   | some v=>
    dsimp only
    by_cases h6:v.length≤Tr.sizes l+1
    ·rw [if_pos h6]; exact .inr (.inr ⟨v,rfl,h5,h4.1,h4.2,rfl,h6⟩)
    ·rw [if_neg h6]; exact .inl rfl
  ·rw [if_neg h5]; exact .inl rfl
 ·rw [if_neg h4]; exact .inl rfl
theorem deep_one {v:ValL} (h:valE v=0) (hl:v.length=1):(treeV v).deep≤1:=by
 obtain ⟨h1,h2⟩:=treeV_ok h
 have:=Tr.deep_le_size (treeV v)
 rw [←Tr.post_length,h1,hl] at this
 exact this
theorem numV_len {n:Int} {v:ValL} (h:numV n=some v):v.length=1:=by
 unfold numV at h
 split at h
 ·cases h
 ·cases h; rfl
theorem madeV_deep {us:List (Tr api_Atom)} (hu:∀t∈us,ValTr t) {v:ValL} (h:madeV (us.map Tr.post)=some v):(treeV v).deep≤Tr.deeps us+1:=by
 unfold madeV at h
 split at h
 ·cases h
 split at h
 ·cases h
  rw [flat_posts,List.length_map]
  have hg:(Tr.nd ⟨3,(us.length:Int),0,bs []⟩ us).good atomB (·.gN):=by
   simp only [Tr.good]
   refine ⟨⟨?_,trivial⟩,goods_of fun t ht=>(hu t ht).good⟩
   show ((leI 0 (us.length:Int) && eqI 0 0) && strEq (bs []) (bs []))=true
   have:leI 0 (us.length:Int)=true:=decide_eq_true (by omega)
   rw [this,strEq_self]; rfl
  have e:Tr.posts us ++ [⟨3,(us.length:Int),0,bs []⟩]=(Tr.nd ⟨3,(us.length:Int),0,bs []⟩ us).post:=rfl
  have hr:valT (Tr.nd ⟨3,(us.length:Int),0,bs []⟩ us).post=some [Tr.nd ⟨3,(us.length:Int),0,bs []⟩ us]:=Tr.read_post (st:=[]) hg
  rw [e]
  unfold treeV
  rw [hr]
  simp only [Tr.deep]; omega
 ·cases h
where
 goods_of:∀{us:List (Tr api_Atom)},(∀t∈us,t.good atomB (·.gN))→Tr.goods atomB (·.gN) us
  | [],_=>trivial
  | t :: us,h=>⟨h t (List.mem_cons_self ..),goods_of fun t ht=>h t (List.mem_cons_of_mem _ ht)⟩
theorem doV_opV {k:Int} {L:List ValL} {v:ValL} (h:doV k L=some v):opV k L=some v∧(0≤cntV k→(L.length:Int)=cntV k):=by
 unfold doV at h
 split at h
 ·cases h
 split at h
 ·cases h
 rename_i h1 h2
 split at h
 ·cases h
 refine ⟨h,fun h0=>?_⟩
 cases hb:notB (eqI (L.length:Int) (cntV k)) with
 | true=>
  have:leI 0 (cntV k)=true:=decide_eq_true h0
  rw [hb,this] at h2; exact absurd rfl h2
 | false=>exact eqI_t.1 (notB_f.1 hb)
theorem doV_deep {k:Int} {ts:List (Tr api_Atom)} (ht:∀t∈ts,ValTr t) {v:ValL} (h:doV k (ts.map Tr.post)=some v):(treeV v).deep≤Tr.deeps ts+1:=by
 have hv:=doV_ok h
 obtain ⟨h,hn⟩:=doV_opV h
 rw [List.length_map] at hn
 have two:∀{k':Int},k=k'→k' ≠ 5→k' ≠ 11→ts.length=2:=fun e h5 h11=>by
  have e2:cntV k=2:=by unfold cntV; rw [if_neg (by omega),if_neg (by omega)]
  have:=hn (by omega); omega
 have one:∀{n:Int},numV n=some v→(treeV v).deep≤Tr.deeps ts+1:=fun h=>by
  have:=deep_one hv (numV_len h); omega
 have at':∀{i:Nat} (hi:i<ts.length),rd [] (ts.map Tr.post) (i:Int)=ts[i].post:=fun hi=>by
  rw [rd_at (by rw [List.length_map]; exact hi),List.getElem_map]
 unfold opV at h
 split at h
 ·exact madeV_deep ht h
 split at h
 ·split at h
  ·exact one h
  ·cases h
 split at h
 ·split at h
  ·exact one h
  ·cases h
 split at h
 ·split at h
  ·exact one h
  ·cases h
 split at h
 ·rename_i hk
  have h2:=two hk (by decide) (by decide)
  unfold joinV at h
  split at h
  ·cases h
  ·split at h
   ·split at h
    ·cases h
    ·cases h; have:=deep_one hv rfl; omega
   ·have e0:rd [] (ts.map Tr.post) 0=ts[0].post:=at' (i:=0) (by omega)
    have e1:rd [] (ts.map Tr.post) 1=ts[1].post:=at' (i:=1) (by omega)
    rw [e0,e1] at h
    have v0:=ht _ (List.getElem_mem (show 0<ts.length by omega))
    have v1:=ht _ (List.getElem_mem (show 1<ts.length by omega))
    have d0:=Tr.le_deeps (List.getElem_mem (show 0<ts.length by omega))
    have d1:=Tr.le_deeps (List.getElem_mem (show 1<ts.length by omega))
    generalize ts[0]=t0 at h v0 d0
    generalize ts[1]=t1 at h v1 d1
    obtain ⟨a,l⟩:=t0
    obtain ⟨b,m⟩:=t1
    rw [memV_post v0,memV_post v1,←List.map_append] at h
    have:=madeV_deep (us:=l ++ m) (fun t ht=>by
     rcases List.mem_append.1 ht with ht|ht
     ·exact v0.kid ht
     ·exact v1.kid ht) h
    rw [Tr.deeps_append] at this
    simp only [Tr.deep] at d0 d1
    omega
 split at h
 ·rename_i hk
  have h2:=two hk (by decide) (by decide)
  unfold itemV at h
  split at h
  ·cases h
  ·have e0:rd [] (ts.map Tr.post) 0=ts[0].post:=at' (i:=0) (by omega)
   rw [e0] at h
   have v0:=ht _ (List.getElem_mem (show 0<ts.length by omega))
   have d0:=Tr.le_deeps (List.getElem_mem (show 0<ts.length by omega))
   generalize ts[0]=t0 at h v0 d0
   obtain ⟨a,l⟩:=t0
   rw [memV_post v0,List.getElem?_map,Option.map_eq_some_iff] at h
   obtain ⟨t,hm,rfl⟩:=h
   have hm:=List.mem_of_getElem? hm
   rw [treeV_post (v0.kid hm)]
   have:=Tr.le_deeps hm
   simp only [Tr.deep] at d0
   omega
 split at h
 ·unfold sizeV at h
  split at h
  ·exact one h
  ·split at h
   ·exact one h
   ·cases h
 split at h
 ·exact one h
 split at h
 ·exact one h
 ·cases h
theorem vals_map (l:List (Tr api_Op)):(l.map fun t=>(unT t).post)=(unTs l).map Tr.post:=by rw [unTs_map,List.map_map]; rfl
theorem litsB_iff {l:List (Tr api_Op)}:litsB l=true↔∀t∈l,litB t.post=true:=by unfold litsB; rw [List.all_eq_true]
theorem goods_of_op:∀{l:List (Tr api_Op)},(∀t∈l,t.good opB (·.gN))→Tr.goods opB (·.gN) l
 | [],_=>trivial
 | t :: l,h=>⟨h t (List.mem_cons_self ..),goods_of_op fun t ht=>h t (List.mem_cons_of_mem _ ht)⟩
theorem posts_mem {α:Type}:∀{l:List (Tr α)} {x:α},x∈Tr.posts l→∃k∈l,x∈k.post
 | t :: l,x,h=>by
  rw [Tr.posts,List.mem_append] at h
  rcases h with h|h
  ·exact ⟨t,List.mem_cons_self ..,h⟩
  ·obtain ⟨k,hk,hx⟩:=posts_mem h
   exact ⟨k,List.mem_cons_of_mem _ hk,hx⟩
theorem foldOp_ex {o:api_Op} {l:List (Tr api_Op)} (ho:opB o=true) (hn:o.gN=(l.length:Int)) (ht:o.gText.size≤4096) (hl:∀k∈l,ExT k) (hs:Tr.sizes l+1≤256) (hd:Tr.deeps l+1≤32):
  ExT (.nd o l)∧ExT (foldOp o l)∧(foldOp o l).size≤Tr.sizes l+1∧(foldOp o l).deep≤Tr.deeps l+1:=by
 have hw:ExT (.nd o l):=by
  refine ⟨by simp only [Tr.good]; exact ⟨⟨ho,hn⟩,goods_of_op fun k hk=>(hl k hk).good⟩,fun x hx=>?_,by simp only [Tr.deep]; omega,by simp only [Tr.size]; omega⟩
  rw [Tr.post,List.mem_append,List.mem_singleton] at hx
  rcases hx with hx|rfl
  ·obtain ⟨k,hk,hx⟩:=posts_mem hx
   exact (hl k hk).text x hx
  ·exact ht
 refine ⟨hw,?_⟩
 rcases foldOp_cases o l with e|⟨k,hk,e,_⟩|⟨v,e,h1,h2,h3,h4,h5⟩
 ·rw [e]; exact ⟨hw,by simp only [Tr.size]; omega,by simp only [Tr.deep]; omega⟩
 ·rw [e]
  have:=Tr.le_sizes hk
  have:=Tr.le_deeps hk
  exact ⟨hl k hk,by omega,by omega⟩
 ·rw [e]
  rw [vals_map] at h4
  have hts:∀t∈unTs l,ValTr t:=fun t ht=>by
   rw [unTs_map,List.mem_map] at ht
   obtain ⟨k,hk,rfl⟩:=ht
   exact (hl k hk).val (litsB_iff.1 h1 k hk)
  obtain ⟨p1,p2⟩:=treeV_ok (doV_ok h4)
  have hdd:=doV_deep hts h4
  rw [unTs_deeps] at hdd
  have hsz:(treeV v).size≤Tr.sizes l+1:=by rw [←Tr.post_length,p1]; exact h5
  refine ⟨(litT_ex p2 (by omega)).1,by rw [litT_size]; exact hsz,by rw [litT_deep]; exact hdd⟩
mutual
theorem foldT_ex:∀t:Tr api_Op,ExT t→ExT (foldT t)∧(foldT t).size≤t.size∧(foldT t).deep≤t.deep
 | .nd o l,h=>by
  have hg:=h.good
  simp only [Tr.good] at hg
  have hs:=h.size
  have hd:=h.deep
  simp only [Tr.size] at hs
  simp only [Tr.deep] at hd
  obtain ⟨k1,k2,k3⟩:=foldTs_ex l fun k hk=>h.kid hk
  have:=foldOp_ex (o:=o) (l:=foldTs l) hg.1.1 (by rw [foldTs_length]; exact hg.1.2) (h.text o (by rw [Tr.post,List.mem_append]; exact .inr (List.mem_singleton.2 rfl))) k1 (by omega) (by omega)
  simp only [foldT,Tr.size,Tr.deep]
  exact ⟨this.2.1,by omega,by omega⟩
theorem foldTs_ex:∀l:List (Tr api_Op),(∀k∈l,ExT k)→(∀k∈foldTs l,ExT k)∧Tr.sizes (foldTs l)≤Tr.sizes l∧Tr.deeps (foldTs l)≤Tr.deeps l
 | [],_=>⟨fun k hk=>(by cases hk),Nat.le_refl _,Nat.le_refl _⟩
 | t :: l,h=>by
  obtain ⟨h1,h2,h3⟩:=foldT_ex t (h t (List.mem_cons_self ..))
  obtain ⟨k1,k2,k3⟩:=foldTs_ex l fun k hk=>h k (List.mem_cons_of_mem _ hk)
  simp only [foldTs,Tr.sizes,Tr.deeps]
  refine ⟨fun k hk=>?_,by omega,by omega⟩
  rcases List.mem_cons.1 hk with rfl|hk
  ·exact h1
  ·exact k1 k hk
end
theorem foldT_op {o:api_Op} {l:List (Tr api_Op)} (h:ExT (.nd o l)):ExT (.nd o (foldTs l))∧∀k∈foldTs l,ExT k:=by
 have hg:=h.good
 simp only [Tr.good] at hg
 have hs:=h.size
 have hd:=h.deep
 simp only [Tr.size] at hs
 simp only [Tr.deep] at hd
 obtain ⟨k1,k2,k3⟩:=foldTs_ex l fun k hk=>h.kid hk
 exact ⟨(foldOp_ex (o:=o) (l:=foldTs l) hg.1.1 (by rw [foldTs_length]; exact hg.1.2) (h.text o (by rw [Tr.post,List.mem_append]; exact .inr (List.mem_singleton.2 rfl))) k1 (by omega) (by omega)).1,k1⟩
mutual
theorem lit_stay:∀t:Tr api_Op,ExT t→litB t.post=true→foldT t=t
 | .nd o l,hx,hl=>by
  obtain ⟨ho,hk⟩:=litB_kids hl
  have hkids:foldTs l=l:=lits_stay l fun k hk'=>⟨hx.kid hk',hk k hk'⟩
  have hv:=hx.val hl
  have hg:=hx.good
  simp only [Tr.good] at hg
  rw [foldT,hkids]
  unfold foldOp
  have h14:=isLit_iff.1 ho
  rw [if_neg (by omega),if_neg (by omega),if_neg (by omega)]
  by_cases h5:5≤o.gKind∧o.gKind≤13
  ·rw [if_pos h5,if_pos (litsB_iff.2 hk)]
   have hk5:o.gKind=5:=by omega
   have ea:unA o=⟨3,((unTs l).length:Int),0,bs []⟩:=by
    rw [unTs_length,←hg.1.2,unA,if_neg (by omega),if_neg (by omega)]
   rw [unT,ea] at hv
   have hd:=doV_list hv
   rw [hk5,vals_map,hd]
   dsimp only
   have hs:(Tr.nd ⟨3,((unTs l).length:Int),0,bs []⟩ (unTs l)).post.length≤Tr.sizes l+1:=by
    have:=unT_size (.nd o l)
    rw [unT,ea] at this
    rw [Tr.post_length,this,Tr.size]; omega
   rw [if_pos hs,treeV_post hv]
   have:=hx.back hl
   rw [unT,ea] at this
   exact this
  ·rw [if_neg h5]
theorem lits_stay:∀l:List (Tr api_Op),(∀t∈l,ExT t∧litB t.post=true)→foldTs l=l
 | [],_=>rfl
 | t :: l,h=>by
  have h1:=h t (List.mem_cons_self ..)
  rw [foldTs,lit_stay t h1.1 h1.2,lits_stay l fun t ht=>h t (List.mem_cons_of_mem _ ht)]
end
mutual
theorem fold_fold:∀t:Tr api_Op,ExT t→foldT (foldT t)=foldT t
 | .nd o l,h=>by
  have hk:=folds_fold l fun k hk=>h.kid hk
  obtain ⟨hw,hks⟩:=foldT_op h
  rw [foldT]
  rcases foldOp_cases o (foldTs l) with e|⟨k,hk',e,_⟩|⟨v,e,h1,h2,h3,h4,h5⟩
  ·rw [e,foldT,hk.1,e]
  ·rw [e]; exact hk.2 k hk'
  ·rw [e]
   obtain ⟨p1,p2⟩:=treeV_ok (doV_ok h4)
   have hs:=hw.size
   simp only [Tr.size] at hs
   obtain ⟨q1,q2⟩:=litT_ex p2 (by rw [←Tr.post_length,p1]; omega)
   exact lit_stay _ q1 q2
theorem folds_fold:∀l:List (Tr api_Op),(∀k∈l,ExT k)→foldTs (foldTs l)=foldTs l∧∀k∈foldTs l,foldT k=k
 | [],_=>⟨rfl,fun k hk=>(by cases hk)⟩
 | t :: l,h=>by
  have h1:=fold_fold t (h t (List.mem_cons_self ..))
  obtain ⟨h2,h3⟩:=folds_fold l fun k hk=>h k (List.mem_cons_of_mem _ hk)
  simp only [foldTs,h1,h2,List.mem_cons]
  exact ⟨trivial,fun k hk=>by
   rcases hk with rfl|hk
   ·exact h1
   ·exact h3 k hk⟩
end
theorem lookL_skip {loc1 loc2:Loc'} {n m:ByteArray} {v:Val} (h:m ≠ n∨n∈loc2.map (·.gName)):lookL (loc1 ++ ⟨n,v⟩ :: loc2) m=lookL (loc1 ++ loc2) m:=by
 unfold lookL
 simp only [List.reverse_append,List.reverse_cons,List.append_assoc,List.find?_append]
 congr 1
 cases hf:loc2.reverse.find? fun x=>strEq x.gName m with
 | some x=>rfl
 | none=>
  have hne:m ≠ n:=by
   rcases h with h|h
   ·exact h
   ·intro e
    rw [List.find?_eq_none] at hf
    obtain ⟨x,hx,hxn⟩:=List.mem_map.1 h
    exact hf x (List.mem_reverse.2 hx) (strEq_iff'.2 (by rw [e]; exact hxn))
  have:strEq n m=false:=by
   cases hb:strEq n m with
   | false=>rfl
   | true=>exact absurd (strEq_iff'.1 hb).symm hne
  simp only [Option.none_or,List.find?_cons,List.find?_nil,this]
section
variable {E:Env} {n:ByteArray} {v:Val}
mutual
theorem ev_skip:∀(t:Tr api_Op) (loc1 loc2:Loc') (s:Sta),(usesB n t=false∨n∈loc2.map (·.gName))→ev E t (loc1 ++ ⟨n,v⟩ :: loc2) s=ev E t (loc1 ++ loc2) s
 | .nd o l,loc1,loc2,s,h=>by
  by_cases c4:o.gKind=4
  ·rw [ev_4 c4,ev_4 c4,lookL_skip]
   rcases h with h|h
   ·rw [usesB,if_pos c4] at h
    exact .inl fun e=>by rw [strEq_iff'.2 e] at h; cases h
   ·exact .inr h
  have hs:usesBs n o 0 l=false∨n∈loc2.map (·.gName):=by
   rcases h with h|h
   ·rw [usesB,if_neg c4] at h; exact .inl h
   ·exact .inr h
  have h1:=fun j loc' s' hj=>evn_skip l o 0 j loc1 loc2 loc' s' hs hj
  have h0:=fun s'=>h1 0 [] s' (.inl ⟨rfl,by omega⟩)
  simp only [List.append_nil] at h0
  by_cases c1:o.gKind=1
  ·rw [ev_1 c1,ev_1 c1]
  by_cases c2:o.gKind=2
  ·rw [ev_2 c2,ev_2 c2]
  by_cases c3:o.gKind=3
  ·rw [ev_3 c3,ev_3 c3]
  by_cases c5:o.gKind=18
  ·rw [ev_18 c5,ev_18 c5,h0]
  by_cases c6:o.gKind=15
  ·have h2:=fun s'=>h1 1 [] s' (.inl ⟨rfl,by omega⟩)
   simp only [List.append_nil] at h2
   rw [ev_15 c6,ev_15 c6,h0]
   unfold goTry
   rw [h2]
  by_cases c7:o.gKind=14∨o.gKind=19∨o.gKind=16∨o.gKind=17
  ·rw [ev_g c7,ev_g c7,h0]
   unfold goOn
   by_cases c19:o.gKind=19
   ·have h2:=fun w s'=>h1 1 [⟨o.gText,w⟩] s' (.inr ⟨c19,rfl,by simp⟩)
    simp only [List.append_assoc,List.cons_append] at h2 ⊢
    rw [if_pos c19,if_pos c19]
    simp only [h2]
   ·have h2:=fun s'=>h1 1 [] s' (.inl ⟨rfl,by omega⟩)
    have h3:=fun s'=>h1 2 [] s' (.inl ⟨rfl,by omega⟩)
    simp only [List.append_nil] at h2 h3
    rw [if_neg c19,if_neg c19]
    simp only [h2,h3]
  ·rw [ev_r (by omega),ev_r (by omega)]
   exact evl_skip l o 0 [] o.gKind loc1 loc2 s hs (by omega)
theorem evn_skip:∀(l:List (Tr api_Op)) (o:api_Op) (i j:Nat) (loc1 loc2 loc':Loc') (s:Sta),(usesBs n o i l=false∨n∈loc2.map (·.gName))→(loc'=[]∧(o.gKind ≠ 19∨i+j ≠ 1)∨o.gKind=19∧i+j=1∧loc'.map (·.gName)=[o.gText])→evn E l j (loc1 ++ ⟨n,v⟩ :: (loc2 ++ loc')) s=evn E l j (loc1 ++ (loc2 ++ loc')) s
 | [],_,_,_,_,_,_,s,_,_=>by rw [evn,evn]
 | t :: l,o,i,0,loc1,loc2,loc',s,h,hj=>by
  rw [evn,evn]
  refine ev_skip t loc1 (loc2 ++ loc') s ?_
  rcases h with h|h
  ·rw [usesBs,Bool.or_eq_false_iff] at h
   have h:=h.1
   rcases hj with ⟨rfl,hj⟩|⟨h19,hi,hl⟩
   ·rw [if_neg (by omega)] at h; exact .inl h
   ·by_cases hn:o.gText=n
    ·right; rw [List.map_append,hl,hn]; simp
    ·rw [if_neg (fun h=>hn h.2.2)] at h; exact .inl h
  ·right; rw [List.map_append]; exact List.mem_append.2 (.inl h)
 | t :: l,o,i,j+1,loc1,loc2,loc',s,h,hj=>by
  rw [evn,evn]
  have e:i+(j+1)=i+1+j:=by omega
  rw [e] at hj
  refine evn_skip l o (i+1) j loc1 loc2 loc' s ?_ hj
  rcases h with h|h
  ·rw [usesBs,Bool.or_eq_false_iff] at h; exact .inl h.2
  ·exact .inr h
theorem evl_skip:∀(l:List (Tr api_Op)) (o:api_Op) (i:Nat) (args:List Val) (k:Int) (loc1 loc2:Loc') (s:Sta),(usesBs n o i l=false∨n∈loc2.map (·.gName))→o.gKind ≠ 19→evl E l args k (loc1 ++ ⟨n,v⟩ :: loc2) s=evl E l args k (loc1 ++ loc2) s
 | [],_,_,args,k,_,_,s,_,_=>by rw [evl,evl]
 | t :: l,o,i,args,k,loc1,loc2,s,h,h19=>by
  have h':usesB n t=false∨n∈loc2.map (·.gName):=by
   rcases h with h|h
   ·rw [usesBs,Bool.or_eq_false_iff,if_neg (by omega)] at h; exact .inl h.1
   ·exact .inr h
  have h2:usesBs n o (i+1) l=false∨n∈loc2.map (·.gName):=by
   rcases h with h|h
   ·rw [usesBs,Bool.or_eq_false_iff] at h; exact .inl h.2
   ·exact .inr h
  rw [evl,evl,ev_skip t loc1 loc2 s h']
  by_cases hb:(ev E t (loc1 ++ loc2) s).1.gKind=1
  ·rw [if_pos hb,if_pos hb]; exact evl_skip l o (i+1) _ k loc1 loc2 _ h2 h19
  ·rw [if_neg hb,if_neg hb]
end
end
theorem in_skip {loc1 loc2:List ByteArray} {n m:ByteArray} (h:m ≠ n∨n∈loc2) (hi:inB' (loc1 ++ n :: loc2) m=true):inB' (loc1 ++ loc2) m=true:=by
 unfold inB' at hi ⊢
 rw [List.any_append,List.any_cons,Bool.or_eq_true,Bool.or_eq_true] at hi
 rw [List.any_append,Bool.or_eq_true]
 rcases hi with hi|hi|hi
 ·exact .inl hi
 ·have e:=strEq_iff'.1 hi
  rcases h with h|h
  ·exact absurd e.symm h
  ·right; rw [List.any_eq_true]; exact ⟨n,h,hi⟩
 ·exact .inr hi
section
variable {n:ByteArray}
mutual
theorem bnd_skip:∀(t:Tr api_Op) (loc1 loc2:List ByteArray),t.good opB (·.gN)→(usesB n t=false∨n∈loc2)→bndB (loc1 ++ n :: loc2) t=true→bndB (loc1 ++ loc2) t=true
 | .nd o l,loc1,loc2,hg,h,hb=>by
  simp only [Tr.good] at hg
  rw [bndB,Bool.and_eq_true,Bool.or_eq_true] at hb ⊢
  by_cases c4:o.gKind=4
  ·have h0:=(opB_ar hg.1.1).1
   have h0':arN o=0:=by unfold arN; rw [if_pos (by omega)]
   have hn:=hg.1.2
   have hll:l=[]:=List.eq_nil_of_length_eq_zero (by omega)
   subst hll
   refine ⟨?_,rfl⟩
   rcases hb.1 with hb|hb
   ·exact .inl hb
   ·refine .inr (in_skip ?_ hb)
    rcases h with h|h
    ·rw [usesB,if_pos c4] at h
     exact .inl fun e=>by rw [strEq_iff'.2 e] at h; cases h
    ·exact .inr h
  ·refine ⟨.inl (notB_t.2 (eqI_f.2 c4)),bnds_skip l o 0 loc1 loc2 hg.2 ?_ hb.2⟩
   rcases h with h|h
   ·rw [usesB,if_neg c4] at h; exact .inl h
   ·exact .inr h
theorem bnds_skip:∀(l:List (Tr api_Op)) (o:api_Op) (i:Nat) (loc1 loc2:List ByteArray),Tr.goods opB (·.gN) l→(usesBs n o i l=false∨n∈loc2)→bndsB (loc1 ++ n :: loc2) o i l=true→bndsB (loc1 ++ loc2) o i l=true
 | [],_,_,_,_,_,_,_=>rfl
 | t :: l,o,i,loc1,loc2,hg,h,hb=>by
  simp only [Tr.goods] at hg
  rw [bndsB,Bool.and_eq_true] at hb ⊢
  refine ⟨?_,bnds_skip l o (i+1) loc1 loc2 hg.2 (h.imp_left fun h=>by rw [usesBs,Bool.or_eq_false_iff] at h; exact h.2) hb.2⟩
  have hb:=hb.1
  by_cases hc:(eqI o.gKind 19 && eqI (i:Int) 1)=true
  ·rw [if_pos hc] at hb ⊢
   rw [List.append_assoc] at hb ⊢
   refine bnd_skip t loc1 (loc2 ++ [o.gText]) hg.1 ?_ hb
   rcases h with h|h
   ·rw [usesBs,Bool.or_eq_false_iff] at h
    by_cases hn:o.gText=n
    ·right; rw [hn]; simp
    ·have h:=h.1
     rw [if_neg (fun h=>hn h.2.2)] at h; exact .inl h
   ·exact .inr (List.mem_append.2 (.inl h))
  ·rw [if_neg hc] at hb ⊢
   refine bnd_skip t loc1 loc2 hg.1 ?_ hb
   rcases h with h|h
   ·rw [usesBs,Bool.or_eq_false_iff] at h
    have h:=h.1
    rw [if_neg (fun h=>hc (by rw [Bool.and_eq_true]; exact ⟨eqI_t.2 h.1,eqI_t.2 (by omega)⟩))] at h
    exact .inl h
   ·exact .inr h
end
end
theorem bnds_get:∀{l:List (Tr api_Op)} {loc:List ByteArray} {o:api_Op} {i j:Nat} (hj:j<l.length),bndsB loc o i l=true→bndB (if (eqI o.gKind 19 && eqI ((i+j:Nat):Int) 1)=true then loc ++ [o.gText] else loc) l[j]=true
 | t :: l,loc,o,i,0,_,h=>by rw [bndsB,Bool.and_eq_true] at h; exact h.1
 | t :: l,loc,o,i,j+1,hj,h=>by
  rw [bndsB,Bool.and_eq_true] at h
  have:=bnds_get (l:=l) (j:=j) (by simpa using hj) h.2
  have e:i+1+j=i+(j+1):=by omega
  rw [e] at this; exact this
theorem foldOp_bnd {o:api_Op} {l:List (Tr api_Op)} {loc:List ByteArray} (hg:∀k∈l,k.good opB (·.gN)) (h:bndB loc (.nd o l)=true):bndB loc (foldOp o l)=true:=by
 have h':=h
 rw [bndB,Bool.and_eq_true] at h'
 have kid:∀j (hj:j<l.length),(o.gKind ≠ 19∨j ≠ 1)→bndB loc l[j]=true:=fun j hj hc=>by
  have:=bnds_get hj h'.2
  rw [if_neg (fun h=>by rw [Bool.and_eq_true,eqI_t,eqI_t] at h; omega)] at this
  exact this
 unfold foldOp
 by_cases h1:o.gKind=14
 ·rw [if_pos h1]
  split
  ·split
   ·split
    ·exact kid 1 (by simp) (.inl (by omega))
    ·exact kid 2 (by simp) (.inl (by omega))
   ·exact h
  ·exact h
 rw [if_neg h1]
 by_cases h2:o.gKind=15
 ·rw [if_pos h2]
  split
  ·split
   ·exact kid 0 (by simp) (.inl (by omega))
   ·exact h
  ·exact h
 rw [if_neg h2]
 by_cases h3:o.gKind=19
 ·rw [if_pos h3]
  split
  ·rename_i c a r
   split
   ·rename_i hc
    have:=bnds_get (j:=1) (by simp) h'.2
    rw [if_pos (by rw [Bool.and_eq_true]; exact ⟨eqI_t.2 h3,rfl⟩)] at this
    have:=bnd_skip a loc [] (hg a (by simp)) (.inl hc.2) this
    rw [List.append_nil] at this; exact this
   ·exact h
  ·exact h
 rw [if_neg h3]
 by_cases h4:5≤o.gKind∧o.gKind≤13
 ·rw [if_pos h4]
  by_cases h5:litsB l=true
  ·rw [if_pos h5]
   cases hd:doV o.gKind (l.map fun t=>(unT t).post) with
   | none=>exact h
   | some v=>
    dsimp only
    by_cases h6:v.length≤Tr.sizes l+1
    ·rw [if_pos h6]; exact litT_bnd _ _ (treeV_ok (doV_ok hd)).2.good
    ·rw [if_neg h6]; exact h
  ·rw [if_neg h5]; exact h
 ·rw [if_neg h4]; exact h
mutual
theorem foldT_bnd:∀(t:Tr api_Op) (loc:List ByteArray),ExT t→bndB loc t=true→bndB loc (foldT t)=true
 | .nd o l,loc,hx,h=>by
  rw [foldT]
  refine foldOp_bnd (fun k hk=>((foldT_op hx).2 k hk).good) ?_
  rw [bndB,Bool.and_eq_true] at h ⊢
  exact ⟨h.1,foldTs_bnd l loc o 0 (fun k hk=>hx.kid hk) h.2⟩
theorem foldTs_bnd:∀(l:List (Tr api_Op)) (loc:List ByteArray) (o:api_Op) (i:Nat),(∀k∈l,ExT k)→bndsB loc o i l=true→bndsB loc o i (foldTs l)=true
 | [],_,_,_,_,_=>rfl
 | t :: l,loc,o,i,hx,h=>by
  rw [bndsB,Bool.and_eq_true] at h
  rw [foldTs,bndsB,Bool.and_eq_true]
  exact ⟨foldT_bnd t _ (hx t (List.mem_cons_self ..)) h.1,foldTs_bnd l loc o (i+1) (fun k hk=>hx k (List.mem_cons_of_mem _ hk)) h.2⟩
end
section
variable {E:Env} (hd:E.done=doneF)
include hd
theorem ev_foldOp {o:api_Op} {l:List (Tr api_Op)} (hw:ExT (.nd o l)) (loc:Loc') (s:Sta):ev E (foldOp o l) loc s=ev E (.nd o l) loc s:=by
 have hl:∀k∈l,ExT k:=fun k hk=>hw.kid hk
 unfold foldOp
 by_cases h1:o.gKind=14
 ·rw [if_pos h1]
  split
  ·rename_i c a b r
   split
   ·rename_i hc
    have e0:evn E (c :: a :: b :: r) 0 loc s=(comesO (unT c).post,s):=by rw [evn]; exact ev_lit hd c loc s (hl c (by simp)) hc.1
    rw [ev_g (.inl h1),e0]
    unfold goOn
    rw [if_pos (show (comesO (unT c).post).gKind=1 from rfl),if_neg (show ¬o.gKind=19 by omega)]
    show _=if o.gKind=14∧(lastA (unT c).post).gKind=1∧(lastA (unT c).post).gInt ≠ 0 then evn E (c :: a :: b :: r) 1 loc s else if o.gKind=14∧(lastA (unT c).post).gKind=1 then evn E (c :: a :: b :: r) 2 loc s else _
    by_cases hn:(lastA (unT c).post).gInt ≠ 0
    ·rw [if_pos hn,if_pos (show o.gKind=14∧(lastA (unT c).post).gKind=1∧(lastA (unT c).post).gInt ≠ 0 from ⟨h1,hc.2,hn⟩),evn,evn]
    ·rw [if_neg hn,if_neg (show ¬(o.gKind=14∧(lastA (unT c).post).gKind=1∧(lastA (unT c).post).gInt ≠ 0) from fun h=>hn h.2.2),if_pos (show o.gKind=14∧(lastA (unT c).post).gKind=1 from ⟨h1,hc.2⟩),evn,evn,evn]
   ·rfl
  ·rfl
 rw [if_neg h1]
 by_cases h2:o.gKind=15
 ·rw [if_pos h2]
  split
  ·rename_i c r
   split
   ·rename_i hc
    have e0:evn E (c :: r) 0 loc s=(comesO (unT c).post,s):=by rw [evn]; exact ev_lit hd c loc s (hl c (by simp)) hc
    rw [ev_15 h2,e0,goTry,if_neg (show ¬(comesO (unT c).post).gKind=2 by simp [comesO])]
    exact ev_lit hd c loc s (hl c (by simp)) hc
   ·rfl
  ·rfl
 rw [if_neg h2]
 by_cases h3:o.gKind=19
 ·rw [if_pos h3]
  split
  ·rename_i c a r
   split
   ·rename_i hc
    have e0:evn E (c :: a :: r) 0 loc s=(comesO (unT c).post,s):=by rw [evn]; exact ev_lit hd c loc s (hl c (by simp)) hc.1
    rw [ev_g (.inr (.inl h3)),e0]
    unfold goOn
    rw [if_pos (show (comesO (unT c).post).gKind=1 from rfl),if_pos h3,evn,evn]
    have:=ev_skip (E:=E) (n:=o.gText) (v:=(comesO (unT c).post).gValue) a loc [] s (.inl hc.2)
    rw [List.append_nil] at this
    exact this.symm
   ·rfl
  ·rfl
 rw [if_neg h3]
 by_cases h4:5≤o.gKind∧o.gKind≤13
 ·rw [if_pos h4]
  by_cases h5:litsB l=true
  ·rw [if_pos h5]
   cases hv:doV o.gKind (l.map fun t=>(unT t).post) with
   | none=>rfl
   | some v=>
    dsimp only
    by_cases h6:v.length≤Tr.sizes l+1
    ·rw [if_pos h6]
     obtain ⟨p1,p2⟩:=treeV_ok (doV_ok hv)
     have hs:=hw.size
     simp only [Tr.size] at hs
     obtain ⟨q1,q2⟩:=litT_ex p2 (by rw [←Tr.post_length,p1]; omega)
     rw [ev_lit hd _ loc s q1 q2,ev_r (by omega),evl_lit hd l [] o.gKind loc s (fun k hk=>⟨hl k hk,litsB_iff.1 h5 k hk⟩),List.nil_append,hd]
     unfold doneF
     rw [hv]
     dsimp only
     have e:(unT (litT (treeV v))).post=v:=by
      have e1:(treeV v).post.map (unA∘litA)=(treeV v).post:=by
       conv=>rhs; rw [←List.map_id (treeV v).post]
       exact List.map_congr_left fun a ha=>un_lit (good_all p2.good a ha)
      rw [unT_post,litT_post,List.map_map,e1,p1]
     rw [e]; rfl
    ·rw [if_neg h6]
  ·rw [if_neg h5]
 ·rw [if_neg h4]
where
 un_lit:∀{a:api_Atom},atomB a=true→unA (litA a)=a:=fun {a} h=>by
  obtain ⟨k,n,i,t⟩:=a
  rcases atomB_cases h with ⟨h1,h2,h3,_⟩|⟨h1,h2,h3,_⟩|⟨h1,h2,h3,h4⟩ <;> dsimp only at * <;> subst_vars <;> rfl
mutual
theorem ev_fold:∀(t:Tr api_Op) (loc:Loc') (s:Sta),ExT t→ev E (foldT t) loc s=ev E t loc s
 | .nd o l,loc,s,hx=>by
  have h1:=fun j loc' s'=>evn_fold l j loc' s' fun k hk=>hx.kid hk
  have h2:=fun args k loc' s'=>evl_fold l args k loc' s' fun k hk=>hx.kid hk
  rw [foldT,ev_foldOp hd (foldT_op hx).1,ev,ev]
  simp only [h1,h2]
theorem evn_fold:∀(l:List (Tr api_Op)) (j:Nat) (loc:Loc') (s:Sta),(∀k∈l,ExT k)→evn E (foldTs l) j loc s=evn E l j loc s
 | [],_,_,_,_=>rfl
 | t :: l,0,loc,s,h=>by rw [foldTs,evn,evn]; exact ev_fold t loc s (h t (List.mem_cons_self ..))
 | t :: l,j+1,loc,s,h=>by rw [foldTs,evn,evn]; exact evn_fold l j loc s fun k hk=>h k (List.mem_cons_of_mem _ hk)
theorem evl_fold:∀(l:List (Tr api_Op)) (args:List Val) (k:Int) (loc:Loc') (s:Sta),(∀k∈l,ExT k)→evl E (foldTs l) args k loc s=evl E l args k loc s
 | [],_,_,_,_,_=>rfl
 | t :: l,args,k,loc,s,h=>by
  rw [foldTs,evl,evl,ev_fold t loc s (h t (List.mem_cons_self ..))]
  by_cases hb:(ev E t loc s).1.gKind=1
  ·rw [if_pos hb,if_pos hb]; exact evl_fold l _ k loc _ fun k hk=>h k (List.mem_cons_of_mem _ hk)
  ·rw [if_neg hb,if_neg hb]
end
end
theorem exprE_ex {x:List api_Op} (h:exprE x=0):∃t,exprT x=some [t]∧x=t.post∧ExT t∧bndB [] t=true:=by
 unfold exprE at h
 split at h
 ·cases h
 rename_i hl
 split at h
 ·rename_i t ht
  split at h
  ·rename_i hb
   obtain ⟨h1,h2⟩:=Tr.read_one ht
   unfold restE at h
   split at h
   ·cases h
   rename_i ha
   split at h
   ·cases h
   rename_i hdp
   refine ⟨t,ht,h1,⟨h2,fun o ho=>?_,?_,?_⟩,hb⟩
   ·rw [←h1] at ho
    by_cases hc:o.gText.size≤4096
    ·exact hc
    ·exact absurd (List.any_eq_true.2 ⟨o,ho,decide_eq_true (by simp only [intN,strLen]; omega)⟩) ha
   ·by_cases hc:t.deep≤32
    ·exact hc
    ·exact absurd (decide_eq_true (by omega)) hdp
   ·rw [←Tr.post_length,←h1]; omega
  ·cases h
 ·cases h
theorem exprE_tree {t:Tr api_Op} (h:ExT t) (hb:bndB [] t=true):exprE t.post=0∧exprT t.post=some [t]:=by
 have e:exprT t.post=some [t]:=Tr.read_post (st:=[]) h.good
 refine ⟨?_,e⟩
 unfold exprE
 rw [Tr.post_length,if_neg (by have:=h.size; omega),e]
 dsimp only
 rw [if_pos hb,restE,if_neg,if_neg]
 ·have:=h.deep
  intro hc
  have hc:=of_decide_eq_true hc
  omega
 ·intro hc
  rw [List.any_eq_true] at hc
  obtain ⟨o,ho,hc⟩:=hc
  have:=h.text o ho
  have hc:=of_decide_eq_true hc
  simp only [intN,strLen] at hc
  omega
def foldF (x:List api_Op):List api_Op:=match exprT x with
 | some [t]=>(foldT t).post
 | _=>[]
theorem known_exprs {l:List (List api_Op)} (h:C.Known K (.d (.sl (U:=U) .sl_api_Op l))):l.length * 24≤140737488355328:=h.d.sl.1
theorem gives21 (a:List api_Op):Gives 21 [.d (.sl .api_Op a)] (.d (.sl .api_Op a)):=by
 refine Runs.known fun hk _=>?_
 have hl:=known_ops (hk _ (List.mem_cons_self ..))
 refine e21 _ _ ⟨and_t (roomB_t (by simpa [addN,lenL,nilL] using hl)) ⟨rfl,rfl⟩,ite_w (fun h=>?_) (fun _=>trivial)⟩
 cases a with
 | nil=>exact ⟨rfl,rfl⟩
 | cons _ _=>cases h
theorem gives40 (a:List (List api_Op)):Gives 40 [.d (.sl .sl_api_Op a)] (.osl .sl_api_Op a):=by
 refine Runs.known fun hk _=>?_
 have hl:=known_exprs (hk _ (List.mem_cons_self ..))
 refine e40 _ _ ⟨and_t (roomB_t (by simpa [addN,lenL,nilL] using hl)) ⟨rfl,rfl⟩,ite_w (fun h=>?_) (fun _=>trivial)⟩
 cases a with
 | nil=>exact ⟨rfl,rfl⟩
 | cons _ _=>cases h
theorem gives60 {n:Nat} (h0:0<n) (hn:n * 40≤140737488355328):Gives 60 [.d .nils,.d (.int .i64 (n:Int))] (.osl .api_Op []):=by
 have e0:subW .i64 0 (intN 0)=0:=rfl
 have e1:subW .i64 (n:Int) (subW .i64 0 (intN 0))=(n:Int):=by rw [e0,subW_id (by omega) (by omega)]; omega
 refine e60 _ _ (ite_f (decide_eq_false (by omega)) ?_)
 rw [e1]
 refine ite_t (decide_eq_true (by omega)) (and_t rfl (and_t ?_ (and_t ?_ (and_t ?_ ⟨?_,rfl⟩))))
 ·rw [andB_true]
  refine ⟨decide_eq_true (by omega),decide_eq_true ?_⟩
  show (n:Int) * ((40:Nat):Int)≤((140737488355328:Nat):Int)
  omega
 ·rw [andB_true,andB_true,andB_true]
  exact ⟨rfl,rfl,decide_eq_true (by simp only [intN]; omega),rfl⟩
 ·rw [andB_true]; exact ⟨decide_eq_true (Nat.zero_le _),rfl⟩
 ·rfl
theorem flat_takeE {L:List (List api_Op)} {i:Nat} (hi:i<L.length):(L.take (i+1)).flatten=(L.take i).flatten ++ L[i]:=by
 rw [List.take_succ_eq_append_getElem hi,List.flatten_append]; simp
theorem flat_leE (L:List (List api_Op)) (i:Nat):(L.take i).flatten.length≤L.flatten.length:=by
 conv=>rhs; rw [←List.take_append_drop i L]
 rw [List.flatten_append,List.length_append]; omega
theorem gives39 {L:List (List api_Op)} (h0:0<L.flatten.length) (hn:L.flatten.length * 40≤140737488355328):Gives 39 [.d (.sl .sl_api_Op L)] (.d (.sl .api_Op L.flatten)):=by
 refine Runs.known fun hk _=>?_
 have hl:=known_exprs (hk _ (List.mem_cons_self ..))
 have loop2:∀i,i≤L.length→At K 39 (fun c' H'=>c'=(.d (.sl .api_Op L.flatten):C U)∧H'=[]) t39_11 (s39_11 L (intN (lenL L)) i (L.take i).flatten):=by
  refine upto ?_ fun i hi ih=>?_
  ·rw [List.take_length]
   exact l39_11 _ _ _ _ _ (ite_f (lt_len_f (Nat.le_refl _)) ⟨rfl,rfl⟩)
  ·have hf:=flat_takeE hi
   have hle:=flat_leE L (i+1)
   rw [hf,List.length_append] at hle
   refine l39_11 _ _ _ _ _ (ite_t (lt_len hi) (and_t (in_len hi) ?_))
   rw [rd_at hi,add_one (by omega)]
   refine and_t (roomB_t (by simp only [addN,lenL_eq]; omega)) ?_
   rw [hf] at ih; exact ih
 have loop1:∀i,i≤L.length→At K 39 (fun c' H'=>c'=(.d (.sl .api_Op L.flatten):C U)∧H'=[]) t39_3 (s39_3 L ((L.take i).flatten.length:Int) L (intN (lenL L)) i):=by
  refine upto ?_ fun i hi ih=>?_
  ·rw [List.take_length]
   refine l39_3 _ _ _ _ _ _ (ite_f (lt_len_f (Nat.le_refl _)) ⟨[],gives60 h0 hn,?_⟩)
   have:=loop2 0 (Nat.zero_le _)
   rw [List.take_zero] at this; exact this
  ·have hf:=flat_takeE hi
   have hle:=flat_leE L (i+1)
   rw [hf,List.length_append] at hle
   have es:addW .i64 ((L.take i).flatten.length:Int) (intN (lenL L[i]))=((L.take (i+1)).flatten.length:Int):=by
    rw [hf,List.length_append,intN_eq,lenL_eq,addW_id (by omega) (by omega)]; omega
   refine l39_3 _ _ _ _ _ _ (ite_t (lt_len hi) (and_t (in_len hi) ?_))
   rw [rd_at hi,es,add_one (by omega)]
   exact ite_f (decide_eq_false (by omega)) ih
 have:=loop1 0 (Nat.zero_le _)
 exact e39 _ _ this
theorem gives62 (o:api_Op):Gives 62 [opC o] (.d (.bool (notB (isLit o)))):=by
 have e:notB (isLit o)=((notB (eqI o.gKind 1) && notB (eqI o.gKind 2)) && notB (eqI o.gKind 5)):=by
  unfold isLit notB
  cases eqI o.gKind 1 <;> cases eqI o.gKind 2 <;> cases eqI o.gKind 5 <;> rfl
 rw [e]
 exact e62 _ _ (and_of (fun _=>rfl) (and_of (fun _=>rfl) ⟨rfl,rfl⟩))
theorem gives41 (x:List api_Op):Gives 41 [.d (.sl .api_Op x)] (.d (.bool (litB x))):=by
 refine Runs.known fun hk _=>?_
 have hl:=known_ops (hk _ (List.mem_cons_self ..))
 have loop:∀i,i≤x.length→∃n,At K 69 (fun c' H'=>c'=(.d (.int .i64 n):C U)∧H'=[]) t69_2 (s69_2 x 62 [] [] (intN (lenL x)) i [])∧leI 0 n=(x.drop i).any fun o=>notB (isLit o):=by
  refine upto ?_ fun i hi ih=>?_
  ·exact ⟨-1,l69_2 _ _ _ _ _ _ _ _ (ite_f (lt_len_f (Nat.le_refl _)) ⟨rfl,rfl⟩),by rw [List.drop_length]; rfl⟩
  ·have g:=gives62 (rd (api_Op.mk 0 0 0 (bs [])) x (i:Int))
   rw [drop_any hi]
   cases hb:notB (isLit (rd (api_Op.mk 0 0 0 (bs [])) x (i:Int))) with
   | true=>
    rw [hb] at g
    rw [rd_at hi] at hb
    rw [hb]
    exact ⟨i,l69_2 _ _ _ _ _ _ _ _ (ite_t (lt_len hi) (and_t (in_len hi) ⟨_,(),g,ite_t rfl ⟨rfl,rfl⟩⟩)),by simp [leI]⟩
   | false=>
    rw [hb] at g
    rw [rd_at hi] at hb
    rw [hb]
    obtain ⟨n,h1,h2⟩:=ih
    exact ⟨n,l69_2 _ _ _ _ _ _ _ _ (ite_t (lt_len hi) (and_t (in_len hi) ⟨_,(),g,ite_f rfl (by rw [add_one (by omega)]; exact h1)⟩)),by rw [h2]; rfl⟩
 obtain ⟨n,h1,h2⟩:=loop 0 (Nat.zero_le _)
 rw [List.drop_zero] at h2
 have e:notB (leI 0 n)=litB x:=by
  rw [h2,litB,List.all_eq_not_any_not]; rfl
 refine e41 _ _ ⟨leI 0 n,(),e61 _ _ _ _ _ _ ⟨n,(),e69 _ _ _ _ _ _ h1,rfl,rfl⟩,?_,rfl⟩
 rw [e]
def wayNO (x:List api_Op) (fr:List Int) (op:List ByteArray) (a g:Nat) (gate:ByteArray):O U:=.cells [.d (.sl .api_Op x),.d (.sl .int fr),.d .nilm,.d (.sl .str op),.asl (.g a) g none false,.d (.str gate)]
theorem done_lit {o:api_Op} {l:List (Tr api_Op)} (h:ExT (.nd o l)) (hl:litB (Tr.nd o l).post=true) (hk:o.gKind=5):doneF 5 (l.map fun t=>(unT t).post)=comesO (unT (.nd o l)).post:=by
 have h1:=ev_lit (E:=⟨fun _=>none,fun _=>false,doneF,fun _=>bs []⟩) rfl (.nd o l) [] ⟨[],bs []⟩ h hl
 rw [ev_r (by omega),evl_lit rfl l [] o.gKind _ _ (fun k hk'=>⟨h.kid hk',(litB_kids hl).2 k hk'⟩),hk,List.nil_append] at h1
 exact congrArg Prod.fst h1
theorem lit84 {x:List api_Op} {frN:List Nat} {w a:Nat} {op:List ByteArray} (hx:x.length≤256) {loc:Loc'} {H:List (O U)} {g:Nat} {gate:ByteArray} (hW:obj H w=some (wayNO x (Ns frN) op a g gate)):
  ∀(n:Nat) {p:Nat} {t:Tr api_Op},t.size≤n→ExT t→litB t.post=true→InT x frN p t→GivesM 18 [.ptr (.g w) 0,.d (.int .i64 ((p+t.size - 1:Nat):Int)),.d (.sl .eval_local loc)] H (outC (comesO (unT t).post)) H:=by
 intro n
 induction n with
 | zero=>intro p t hn _ _ _; have:=Tr.size_pos t; omega
 | succ n ih=>
  intro p t hn ht hl hT
  obtain ⟨o,l⟩:=t
  have epl:p+(Tr.nd o l).size - 1=p+Tr.sizes l:=by simp only [Tr.size]; omega
  rw [epl]
  simp only [Tr.size] at hn
  have hg:=ht.good
  simp only [Tr.good] at hg
  obtain ⟨ho,hks⟩:=litB_kids hl
  have htop:=hT.top
  have g157:=gives33 hT hg.1.2 (by omega)
  have hrd:rd (api_Op.mk 0 0 0 (bs [])) x ((p+Tr.sizes l:Nat):Int)=o:=rd_some htop
  refine e18n _ _ _ _ _ ⟨⟨x,Ns frN,op,a,g,none,gate⟩,hW,and_t (inB_some htop) ⟨⟨x,Ns frN,op,a,g,none,gate⟩,hW,⟨x,Ns frN,op,a,g,none,gate⟩,hW,Ns (Tr.ends p l),g157,?_⟩⟩
  dsimp only
  rw [hrd]
  have ev:=ev_lit (E:=⟨fun _=>none,fun _=>false,doneF,fun _=>bs []⟩) rfl (.nd o l) [] ⟨[],bs []⟩ ht hl
  rcases isLit_iff.1 ho with k1|k2|k5
  ·rw [ev_1 k1] at ev
   have e:=(congrArg Prod.fst ev).symm
   dsimp only at e
   rw [e]
   exact ite_t (eqI_t.2 k1) ⟨⟨1,[⟨1,0,o.gInt,bs []⟩],[]⟩,gives34 _,rfl,rfl⟩
  ·rw [ev_2 k2] at ev
   have e:=(congrArg Prod.fst ev).symm
   dsimp only at e
   rw [e]
   exact ite_f (eqI_f.2 (by omega)) (ite_t (eqI_t.2 k2) ⟨⟨1,[⟨2,0,0,o.gText⟩],[]⟩,gives34 _,rfl,rfl⟩)
  ·have hll:=Tr.length_le_sizes l
   have hel:(Ns (Tr.ends p l)).length=l.length:=by rw [Ns_length,Tr.ends_length]
   have hsz:=ht.size
   simp only [Tr.size] at hsz
   have loop:∀j,j≤l.length→At K 18 (fun c' H'=>c'=outC (comesO (unT (.nd o l)).post)∧H'=H) t18_31 (s18_31 w loc (Ns (Tr.ends p l)) (intN (lenL (Ns (Tr.ends p l)))) j 0 [] [] o.gKind o.gN o.gInt o.gText ((l.take j).map fun t=>(unT t).post) H):=by
    refine upto ?_ fun j hj ihj=>?_
    ·rw [List.take_length]
     have g:=gives38 (k:=5) (by omega) (by omega) (l.map fun t=>(unT t).post)
     rw [done_lit ht hl k5] at g
     rw [←k5] at g
     exact l18n_31 _ _ _ _ _ _ _ _ _ _ _ _ _ _ _ (ite_f (lt_len_f (by rw [hel]; exact Nat.le_refl _)) ⟨_,g,rfl,rfl⟩)
    ·have hend:(Ns (Tr.ends p l))[j]?=some ((p+Tr.sizes (l.take j)+l[j].size - 1:Nat):Int):=by
      rw [Ns_get (ends_get hj),sizes_succ hj,Nat.add_assoc]
     have hz:=Tr.le_sizes (List.getElem_mem hj)
     have hk:=List.getElem_mem hj
     have f1:=ih (p:=p+Tr.sizes (l.take j)) (t:=l[j]) (by omega) (ht.kid hk) (hks _ hk) (hT.kid hj)
     have hin:inB (j:Int) (lenL (Ns (Tr.ends p l)))=true:=in_len (by rw [hel]; exact hj)
     have hlt:ltI (j:Int) (intN (lenL (Ns (Tr.ends p l))))=true:=lt_len (by rw [hel]; exact hj)
     have et:(l.take (j+1)).map (fun t=>(unT t).post)=(l.take j).map (fun t=>(unT t).post) ++ [(unT l[j]).post]:=by
      rw [List.take_succ_eq_append_getElem hj,List.map_append]; rfl
     rw [et] at ihj
     refine l18n_31 _ _ _ _ _ _ _ _ _ _ _ _ _ _ _ (ite_t hlt (and_t hin ⟨comesO (unT l[j]).post,H,?_,ite_f rfl (and_t (roomB_t ?_) ?_)⟩))
     ·rw [rd_some hend]; exact f1
     ·simp only [addN,lenL_eq,List.length_singleton,List.length_map,List.length_take]; omega
     ·rw [add_one (by omega)]; exact ihj
   have l0:=loop 0 (Nat.zero_le _)
   rw [List.take_zero] at l0
   have n1:eqI o.gKind 1=false:=eqI_f.2 (by omega)
   have n2:eqI o.gKind 2=false:=eqI_f.2 (by omega)
   have n3:eqI o.gKind 3=false:=eqI_f.2 (by omega)
   have n4:eqI o.gKind 4=false:=eqI_f.2 (by omega)
   have n18:eqI o.gKind 18=false:=eqI_f.2 (by omega)
   have n15:eqI o.gKind 15=false:=eqI_f.2 (by omega)
   have n14:eqI o.gKind 14=false:=eqI_f.2 (by omega)
   have n19:eqI o.gKind 19=false:=eqI_f.2 (by omega)
   have n16:eqI o.gKind 16=false:=eqI_f.2 (by omega)
   have n17:eqI o.gKind 17=false:=eqI_f.2 (by omega)
   exact ite_f n1 (ite_f n2 (ite_f n3 (ite_f n4 (ite_f n18 (ite_f n15 (ite_f n14 (ite_f n19 (ite_f n16 (ite_f n17 l0)))))))))
theorem ExT.read {t:Tr api_Op} (h:ExT t):exprT t.post=some [t]:=Tr.read_post (st:=[]) h.good
theorem gives42 {t:Tr api_Op} (h:ExT t) (hl:litB t.post=true):Gives 42 [.d (.sl .api_Op t.post)] (.tup [.d (.sl .api_Atom (unT t).post),.d (.bool true)]):=by
 have hsz:=h.size
 have hp:=Tr.size_pos t
 have ep:subW .i64 (intN (lenL t.post)) 1=((0+t.size - 1:Nat):Int):=by
  rw [intN_eq,lenL_eq,Tr.post_length,subW_id (by omega) (by omega)]; omega
 refine e42 _ _ ⟨Ns (t.fronts 0),gives17 h.read (by rw [Tr.post_length]; omega),comesO (unT t).post,[.arr 0 (.pure .str) [],wayNO t.post (Ns (t.fronts 0)) [] 0 0 (bs [])],?_,rfl,rfl⟩
 rw [ep]
 exact lit84 (x:=t.post) (frN:=t.fronts 0) (w:=1) (a:=0) (op:=[]) (g:=0) (gate:=bs []) (by rw [Tr.post_length]; exact hsz) rfl t.size (Nat.le_refl _) h hl (InT.whole t)
theorem gives44 {x:List api_Op} {frN:List Nat} {name:ByteArray} (hx:x.length≤256):
  ∀(n:Nat) {p:Nat} {t:Tr api_Op},t.size≤n→t.good opB (·.gN)→InT x frN p t→Gives 44 [.d (.sl .api_Op x),.d (.sl .int (Ns frN)),.d (.int .i64 ((p+t.size - 1:Nat):Int)),.d (.str name)] (.d (.bool (usesB name t))):=by
 intro n
 induction n with
 | zero=>intro p t hn _ _; have:=Tr.size_pos t; omega
 | succ n ih=>
  intro p t hn hg hT
  obtain ⟨o,l⟩:=t
  have epl:p+(Tr.nd o l).size - 1=p+Tr.sizes l:=by simp only [Tr.size]; omega
  rw [epl]
  simp only [Tr.size] at hn
  simp only [Tr.good] at hg
  have htop:=hT.top
  have hrd:rd (api_Op.mk 0 0 0 (bs [])) x ((p+Tr.sizes l:Nat):Int)=o:=rd_some htop
  have g157:=gives33 hT hg.1.2 (by omega)
  refine e44 _ _ _ _ _ (and_t (inB_some htop) ?_)
  rw [hrd]
  by_cases h4:o.gKind=4
  ·rw [usesB,if_pos h4]; exact ite_t (eqI_t.2 h4) ⟨rfl,rfl⟩
  ·rw [usesB,if_neg h4]
   refine ite_f (eqI_f.2 h4) ⟨_,g157,?_⟩
   have hel:(Ns (Tr.ends p l)).length=l.length:=by rw [Ns_length,Tr.ends_length]
   have hll:=Tr.length_le_sizes l
   have hle:=hT.le
   simp only [Tr.size] at hle
   have loop:∀j,j≤l.length→At K 44 (fun c' H'=>c'=(.d (.bool (usesBs name o j (l.drop j))):C U)∧H'=[]) t44_5 (s44_5 x (Ns frN) name (Ns (Tr.ends p l)) (intN (lenL (Ns (Tr.ends p l)))) j o.gKind o.gN o.gInt o.gText):=by
    refine upto ?_ fun j hj ihj=>?_
    ·rw [List.drop_length,usesBs]
     exact l44_5 _ _ _ _ _ _ _ _ _ _ _ (ite_f (lt_len_f (by rw [hel]; exact Nat.le_refl _)) ⟨rfl,rfl⟩)
    ·have hend:(Ns (Tr.ends p l))[j]?=some ((p+Tr.sizes (l.take j)+l[j].size - 1:Nat):Int):=by
      rw [Ns_get (ends_get hj),sizes_succ hj,Nat.add_assoc]
     have hz:=Tr.le_sizes (List.getElem_mem hj)
     have f1:=ih (p:=p+Tr.sizes (l.take j)) (t:=l[j]) (by omega) (Tr.goods_mem hg.2 (List.getElem_mem hj)) (hT.kid hj)
     have hin:inB (j:Int) (lenL (Ns (Tr.ends p l)))=true:=in_len (by rw [hel]; exact hj)
     have hlt:ltI (j:Int) (intN (lenL (Ns (Tr.ends p l))))=true:=lt_len (by rw [hel]; exact hj)
     rw [List.drop_eq_getElem_cons hj,usesBs]
     refine l44_5 _ _ _ _ _ _ _ _ _ _ _ (ite_t hlt (and_t hin (and_of (fun _=>rfl) (and_of (fun _=>rfl) (ite_w (fun h=>?_) (fun h=>⟨usesB name l[j],by rw [rd_some hend]; exact f1,?_⟩))))))
     ·rw [Bool.and_eq_true,Bool.and_eq_true,eqI_t,eqI_t,strEq_iff'] at h
      rw [if_pos ⟨h.1.1,by omega,h.2⟩,Bool.false_or,add_one (by omega)]; exact ihj
     ·rw [if_neg (fun hc=>by
       have:((eqI o.gKind 19 && eqI (j:Int) 1) && strEq o.gText name)=true:=by
        rw [Bool.and_eq_true,Bool.and_eq_true,eqI_t,eqI_t,strEq_iff']; exact ⟨⟨hc.1,by omega⟩,hc.2.2⟩
       have h:((eqI o.gKind 19 && eqI (j:Int) 1) && strEq o.gText name)=false:=h
       rw [this] at h; cases h)]
      refine ite_w (fun hb=>?_) (fun hb=>?_)
      ·rw [hb]; exact ⟨rfl,rfl⟩
      ·rw [hb,Bool.false_or,add_one (by omega)]; exact ihj
   have:=loop 0 (Nat.zero_le _)
   rw [List.drop_zero] at this; exact this
theorem gives14 (v:ValL):Gives 14 [.d (.sl .api_Atom v)] (.d (.sl .api_Op (v.map litA))):=by
 refine Runs.known fun hk _=>?_
 have hl:=known_atoms (hk _ (List.mem_cons_self ..))
 have loop:∀i,i≤v.length→At K 14 (fun c' H'=>c'=(.d (.sl .api_Op (v.map litA)):C U)∧H'=[]) t14_3 (s14_3 v (intN (lenL v)) i ((v.take i).map litA)):=by
  refine upto ?_ fun i hi ih=>?_
  ·rw [List.take_length]
   exact l14_3 _ _ _ _ _ (ite_f (lt_len_f (Nat.le_refl _)) ⟨rfl,rfl⟩)
  ·have ht:(v.take (i+1)).map litA=appL ((v.take i).map litA) [litA v[i]]:=by
    rw [List.take_succ_eq_append_getElem hi,List.map_append]; rfl
   have hr:∀z:api_Op,roomB (addN (lenL ((v.take i).map litA)) (lenL [z])) 40=true:=fun z=>roomB_t (by simp only [addN,lenL_eq,List.length_map,List.length_take,List.length_singleton]; omega)
   rw [ht] at ih
   refine l14_3 _ _ _ _ _ (ite_t (lt_len hi) (and_t (in_len hi) ?_))
   rw [rd_at hi,add_one (by omega)]
   refine sw (fun h=>and_t (hr _) ?_) (fun h=>sw (fun h'=>and_t (hr _) ?_) (fun h'=>and_t (hr _) ?_))
   ·have e:litA v[i]=⟨2,v[i].gN,v[i].gInt,v[i].gText⟩:=by unfold litA; rw [if_pos h]
    rw [e] at ih; exact ih
   ·have e:litA v[i]=⟨5,v[i].gN,v[i].gInt,v[i].gText⟩:=by unfold litA; rw [if_neg h,if_pos h']
    rw [e] at ih; exact ih
   ·have e:litA v[i]=⟨1,v[i].gN,v[i].gInt,v[i].gText⟩:=by unfold litA; rw [if_neg h,if_neg h']
    rw [e] at ih; exact ih
 exact e14 _ _ (loop 0 (Nat.zero_le _))
theorem gives45 {o:api_Op} {l:List (Tr api_Op)} (hw:ExT (.nd o l)) (h5:5≤o.gKind) (h13:o.gKind≤13):Gives 45 [opC o,.d (.sl .sl_api_Op (l.map Tr.post)),.d (.sl .api_Op (Tr.nd o l).post)] (.d (.sl .api_Op (foldOp o l).post)):=by
 have hsz:=hw.size
 simp only [Tr.size] at hsz
 have hll:=Tr.length_le_sizes l
 have hA:(Tr.nd o l).post.length=Tr.sizes l+1:=by rw [Tr.post_length,Tr.size]
 have ef:foldOp o l=if litsB l=true then match doV o.gKind (l.map fun t=>(unT t).post) with
   | some v=>if v.length≤Tr.sizes l+1 then litT (treeV v) else .nd o l
   | none=>.nd o l
  else .nd o l:=by
  unfold foldOp
  rw [if_neg (by omega),if_neg (by omega),if_neg (by omega),if_pos ⟨h5,h13⟩]
  all_goals rfl
 have loop:∀i,i≤l.length→(∀k∈l.take i,litB k.post=true)→At K 45 (fun c' H'=>c'=(.d (.sl .api_Op (foldOp o l).post):C U)∧H'=[]) t45_3 (s45_3 (Tr.nd o l).post (l.map Tr.post) (intN (lenL (l.map Tr.post))) i o.gKind o.gN o.gInt o.gText ((l.take i).map fun t=>(unT t).post)):=by
  refine upto ?_ fun i hi ih=>?_
  ·intro hlit
   rw [List.take_length] at hlit ⊢
   rw [if_pos (litsB_iff.2 hlit)] at ef
   obtain ⟨v,ok,e,g1,g2,g3⟩:=gives59 h5 h13 (l.map fun t=>(unT t).post)
   rw [g2] at ef
   refine l45_3 _ _ _ _ _ _ _ _ _ _ (ite_f (lt_len_f (by rw [List.length_map]; exact Nat.le_refl _)) ⟨(v,ok,e),g1,or_of (fun _=>rfl) ?_⟩)
   cases ok with
   | false=>
    have ef:foldOp o l=.nd o l:=ef
    rw [ef]
    refine ⟨true,?_,ite_t rfl ⟨rfl,rfl⟩⟩
    cases hb:notB (eqI e 0) <;> exact rfl
   | true=>
    have he:=g3 rfl
    subst he
    have ef:foldOp o l=if v.length≤Tr.sizes l+1 then litT (treeV v) else .nd o l:=ef
    refine ⟨ltI (intN (lenL (Tr.nd o l).post)) (intN (lenL v)),ite_f rfl rfl,?_⟩
    by_cases hv:v.length≤Tr.sizes l+1
    ·rw [if_pos hv] at ef
     have hd:doV o.gKind (l.map fun t=>(unT t).post)=some v:=g2
     rw [ef,litT_post,(treeV_ok (doV_ok hd)).1]
     exact ite_f (decide_eq_false (by simp only [intN,lenL,hA]; omega)) ⟨_,gives14 v,rfl,rfl⟩
    ·rw [if_neg hv] at ef
     rw [ef]
     exact ite_t (decide_eq_true (by simp only [intN,lenL,hA]; omega)) ⟨rfl,rfl⟩
  ·intro hlit
   have hi':i<(l.map Tr.post).length:=by rw [List.length_map]; exact hi
   have hrd:rd [] (l.map Tr.post) (i:Int)=l[i].post:=by rw [rd_at hi',List.getElem_map]
   have hk:=List.getElem_mem hi
   have g136:Gives 41 [.d (.sl .api_Op (rd [] (l.map Tr.post) (i:Int)))] (.d (.bool (litB l[i].post))):=(fun z (hz:z=l[i].post)=>by subst hz; exact gives41 _:∀z,z=l[i].post→Gives 41 [.d (.sl .api_Op z)] (.d (.bool (litB l[i].post)))) _ hrd
   refine l45_3 _ _ _ _ _ _ _ _ _ _ (ite_t (lt_len hi') (and_t (in_len hi') ?_))
   refine ⟨_,g136,ite_w (fun h=>?_) (fun h=>?_)⟩
   ·have g137:Gives 42 [.d (.sl .api_Op (rd [] (l.map Tr.post) (i:Int)))] (.tup [.d (.sl .api_Atom (unT l[i]).post),.d (.bool true)]):=(fun z (hz:z=l[i].post)=>by subst hz; exact gives42 (hw.kid hk) h:∀z,z=l[i].post→Gives 42 [.d (.sl .api_Op z)] (.tup [.d (.sl .api_Atom (unT l[i]).post),.d (.bool true)])) _ hrd
    refine ⟨((unT l[i]).post,true),g137,ite_f rfl (and_t (roomB_t ?_) ?_)⟩
    ·simp only [addN,lenL_eq,List.length_map,List.length_take,List.length_singleton]; omega
    ·have et:(l.take (i+1)).map (fun t=>(unT t).post)=appL ((l.take i).map fun t=>(unT t).post) [(unT l[i]).post]:=by
      rw [List.take_succ_eq_append_getElem hi,List.map_append]; rfl
     rw [add_one (by omega)]
     rw [et] at ih
     refine ih fun k hk'=>?_
     rw [List.take_succ_eq_append_getElem hi,List.mem_append,List.mem_singleton] at hk'
     rcases hk' with hk'|rfl
     ·exact hlit k hk'
     ·exact h
   ·have hno:¬litsB l=true:=fun hc=>by
     rw [litsB_iff.1 hc _ hk] at h; cases h
    rw [if_neg hno] at ef
    rw [ef,h]
    exact ite_t rfl ⟨rfl,rfl⟩
 have:=loop 0 (Nat.zero_le _) (fun k hk=>by cases hk)
 exact e45 _ _ _ _ this
theorem gives22 {o:api_Op} {l:List (Tr api_Op)} (hw:ExT (.nd o l)):Gives 22 [opC o,.d (.sl .sl_api_Op (l.map Tr.post))] (.d (.sl .api_Op (foldOp o l).post)):=by
 have hsz:=hw.size
 simp only [Tr.size] at hsz
 have hll:=Tr.length_le_sizes l
 have hg:=hw.good
 simp only [Tr.good] at hg
 have har:=(opB_ar hg.1.1).1
 have hn:=hg.1.2
 have hA:(Tr.nd o l).post.length=Tr.sizes l+1:=by rw [Tr.post_length,Tr.size]
 have hfl:(l.map Tr.post ++ [[o]]).flatten=(Tr.nd o l).post:=by
  rw [List.flatten_append,Tr.post]
  have:(l.map Tr.post).flatten=Tr.posts l:=flat l
  rw [this]; simp
 have g134:Gives 39 [.d (.sl .sl_api_Op (appL (l.map Tr.post) [[o]]))] (.d (.sl .api_Op (Tr.nd o l).post)):=by
  rw [←hfl]
  exact gives39 (L:=l.map Tr.post ++ [[o]]) (by rw [hfl,hA]; omega) (by rw [hfl,hA]; omega)
 refine e22 _ _ _ ⟨l.map Tr.post,gives40 _,and_t (roomB_t (by simp only [addN,lenL_eq,List.length_map,List.length_singleton]; omega)) ⟨(Tr.nd o l).post,g134,?_⟩⟩
 have n5:∀{k:Int},o.gKind=k→(k=14∨k=15∨k=19∨k<5∨13<k)→eqI o.gKind 5=false:=fun h1 h2=>eqI_f.2 (by omega)
 have last:(o.gKind=14∨o.gKind=15∨o.gKind=19∨o.gKind<5∨13<o.gKind)→∃v1:Bool,iteP (leI 6 o.gKind) (leI o.gKind 13=v1) (false=v1)∧v1=false:=fun h=>by
  refine ⟨false,ite_w (fun h6=>?_) (fun _=>rfl),rfl⟩
  have h6:=of_decide_eq_true h6
  exact decide_eq_false (by omega)
 by_cases c14:o.gKind=14
 ·obtain ⟨c,a,b,rfl⟩:∃c a b,l=[c,a,b]:=by
   have h3:=ar_3 c14
   match l,(show l.length=3 by omega) with
   | [c,a,b],_=>exact ⟨c,a,b,rfl⟩
  have hc:=hw.kid (k:=c) (by simp)
  have ef:foldOp o [c,a,b]=if litB c.post=true∧(lastA (unT c).post).gKind=1 then (if (lastA (unT c).post).gInt ≠ 0 then a else b) else .nd o [c,a,b]:=by
   unfold foldOp; rw [if_pos c14]
  refine ⟨litB c.post,ite_t (eqI_t.2 c14) (and_t rfl ⟨_,gives41 c.post,rfl⟩),ite_w (fun h=>and_t rfl ⟨((unT c).post,true),gives42 hc h,eqI (lastA (unT c).post).gKind 1,ite_t rfl ⟨_,gives43 _ (post_ne _),rfl⟩,ite_w (fun h1=>⟨_,gives43 _ (post_ne _),ite_w (fun h2=>and_t rfl ?_) (fun h2=>and_t rfl ?_)⟩) (fun h1=>?_)⟩) (fun h=>?_)⟩
  ·rw [ef,if_pos ⟨h,eqI_t.1 h1⟩,if_pos (eqI_f.1 (notB_t.1 h2))]; exact ⟨rfl,rfl⟩
  ·rw [ef,if_pos ⟨h,eqI_t.1 h1⟩,if_neg (fun hc=>hc (eqI_t.1 (notB_f.1 h2)))]; exact ⟨rfl,rfl⟩
  ·rw [ef,if_neg (fun hc=>eqI_f.1 h1 hc.2)]; exact ⟨rfl,rfl⟩
  ·rw [ef,if_neg (fun hc=>by rw [hc.1] at h; cases h)]
   exact ⟨false,ite_f (eqI_f.2 (by omega)) rfl,ite_f rfl ⟨false,ite_f (eqI_f.2 (by omega)) rfl,ite_f rfl ⟨false,ite_f (n5 c14 (.inl rfl)) (last (.inl c14)),ite_f rfl ⟨rfl,rfl⟩⟩⟩⟩
 refine ⟨false,ite_f (eqI_f.2 c14) rfl,ite_f rfl ?_⟩
 by_cases c15:o.gKind=15
 ·obtain ⟨c,a,rfl⟩:∃c a,l=[c,a]:=by
   have h2:=ar_2 (a:=o) (.inl c15)
   match l,(show l.length=2 by omega) with
   | [c,a],_=>exact ⟨c,a,rfl⟩
  have hc:=hw.kid (k:=c) (by simp)
  have ef:foldOp o [c,a]=if litB c.post=true then c else .nd o [c,a]:=by
   unfold foldOp; rw [if_neg (by omega),if_pos c15]
  refine ⟨litB c.post,ite_t (eqI_t.2 c15) (and_t rfl ⟨_,gives41 c.post,rfl⟩),ite_w (fun h=>and_t rfl ⟨((unT c).post,true),gives42 hc h,ite_t rfl (and_t rfl ?_)⟩) (fun h=>?_)⟩
  ·rw [ef,if_pos h]; exact ⟨rfl,rfl⟩
  ·rw [ef,if_neg (by rw [h]; exact Bool.false_ne_true)]
   exact ⟨false,ite_f (eqI_f.2 (by omega)) rfl,ite_f rfl ⟨false,ite_f (n5 c15 (.inr (.inl rfl))) (last (.inr (.inl c15))),ite_f rfl ⟨rfl,rfl⟩⟩⟩
 refine ⟨false,ite_f (eqI_f.2 c15) rfl,ite_f rfl ?_⟩
 by_cases c19:o.gKind=19
 ·obtain ⟨c,a,rfl⟩:∃c a,l=[c,a]:=by
   have h2:=ar_2 (a:=o) (.inr c19)
   match l,(show l.length=2 by omega) with
   | [c,a],_=>exact ⟨c,a,rfl⟩
  have hc:=hw.kid (k:=c) (by simp)
  have ha:=hw.kid (k:=a) (by simp)
  have hsa:=ha.size
  have hpa:=Tr.size_pos a
  have ef:foldOp o [c,a]=if litB c.post=true∧usesB o.gText a=false then a else .nd o [c,a]:=by
   unfold foldOp; rw [if_neg (by omega),if_neg (by omega),if_pos c19]
  have ep:subW .i64 (intN (lenL a.post)) 1=((0+a.size - 1:Nat):Int):=by
   rw [intN_eq,lenL_eq,Tr.post_length,subW_id (by omega) (by omega)]; omega
  have gu:Gives 44 [.d (.sl .api_Op a.post),.d (.sl .int (Ns (a.fronts 0))),.d (.int .i64 (subW .i64 (intN (lenL a.post)) 1)),.d (.str o.gText)] (.d (.bool (usesB o.gText a))):=by
   rw [ep]
   exact gives44 (x:=a.post) (frN:=a.fronts 0) (by rw [Tr.post_length]; exact hsa) a.size (Nat.le_refl _) ha.good (InT.whole a)
  refine ⟨litB c.post,ite_t (eqI_t.2 c19) (and_t rfl ⟨_,gives41 c.post,rfl⟩),ite_w (fun h=>and_t rfl ⟨((unT c).post,true),gives42 hc h,ite_t rfl (and_t rfl (and_t rfl ⟨Ns (a.fronts 0),gives17 (x:=a.post) ha.read (by rw [Tr.post_length]; omega),and_t rfl ⟨_,gu,ite_w (fun h1=>and_t rfl ?_) (fun h1=>?_)⟩⟩))⟩) (fun h=>?_)⟩
  ·rw [ef,if_pos ⟨h,notB_t.1 h1⟩]; exact ⟨rfl,rfl⟩
  ·rw [ef,if_neg (fun hc=>by rw [hc.2] at h1; cases h1)]; exact ⟨rfl,rfl⟩
  ·rw [ef,if_neg (fun hc=>by rw [hc.1] at h; cases h)]
   exact ⟨false,ite_f (n5 c19 (.inr (.inr (.inl rfl)))) (last (.inr (.inr (.inl c19)))),ite_f rfl ⟨rfl,rfl⟩⟩
 refine ⟨false,ite_f (eqI_f.2 c19) rfl,ite_f rfl ?_⟩
 by_cases c5:5≤o.gKind∧o.gKind≤13
 ·refine ⟨true,?_,ite_t rfl ⟨_,gives45 hw c5.1 c5.2,rfl,rfl⟩⟩
  by_cases h5:o.gKind=5
  ·exact ite_t (eqI_t.2 h5) rfl
  ·exact ite_f (eqI_f.2 h5) ⟨true,ite_t (decide_eq_true (by omega)) (decide_eq_true (by omega)),rfl⟩
 ·have ef:foldOp o l=.nd o l:=by
   unfold foldOp
   rw [if_neg c14,if_neg c15,if_neg c19,if_neg c5]
  rw [ef]
  exact ⟨false,ite_f (eqI_f.2 (by omega)) (last (by omega)),ite_f rfl ⟨rfl,rfl⟩⟩
where
 flat:∀l:List (Tr api_Op),(l.map Tr.post).flatten=Tr.posts l
  | []=>rfl
  | t :: l=>by simp only [List.map_cons,List.flatten_cons,Tr.posts,flat l]
def foldA (x:List api_Op):List api_Op×Int:=if exprE x=0 then (foldF x,0) else ([],5)
theorem foldA_t {x:List api_Op} (h:exprE x=0):foldA x=(foldF x,0):=if_pos h
theorem foldA_f {x:List api_Op} (h:exprE x ≠ 0):foldA x=([],5):=if_neg h
theorem gives9 (x:List api_Op):Gives 9 [.d (.sl .api_Op x)] (.tup [.d (.sl .api_Op (foldA x).1),.d (.int .i64 (foldA x).2)]):=by
 refine e9 _ _ ⟨_,gives15 x,ite_w (fun h=>?_) (fun h=>?_)⟩
 ·rw [foldA_f (eqI_f.1 (notB_t.1 h))]; exact ⟨rfl,rfl⟩
 have h:=eqI_t.1 (notB_f.1 h)
 rw [foldA_t h]
 obtain ⟨t,h1,h2,h3,h4⟩:=exprE_ex h
 have hsz:=h3.size
 have hlen:x.length=t.size:=by rw [h2,Tr.post_length]
 have ex:∀i,i≤x.length→∀st,exprT (x.take i)=some st→(∀k∈st,ExT k)∧Tr.sizes st=i:=by
  intro i hi st hst
  have hs:=Tr.read_sizes hst
  rw [List.length_take] at hs
  have hd:=Tr.read_take_deeps hst h1
  rw [Tr.deeps_one] at hd
  have hd3:=h3.deep
  have hp:=Tr.read_posts hst
  have hgs:=Tr.read_goods (by simp [Tr.goods]) hst
  refine ⟨fun k hk=>⟨Tr.goods_mem hgs hk,fun o ho=>?_,?_,?_⟩,by omega⟩
  ·have:o∈Tr.posts st:=mem_posts hk ho
   rw [hp] at this
   simp only [Tr.posts,List.nil_append] at this
   have:=List.mem_of_mem_take this
   rw [h2] at this
   exact h3.text o this
  ·have:=Tr.le_deeps hk; omega
  ·have:=Tr.le_sizes hk; omega
 have loop:∀i,i≤x.length→∀st,exprT (x.take i)=some st→At K 9 (fun c' H'=>c'=(.tup [.d (.sl .api_Op (foldF x)),.d (.int .i64 0)]:C U)∧H'=[]) t9_5 (s9_5 x (intN (lenL x)) i (st.map fun t=>(foldT t).post)):=by
  refine upto ?_ fun i hi ih=>?_
  ·intro st hst
   rw [List.take_length,h1] at hst
   cases hst
   refine l9_5 _ _ _ _ _ (ite_f (lt_len_f (Nat.le_refl _)) (and_t rfl (and_t rfl ⟨?_,rfl⟩)))
   have e:foldF x=(foldT t).post:=by unfold foldF; rw [h1]
   rw [e]; rfl
  ·intro st hst
   obtain ⟨he,hss⟩:=ex i (by omega) st hst
   have hsucc:=Tr.read_take_succ hi hst
   cases hnx:exprT (x.take (i+1)) with
   | none=>exact nomatch (h1.symm.trans (Tr.read_take_none hnx))
   | some st'=>
    have hst':=hnx
    rw [show exprT (x.take (i+1))=_ from hsucc] at hnx
    obtain ⟨ho,n,hn,hle,rfl⟩:=Tr.put_some hnx
    obtain ⟨he',_⟩:=ex (i+1) (by omega) _ hst'
    have hw:ExT (.nd x[i] (st.drop (st.length - n))):=he' _ (by simp)
    have hlst:=Tr.length_le_sizes st
    have eY:lenL (st.map fun t=>(foldT t).post)=st.length:=by rw [lenL_eq,List.length_map]
    have ek:subW .i64 (intN (lenL (st.map fun t=>(foldT t).post))) x[i].gN=((st.length - n:Nat):Int):=by
     rw [eY,intN_eq,hn,subW_id (by omega) (by omega)]; omega
    have ekids:takeL (subN (natI (intN (lenL (st.map fun t=>(foldT t).post)))) (natI ((st.length - n:Nat):Int))) (dropL (addN 0 (natI ((st.length - n:Nat):Int))) (st.map fun t=>(foldT t).post))=(foldTs (st.drop (st.length - n))).map Tr.post:=by
     have e1:natI (intN (lenL (st.map fun t=>(foldT t).post)))=st.length:=by rw [eY]; rfl
     rw [e1,natI_nat]
     show List.take (st.length - (st.length - n)) (List.drop (0+(st.length - n)) _)=_
     rw [Nat.zero_add,List.take_of_length_le (by rw [List.length_drop,List.length_map]; omega),←List.map_drop,fold_ts,List.map_map]
     rfl
    have hfd:=(foldT_op hw).1
    have g:∀z,z=(foldTs (st.drop (st.length - n))).map Tr.post→Gives 22 [opC x[i],.d (.sl .sl_api_Op z)] (.d (.sl .api_Op (foldOp x[i] (foldTs (st.drop (st.length - n)))).post)):=fun z hz=>by subst hz; exact gives22 hfd
    have ef:(foldOp x[i] (foldTs (st.drop (st.length - n)))).post=(foldT (.nd x[i] (st.drop (st.length - n)))).post:=by rw [foldT]
    refine l9_5 _ _ _ _ _ (ite_t (lt_len hi) (and_t (in_len hi) ?_))
    rw [rd_at hi,ek]
    refine and_t ?_ (and_t ?_ ⟨_,g _ ekids,_,gives21 _,and_t ?_ (and_t ?_ ?_)⟩)
    ·rw [andB_true,andB_true,andB_true]
     exact ⟨decide_eq_true (by omega),decide_eq_true (by rw [eY,intN_eq]; omega),decide_eq_true (Int.le_refl _),rfl⟩
    ·rw [andB_true]
     refine ⟨decide_eq_true ?_,rfl⟩
     rw [eY,natI_nat,intN_eq,natI_nat]
     show 0+(st.length - n)+(st.length - (st.length - n))≤st.length
     omega
    ·rw [andB_true,andB_true,andB_true,andB_true]
     exact ⟨eqI_t.2 rfl,rfl,decide_eq_true (by omega),decide_eq_true (by rw [eY,intN_eq]; omega),rfl⟩
    ·rw [andB_true,andB_true]
     refine ⟨decide_eq_true ?_,rfl,roomB_t ?_⟩
     ·rw [eY,natI_nat]
      show 0+(st.length - n)≤st.length
      omega
     ·rw [natI_nat]
      show (st.length - n+1) * 24≤_
      omega
    ·rw [add_one (by omega),ef]
     have:=ih _ hst'
     rw [List.map_append,List.map_take] at this
     exact this
 have:=loop 0 (Nat.zero_le _) [] (by rw [List.take_zero]; rfl)
 exact this
where
 fold_ts:∀l:List (Tr api_Op),foldTs l=l.map foldT
  | []=>rfl
  | t :: l=>by rw [foldTs,fold_ts l]; rfl
theorem evalF_at {x:List api_Op} {t:Tr api_Op} (h:exprE x=0) (ht:exprT x=some [t]) (kn:List api_Known) (op:List ByteArray):evalF x kn op=if givenE kn op ≠ 0 then (⟨nilO,bs [],[]⟩,givenE kn op) else (meanF (ev (envOf kn op) t [] sta0),0):=by
 unfold evalF
 rw [if_neg (by omega),ht]
 dsimp only
 unfold meanF
 split
 ·rfl
 ·split <;> rfl
theorem opE_iff {x y:api_Op}:(andB (eqI x.1 y.1) (andB (eqI x.2 y.2) (andB (eqI x.3 y.3) (andB (strEq x.4 y.4) true))))=true↔x=y:=by
 obtain ⟨a,b,c,d⟩:=x
 obtain ⟨a',b',c',d'⟩:=y
 simp only [andB_true,eqI_t,strEq_iff',and_true,api_Op.mk.injEq]
theorem gives10 (a b:List api_Op):Gives 10 [.d (.sl .api_Op a),.d (.sl .api_Op b)] (.d (.bool (eqv a b))):=by
 refine Runs.known fun hk _=>?_
 have hl:=known_ops (hk _ (List.mem_cons_self ..))
 refine e10 _ _ _ (ite_w (fun h=>?_) (fun h=>?_))
 ·have h:=eqI_f.1 (notB_t.1 h)
  have:a ≠ b:=fun e=>h (by rw [e])
  rw [eqv_f.2 this]; exact ⟨rfl,rfl⟩
 ·have hn:a.length=b.length:=by
   have h:=eqI_t.1 (notB_f.1 h)
   simp only [intN_eq,lenL_eq] at h; omega
  have loop:∀i,i≤a.length→(∀j (h:j<a.length),j<i→a[j]=b[j]'(hn▸h))→At K 10 (fun c' H'=>c'=(.d (.bool (eqv a b)):C U)∧H'=[]) t10_4 (s10_4 a b i):=by
   refine upto ?_ fun i hi ih=>?_
   ·intro hb
    have:a=b:=List.ext_getElem hn fun j h _=>hb j h h
    rw [eqv_t.2 this]
    exact l10_4 _ _ _ _ (ite_f (lt_len_f (Nat.le_refl _)) ⟨rfl,rfl⟩)
   ·intro hb
    refine l10_4 _ _ _ _ (ite_t (lt_len hi) (and_t (in_len hi) (and_t (in_len (hn▸hi)) ?_)))
    rw [rd_at hi,rd_at (hn▸hi)]
    refine ite_w (fun h=>?_) (fun h=>?_)
    ·have:a ≠ b:=fun e=>by
      subst e
      have:=notB_t.1 h
      rw [opE_iff.2 rfl] at this; cases this
     rw [eqv_f.2 this]; exact ⟨rfl,rfl⟩
    ·have h:=opE_iff.1 (notB_f.1 h)
     rw [add_one (by omega)]
     refine ih fun j hj hji=>?_
     by_cases e:j=i
     ·subst e; exact h
     ·exact hb j hj (by omega)
  exact loop 0 (Nat.zero_le _) fun _ _ h=>absurd h (Nat.not_lt_zero _)
theorem un_atom:∀{a:api_Atom},atomB a=true→unA (litA a)=a:=fun {a} h=>by
  obtain ⟨k,n,i,t⟩:=a
  rcases atomB_cases h with ⟨h1,h2,h3,_⟩|⟨h1,h2,h3,_⟩|⟨h1,h2,h3,h4⟩ <;> dsimp only at * <;> subst_vars <;> rfl
theorem un_val {v:ValL} (h:valE v=0):(unT (litT (treeV v))).post=v:=by
 obtain ⟨p1,p2⟩:=treeV_ok h
 have e1:(treeV v).post.map (unA∘litA)=(treeV v).post:=by
  conv=>rhs; rw [←List.map_id (treeV v).post]
  exact List.map_congr_left fun a ha=>un_atom (good_all p2.good a ha)
 rw [unT_post,litT_post,List.map_map,e1,p1]
theorem lit_all {v:ValL} (h:valE v=0) (hl:v.length≤256) (E:Env) (hd:E.done=doneF):∃t,exprT (v.map litA)=some [t]∧exprE (v.map litA)=0∧foldF (v.map litA)=v.map litA∧ev E t [] sta0=(comesO v,sta0):=by
 obtain ⟨p1,p2⟩:=treeV_ok h
 have hx:v.map litA=(litT (treeV v)).post:=by rw [litT_post,p1]
 have hs:(treeV v).size≤256:=by rw [←Tr.post_length,p1]; exact hl
 obtain ⟨q1,q2⟩:=litT_ex p2 hs
 obtain ⟨r1,r2⟩:=exprE_tree q1 (litT_bnd (treeV v) [] p2.good)
 refine ⟨litT (treeV v),by rw [hx]; exact r2,by rw [hx]; exact r1,?_,?_⟩
 ·have e:foldF (v.map litA)=(foldT (litT (treeV v))).post:=by unfold foldF; rw [hx,r2]
  rw [e,lit_stay _ q1 q2,←hx]
 ·rw [ev_lit hd _ [] sta0 q1 q2,un_val h]
theorem lit_eval {v:ValL} (h:valE v=0) (hl:v.length≤256):evalF (v.map litA) [] []=(⟨⟨1,v,[]⟩,bs [],[]⟩,0)∧foldA (v.map litA)=(v.map litA,0):=by
 obtain ⟨t,h1,h2,h3,h4⟩:=lit_all h hl (envOf [] []) rfl
 refine ⟨?_,by rw [foldA_t h2,h3]⟩
 have hg:givenE [] []=0:=rfl
 rw [evalF_at h2 h1,if_neg (by rw [hg]; decide),h4]
 rfl
def litF (v:ValL):List api_Op×Int:=if valE v ≠ 0 then ([],5) else if 256<v.length then ([],3) else (v.map litA,0)
theorem gives5 (v:ValL):Gives 5 [.d (.sl .api_Atom v)] (.tup [.d (.sl .api_Op (litF v).1),.d (.int .i64 (litF v).2)]):=by
 refine e5 _ _ ⟨_,gives13 v,ite_w (fun h=>?_) (fun h=>?_)⟩
 ·have e:litF v=([],5):=if_pos (eqI_f.1 (notB_t.1 h))
  rw [e]; exact ⟨rfl,rfl⟩
 have h:=eqI_t.1 (notB_f.1 h)
 have hx:=lit_expr h
 refine ⟨_,gives14 v,_,gives15 _,?_⟩
 by_cases hl:256<v.length
 ·have e:litF v=([],3):=by unfold litF; rw [if_neg (by omega),if_pos hl]
  rw [if_pos hl] at hx
  have hb:notB (eqI (exprE (v.map litA)) 0)=true:=by rw [hx]; rfl
  rw [e]; exact ite_t hb ⟨rfl,rfl⟩
 ·have e:litF v=(v.map litA,0):=by unfold litF; rw [if_neg (by omega),if_neg hl]
  rw [if_neg hl] at hx
  have hb:notB (eqI (exprE (v.map litA)) 0)=false:=by rw [hx]; rfl
  rw [e]; exact ite_f hb ⟨rfl,rfl⟩
theorem gives3 (a0:List api_Atom):Gives 3 [.d (.sl .api_Atom a0)] (.d (.bool true)):=by
 refine e3 _ _ ⟨true,gives4,ite_f rfl ⟨a0,gives6 _,litF a0,gives5 a0,?_⟩⟩
 by_cases h:valE a0=0
 case neg=>
  have e:litF a0=([],5):=if_pos h
  rw [e]; exact ite_t rfl ⟨rfl,rfl⟩
 by_cases hl:256<a0.length
 ·have e:litF a0=([],3):=by unfold litF; rw [if_neg (by omega),if_pos hl]
  rw [e]; exact ite_t rfl ⟨rfl,rfl⟩
 have e:litF a0=(a0.map litA,0):=by unfold litF; rw [if_neg (by omega),if_neg hl]
 rw [e]
 obtain ⟨l1,l2⟩:=lit_eval h (by omega)
 obtain ⟨H1,g1⟩:=gives7 (a0.map litA) [] [] []
 have g2:=gives9 (a0.map litA)
 rw [l1] at g1
 rw [l2] at g2
 refine ite_f rfl ⟨_,gives8 _,(⟨⟨1,a0,[]⟩,bs [],[]⟩,0),H1,g1,_,gives8 _,(a0.map litA,0),g2,true,ite_t rfl rfl,true,ite_t rfl ⟨_,gives10 _ _,eqv_self _⟩,true,ite_t rfl rfl,true,ite_t rfl ⟨_,gives11 _ _,eqv_self _⟩,true,ite_t rfl rfl,true,ite_t rfl (strEq_self _),rfl,rfl⟩
theorem o3:Opens K 3 fun ds=>∃n,ds=[.int .i64 n]:=opens_int laws (i:=⟨.int .i64,1,8,[.int .i64]⟩) (by kernel_rfl) rfl
theorem o9:Opens K 9 fun ds=>∃s,ds=[.str s]:=opens_str laws (i:=⟨.str,1,16,[.str]⟩) (by kernel_rfl) rfl
theorem o47:Opens K 47 fun ds=>∃x:api_Atom,ds=enc .api_Atom x:=
 (opens_struct laws (i:=⟨.strct [(3,0),(3,1),(3,2),(9,3)],4,40,[.int .i64,.int .i64,.int .i64,.str]⟩) (by kernel_rfl) rfl (.cons o3 (.cons o3 (.cons o3 (.cons o9 .nil)))) (by kernel_rfl)).weaken (by
  rintro ds ⟨_,_,rfl,⟨a,rfl⟩,_,_,rfl,⟨b,rfl⟩,_,_,rfl,⟨c,rfl⟩,_,_,rfl,⟨d,rfl⟩,rfl⟩
  exact ⟨⟨a,b,c,d⟩,rfl⟩)
theorem o23:Opens K 23 fun ds=>∃xs:List api_Atom,ds=[.sl .api_Atom xs]:=
 opens_slice (c:=.api_Atom) laws (i:=⟨.slice 47,1,24,[.nils]⟩) (j:=⟨.strct [(3,0),(3,1),(3,2),(9,3)],4,40,[.int .i64,.int .i64,.int .i64,.str]⟩) (by kernel_rfl) rfl (by kernel_rfl) o47 (fun _ h=>h) rfl rfl (by decide)
def keysU:List (List UInt8):=[[99,101,108,108],[97,103,97,105,110],[116,114,105,101,115],[98,97,115,101],[102,97,99,116,111,114],[99,97,112],[99,108,111,115,101],[102,105,110,101],[102,97,105,108],[112,97,110,105,99],[105,102],[116,104,101,110],[101,108,115,101],[116,114,121],[119,97,105,116],[108,101,116],[105,110],[105,116,101,109],[115,105,122,101]]
def sortsU:List Int:=[0,1,1,1,1,1,1,1,2,3,4,1]
def valuesU:List (List UInt8):=[[108,105,115,116],[97,100,100],[115,117,98],[109,117,108],[106,111,105,110],[105,116,101,109],[115,105,122,101],[105,102],[102,97,105,108],[112,97,110,105,99]]
theorem glob0:K.glob 0=some (keysU.map fun s=>.str ⟨s.toArray⟩):=by rfl
theorem glob1:K.glob 1=some (sortsU.map fun s=>.int .i64 s):=by rfl
theorem glob2:K.glob 2=some (valuesU.map fun s=>.str ⟨s.toArray⟩):=by rfl
theorem globN (n:Nat):K.glob (n+3)=none:=by rfl
theorem gKeys : Tryd.prog.globalNamed "onceweb/lex.keys" = some 0 := by kernel_rfl
theorem gSorts : Tryd.prog.globalNamed "onceweb/fail.sorts" = some 1 := by kernel_rfl
theorem gValues : Tryd.prog.globalNamed "onceweb/fail.values" = some 2 := by kernel_rfl
theorem tKeys:(Tryd.prog.globals[0]?).map (·.type)=some 121:=by kernel_rfl
theorem tSorts:(Tryd.prog.globals[1]?).map (·.type)=some 138:=by kernel_rfl
theorem tValues:(Tryd.prog.globals[2]?).map (·.type)=some 139:=by kernel_rfl
theorem szK (s:List UInt8) (h:s∈keysU):(⟨s.toArray⟩:ByteArray).size≤maxStr:=by
 have:∀s∈keysU,s.length≤100:=by decide
 have:=this s h
 show s.toArray.size≤maxStr
 rw [List.size_toArray,maxStr_eq]; omega
theorem szV (s:List UInt8) (h:s∈valuesU):(⟨s.toArray⟩:ByteArray).size≤maxStr:=by
 have:∀s∈valuesU,s.length≤100:=by decide
 have:=this s h
 show s.toArray.size≤maxStr
 rw [List.size_toArray,maxStr_eq]; omega
theorem glob_of {W : World} (h : laidMetH Tryd.prog [("onceweb/lex.keys", Rows.laid_onceweb_lex_keys), ("onceweb/fail.sorts", Rows.laid_onceweb_fail_sorts), ("onceweb/fail.values", Rows.laid_onceweb_fail_values)] W) :
  ∀g cells,K.glob g=some cells→Old W g∧∀(j:Nat) d,cells[j]?=some d→∃u,W.cell? (at' g j)=some u∧RepD K (Old W) W d u:=by
 rw [MakeChecks.laidMetH_plain _ _ _ (by kernel_rfl)] at h
 obtain ⟨ps,⟨g0,t0,cs0,f0,p0,q0,hg0,ht0,hv0,hd0,⟨g1,t1,cs1,f1,p1,q1,hg1,ht1,hv1,hd1,⟨g2,t2,cs2,f2,p2,q2,hg2,ht2,hv2,hd2,_,_⟩,_⟩,_⟩,_,_⟩:=h
 obtain rfl:=Option.some.inj (gKeys.symm.trans hg0)
 obtain rfl:=Option.some.inj (gSorts.symm.trans hg1)
 obtain rfl:=Option.some.inj (gValues.symm.trans hg2)
 obtain rfl:=Option.some.inj (tKeys.symm.trans ht0)
 obtain rfl:=Option.some.inj (tSorts.symm.trans ht1)
 obtain rfl:=Option.some.inj (tValues.symm.trans ht2)
 have e0:∀j s,keysU[j]?=some s→W.cell? ⟨0,j,none⟩=some (.string ⟨s.toArray⟩):=laid_texts hg0 hv0 Tryd.underlying121 Tryd.underlying9 (by kernel_rfl) hd0
 have e1:∀j s,sortsU[j]?=some s→W.cell? ⟨1,j,none⟩=some (.int .i64 s):=laid_ints hg1 hv1 Tryd.underlying138 Tryd.underlying3 (by kernel_rfl) hd1
 have e2:∀j s,valuesU[j]?=some s→W.cell? ⟨2,j,none⟩=some (.string ⟨s.toArray⟩):=laid_texts hg2 hv2 Tryd.underlying139 Tryd.underlying9 (by kernel_rfl) hd2
 have old:∀{g j u},W.cell? ⟨g,j,none⟩=some u→Old W g:=fun {g j u} h=>by
  unfold Old
  simp only [World.cell?] at h
  by_cases hlt:g<W.heap.size
  ·exact hlt
  ·rw [Array.getElem?_eq_none (by omega)] at h; cases h
 intro g cells hg
 match g with
 | 0=>
  rw [glob0] at hg
  cases hg
  refine ⟨old (e0 0 _ rfl),fun j d hd=>?_⟩
  rw [List.getElem?_map,Option.map_eq_some_iff] at hd
  obtain ⟨s,hs,rfl⟩:=hd
  exact ⟨_,e0 j s hs,.str _ (szK s (List.mem_of_getElem? hs))⟩
 | 1=>
  rw [glob1] at hg
  cases hg
  refine ⟨old (e1 0 _ rfl),fun j d hd=>?_⟩
  rw [List.getElem?_map,Option.map_eq_some_iff] at hd
  obtain ⟨s,hs,rfl⟩:=hd
  exact ⟨_,e1 j s hs,.int _ _⟩
 | 2=>
  rw [glob2] at hg
  cases hg
  refine ⟨old (e2 0 _ rfl),fun j d hd=>?_⟩
  rw [List.getElem?_map,Option.map_eq_some_iff] at hd
  obtain ⟨s,hs,rfl⟩:=hd
  exact ⟨_,e2 j s hs,.str _ (szV s (List.mem_of_getElem? hs))⟩
 | n+3=>rw [globN] at hg; cases hg
end Go.Proofs.YtopifagbbmhgfaaDoor.V
