/- LEMMAS: what functions answer, and what is true of it. Conditions: none. -/
import Derived.Test.YtaldbipmbkapmaaDoorL1
import Derived.Test.YtaldbipmbkapmaaDoorA42
set_option maxRecDepth 4000
set_option linter.unusedSectionVars false
namespace Go.Proofs.YtaldbipmbkapmaaDoor.V
set_option linter.unusedVariables false
set_option linter.unusedSimpArgs false
open Go Go.Abs
abbrev polC (p:api_Policy):C U:=.agg [.d (.int .i64 p.gTries),.d (.int .i64 p.gBase),.d (.int .i64 p.gFactor),.d (.int .i64 p.gCap)]
abbrev provC (p:api_Provider):C U:=.agg [.d (.str p.gName),.d (.sl .api_Op p.gExpr),.d (.bool p.gAgain),.d (.int .i64 p.gPolicy.gTries),.d (.int .i64 p.gPolicy.gBase),.d (.int .i64 p.gPolicy.gFactor),.d (.int .i64 p.gPolicy.gCap),.d (.int .i64 p.gCloser.gKind),.d (.str p.gCloser.gText)]
def polB (p:api_Policy):Bool:=
 if (andB (eqI p.1 0) (andB (eqI p.2 0) (andB (eqI p.3 0) (andB (eqI p.4 0) true))))=true then true
 else (((((leI 1 p.1 && leI p.1 64) && leI 0 p.2) && leI p.2 1073741824) && leI 1 p.3) && leI p.3 16) && leI p.2 p.4 && leI p.4 1099511627776
theorem gives43 (p:api_Policy):Gives 43 [polC p] (.d (.bool (polB p))):=by
 unfold polB
 refine e43 _ _ (ite_w (fun h=>?_) (fun h=>?_))
 ·rw [if_pos h]; exact ⟨rfl,rfl⟩
 ·rw [if_neg (by rw [h]; decide)]
  exact and_of (fun _=>rfl) (and_of (fun _=>rfl) (and_of (fun _=>rfl) (and_of (fun _=>rfl) (and_of (fun _=>rfl) (and_of (fun _=>rfl) (and_of (fun _=>rfl) ⟨rfl,rfl⟩))))))
theorem gives48 (p:api_Policy):Gives 48 [polC p] (.d (.bool (polB p))):=by
 unfold polB
 refine e48 _ _ (ite_w (fun h=>?_) (fun h=>?_))
 ·rw [if_pos h]; exact ⟨rfl,rfl⟩
 ·rw [if_neg (by rw [h]; decide)]
  exact and_of (fun _=>rfl) (and_of (fun _=>rfl) (and_of (fun _=>rfl) (and_of (fun _=>rfl) (and_of (fun _=>rfl) (and_of (fun _=>rfl) (and_of (fun _=>rfl) ⟨rfl,rfl⟩))))))
def closE (c:api_Closer):Int:=
 if ((ltI c.1 0 || ltI 3 c.1) || (ltI c.1 2 && notB (strEq c.2 (bs []))))=true then 51 else if ltI 4096 (intN (strLen c.2))=true then 3 else 0
theorem gives49 (c:api_Closer):Gives 49 [.agg [.d (.int .i64 c.gKind),.d (.str c.gText)]] (.d (.int .i64 (closE c))):=by
 unfold closE
 refine e49 _ _ (or_of (fun _=>rfl) (or_of (fun _=>and_of (fun _=>rfl) rfl) (ite_w (fun h=>?_) (fun h=>?_))))
 ·rw [if_pos h]; exact ⟨rfl,rfl⟩
 ·rw [if_neg (by rw [h]; decide)]
  refine ite_w (fun h=>?_) (fun h=>?_)
  ·rw [if_pos h]; exact ⟨rfl,rfl⟩
  ·rw [if_neg (by rw [h]; decide)]; exact ⟨rfl,rfl⟩
noncomputable def provE (p:api_Provider):Int:=
 if nameB p.gName=false then 2 else if exprE p.gExpr ≠ 0 then exprE p.gExpr else if polB p.gPolicy=false then 50 else closE p.gCloser
theorem gives23 (p:api_Provider):Gives 23 [provC p] (.d (.int .i64 (provE p))):=by
 unfold provE
 refine e23 _ _ ⟨_,gives24 _,ite_w (fun h=>?_) (fun h=>?_)⟩
 ·rw [if_pos (notB_t.1 h)]; exact ⟨rfl,rfl⟩
 rw [if_neg (by rw [notB_f.1 h]; decide)]
 refine ⟨_,gives47 _,ite_w (fun h=>?_) (fun h=>?_)⟩
 ·rw [if_pos (eqI_f.1 (notB_t.1 h))]; exact ⟨rfl,rfl⟩
 rw [if_neg (Decidable.not_not.2 (eqI_t.1 (notB_f.1 h)))]
 refine ⟨_,gives48 p.gPolicy,ite_w (fun h=>?_) (fun h=>?_)⟩
 ·rw [if_pos (notB_t.1 h)]; exact ⟨rfl,rfl⟩
 rw [if_neg (by rw [notB_f.1 h]; decide)]
 exact ⟨_,gives49 p.gCloser,rfl,rfl⟩
theorem gives18 (p:api_Provider):Gives 18 [provC p] (.d (.int .i64 (provE p))):=by
 unfold provE
 refine e18 _ _ ⟨_,gives22 _,ite_w (fun h=>?_) (fun h=>?_)⟩
 ·rw [if_pos (notB_t.1 h)]; exact ⟨rfl,rfl⟩
 rw [if_neg (by rw [notB_f.1 h]; decide)]
 refine ⟨_,gives42 _,ite_w (fun h=>?_) (fun h=>?_)⟩
 ·rw [if_pos (eqI_f.1 (notB_t.1 h))]; exact ⟨rfl,rfl⟩
 rw [if_neg (Decidable.not_not.2 (eqI_t.1 (notB_f.1 h)))]
 refine or_of (fun _=>rfl) ⟨_,gives43 p.gPolicy,ite_w (fun h=>?_) (fun h=>?_)⟩
 ·rw [if_pos (notB_t.1 h)]; exact ⟨rfl,rfl⟩
 rw [if_neg (by rw [notB_f.1 h]; decide)]
 unfold closE
 have e:((ltI p.5.1 0 || ltI 3 p.5.1) || (notB (eqI p.5.1 2 || eqI p.5.1 3) && notB (strEq p.5.2 (bs []))))=((ltI p.5.1 0 || ltI 3 p.5.1) || (ltI p.5.1 2 && notB (strEq p.5.2 (bs [])))):=by
  have:(ltI p.5.1 0 || ltI 3 p.5.1)=false→notB (eqI p.5.1 2 || eqI p.5.1 3)=ltI p.5.1 2:=by
   intro h
   rw [Bool.or_eq_false_iff] at h
   have h1:=of_decide_eq_false h.1; have h2:=of_decide_eq_false h.2
   rw [Bool.eq_iff_iff,notB_t,Bool.or_eq_false_iff,eqI_f,eqI_f]
   unfold ltI; rw [decide_eq_true_iff]; omega
  cases hb:(ltI p.5.1 0 || ltI 3 p.5.1) with
  | true=>rfl
  | false=>rw [this hb]
 refine or_of (fun _=>rfl) (or_of (fun _=>and_of (fun _=>rfl) rfl) ?_)
 rw [e]
 refine ite_w (fun h=>?_) (fun h=>?_)
 ·rw [if_pos h]; exact ⟨rfl,rfl⟩
 ·rw [if_neg (by rw [h]; decide)]
  refine ite_w (fun h=>?_) (fun h=>?_)
  ·rw [if_pos h]; exact ⟨rfl,rfl⟩
  ·rw [if_neg (by rw [h]; decide)]; exact ⟨rfl,rfl⟩
def textsF (k:Int) (l:List api_Op):List ByteArray:=l.foldl (fun acc o=>if (eqI o.gKind k && notB (inB' acc o.gText))=true then acc ++ [o.gText] else acc) []
theorem textsF_len (k:Int) (l:List api_Op):(textsF k l).length≤l.length:=by
 have:∀(l:List api_Op) (acc:List ByteArray),(l.foldl (fun acc o=>if (eqI o.gKind k && notB (inB' acc o.gText))=true then acc ++ [o.gText] else acc) acc).length≤acc.length+l.length:=by
  intro l
  induction l with
  | nil=>simp
  | cons o l ih=>
   intro acc
   rw [List.foldl_cons]
   refine Nat.le_trans (ih _) ?_
   split <;> simp <;> omega
 have:=this l []
 rw [List.length_nil,Nat.zero_add] at this; exact this
theorem textsF_take {k:Int} {l:List api_Op} {i:Nat} (h:i<l.length):textsF k (l.take (i+1))=if (eqI l[i].gKind k && notB (inB' (textsF k (l.take i)) l[i].gText))=true then textsF k (l.take i) ++ [l[i].gText] else textsF k (l.take i):=by
 unfold textsF
 rw [List.take_succ_eq_append_getElem h,List.foldl_append]; rfl
theorem gives75 (x:List api_Op) (hx:x.length≤1000000) (k:Int):Gives 75 [.d (.sl .api_Op x),.d (.int .i64 k)] (.d (.sl .str (textsF k x))):=by
 have loop:∀i,i≤x.length→At K 75 (fun c' H'=>c'=(.d (.sl .str (textsF k x)):C U)∧H'=[]) t75_3 (s75_3 k x (intN (lenL x)) i (textsF k (x.take i))):=by
  refine upto ?_ fun i hi ih=>?_
  ·refine l75_3 _ _ _ _ _ _ (ite_f (lt_len_f (Nat.le_refl _)) ⟨?_,rfl⟩)
   rw [List.take_length]
  ·have hr:rd (api_Op.mk 0 0 0 (bs [])) x i=x[i]:=rd_at hi
   have hl:=textsF_len k (x.take i)
   rw [textsF_take hi] at ih
   refine l75_3 _ _ _ _ _ _ (ite_t (lt_len hi) (and_t (in_len hi) ?_))
   rw [hr]
   refine and_of (fun _=>⟨_,gives59 _ _,rfl⟩) (ite_w (fun h=>?_) (fun h=>?_))
   ·rw [if_pos h] at ih
    refine and_t (roomB_t (by simp [addN,lenL] at hl ⊢; omega)) ?_
    rw [add_one (by omega)]; exact ih
   ·rw [if_neg (by rw [h]; decide)] at ih
    rw [add_one (by omega)]; exact ih
 exact e75 _ _ _ (loop 0 (Nat.zero_le _))
theorem gives78 (x:List api_Op) (hx:x.length≤1000000) (k:Int):Gives 78 [.d (.sl .api_Op x),.d (.int .i64 k)] (.d (.sl .str (textsF k x))):=by
 have loop:∀i,i≤x.length→At K 78 (fun c' H'=>c'=(.d (.sl .str (textsF k x)):C U)∧H'=[]) t78_3 (s78_3 x k i (textsF k (x.take i))):=by
  refine upto ?_ fun i hi ih=>?_
  ·refine l78_3 _ _ _ _ _ (ite_f (lt_len_f (Nat.le_refl _)) ⟨?_,rfl⟩)
   rw [List.take_length]
  ·have hr:rd (api_Op.mk 0 0 0 (bs [])) x i=x[i]:=rd_at hi
   have hl:=textsF_len k (x.take i)
   rw [textsF_take hi] at ih
   refine l78_3 _ _ _ _ _ (ite_t (lt_len hi) (and_t (in_len hi) ?_))
   rw [hr]
   refine and_of (fun _=>and_t (in_len hi) ⟨_,gives51 _ _,rfl⟩) (ite_w (fun h=>?_) (fun h=>?_))
   ·rw [if_pos h] at ih
    refine and_t (in_len hi) (and_t (roomB_t (by simp [addN,lenL] at hl ⊢; omega)) ?_)
    rw [add_one (by omega)]; exact ih
   ·rw [if_neg (by rw [h]; decide)] at ih
    rw [add_one (by omega)]; exact ih
 exact e78 _ _ _ (loop 0 (Nat.zero_le _))
noncomputable def askedF (x:List api_Op):List ByteArray×Int:=if exprE x ≠ 0 then ([],exprE x) else (textsF 3 x,0)
noncomputable def gatesF (x:List api_Op):List ByteArray×Int:=if exprE x ≠ 0 then ([],exprE x) else (textsF 18 x,0)
theorem exprE_len {x:List api_Op} (h:exprE x=0):x.length≤1000000:=by
 unfold exprE at h
 split at h
 ·cases h
 ·omega
theorem gives55 (x:List api_Op):Gives 55 [.d (.sl .api_Op x)] (.tup [.d (.sl .str (askedF x).1),.d (.int .i64 (askedF x).2)]):=by
 unfold askedF
 refine e55 _ _ ⟨_,gives42 x,ite_w (fun h=>?_) (fun h=>?_)⟩
 ·rw [if_pos (eqI_f.1 (notB_t.1 h))]; exact ⟨rfl,rfl⟩
 ·have h:=eqI_t.1 (notB_f.1 h)
  rw [if_neg (Decidable.not_not.2 h)]
  exact ⟨_,gives75 x (exprE_len h) 3,rfl,rfl⟩
theorem gives62 (x:List api_Op):Gives 62 [.d (.sl .api_Op x)] (.tup [.d (.sl .str (askedF x).1),.d (.int .i64 (askedF x).2)]):=by
 unfold askedF
 refine e62 _ _ ⟨_,gives47 x,ite_w (fun h=>?_) (fun h=>?_)⟩
 ·rw [if_pos (eqI_f.1 (notB_t.1 h))]; exact ⟨rfl,rfl⟩
 ·have h:=eqI_t.1 (notB_f.1 h)
  rw [if_neg (Decidable.not_not.2 h)]
  exact ⟨_,gives78 x (exprE_len h) 3,rfl,rfl⟩
theorem gives56 (x:List api_Op):Gives 56 [.d (.sl .api_Op x)] (.tup [.d (.sl .str (gatesF x).1),.d (.int .i64 (gatesF x).2)]):=by
 unfold gatesF
 refine e56 _ _ ⟨_,gives42 x,ite_w (fun h=>?_) (fun h=>?_)⟩
 ·rw [if_pos (eqI_f.1 (notB_t.1 h))]; exact ⟨rfl,rfl⟩
 ·have h:=eqI_t.1 (notB_f.1 h)
  rw [if_neg (Decidable.not_not.2 h)]
  exact ⟨_,gives75 x (exprE_len h) 18,rfl,rfl⟩
theorem gives64 (x:List api_Op):Gives 64 [.d (.sl .api_Op x)] (.tup [.d (.sl .str (gatesF x).1),.d (.int .i64 (gatesF x).2)]):=by
 unfold gatesF
 refine e64 _ _ ⟨_,gives47 x,ite_w (fun h=>?_) (fun h=>?_)⟩
 ·rw [if_pos (eqI_f.1 (notB_t.1 h))]; exact ⟨rfl,rfl⟩
 ·have h:=eqI_t.1 (notB_f.1 h)
  rw [if_neg (Decidable.not_not.2 h)]
  exact ⟨_,gives78 x (exprE_len h) 18,rfl,rfl⟩
theorem obj_push_lt {H:List (O U)} {o:O U} {n:Nat} (h:n<lenO H):obj (pushO H o) n=obj H n:=by
 unfold obj pushO; exact List.getElem?_append_left h
theorem obj_push {H:List (O U)} {o:O U}:obj (pushO H o) (lenO H)=some o:=by
 unfold obj pushO lenO; simp
theorem obj_len {H:List (O U)} {n:Nat} {o:O U} (h:obj H n=some o):n<lenO H:=(List.getElem?_eq_some_iff.1 h).1
theorem obj_upd {H:List (O U)} {n:Nat} {o o':O U} (h:obj H n=some o'):obj (updO H n o) n=some o:=by
 unfold obj updO
 have:=obj_len h
 unfold lenO at this
 simp [this]
theorem obj_upd_ne {H:List (O U)} {n m:Nat} {o:O U} (h:m ≠ n):obj (updO H n o) m=obj H m:=by
 unfold obj updO
 rw [List.getElem?_set_ne (fun e=>h e.symm)]
theorem len_upd {H:List (O U)} {n:Nat} {x:O U}:lenO (updO H n x)=lenO H:=by unfold lenO updO; simp
theorem len_push {H:List (O U)} {x:O U}:lenO (pushO H x)=lenO H+1:=by unfold lenO pushO; simp
def firstFrom (p:Nat→Bool) (n:Nat) (i:Nat):Option Nat:=if i<n then (if p i=true then some i else firstFrom p n (i+1)) else none
termination_by n - i
theorem first_end {p:Nat→Bool} {n:Nat}:firstFrom p n n=none:=by rw [firstFrom,if_neg (by omega)]
theorem first_yes {p:Nat→Bool} {n i:Nat} (h:i<n) (hp:p i=true):firstFrom p n i=some i:=by rw [firstFrom,if_pos h,if_pos hp]
theorem first_no {p:Nat→Bool} {n i:Nat} (h:i<n) (hp:p i=false):firstFrom p n i=firstFrom p n (i+1):=by rw [firstFrom,if_pos h,if_neg (by rw [hp]; decide)]
theorem first_none {p:Nat→Bool} {n:Nat}:∀i,i≤n→firstFrom p n i=none→∀j,i≤j→j<n→p j=false:=by
 refine upto (fun _ j h1 h2=>by omega) fun i hi ih h j h1 h2=>?_
 cases hp:p i with
 | true=>rw [first_yes hi hp] at h; cases h
 | false=>
  rw [first_no hi hp] at h
  by_cases e:j=i
  ·rw [e]; exact hp
  ·exact ih h j (by omega) h2
theorem first_some {p:Nat→Bool} {n k:Nat}:∀i,i≤n→firstFrom p n i=some k→i≤k∧k<n∧p k=true∧∀j,i≤j→j<k→p j=false:=by
 refine upto (fun h=>by rw [first_end] at h; cases h) fun i hi ih h=>?_
 cases hp:p i with
 | true=>
  rw [first_yes hi hp] at h; cases h
  exact ⟨Nat.le_refl _,hi,hp,fun j h1 h2=>by omega⟩
 | false=>
  rw [first_no hi hp] at h
  obtain ⟨h1,h2,h3,h4⟩:=ih h
  refine ⟨by omega,h2,h3,fun j h5 h6=>?_⟩
  by_cases e:j=i
  ·rw [e]; exact hp
  ·exact h4 j (by omega) h6
theorem first_ext {p q:Nat→Bool} {n:Nat} (h:∀j,j<n→p j=q j):∀i,i≤n→firstFrom p n i=firstFrom q n i:=by
 refine upto (by rw [first_end,first_end]) fun i hi ih=>?_
 rw [firstFrom,firstFrom.eq_1 q,if_pos hi,if_pos hi,h i hi,ih]
def oI:Option Nat→Int
 | some i=>(i:Int)
 | none=>-1
theorem oI_ge {o:Option Nat}:leI 0 (oI o)=o.isSome:=by cases o <;> simp [oI,leI]
abbrev ownC (a:api_Own):C U:=.agg [.d (.int .i64 a.gScope),.d (.str a.gProvider.gName),.d (.sl .api_Op a.gProvider.gExpr),.d (.bool a.gProvider.gAgain),.d (.int .i64 a.gProvider.gPolicy.gTries),.d (.int .i64 a.gProvider.gPolicy.gBase),.d (.int .i64 a.gProvider.gPolicy.gFactor),.d (.int .i64 a.gProvider.gPolicy.gCap),.d (.int .i64 a.gProvider.gCloser.gKind),.d (.str a.gProvider.gCloser.gText)]
abbrev ownO (a:api_Own):O U:=.cells [.d (.int .i64 a.gScope),.d (.str a.gProvider.gName),.d (.sl .api_Op a.gProvider.gExpr),.d (.bool a.gProvider.gAgain),.d (.int .i64 a.gProvider.gPolicy.gTries),.d (.int .i64 a.gProvider.gPolicy.gBase),.d (.int .i64 a.gProvider.gPolicy.gFactor),.d (.int .i64 a.gProvider.gPolicy.gCap),.d (.int .i64 a.gProvider.gCloser.gKind),.d (.str a.gProvider.gCloser.gText)]
abbrev zeroO:O U:=.cells [.d (.int .i64 0),.d (.str (bs [])),.d (.sl .api_Op []),.d (.bool false),.d (.int .i64 0),.d (.int .i64 0),.d (.int .i64 0),.d (.int .i64 0),.d (.int .i64 0),.d (.str (bs []))]
abbrev worldC (w:api_World):C U:=.agg [.d (.sl .int w.gParents),.d (.sl .api_Own w.gCells),.d (.sl .str w.gOpen)]
abbrev own0:api_Own:=api_Own.mk 0 (api_Provider.mk (bs []) [] false (api_Policy.mk 0 0 0 0) (api_Closer.mk 0 (bs [])))
abbrev cel (w:api_World) (i:Nat):api_Own:=rd own0 w.gCells (i:Int)
theorem cel_at {w:api_World} {i:Nat} (h:i<w.gCells.length):cel w i=w.gCells[i]:=rd_at h
theorem world_small {w:api_World} (h:C.Known K (worldC w)):w.gParents.length * 8≤140737488355328∧w.gCells.length * 112≤140737488355328∧w.gOpen.length * 16≤140737488355328:=by
 have h:=h.agg
 exact ⟨(h _ (List.mem_cons_self ..)).d.sl.1,(h _ (List.mem_cons_of_mem _ (List.mem_cons_self ..))).d.sl.1,(h _ (List.mem_cons_of_mem _ (List.mem_cons_of_mem _ (List.mem_cons_self ..)))).d.sl.1⟩
def keyB (s:Int) (n:ByteArray) (b:api_Own):Bool:=eqI b.gScope s && strEq b.gProvider.gName n
theorem gives21 (a:api_Own):Gives 21 [ownC a] (.agg [.d (.int .i64 a.gScope),.d (.str a.gProvider.gName)]):=e21 _ _ ⟨rfl,rfl⟩
def Finds (f:Nat) (caps:List (C U)) (P:api_Own→Bool) (H:List (O U)):Prop:=∀a,GivesM f (ownC a :: caps) H (.d (.bool (P a))) H
theorem gives20 {H:List (O U)} {p:Nat} {c:api_Own} (h:obj H p=some (ownO c)):Finds 20 [.ptr (.g p) 0] (keyB c.gScope c.gProvider.gName) H:=by
 intro a
 refine e20 a p H _ ⟨⟨a.gScope,a.gProvider.gName⟩,gives21 a,c,h,⟨c.gScope,c.gProvider.gName⟩,gives21 c,?_,rfl⟩
 show (.d (.bool (andB (eqI a.gScope c.gScope) (andB (strEq a.gProvider.gName c.gProvider.gName) true))):C U)=_
 have:andB (eqI a.gScope c.gScope) (andB (strEq a.gProvider.gName c.gProvider.gName) true)=keyB c.gScope c.gProvider.gName a:=by
  unfold keyB andB; rw [Bool.and_true]
 rw [this]
def idxO (P:api_Own→Bool) (l:List api_Own):Option Nat:=firstFrom (fun i=>P (rd own0 l (i:Int))) l.length 0
theorem gives44 {H:List (O U)} {f:Nat} {caps:List (C U)} {P:api_Own→Bool} (h:Finds f caps P H) (l:List api_Own) (hl:l.length<4611686018427387904):GivesM 44 [.d (.sl .api_Own l),.fp f [] caps] H (.d (.int .i64 (oI (idxO P l)))) H:=by
 have loop:∀i,i≤l.length→At K 44 (fun c' H'=>c'=(.d (.int .i64 (oI (firstFrom (fun i=>P (rd own0 l (i:Int))) l.length i))):C U)∧H'=H) t44_2 (s44_2 l f [] caps (intN (lenL l)) i H):=by
  refine upto ?_ fun i hi ih=>?_
  ·exact l44_2 _ _ _ _ _ _ _ _ (ite_f (lt_len_f (Nat.le_refl _)) ⟨by rw [first_end]; rfl,rfl⟩)
  ·refine l44_2 _ _ _ _ _ _ _ _ (ite_t (lt_len hi) (and_t (in_len hi) ⟨_,(),h (rd own0 l (i:Int)),ite_w (fun hp=>?_) (fun hp=>?_)⟩))
   ·rw [first_yes hi hp]; exact ⟨rfl,rfl⟩
   ·rw [first_no hi hp,add_one (by omega)]; exact ih
 exact e44 _ _ _ _ _ _ (loop 0 (Nat.zero_le _))
theorem gives19 {H:List (O U)} {f:Nat} {caps:List (C U)} {P:api_Own→Bool} (h:Finds f caps P H) (l:List api_Own) (hl:l.length<4611686018427387904):GivesM 19 [.d (.sl .api_Own l),.fp f [] caps] H (.d (.bool (idxO P l).isSome)) H:=by
 refine e19 _ _ _ _ _ _ ⟨_,(),gives44 h l hl,?_,rfl⟩
 rw [oI_ge]
def parB (w:api_World) (i:Nat):Bool:=(ltI (rd 0 w.gParents i) (-1) || leI i (rd 0 w.gParents i)) || notB (eqB (eqI (rd 0 w.gParents i) (-1)) (eqI i 0))
noncomputable def celE (w:api_World) (i:Nat):Int:=
 if (ltI (cel w i).gScope 0 || leI (intN (lenL w.gParents)) (cel w i).gScope)=true then 1
 else if provE (cel w i).gProvider ≠ 0 then provE (cel w i).gProvider
 else if (firstFrom (fun k=>keyB (cel w i).gScope (cel w i).gProvider.gName (cel w k)) i 0).isSome=true then 6 else 0
def opnB (w:api_World) (i:Nat):Bool:=notB (nameB (rd (bs []) w.gOpen i))
def opnF (w:api_World) (i:Nat):api_Fault:=match firstFrom (opnB w) w.gOpen.length i with
 | some i=>⟨i,2⟩
 | none=>⟨0,0⟩
noncomputable def celF (w:api_World) (i:Nat):api_Fault:=match firstFrom (fun i=>notB (eqI (celE w i) 0)) w.gCells.length i with
 | some i=>⟨i,celE w i⟩
 | none=>if 4096<w.gOpen.length then ⟨0,3⟩ else opnF w 0
noncomputable def parF (w:api_World) (i:Nat):api_Fault:=match firstFrom (parB w) w.gParents.length i with
 | some i=>⟨i,5⟩
 | none=>if w.gParents.length=0 then ⟨0,5⟩ else if 256<w.gCells.length then ⟨0,3⟩ else celF w 0
noncomputable def chkW (w:api_World):api_Fault:=if 32<w.gParents.length then ⟨0,3⟩ else parF w 0
abbrev fltC (f:api_Fault):C U:=.agg [.d (.int .i64 f.gAt),.d (.int .i64 f.gCode)]
theorem gives5 (w:api_World):Gives 5 [worldC w] (fltC (chkW w)):=by
 refine Runs.known fun hk _=>?_
 obtain ⟨h1,h2,h3⟩:=world_small (hk _ (List.mem_cons_self ..))
 have open':∀H:List (O U),∀i,i≤w.gOpen.length→At K 5 (fun c' H'=>c'=fltC (opnF w i)∧H'=[]) t5_27 (s5_27 w.gOpen (intN (lenL w.gOpen)) i 0 0 H):=by
  intro H
  refine upto ?_ fun i hi ih=>?_
  ·refine l5_27 _ _ _ _ _ _ _ (ite_f (lt_len_f (Nat.le_refl _)) ⟨?_,rfl⟩)
   unfold opnF; rw [first_end]
  ·refine l5_27 _ _ _ _ _ _ _ (ite_t (lt_len hi) (and_t (in_len hi) ⟨_,gives22 _,ite_w (fun h=>?_) (fun h=>?_)⟩))
   ·have:opnF w i=⟨i,2⟩:=by unfold opnF; rw [first_yes hi h]
    rw [this]; exact ⟨rfl,rfl⟩
   ·have:opnF w i=opnF w (i+1):=by unfold opnF; rw [first_no hi h]
    rw [this,add_one (by omega)]; exact ih
 have cells:∀i,i≤w.gCells.length→∀H:List (O U),At K 5 (fun c' H'=>c'=fltC (celF w i)∧H'=[]) t5_14 (s5_14 w.gCells (intN (lenL w.gCells)) i w.gParents w.gCells w.gOpen 0 0 H):=by
  refine upto ?_ fun i hi ih=>?_
  ·intro H
   refine l5_14 _ _ _ _ _ _ _ _ _ _ (ite_f (lt_len_f (Nat.le_refl _)) ?_)
   unfold celF
   rw [first_end]
   refine ite_w (fun h=>?_) (fun h=>?_)
   ·have h:=of_decide_eq_true h
    simp only [intN_eq,lenL_eq] at h
    simp only
    rw [if_pos (by omega)]; exact ⟨rfl,rfl⟩
   ·have h:=of_decide_eq_false h
    simp only [intN_eq,lenL_eq] at h
    simp only
    rw [if_neg (by omega)]; exact open' H 0 (Nat.zero_le _)
  ·intro H
   let H1:=updO (pushO H zeroO) (lenO H) (ownO (cel w i))
   have o0:obj (pushO H zeroO) (lenO H)=some (ownO own0):=obj_push
   have o1:obj H1 (lenO H)=some (ownO (cel w i)):=obj_upd obj_push
   have yes:∀{e:Int},celE w i=e→e ≠ 0→celF w i=⟨i,e⟩:=fun {e} h hn=>by
    unfold celF; rw [first_yes hi (notB_t.2 (eqI_f.2 (by rw [h]; exact hn)))]; simp only [h]
   have hl:(dropL (natI 0) (takeL (natI (i:Int)) w.gCells))=w.gCells.take i:=rfl
   have hidx:(idxO (keyB (cel w i).gScope (cel w i).gProvider.gName) (w.gCells.take i)).isSome=(firstFrom (fun k=>keyB (cel w i).gScope (cel w i).gProvider.gName (cel w k)) i 0).isSome:=by
    have e:(w.gCells.take i).length=i:=by simp; omega
    unfold idxO
    rw [e,first_ext (q:=fun k=>keyB (cel w i).gScope (cel w i).gProvider.gName (cel w k)) (fun j hj=>?_) 0 (Nat.zero_le _)]
    have:rd own0 (w.gCells.take i) (j:Int)=cel w j:=by
     rw [rd_at (by omega),cel_at (by omega),List.getElem_take]
    simp only [this]
   have g19:=gives19 (gives20 o1) (w.gCells.take i) (by simp; omega)
   rw [hidx] at g19
   refine l5_14 _ _ _ _ _ _ _ _ _ _ (ite_t (lt_len hi) (and_t (in_len hi) ⟨_,o0,cel w i,o1,or_of (fun _=>⟨cel w i,o1,rfl⟩) (ite_w (fun h=>?_) (fun h=>⟨cel w i,o1,_,gives18 (cel w i).gProvider,ite_w (fun h'=>?_) (fun h'=>and_t ?_ ⟨_,(),g19,ite_w (fun h''=>?_) (fun h''=>?_)⟩)⟩))⟩))
   ·rw [yes (e:=1) (by unfold celE; rw [if_pos h]) (by decide)]; exact ⟨rfl,rfl⟩
   ·have h':=eqI_f.1 (notB_t.1 h')
    rw [yes (e:=provE (cel w i).gProvider) (by unfold celE; rw [if_neg (by rw [h]; decide),if_pos h']) h']; exact ⟨rfl,rfl⟩
   ·simp [andB,leI,intN,lenL]; omega
   ·have h':=eqI_t.1 (notB_f.1 h')
    rw [yes (e:=6) (by unfold celE; rw [if_neg (by rw [h]; decide),if_neg (Decidable.not_not.2 h'),if_pos h'']) (by decide)]; exact ⟨rfl,rfl⟩
   ·have h':=eqI_t.1 (notB_f.1 h')
    have e0:celE w i=0:=by unfold celE; rw [if_neg (by rw [h]; decide),if_neg (Decidable.not_not.2 h'),if_neg (by rw [h'']; decide)]
    have:celF w i=celF w (i+1):=by unfold celF; rw [first_no hi (notB_f.2 (eqI_t.2 e0))]
    rw [this,add_one (by omega)]; exact ih H1
 have pars:∀i,i≤w.gParents.length→w.gParents.length ≠ 0→At K 5 (fun c' H'=>c'=fltC (parF w i)∧H'=[]) t5_6 (s5_6 w.gParents (intN (lenL w.gParents)) i w.gParents w.gCells w.gOpen 0 0 []):=by
  refine upto ?_ fun i hi ih=>?_
  ·intro hz
   refine l5_6 _ _ _ _ _ _ _ _ _ _ (ite_f (lt_len_f (Nat.le_refl _)) ?_)
   unfold parF
   rw [first_end]
   simp only
   rw [if_neg hz]
   refine ite_w (fun h=>?_) (fun h=>?_)
   ·have h:=of_decide_eq_true h
    simp only [intN_eq,lenL_eq] at h
    rw [if_pos (by omega)]; exact ⟨rfl,rfl⟩
   ·have h:=of_decide_eq_false h
    simp only [intN_eq,lenL_eq] at h
    rw [if_neg (by omega)]; exact cells 0 (Nat.zero_le _) []
  ·intro hz
   refine l5_6 _ _ _ _ _ _ _ _ _ _ (ite_t (lt_len hi) (and_t (in_len hi) (or_of (fun _=>rfl) (or_of (fun _=>rfl) (ite_w (fun h=>?_) (fun h=>?_))))))
   ·have:parF w i=⟨i,5⟩:=by unfold parF; rw [first_yes hi h]
    rw [this]; exact ⟨rfl,rfl⟩
   ·have:parF w i=parF w (i+1):=by unfold parF; rw [first_no hi h]
    rw [this,add_one (by omega)]; exact ih hz
 unfold chkW
 refine e5 _ _ (ite_w (fun h=>?_) (fun h=>?_))
 ·have h:=of_decide_eq_true h
  simp only [intN_eq,lenL_eq] at h
  rw [if_pos (by omega)]; exact ⟨rfl,rfl⟩
 have h:=of_decide_eq_false h
 simp only [intN_eq,lenL_eq] at h
 rw [if_neg (by omega)]
 refine ite_w (fun h0=>?_) (fun h0=>?_)
 ·have h0:=eqI_t.1 h0
  simp only [intN_eq,lenL_eq] at h0
  have hz:w.gParents.length=0:=by omega
  have:parF w 0=⟨0,5⟩:=by unfold parF; rw [hz,first_end]; simp
  rw [this]; exact ⟨rfl,rfl⟩
 ·have h0:=eqI_f.1 h0
  simp only [intN_eq,lenL_eq] at h0
  exact pars 0 (Nat.zero_le _) (by omega)
theorem gives6 (w:api_World):Gives 6 [worldC w] (fltC (chkW w)):=by
 refine Runs.known fun hk _=>?_
 obtain ⟨h1,h2,h3⟩:=world_small (hk _ (List.mem_cons_self ..))
 have open':∀i,i≤w.gOpen.length→At K 6 (fun c' H'=>c'=fltC (opnF w i)∧H'=[]) t6_30 (s6_30 i w.gParents w.gCells w.gOpen 0 0):=by
  refine upto ?_ fun i hi ih=>?_
  ·refine l6_30 _ _ _ _ _ _ _ (ite_f (lt_len_f (Nat.le_refl _)) ⟨?_,rfl⟩)
   unfold opnF; rw [first_end]
  ·refine l6_30 _ _ _ _ _ _ _ (ite_t (lt_len hi) (and_t (in_len hi) ⟨_,gives24 _,ite_w (fun h=>?_) (fun h=>?_)⟩))
   ·have:opnF w i=⟨i,2⟩:=by unfold opnF; rw [first_yes hi h]
    rw [this]; exact ⟨rfl,rfl⟩
   ·have:opnF w i=opnF w (i+1):=by unfold opnF; rw [first_no hi h]
    rw [this,add_one (by omega)]; exact ih
 have cells:∀i,i≤w.gCells.length→At K 6 (fun c' H'=>c'=fltC (celF w i)∧H'=[]) t6_14 (s6_14 i w.gParents w.gCells w.gOpen 0 0):=by
  refine upto ?_ fun i hi ih=>?_
  ·refine l6_14 _ _ _ _ _ _ _ (ite_f (lt_len_f (Nat.le_refl _)) ?_)
   unfold celF
   rw [first_end]
   simp only
   refine ite_w (fun h=>?_) (fun h=>?_)
   ·have h:=of_decide_eq_true h
    simp only [intN_eq,lenL_eq] at h
    rw [if_pos (by omega)]; exact ⟨rfl,rfl⟩
   ·have h:=of_decide_eq_false h
    simp only [intN_eq,lenL_eq] at h
    rw [if_neg (by omega)]; exact open' 0 (Nat.zero_le _)
  ·have yes:∀{e:Int},celE w i=e→e ≠ 0→celF w i=⟨i,e⟩:=fun {e} h hn=>by
    unfold celF; rw [first_yes hi (notB_t.2 (eqI_f.2 (by rw [h]; exact hn)))]; simp only [h]
   refine l6_14 _ _ _ _ _ _ _ (ite_t (lt_len hi) (and_t (in_len hi) (or_of (fun _=>rfl) (ite_w (fun h=>?_) (fun h=>⟨_,gives23 (cel w i).gProvider,ite_w (fun h'=>?_) (fun h'=>?_)⟩)))))
   ·rw [yes (e:=1) (by unfold celE; rw [if_pos h]) (by decide)]; exact ⟨rfl,rfl⟩
   ·have h':=eqI_f.1 (notB_t.1 h')
    rw [yes (e:=provE (cel w i).gProvider) (by unfold celE; rw [if_neg (by rw [h]; decide),if_pos h']) h']; exact ⟨rfl,rfl⟩
   ·have h':=eqI_t.1 (notB_f.1 h')
    have twice:∀k,k≤i→(firstFrom (fun k=>keyB (cel w i).gScope (cel w i).gProvider.gName (cel w k)) i k).isSome=(firstFrom (fun k=>keyB (cel w i).gScope (cel w i).gProvider.gName (cel w k)) i 0).isSome→
      At K 6 (fun c' H'=>c'=fltC (celF w i)∧H'=[]) t6_23 (s6_23 i k w.gParents w.gCells w.gOpen 0 0 (cel w i).1 (cel w i).2.1 (cel w i).2.2 (cel w i).2.3 (cel w i).2.4.1 (cel w i).2.4.2 (cel w i).2.4.3 (cel w i).2.4.4 (cel w i).2.5.1 (cel w i).2.5.2):=by
     refine upto ?_ fun k hk ihk=>?_
     ·intro e
      rw [first_end] at e
      have e0:celE w i=0:=by unfold celE; rw [if_neg (by rw [h]; decide),if_neg (Decidable.not_not.2 h'),if_neg (by rw [←e]; decide)]
      have:celF w i=celF w (i+1):=by unfold celF; rw [first_no hi (notB_f.2 (eqI_t.2 e0))]
      refine l6_23 _ _ _ _ _ _ _ _ _ _ _ _ _ _ _ _ _ _ (ite_f (by simp [ltI]) ?_)
      rw [this,add_one (by omega)]; exact ih
     ·intro e
      have hlt:ltI (k:Int) (i:Int)=true:=decide_eq_true (by omega)
      have hki:k<w.gCells.length:=by omega
      have no:keyB (cel w i).gScope (cel w i).gProvider.gName (cel w k)=false→At K 6 (fun c' H'=>c'=fltC (celF w i)∧H'=[]) t6_23 (s6_23 i (addW .i64 k 1) w.gParents w.gCells w.gOpen 0 0 (cel w i).1 (cel w i).2.1 (cel w i).2.2 (cel w i).2.3 (cel w i).2.4.1 (cel w i).2.4.2 (cel w i).2.4.3 (cel w i).2.4.4 (cel w i).2.5.1 (cel w i).2.5.2):=fun hn=>by
       rw [first_no hk hn] at e
       rw [add_one (by omega)]; exact ihk e
      refine l6_23 _ _ _ _ _ _ _ _ _ _ _ _ _ _ _ _ _ _ (ite_t hlt (and_t (in_len hki) (ite_w (fun h1=>and_t (in_len hki) (ite_w (fun h2=>?_) (fun h2=>?_))) (fun h1=>?_))))
      ·have hp:keyB (cel w i).gScope (cel w i).gProvider.gName (cel w k)=true:=by unfold keyB; rw [h1,h2]; rfl
       rw [first_yes hk hp] at e
       rw [yes (e:=6) (by unfold celE; rw [if_neg (by rw [h]; decide),if_neg (Decidable.not_not.2 h'),if_pos (by rw [←e]; rfl)]) (by decide)]; exact ⟨rfl,rfl⟩
      ·exact no (by unfold keyB; rw [h2,Bool.and_false])
      ·exact no (by unfold keyB; rw [h1,Bool.false_and])
    exact twice 0 (Nat.zero_le _) rfl
 have pars:∀i,i≤w.gParents.length→At K 6 (fun c' H'=>c'=fltC (parF w i)∧H'=[]) t6_4 (s6_4 i w.gParents w.gCells w.gOpen 0 0):=by
  refine upto ?_ fun i hi ih=>?_
  ·refine l6_4 _ _ _ _ _ _ _ (ite_f (lt_len_f (Nat.le_refl _)) ?_)
   unfold parF
   rw [first_end]
   simp only
   refine ite_w (fun h=>?_) (fun h=>?_)
   ·have h:=eqI_t.1 h
    simp only [intN_eq,lenL_eq] at h
    rw [if_pos (by omega)]; exact ⟨rfl,rfl⟩
   have h:=eqI_f.1 h
   simp only [intN_eq,lenL_eq] at h
   rw [if_neg (by omega)]
   refine ite_w (fun h=>?_) (fun h=>?_)
   ·have h:=of_decide_eq_true h
    simp only [intN_eq,lenL_eq] at h
    rw [if_pos (by omega)]; exact ⟨rfl,rfl⟩
   ·have h:=of_decide_eq_false h
    simp only [intN_eq,lenL_eq] at h
    rw [if_neg (by omega)]; exact cells 0 (Nat.zero_le _)
  ·have e:((eqI (i:Int) 0 && notB (eqI (rd (0:Int) w.gParents i) (-1))) || (ltI 0 (i:Int) && (ltI (rd (0:Int) w.gParents i) 0 || leI i (rd (0:Int) w.gParents i))))=parB w i:=by
    unfold parB
    generalize rd (0:Int) w.gParents i=p
    have:∀a b:Int,eqI a b=decide (a=b):=fun a b=>by rw [Bool.eq_iff_iff,eqI_t,decide_eq_true_iff]
    have nb:∀b:Bool,notB b=!b:=fun b=>by cases b <;> rfl
    have eb:∀a b:Bool,eqB a b=(a == b):=fun a b=>rfl
    simp only [this,nb,eb,ltI,leI]
    rw [Bool.eq_iff_iff]
    simp only [Bool.or_eq_true,Bool.and_eq_true,decide_eq_true_iff,Bool.not_eq_true',decide_eq_false_iff_not,beq_eq_false_iff_ne,ne_eq,decide_eq_decide]
    omega
   refine l6_4 _ _ _ _ _ _ _ (ite_t (lt_len hi) (and_t (in_len hi) (and_of (fun _=>rfl) (or_of (fun _=>and_of (fun _=>or_of (fun _=>rfl) rfl) rfl) ?_))))
   have e':((eqI (i:Int) 0 && notB (eqI (rd (Int.ofNat 0) w.gParents i) (Int.negSucc 0))) || (ltI 0 (i:Int) && (ltI (rd (Int.ofNat 0) w.gParents i) 0 || leI i (rd (Int.ofNat 0) w.gParents i))))=parB w i:=e
   rw [e']
   refine ite_w (fun h=>?_) (fun h=>?_)
   ·have:parF w i=⟨i,5⟩:=by unfold parF; rw [first_yes hi h]
    rw [this]; exact ⟨rfl,rfl⟩
   ·have:parF w i=parF w (i+1):=by unfold parF; rw [first_no hi h]
    rw [this,add_one (by omega)]; exact ih
 unfold chkW
 refine e6 _ _ (ite_w (fun h=>?_) (fun h=>?_))
 ·have h:=of_decide_eq_true h
  simp only [intN_eq,lenL_eq] at h
  rw [if_pos (by omega)]; exact ⟨rfl,rfl⟩
 have h:=of_decide_eq_false h
 simp only [intN_eq,lenL_eq] at h
 rw [if_neg (by omega)]
 exact pars 0 (Nat.zero_le _)
structure Rgt (w:api_World):Prop where
 np:0<w.gParents.length∧w.gParents.length≤32
 nc:w.gCells.length≤256
 no:w.gOpen.length≤4096
 par:∀i,i<w.gParents.length→-1≤rd 0 w.gParents (i:Int)∧rd 0 w.gParents (i:Int)<i
 sc:∀i,i<w.gCells.length→0≤(cel w i).gScope∧(cel w i).gScope<w.gParents.length
 pr:∀i,i<w.gCells.length→exprE (cel w i).gProvider.gExpr=0
theorem rgt_of {w:api_World} (h:(chkW w).gCode=0):Rgt w:=by
 unfold chkW at h
 split at h
 ·cases h
 rename_i n1
 unfold parF at h
 split at h
 ·cases h
 rename_i hp
 split at h
 ·cases h
 rename_i n2
 split at h
 ·cases h
 rename_i n3
 have hpar:=first_none 0 (Nat.zero_le _) hp
 unfold celF at h
 split at h
 ·rename_i i hi
  obtain ⟨_,_,h3,_⟩:=first_some 0 (Nat.zero_le _) hi
  exact absurd h (eqI_f.1 (notB_t.1 h3))
 rename_i hc
 have hcel:=first_none 0 (Nat.zero_le _) hc
 split at h
 ·cases h
 rename_i n4
 refine ⟨⟨by omega,by omega⟩,by omega,by omega,fun i hi=>?_,fun i hi=>?_,fun i hi=>?_⟩
 ·have:=hpar i (Nat.zero_le _) hi
  unfold parB at this
  simp only [Bool.or_eq_false_iff] at this
  have a:=of_decide_eq_false this.1.1
  have b:=of_decide_eq_false this.1.2
  omega
 ·have:=eqI_t.1 (notB_f.1 (hcel i (Nat.zero_le _) hi))
  unfold celE at this
  split at this
  ·cases this
  ·rename_i hn
   rw [Bool.not_eq_true,Bool.or_eq_false_iff] at hn
   have a:=of_decide_eq_false hn.1
   have b:=of_decide_eq_false hn.2
   simp only [intN_eq,lenL_eq] at b
   omega
 ·have:=eqI_t.1 (notB_f.1 (hcel i (Nat.zero_le _) hi))
  unfold celE at this
  split at this
  ·cases this
  split at this
  ·rename_i h1; exact absurd this h1
  rename_i h1
  have h1:=Decidable.not_not.1 h1
  unfold provE at h1
  split at h1
  ·cases h1
  split at h1
  ·rename_i h2; exact absurd h1 h2
  ·rename_i h2; exact Decidable.not_not.1 h2
def inScope (w:api_World) (s:Int) (n:ByteArray):Option Nat:=firstFrom (fun i=>keyB s n (cel w i)) w.gCells.length 0
def findK (w:api_World) (n:ByteArray):Nat→Int→Int
 | 0,_=>-1
 | k+1,s=>if s<0 then -1 else match inScope w s n with
  | some i=>i
  | none=>findK w n k (rd 0 w.gParents s)
def findW (w:api_World) (s:Int) (n:ByteArray):Int:=findK w n 33 s
theorem gives53 {H:List (O U)} {p q:Nat} {s:Int} {n:ByteArray} (h:obj H p=some (.cells [.d (.int .i64 s)])) (h':obj H q=some (.cells [.d (.str n)])):Finds 53 [.ptr (.g p) 0,.ptr (.g q) 0] (keyB s n) H:=by
 intro a
 refine e53 a p q H _ ⟨⟨a.gScope,a.gProvider.gName⟩,gives21 a,s,h,n,h',?_,rfl⟩
 show (.d (.bool (andB (eqI a.gScope s) (andB (strEq a.gProvider.gName n) true))):C U)=_
 have:andB (eqI a.gScope s) (andB (strEq a.gProvider.gName n) true)=keyB s n a:=by
  unfold keyB andB; rw [Bool.and_true]
 rw [this]
theorem par_next {w:api_World} (R:Rgt w) {s:Int} (h0:0≤s) (hs:s<w.gParents.length):-1≤rd 0 w.gParents s∧rd 0 w.gParents s<s∧inB s (lenL w.gParents)=true:=by
 obtain ⟨i,rfl⟩:∃i:Nat,s=i:=⟨s.toNat,by omega⟩
 have hi:i<w.gParents.length:=by omega
 obtain ⟨a,b⟩:=R.par i hi
 exact ⟨a,b,in_len hi⟩
theorem gives25 {w:api_World} (R:Rgt w) {s:Int} (hs:s<w.gParents.length) (n:ByteArray):Gives 25 [worldC w,.d (.int .i64 s),.d (.str n)] (.d (.int .i64 (findW w s n))):=by
 have nc:=R.nc; have np:=R.np
 have loop:∀(k:Nat) (s:Int) (H:List (O U)) (p q:Nat),p ≠ q→s<w.gParents.length→s+1<k→obj H p=some (.cells [.d (.int .i64 s)])→obj H q=some (.cells [.d (.str n)])→
   At K 25 (fun c' H'=>c'=(.d (.int .i64 (findK w n k s)):C U)∧H'=[]) t25_1 (s25_1 p q w.gParents w.gCells w.gOpen H):=by
  intro k
  induction k with
  | zero=>
   intro s H p q hpq hs hk h h'
   unfold findK
   exact l25_1 _ _ _ _ _ _ _ ⟨s,h,ite_f (decide_eq_false (by omega)) ⟨rfl,rfl⟩⟩
  | succ k ih=>
   intro s H p q hpq hs hk h h'
   unfold findK
   by_cases h0:s<0
   ·rw [if_pos h0]
    exact l25_1 _ _ _ _ _ _ _ ⟨s,h,ite_f (decide_eq_false (by omega)) ⟨rfl,rfl⟩⟩
   rw [if_neg h0]
   obtain ⟨a,b,c⟩:=par_next R (by omega) hs
   have g:=gives44 (gives53 h h') w.gCells (by omega)
   have e:idxO (keyB s n) w.gCells=inScope w s n:=rfl
   rw [e] at g
   refine l25_1 _ _ _ _ _ _ _ ⟨s,h,ite_t (decide_eq_true (by omega)) ⟨_,(),g,?_⟩⟩
   rw [oI_ge]
   cases hi:inScope w s n with
   | some i=>exact ⟨rfl,rfl⟩
   | none=>exact ⟨s,h,and_t c ⟨s,h,ih _ _ p q hpq (by omega) (by omega) (obj_upd h) (by rw [obj_upd_ne (fun e=>hpq e.symm)]; exact h')⟩⟩
 refine e25 _ _ _ _ (loop 33 s _ _ _ ?_ hs (by omega) ?_ ?_)
 ·rw [len_push]; omega
 ·rw [obj_push_lt (by rw [len_push]; omega)]; exact obj_push
 ·exact obj_push
theorem gives26 {w:api_World} (R:Rgt w) {s:Int} (hs:s<w.gParents.length) (n:ByteArray):Gives 26 [worldC w,.d (.int .i64 s),.d (.str n)] (.d (.int .i64 (findW w s n))):=by
 have nc:=R.nc; have np:=R.np
 have loop:∀(k:Nat) (s:Int),s<w.gParents.length→s+1<k→At K 26 (fun c' H'=>c'=(.d (.int .i64 (findK w n k s)):C U)∧H'=[]) t26_2 (s26_2 n s w.gParents w.gCells w.gOpen):=by
  intro k
  induction k with
  | zero=>
   intro s hs hk
   unfold findK
   exact l26_2 _ _ _ _ _ _ (ite_f (decide_eq_false (by omega)) ⟨rfl,rfl⟩)
  | succ k ih=>
   intro s hs hk
   unfold findK
   by_cases h0:s<0
   ·rw [if_pos h0]
    exact l26_2 _ _ _ _ _ _ (ite_f (decide_eq_false (by omega)) ⟨rfl,rfl⟩)
   rw [if_neg h0]
   obtain ⟨a,b,c⟩:=par_next R (by omega) hs
   have inner:∀i,i≤w.gCells.length→firstFrom (fun i=>keyB s n (cel w i)) w.gCells.length i=inScope w s n→
     At K 26 (fun c' H'=>c'=(.d (.int .i64 (match inScope w s n with|some i=>(i:Int)|none=>findK w n k (rd 0 w.gParents s))):C U)∧H'=[]) t26_5 (s26_5 n s i w.gParents w.gCells w.gOpen):=by
    refine upto ?_ fun i hi ihi=>?_
    ·intro e
     rw [first_end] at e
     rw [←e]
     exact l26_5 _ _ _ _ _ _ _ (ite_f (lt_len_f (Nat.le_refl _)) (and_t c (ih _ (by omega) (by omega))))
    ·intro e
     refine l26_5 _ _ _ _ _ _ _ (ite_t (lt_len hi) (and_t (in_len hi) (and_of (b:=strEq (cel w i).gProvider.gName n) (fun _=>and_t (in_len hi) rfl) (ite_w (fun h=>?_) (fun h=>?_)))))
     ·rw [first_yes hi h] at e
      rw [←e]; exact ⟨rfl,rfl⟩
     ·rw [first_no hi h] at e
      rw [add_one (by omega)]; exact ihi e
   exact l26_2 _ _ _ _ _ _ (ite_t (decide_eq_true (by omega)) (inner 0 (Nat.zero_le _) rfl))
 exact e26 _ _ _ _ (loop 33 s hs (by omega))
theorem findK_lt {w:api_World} {n:ByteArray}:∀(k:Nat) (s:Int),-1≤findK w n k s∧findK w n k s<w.gCells.length
 | 0,s=>by simp [findK]; omega
 | k+1,s=>by
  unfold findK
  split
  ·omega
  ·split
   ·rename_i i hi
    obtain ⟨_,h,_⟩:=first_some 0 (Nat.zero_le _) hi
    omega
   ·exact findK_lt k _
theorem findW_lt {w:api_World} {n:ByteArray} (s:Int):-1≤findW w s n∧findW w s n<w.gCells.length:=findK_lt 33 s
noncomputable def resF (w:api_World) (s:Int) (n:ByteArray):Int×api_Fault:=
 if (chkW w).gCode ≠ 0 then (0,chkW w)
 else if (ltI s 0 || leI (intN (lenL w.gParents)) s)=true then (0,⟨0,1⟩)
 else if nameB n=false then (0,⟨0,2⟩)
 else if findW w s n<0 then (0,⟨0,4⟩) else (findW w s n,⟨0,0⟩)
theorem gives7 (w:api_World) (s:Int) (n:ByteArray):Gives 7 [worldC w,.d (.int .i64 s),.d (.str n)] (.tup [.d (.int .i64 (resF w s n).1),fltC (resF w s n).2]):=by
 unfold resF
 refine e7 _ _ _ _ ⟨chkW w,gives5 w,ite_w (fun h=>?_) (fun h=>?_)⟩
 ·rw [if_pos (eqI_f.1 (notB_t.1 h))]; exact ⟨rfl,rfl⟩
 have h:=eqI_t.1 (notB_f.1 h)
 rw [if_neg (Decidable.not_not.2 h)]
 refine or_of (fun _=>rfl) (ite_w (fun h1=>?_) (fun h1=>?_))
 ·rw [if_pos h1]; exact ⟨rfl,rfl⟩
 rw [if_neg (by rw [h1]; decide)]
 have hs:s<w.gParents.length:=by
  rw [Bool.or_eq_false_iff] at h1
  have:=of_decide_eq_false h1.2
  simp only [intN_eq,lenL_eq] at this; omega
 refine ⟨_,gives22 n,ite_w (fun h2=>?_) (fun h2=>?_)⟩
 ·rw [if_pos (notB_t.1 h2)]; exact ⟨rfl,rfl⟩
 rw [if_neg (by rw [notB_f.1 h2]; decide)]
 refine ⟨_,gives25 (rgt_of h) hs n,ite_w (fun h3=>?_) (fun h3=>?_)⟩
 ·rw [if_pos (of_decide_eq_true h3)]; exact ⟨rfl,rfl⟩
 ·rw [if_neg (of_decide_eq_false h3)]; exact ⟨rfl,rfl⟩
theorem gives8 (w:api_World) (s:Int) (n:ByteArray):Gives 8 [worldC w,.d (.int .i64 s),.d (.str n)] (.tup [.d (.int .i64 (resF w s n).1),fltC (resF w s n).2]):=by
 unfold resF
 refine e8 _ _ _ _ ⟨chkW w,gives6 w,ite_w (fun h=>?_) (fun h=>?_)⟩
 ·rw [if_pos (eqI_f.1 (notB_t.1 h))]; exact ⟨rfl,rfl⟩
 have h:=eqI_t.1 (notB_f.1 h)
 rw [if_neg (Decidable.not_not.2 h)]
 refine or_of (fun _=>rfl) (ite_w (fun h1=>?_) (fun h1=>?_))
 ·rw [if_pos h1]; exact ⟨rfl,rfl⟩
 rw [if_neg (by rw [h1]; decide)]
 have hs:s<w.gParents.length:=by
  rw [Bool.or_eq_false_iff] at h1
  have:=of_decide_eq_false h1.2
  simp only [intN_eq,lenL_eq] at this; omega
 refine ⟨_,gives24 n,ite_w (fun h2=>?_) (fun h2=>?_)⟩
 ·rw [if_pos (notB_t.1 h2)]; exact ⟨rfl,rfl⟩
 rw [if_neg (by rw [notB_f.1 h2]; decide)]
 refine ⟨_,gives26 (rgt_of h) hs n,ite_w (fun h3=>?_) (fun h3=>?_)⟩
 ·rw [if_pos (of_decide_eq_true h3)]; exact ⟨rfl,rfl⟩
 ·rw [if_neg (of_decide_eq_false h3)]; exact ⟨rfl,rfl⟩
def hasB (l:List Int) (x:Int):Bool:=l.any fun y=>eqI y x
theorem eqI_comm (a b:Int):eqI a b=eqI b a:=by rw [Bool.eq_iff_iff,eqI_t,eqI_t]; exact eq_comm
theorem hasB_t {l:List Int} {x:Int}:hasB l x=true↔x∈l:=by
 unfold hasB
 rw [List.any_eq_true]
 exact ⟨fun ⟨y,h1,h2⟩=>by rw [←eqI_t.1 h2]; exact h1,fun h=>⟨x,h,eqI_t.2 rfl⟩⟩
theorem gives60 (l:List Int) (x:Int):∃n,Gives 60 [.d (.sl .int l),.d (.int .i64 x)] (.d (.int .i64 n))∧(l.length * 8≤140737488355328→leI 0 n=hasB l x):=by
 by_cases hl:l.length * 8≤140737488355328
 case neg=>exact ⟨0,Runs.known fun hk _=>absurd (known_ints (hk _ (List.mem_cons_self ..))) hl,fun h=>absurd h hl⟩
 have loop:∀i,i≤l.length→∃n,At K 60 (fun c' H'=>c'=(.d (.int .i64 n):C U)∧H'=[]) t60_2 (s60_2 l x (intN (lenL l)) i)∧leI 0 n=hasB (l.drop i) x:=by
  refine upto ?_ fun i hi ih=>?_
  ·exact ⟨_,l60_2 _ _ _ _ _ (ite_f (lt_len_f (Nat.le_refl _)) ⟨rfl,rfl⟩),by simp [hasB,leI]⟩
  ·obtain ⟨n,h1,h2⟩:=ih
   have e:hasB (l.drop i) x=(eqI l[i] x || hasB (l.drop (i+1)) x):=drop_any hi
   rw [e]
   have hr:rd (Int.ofNat 0) l (i:Int)=l[i]:=rd_at hi
   cases hb:eqI l[i] x with
   | true=>exact ⟨i,l60_2 _ _ _ _ _ (ite_t (lt_len hi) (and_t (in_len hi) (by rw [hr,eqI_comm]; exact ite_t hb ⟨rfl,rfl⟩))),by simp [leI]⟩
   | false=>exact ⟨n,l60_2 _ _ _ _ _ (ite_t (lt_len hi) (and_t (in_len hi) (by rw [hr,eqI_comm,add_one (by omega)]; exact ite_f hb h1))),by simpa using h2⟩
 obtain ⟨n,h1,h2⟩:=loop 0 (Nat.zero_le _)
 exact ⟨n,e60 _ _ _ h1,fun _=>h2⟩
theorem gives32 (l:List Int) (x:Int):Gives 32 [.d (.sl .int l),.d (.int .i64 x)] (.d (.bool (hasB l x))):=by
 refine Runs.known fun hk _=>?_
 have hl:=known_ints (hk _ (List.mem_cons_self ..))
 obtain ⟨n,h1,h2⟩:=gives60 l x
 exact e32 _ _ _ ⟨n,h1,by rw [h2 hl],rfl⟩
theorem gives37 (l:List Int) (x:Int):Gives 37 [.d (.sl .int l),.d (.int .i64 x)] (.d (.bool (hasB l x))):=by
 refine Runs.known fun hk _=>?_
 have hl:=known_ints (hk _ (List.mem_cons_self ..))
 have loop:∀i,i≤l.length→At K 37 (fun c' H'=>c'=(.d (.bool (hasB (l.drop i) x)):C U)∧H'=[]) t37_2 (s37_2 l x i):=by
  refine upto ?_ fun i hi ih=>?_
  ·exact l37_2 _ _ _ _ (ite_f (lt_len_f (Nat.le_refl _)) ⟨by rw [List.drop_length]; rfl,rfl⟩)
  ·have e:hasB (l.drop i) x=(eqI l[i] x || hasB (l.drop (i+1)) x):=drop_any hi
   have hr:rd (Int.ofNat 0) l (i:Int)=l[i]:=rd_at hi
   refine l37_2 _ _ _ _ (ite_t (lt_len hi) (and_t (in_len hi) ?_))
   rw [e,hr]
   refine ite_w (fun h=>?_) (fun h=>?_)
   ·rw [h]; exact ⟨rfl,rfl⟩
   ·rw [h,add_one (by omega)]; exact ih
 exact e37 _ _ _ (loop 0 (Nat.zero_le _))
theorem gives54 (l:List Int) (hl:l.length * 8≤140737488355328):Gives 54 [.d (.sl .int l)] (.osl .int l):=by
 refine e54 _ _ ⟨and_t (roomB_t (by simpa [addN,lenL,nilL] using hl)) ⟨rfl,rfl⟩,ite_w (fun h=>?_) (fun _=>trivial)⟩
 cases l with
 | nil=>exact ⟨rfl,rfl⟩
 | cons _ _=>cases h
def atB (s:List Bool) (k:Nat):Bool:=rdN false s k
theorem atB_set {s:List Bool} {k j:Nat} (hk:k<s.length):atB (setL s k true) j=(decide (j=k) || atB s j):=by
 unfold atB rdN setL
 simp only [List.getD_eq_getElem?_getD,List.getElem?_set]
 by_cases e:k=j
 ·subst e; simp [hk]
 ·have:¬j=k:=fun h=>e h.symm
  simp [e,this]
def ixs (p:Nat→Bool) (n:Nat):List Int:=((List.range n).filter p).map fun k:Nat=>(k:Int)
theorem ixs_succ {p:Nat→Bool} {n:Nat}:ixs p (n+1)=if p n=true then ixs p n ++ [(n:Int)] else ixs p n:=by
 unfold ixs
 rw [List.range_succ,List.filter_append,List.map_append]
 by_cases h:p n=true
 ·rw [if_pos h]; simp [h]
 ·rw [if_neg h]; simp [h]
theorem ixs_len {p:Nat→Bool} {n:Nat}:(ixs p n).length≤n:=by
 unfold ixs; rw [List.length_map]
 exact Nat.le_trans (List.length_filter_le _ _) (by simp)
theorem ixs_mem {p:Nat→Bool} {n:Nat} {x:Int}:x∈ixs p n↔∃k:Nat,x=k∧k<n∧p k=true:=by
 unfold ixs
 rw [List.mem_map]
 constructor
 ·rintro ⟨k,h,rfl⟩
  rw [List.mem_filter,List.mem_range] at h
  exact ⟨k,rfl,h.1,h.2⟩
 ·rintro ⟨k,rfl,h1,h2⟩
  exact ⟨k,List.mem_filter.2 ⟨List.mem_range.2 h1,h2⟩,rfl⟩
structure Grf (l:List (List Int)):Prop where
 few:l.length≤256
 row:∀r∈l,r.length≤1000000
 num:∀r∈l,∀x∈r,∃k:Nat,x=k∧k<l.length
def Edge (l:List (List Int)) (a b:Nat):Prop:=a<l.length∧(b:Int)∈rd [] l (a:Int)
abbrev Reach (l:List (List Int)) (a b:Nat):Prop:=Relation.TransGen (Edge l) a b
noncomputable def reB (l:List (List Int)) (a b:Nat):Bool:=@decide (Reach l a b) (Classical.propDecidable _)
theorem reB_t {l:List (List Int)} {a b:Nat}:reB l a b=true↔Reach l a b:=by unfold reB; exact @decide_eq_true_iff _ (Classical.propDecidable _)
noncomputable def reL (l:List (List Int)) (a:Nat):List Int:=ixs (reB l a) l.length
theorem Grf.edge {l:List (List Int)} (G:Grf l) {a b:Nat} (h:Edge l a b):b<l.length:=by
 obtain ⟨h1,h2⟩:=h
 rw [rd_at h1] at h2
 obtain ⟨k,e,hk⟩:=G.num _ (List.getElem_mem h1) _ h2
 omega
theorem Grf.reach {l:List (List Int)} (G:Grf l) {a b:Nat} (h:Reach l a b):b<l.length:=by
 cases h with
 | single h=>exact G.edge h
 | tail _ h=>exact G.edge h
def wsum:List Bool→List (List Int)→Nat
 | b :: s,r :: l=>(if b=true then 0 else r.length+1)+wsum s l
 | _,_=>0
theorem wsum_set:∀{s:List Bool} {l:List (List Int)} {k:Nat} {r:List Int},s[k]?=some false→l[k]?=some r→wsum (s.set k true) l+(r.length+1)=wsum s l
 | [],l,k,r,h,_=>by simp at h
 | b :: s,[],k,r,_,h=>by simp at h
 | b :: s,x :: l,0,r,h,h'=>by
  simp only [List.getElem?_cons_zero,Option.some.injEq] at h h'
  subst h; subst h'
  simp [wsum,List.set]; omega
 | b :: s,x :: l,k+1,r,h,h'=>by
  simp only [List.getElem?_cons_succ] at h h'
  have:=wsum_set h h'
  simp only [List.set,wsum]; omega
theorem wsum_le:∀{s:List Bool} {l:List (List Int)},(∀r∈l,r.length≤1000000)→wsum s l≤l.length * 1000001
 | [],l,_=>by simp [wsum]
 | b :: s,[],_=>by simp [wsum]
 | b :: s,r :: l,h=>by
  have h1:=wsum_le (s:=s) (l:=l) (fun x hx=>h x (by simp [hx]))
  have h2:=h r (by simp)
  simp only [wsum,List.length_cons]
  split <;> omega
structure Dfs (l:List (List Int)) (a:Nat) (todo:List Int) (seen:List Bool):Prop where
 len:seen.length=l.length
 num:∀x∈todo,∃k:Nat,x=k∧Reach l a k
 was:∀k,atB seen k=true→Reach l a k
 next:∀k b,atB seen k=true→Edge l k b→atB seen b=true∨(b:Int)∈todo
 first:∀b,Edge l a b→atB seen b=true∨(b:Int)∈todo
theorem Dfs.all {l:List (List Int)} {a:Nat} {seen:List Bool} (D:Dfs l a [] seen):∀k,atB seen k=reB l a k:=by
 intro k
 rw [Bool.eq_iff_iff,reB_t]
 refine ⟨D.was k,fun h=>?_⟩
 induction h with
 | single h=>rcases D.first _ h with h|h; exact h; cases h
 | tail _ h ih=>rcases D.next _ _ ih h with h|h; exact h; cases h
theorem gives28 {l:List (List Int)} (G:Grf l) {a:Nat} (ha:a<l.length):Gives 28 [.d (.sl .sl_int l),.d (.int .i64 a)] (.d (.sl .int (reL l a))):=by
 have hfew:=G.few
 have tell:∀seen:List Bool,seen.length=l.length→(∀k,atB seen k=reB l a k)→At K 28 (fun c' H'=>c'=(.d (.sl .int (reL l a)):C U)∧H'=[]) t28_11 (s28_11 (intN (lenL seen)) 0 (nilL Int) seen):=by
  intro seen hs he
  have loop:∀i,i≤l.length→At K 28 (fun c' H'=>c'=(.d (.sl .int (reL l a)):C U)∧H'=[]) t28_11 (s28_11 (intN (lenL seen)) i (ixs (reB l a) i) seen):=by
   refine upto ?_ fun i hi ih=>?_
   ·exact l28_11 _ _ _ _ _ (ite_f (lt_len_f (by omega)) ⟨rfl,rfl⟩)
   ·rw [ixs_succ,←he] at ih
    have hlen:=ixs_len (p:=reB l a) (n:=i)
    refine l28_11 _ _ _ _ _ (ite_t (lt_len (by omega)) (and_t (in_len (by omega)) (and_t (ltN_t (by simp only [natI_nat,lenL_eq]; omega)) (ite_w (fun h=>?_) (fun h=>?_)))))
    ·have h:atB seen i=true:=h
     rw [if_pos h] at ih
     refine and_t (roomB_t (by simp [addN,lenL]; omega)) ?_
     rw [add_one (by omega)]; exact ih
    ·have h:atB seen i=false:=h
     rw [if_neg (by rw [h]; decide)] at ih
     rw [add_one (by omega)]; exact ih
  exact loop 0 (Nat.zero_le _)
 have main:∀m (todo:List Int) (seen:List Bool),Dfs l a todo seen→todo.length+wsum seen l≤m→m≤1000000000→At K 28 (fun c' H'=>c'=(.d (.sl .int (reL l a)):C U)∧H'=[]) t28_3 (s28_3 l todo seen):=by
  intro m
  induction m with
  | zero=>
   intro todo seen D hm _
   have:todo=[]:=List.eq_nil_of_length_eq_zero (by omega)
   subst this
   exact l28_3 _ _ _ _ (ite_f rfl (tell seen D.len D.all))
  | succ m ih=>
   intro todo seen D hm hB
   rcases List.eq_nil_or_concat todo with rfl|⟨ys,x,rfl⟩
   ·exact l28_3 _ _ _ _ (ite_f rfl (tell seen D.len D.all))
   rw [List.concat_eq_append] at D hm ⊢
   rw [List.length_append,List.length_singleton] at hm
   obtain ⟨k,rfl,hk⟩:=D.num x (by simp)
   have hkl:=G.reach hk
   have e1:subW .i64 (intN (ys.length+1)) 1=(ys.length:Int):=by
    rw [intN_eq,subW_id (by omega) (by omega)]; omega
   have e2:rdN (Int.ofNat 0) (ys ++ [(k:Int)]) ys.length=(k:Int):=by simp [rdN]
   have e3:takeL ys.length (ys ++ [(k:Int)])=ys:=by simp [takeL]
   have e4:lenL (ys ++ [(k:Int)])=ys.length+1:=by simp [lenL]
   have L:=l28_3 l (ys ++ [(k:Int)]) seen (fun c' H'=>c'=(.d (.sl .int (reL l a)):C U)∧H'=[])
   simp only [e1,natI_nat,e2,e3,e4] at L
   have hks:k<seen.length:=by rw [D.len]; exact hkl
   refine L (ite_t (decide_eq_true (by rw [intN_eq]; omega)) (and_t (by rw [inB_iff]; omega) (and_t (ltN_t (by omega)) (and_t (slice_ok' (k:=ys.length) (n:=ys.length+1) (by omega)) (and_t (in_len hks) (and_t (ltN_t (by rw [lenL_eq]; exact hks)) (ite_w (fun h=>?_) (fun h=>?_))))))))
   ·have h:atB seen k=false:=notB_t.1 h
    have hrow:rd [] l (k:Int)=l[k]:=rd_at hkl
    have hr:(l[k]).length≤1000000:=G.row _ (List.getElem_mem hkl)
    have hs:seen[k]?=some false:=by
     unfold atB rdN at h
     rw [List.getD_eq_getElem?_getD,List.getElem?_eq_getElem hks] at h
     rw [List.getElem?_eq_getElem hks]; exact congrArg some h
    have hw:=wsum_set hs (List.getElem?_eq_getElem hkl)
    refine and_t (in_len hks) (and_t (ltN_t (by rw [lenL_eq]; exact hks)) (and_t (in_len hkl) (and_t ?_ ?_)))
    ·have h1:leN (addN 0 ys.length) (ys.length+1)=true:=leN_t (by unfold addN; omega)
     have h2:roomB (addN ys.length (lenL (rd [] l (k:Int)))) 8=true:=roomB_t (by rw [hrow,lenL_eq]; unfold addN; omega)
     rw [h1,h2]; rfl
    ·rw [hrow]
     refine ih _ _ ⟨?_,?_,?_,?_,?_⟩ ?_ (by omega)
     ·simp [setL,D.len]
     ·intro x hx
      rcases List.mem_append.1 hx with hx|hx
      ·exact D.num x (by simp [hx])
      ·obtain ⟨j,rfl,hj⟩:=G.num _ (List.getElem_mem hkl) x hx
       exact ⟨j,rfl,.tail hk ⟨hkl,by rw [hrow]; exact hx⟩⟩
     ·intro j hj
      rw [atB_set hks,Bool.or_eq_true,decide_eq_true_iff] at hj
      rcases hj with rfl|hj
      ·exact hk
      ·exact D.was j hj
     ·intro j b hj hE
      rw [atB_set hks,Bool.or_eq_true,decide_eq_true_iff] at hj ⊢
      rcases hj with rfl|hj
      ·right
       have:=hE.2
       rw [hrow] at this
       exact List.mem_append_right _ this
      ·rcases D.next j b hj hE with h|h
       ·exact .inl (.inr h)
       ·rcases List.mem_append.1 h with h|h
        ·exact .inr (List.mem_append_left _ h)
        ·have:=List.mem_singleton.1 h
         exact .inl (.inl (by omega))
     ·intro b hE
      rw [atB_set hks,Bool.or_eq_true,decide_eq_true_iff]
      rcases D.first b hE with h|h
      ·exact .inl (.inr h)
      ·rcases List.mem_append.1 h with h|h
       ·exact .inr (List.mem_append_left _ h)
       ·have:=List.mem_singleton.1 h
        exact .inl (.inl (by omega))
     ·show (ys ++ l[k]).length+wsum (seen.set k true) l≤m
      rw [List.length_append]; omega
   ·have h:atB seen k=true:=notB_f.1 h
    refine and_t (leN_t (by omega)) (ih _ _ ⟨D.len,fun x hx=>D.num x (by simp [hx]),D.was,?_,?_⟩ (by omega) (by omega))
    ·intro j b hj hE
     rcases D.next j b hj hE with h'|h'
     ·exact .inl h'
     ·rcases List.mem_append.1 h' with h'|h'
      ·exact .inr h'
      ·have:=List.mem_singleton.1 h'
       left; have:b=k:=by omega
       subst this; exact h
    ·intro b hE
     rcases D.first b hE with h'|h'
     ·exact .inl h'
     ·rcases List.mem_append.1 h' with h'|h'
      ·exact .inr h'
      ·have:=List.mem_singleton.1 h'
       left; have:b=k:=by omega
       subst this; exact h
 have hrow:rd [] l (a:Int)=l[a]:=rd_at ha
 have hr:(l[a]).length≤1000000:=G.row _ (List.getElem_mem ha)
 have z:∀k,atB (replL (intN (lenL l)) false) k=false:=by
  intro k
  unfold atB rdN replL
  rw [List.getD_eq_getElem?_getD,List.getElem?_replicate]
  split <;> rfl
 have hw:=wsum_le (s:=replL (intN (lenL l)) false) (l:=l) G.row
 have hr8:(rd [] l (a:Int)).length * 8≤140737488355328:=by rw [hrow]; omega
 have hrB:(rd [] l (a:Int)).length+wsum (replL (intN (lenL l)) false) l≤1000000000:=by rw [hrow]; omega
 refine e28 _ _ _ (and_t ?_ (and_t (in_len ha) ⟨rd [] l (a:Int),gives54 _ hr8,main _ (rd [] l (a:Int)) _ ⟨?_,?_,?_,?_,?_⟩ (Nat.le_refl _) hrB⟩))
 ·have:roomI (intN (lenL l)) 1=true:=decide_eq_true (by rw [intN_eq,lenL_eq]; simp [room]; omega)
  rw [this]; simp [andB,leI,intN]
 ·simp [replL,intN,lenL]
 ·intro x hx
  obtain ⟨j,rfl,hj⟩:=G.num _ (List.getElem_mem ha) x (by rw [←hrow]; exact hx)
  exact ⟨j,rfl,.single ⟨ha,hx⟩⟩
 ·intro k hk; rw [z] at hk; cases hk
 ·intro k b hk; rw [z] at hk; cases hk
 ·intro b hE
  exact .inr hE.2
abbrev RowT:=Nat×Nat×Option (Nat×Nat)×Bool
structure Rw (H:List (O U)) (q N:Nat) (cur:List (List Int)):Prop where
 ex:∃rows:List RowT,obj H q=some (.arr 0 .row rows)∧rows.length=cur.length∧obj H N=some (.arr 0 (.pure .int) ([]:List Int))∧
  ∀(j:Nat) (r:RowT) (ys:List Int),rows[j]?=some r→cur[j]?=some ys→
   (r=(N,0,none,true)∧ys=[])∨(r.1 ≠ N∧r.2.2=(none,false)∧obj H r.1=some (.arr r.2.1 (.pure .int) ys)∧∀(k:Nat) (r':RowT),rows[k]?=some r'→k ≠ j→r'.1 ≠ r.1)
def PushP (H:List (O U)) (v3:Nat) (v4:Int) (x:Int) (Q:List (O U)→Prop):Prop:=
 (∃(xs:List (Nat×Nat×Option (Nat×Nat)×Bool)),obj H v3=some (O.arr 0 Vc.row xs)∧andP (inB v4 (subLen none (lenL xs))) (andP (subFit none (lenL xs)) (∃(xs:List (Nat×Nat×Option (Nat×Nat)×Bool)),obj H v3=some (O.arr 0 Vc.row xs)∧andP (ltN (addN (subOff none) (natI v4)) (lenL xs)) (iteP (rdN (0,0,none,false) xs (addN (subOff none) (natI v4))).2.2.2 (∃(xs_1:List Int),obj H (rdN (0,0,none,false) xs (addN (subOff none) (natI v4))).1=some (O.arr (rdN (0,0,none,false) xs (addN (subOff none) (natI v4))).2.1 (Vc.pure Ty.int) xs_1)∧andP (subFit (rdN (0,0,none,false) xs (addN (subOff none) (natI v4))).2.2.1 (lenL xs_1)) (andP (notB (emptyL [x])) (andP (roomB (addN (subLen (rdN (0,0,none,false) xs (addN (subOff none) (natI v4))).2.2.1 (lenL xs_1)) (lenL [x])) 8) (∃(xs_2:List (Nat×Nat×Option (Nat×Nat)×Bool)),obj (pushO H (O.arr 0 (Vc.pure Ty.int) (appL (subPick (rdN (0,0,none,false) xs (addN (subOff none) (natI v4))).2.2.1 xs_1) [x]))) v3=some (O.arr 0 Vc.row xs_2)∧andP (inB v4 (subLen none (lenL xs_2))) (andP (subFit none (lenL xs_2)) (∃(xs_3:List (Nat×Nat×Option (Nat×Nat)×Bool)),obj (pushO H (O.arr 0 (Vc.pure Ty.int) (appL (subPick (rdN (0,0,none,false) xs (addN (subOff none) (natI v4))).2.2.1 xs_1) [x]))) v3=some (O.arr 0 Vc.row xs_3)∧andP (ltN (addN (subOff none) (natI v4)) (lenL xs_3)) (Q (updO (pushO H (O.arr 0 (Vc.pure Ty.int) (appL (subPick (rdN (0,0,none,false) xs (addN (subOff none) (natI v4))).2.2.1 xs_1) [x]))) v3 (O.arr 0 Vc.row (setL xs_3 (addN (subOff none) (natI v4)) (lenO H,0,none,false))))))))))) (∃(xs_1:List Int),obj H (rdN (0,0,none,false) xs (addN (subOff none) (natI v4))).1=some (O.arr (rdN (0,0,none,false) xs (addN (subOff none) (natI v4))).2.1 (Vc.pure Ty.int) xs_1)∧andP (eqN (subOff (rdN (0,0,none,false) xs (addN (subOff none) (natI v4))).2.2.1) 0) (andP (subFit (rdN (0,0,none,false) xs (addN (subOff none) (natI v4))).2.2.1 (lenL xs_1)) (andP (roomB (addN (subLen (rdN (0,0,none,false) xs (addN (subOff none) (natI v4))).2.2.1 (lenL xs_1)) (lenL [x])) 8) (∃(xs_2:List (Nat×Nat×Option (Nat×Nat)×Bool)),obj (updO H (rdN (0,0,none,false) xs (addN (subOff none) (natI v4))).1 (O.arr (Nat.succ (rdN (0,0,none,false) xs (addN (subOff none) (natI v4))).2.1) (Vc.pure Ty.int) (appL (subRows (rdN (0,0,none,false) xs (addN (subOff none) (natI v4))).2.2.1 xs_1) [x]))) v3=some (O.arr 0 Vc.row xs_2)∧andP (inB v4 (subLen none (lenL xs_2))) (andP (subFit none (lenL xs_2)) (∃(xs_3:List (Nat×Nat×Option (Nat×Nat)×Bool)),obj (updO H (rdN (0,0,none,false) xs (addN (subOff none) (natI v4))).1 (O.arr (Nat.succ (rdN (0,0,none,false) xs (addN (subOff none) (natI v4))).2.1) (Vc.pure Ty.int) (appL (subRows (rdN (0,0,none,false) xs (addN (subOff none) (natI v4))).2.2.1 xs_1) [x]))) v3=some (O.arr 0 Vc.row xs_3)∧andP (ltN (addN (subOff none) (natI v4)) (lenL xs_3)) (Q (updO (updO H (rdN (0,0,none,false) xs (addN (subOff none) (natI v4))).1 (O.arr (Nat.succ (rdN (0,0,none,false) xs (addN (subOff none) (natI v4))).2.1) (Vc.pure Ty.int) (appL (subRows (rdN (0,0,none,false) xs (addN (subOff none) (natI v4))).2.2.1 xs_1) [x]))) v3 (O.arr 0 Vc.row (setL xs_3 (addN (subOff none) (natI v4)) ((rdN (0,0,none,false) xs (addN (subOff none) (natI v4))).1,Nat.succ (rdN (0,0,none,false) xs (addN (subOff none) (natI v4))).2.1,none,false)))))))))))))))
theorem row_ne {H:List (O U)} {a q g:Nat} {ys:List Int} {rows:List RowT} (h:obj H a=some (.arr g (.pure .int) ys)) (h':obj H q=some (.arr 0 .row rows)):a ≠ q:=by
 rintro rfl
 rw [h] at h'
 cases h'
theorem Rw.fresh {H:List (O U)} {q N:Nat} {cur:List (List Int)} {rows:List RowT} (h1:obj H q=some (.arr 0 .row rows)) (h2:rows.length=cur.length) (h3:obj H N=some (.arr 0 (.pure .int) ([]:List Int)))
  (h4:∀(j:Nat) (r:RowT) (ys:List Int),rows[j]?=some r→cur[j]?=some ys→
   (r=(N,0,none,true)∧ys=[])∨(r.1 ≠ N∧r.2.2=(none,false)∧obj H r.1=some (.arr r.2.1 (.pure .int) ys)∧∀(k:Nat) (r':RowT),rows[k]?=some r'→k ≠ j→r'.1 ≠ r.1))
  {i:Nat} (hi:i<cur.length) (zs:List Int):Rw (updO (pushO H (.arr 0 (.pure .int) zs)) q (.arr 0 .row (setL rows i (lenO H,0,none,false)))) q N (cur.set i zs):=by
 have hir:i<rows.length:=by omega
 have hqN:=row_ne h3 h1
 have q1:obj (pushO H (.arr 0 (.pure .int) zs)) q=some (.arr 0 .row rows):=by rw [obj_push_lt (obj_len h1)]; exact h1
 refine ⟨_,obj_upd q1,?_,?_,?_⟩
 ·simp [setL,h2]
 ·rw [obj_upd_ne hqN,obj_push_lt (obj_len h3)]; exact h3
 ·intro j r ys hj hy'
  have hN:=obj_len h3
  have key:obj (updO (pushO H (.arr 0 (.pure .int) zs)) q (.arr 0 .row (setL rows i (lenO H,0,none,false)))) (lenO H)=some (.arr 0 (.pure .int) zs):=by
   rw [obj_upd_ne (by have:=obj_len h1; omega)]; exact obj_push
  simp only [setL,List.getElem?_set] at hj hy'
  by_cases e:i=j
  ·subst e
   simp only [if_true,if_pos hir,if_pos hi] at hj hy'
   cases hj; cases hy'
   refine .inr ⟨by show lenO H ≠ N; omega,rfl,key,fun k r' hk hne=>?_⟩
   simp only [setL,List.getElem?_set] at hk
   rw [if_neg (fun h=>hne h.symm)] at hk
   show r'.1 ≠ lenO H
   have hk2:k<cur.length:=by have:=(List.getElem?_eq_some_iff.1 hk).1; omega
   rcases h4 k r' cur[k] hk (List.getElem?_eq_getElem hk2) with ⟨h,_⟩|⟨_,_,h,_⟩
   ·rw [h]; show N ≠ lenO H; omega
   ·have:=obj_len h; omega
  ·rw [if_neg e] at hj hy'
   rcases h4 j r ys hj hy' with h|⟨m1,m2,m3,m4⟩
   ·exact .inl h
   ·refine .inr ⟨m1,m2,?_,fun k r' hk hne=>?_⟩
    ·rw [obj_upd_ne (row_ne m3 h1),obj_push_lt (obj_len m3)]; exact m3
    ·simp only [setL,List.getElem?_set] at hk
     by_cases e2:i=k
     ·subst e2
      simp only [if_true,if_pos hir] at hk
      cases hk
      have:=obj_len m3
      show lenO H ≠ r.1; omega
     ·rw [if_neg e2] at hk
      exact m4 k r' hk hne
theorem push_row {H:List (O U)} {q N:Nat} {cur:List (List Int)} (R:Rw H q N cur) {i:Nat} (hi:i<cur.length) (hs:(cur[i]).length<1000000000) (x:Int) {Q:List (O U)→Prop}
  (hQ:∀H',lenO H≤lenO H'→Rw H' q N (cur.set i (cur[i] ++ [x]))→Q H'):PushP H q (i:Int) x Q:=by
 obtain ⟨rows,h1,h2,h3,h4⟩:=R.ex
 have hir:i<rows.length:=by omega
 have e0:addN (subOff none) (natI (i:Int))=i:=Nat.zero_add i
 have er:rdN ((0,0,none,false):RowT) rows i=rows[i]:=by simp [rdN,List.getD_eq_getElem?_getD,List.getElem?_eq_getElem hir]
 have hin:inB (i:Int) (subLen none (lenL rows))=true:=in_len hir
 have hlt:ltN i (lenL rows)=true:=ltN_t hir
 have hqN:=row_ne h3 h1
 have hb:∀n:Nat,n<1000000000→roomB (addN n (lenL [x])) 8=true:=fun n hn=>roomB_t (by unfold addN lenL; simp; omega)
 unfold PushP
 simp only [e0]
 refine ⟨rows,h1,and_t hin (and_t rfl ⟨rows,h1,and_t hlt ?_⟩)⟩
 rw [er]
 rcases h4 i rows[i] cur[i] (List.getElem?_eq_getElem hir) (List.getElem?_eq_getElem hi) with ⟨hr,hy⟩|⟨n1,n2,n3,n4⟩
 ·rw [hr]
  let o:O U:=.arr 0 (.pure .int) (appL (subPick none ([]:List Int)) [x])
  have q1:obj (pushO H o) q=some (.arr 0 .row rows):=by rw [obj_push_lt (obj_len h1)]; exact h1
  have F:=Rw.fresh h1 h2 h3 h4 hi (cur[i] ++ [x])
  rw [hy] at F
  refine ite_t rfl ⟨[],h3,and_t rfl (and_t rfl (and_t (hb 0 (by omega)) ⟨rows,q1,and_t hin (and_t rfl ⟨rows,q1,and_t hlt (hQ _ ?_ (by rw [hy]; exact F))⟩)⟩))⟩
  rw [len_upd,len_push]; omega
 ·generalize hrr:rows[i]=rr at *
  obtain ⟨a,g,sc⟩:=rr
  simp only at n1 n2 n3 n4
  subst n2
  let o:O U:=.arr (Nat.succ g) (.pure .int) (appL (subRows none cur[i]) [x])
  have q1:obj (updO H a o) q=some (.arr 0 .row rows):=by rw [obj_upd_ne (fun e=>row_ne n3 h1 e.symm)]; exact h1
  refine ite_f rfl ⟨cur[i],n3,and_t rfl (and_t rfl (and_t (hb _ hs) ⟨rows,q1,and_t hin (and_t rfl ⟨rows,q1,and_t hlt (hQ _ ?_ ⟨⟨_,obj_upd q1,?_,?_,?_⟩⟩)⟩)⟩))⟩
  ·rw [len_upd,len_upd]; omega
  ·simp [setL,h2]
  ·rw [obj_upd_ne hqN,obj_upd_ne (fun e=>n1 e.symm)]; exact h3
  ·intro j r ys hj hy'
   simp only [setL,List.getElem?_set] at hj hy'
   by_cases e:i=j
   ·subst e
    simp only [if_true,if_pos hir,if_pos hi] at hj hy'
    cases hj; cases hy'
    refine .inr ⟨n1,rfl,?_,fun k r' hk hne=>?_⟩
    ·rw [obj_upd_ne (row_ne n3 h1)]; exact obj_upd n3
    ·simp only [setL,List.getElem?_set] at hk
     rw [if_neg (fun h=>hne h.symm)] at hk
     exact n4 k r' hk hne
   ·rw [if_neg e] at hj hy'
    have hne:r.1 ≠ a:=n4 j r hj (fun h=>e h.symm)
    rcases h4 j r ys hj hy' with h|⟨m1,m2,m3,m4⟩
    ·exact .inl h
    ·refine .inr ⟨m1,m2,?_,fun k r' hk hnk=>?_⟩
     ·rw [obj_upd_ne (row_ne m3 h1),obj_upd_ne hne]; exact m3
     ·simp only [setL,List.getElem?_set] at hk
      by_cases e2:i=k
      ·subst e2
       simp only [if_true,if_pos hir] at hk
       cases hk
       exact fun h=>hne h.symm
      ·rw [if_neg e2] at hk
       exact m4 k r' hk hnk
theorem Rw.are {H:List (O U)} {q N:Nat} {cur:List (List Int)} (R:Rw H q N cur):RowsAre K H q 0 .int cur:=by
 obtain ⟨rows,h1,h2,h3,h4⟩:=R.ex
 refine ⟨rows,h1,h2,fun j r ys hj hy=>?_⟩
 rcases h4 j r ys hj hy with ⟨rfl,rfl⟩|⟨_,n2,n3,_⟩
 ·exact .inl ⟨rfl,.pure .int,[],h3,rfl⟩
 ·obtain ⟨a,g,sc⟩:=r
  simp only at n2 n3
  subst n2
  exact .inr ⟨ys,n3,rfl,rfl⟩
def askN (w:api_World) (s:Int) (acc:List Int) (n:ByteArray):List Int:=if (leI 0 (findW w s n) && notB (hasB acc (findW w s n)))=true then acc ++ [findW w s n] else acc
noncomputable def namesW (w:api_World) (i:Nat):List ByteArray:=(askedF (cel w i).gProvider.gExpr).1
noncomputable def askR (w:api_World) (i:Nat):List Int:=(namesW w i).foldl (askN w (cel w i).gScope) []
noncomputable def askW (w:api_World):List (List Int):=(List.range w.gCells.length).map (askR w)
theorem askedF_len (x:List api_Op):(askedF x).1.length≤1000000:=by
 unfold askedF
 split
 ·simp
 ·rename_i h
  have h1:=exprE_len (Decidable.not_not.1 h)
  have:=textsF_len 3 x
  simp only; omega
theorem askN_mem {w:api_World} {s:Int} {n:ByteArray} {acc:List Int} {x:Int}:x∈askN w s acc n↔x∈acc∨(0≤x∧x=findW w s n):=by
 unfold askN
 split
 ·rename_i h
  rw [Bool.and_eq_true] at h
  have h1:=of_decide_eq_true h.1
  rw [List.mem_append,List.mem_singleton]
  constructor
  ·rintro (h|h)
   ·exact .inl h
   ·exact .inr ⟨by omega,h⟩
  ·rintro (h|⟨_,h⟩)
   ·exact .inl h
   ·exact .inr h
 ·rename_i h
  rw [Bool.not_eq_true] at h
  constructor
  ·exact .inl
  ·rintro (h'|⟨h0,h'⟩)
   ·exact h'
   ·have h1:leI 0 (findW w s n)=true:=decide_eq_true (by omega)
    rw [h1,Bool.true_and] at h
    rw [h']; exact hasB_t.1 (notB_f.1 h)
theorem ask_fold {w:api_World} {s:Int} {x:Int}:∀{l:List ByteArray} {acc:List Int},x∈l.foldl (askN w s) acc↔x∈acc∨∃n∈l,0≤x∧x=findW w s n
 | [],acc=>by simp
 | n :: l,acc=>by
  rw [List.foldl_cons,ask_fold,askN_mem]
  constructor
  ·rintro ((h|h)|⟨m,h1,h2⟩)
   ·exact .inl h
   ·exact .inr ⟨n,by simp,h⟩
   ·exact .inr ⟨m,by simp [h1],h2⟩
  ·rintro (h|⟨m,h1,h2⟩)
   ·exact .inl (.inl h)
   ·rcases List.mem_cons.1 h1 with rfl|h1
    ·exact .inl (.inr h2)
    ·exact .inr ⟨m,h1,h2⟩
theorem ask_len {w:api_World} {s:Int}:∀{l:List ByteArray} {acc:List Int},(l.foldl (askN w s) acc).length≤acc.length+l.length
 | [],acc=>by simp
 | n :: l,acc=>by
  rw [List.foldl_cons]
  have h:=ask_len (w:=w) (s:=s) (l:=l) (acc:=askN w s acc n)
  have:(askN w s acc n).length≤acc.length+1:=by
   unfold askN; split <;> simp
  simp only [List.length_cons]; omega
theorem askR_mem {w:api_World} {i:Nat} {x:Int}:x∈askR w i↔∃n∈namesW w i,0≤x∧x=findW w (cel w i).gScope n:=by
 unfold askR; rw [ask_fold]; simp
theorem askR_len (w:api_World) (i:Nat):(askR w i).length≤1000000:=by
 have h1:=ask_len (w:=w) (s:=(cel w i).gScope) (l:=namesW w i) (acc:=[])
 have h2:=askedF_len (cel w i).gProvider.gExpr
 unfold askR namesW at *
 simp only [List.length_nil] at h1; omega
theorem askW_len {w:api_World}:(askW w).length=w.gCells.length:=by simp [askW]
theorem askW_at {w:api_World} {i:Nat} (h:i<w.gCells.length):rd [] (askW w) (i:Int)=askR w i:=by
 rw [rd_at (by rw [askW_len]; exact h)]; simp [askW]
theorem askG {w:api_World} (R:Rgt w):Grf (askW w):=by
 refine ⟨by rw [askW_len]; exact R.nc,fun r hr=>?_,fun r hr x hx=>?_⟩
 ·obtain ⟨i,_,rfl⟩:=List.mem_map.1 hr
  exact askR_len w i
 ·obtain ⟨i,_,rfl⟩:=List.mem_map.1 hr
  obtain ⟨n,_,h1,h2⟩:=askR_mem.1 hx
  have:=findW_lt (w:=w) (n:=n) (cel w i).gScope
  exact ⟨x.toNat,by omega,by rw [askW_len]; omega⟩
noncomputable def curF (f:Nat→List Int) (n i:Nat) (ys:List Int):List (List Int):=(List.range n).map fun j=>if j<i then f j else if j=i then ys else []
section
variable {f:Nat→List Int} {n:Nat}
theorem curF_len {i:Nat} {ys:List Int}:(curF f n i ys).length=n:=by simp [curF]
theorem curF_get {i:Nat} {ys:List Int} (h:i<n):(curF f n i ys)[i]'(by rw [curF_len]; exact h)=ys:=by simp [curF]
theorem curF_set {i:Nat} {ys zs:List Int}:(curF f n i ys).set i zs=curF f n i zs:=by
 apply List.ext_getElem
 ·simp [curF]
 ·intro j h1 h2
  simp only [List.length_set,curF_len] at h1
  rw [List.getElem_set]
  simp only [curF,List.getElem_map,List.getElem_range]
  by_cases e:i=j
  ·subst e; simp
  ·have:¬j=i:=fun h=>e h.symm
   simp [e,this]
theorem curF_next {i:Nat}:curF f n i (f i)=curF f n (i+1) []:=by
 unfold curF
 apply List.map_congr_left
 intro j _
 by_cases h1:j<i
 ·rw [if_pos h1,if_pos (by omega)]
 ·rw [if_neg h1]
  by_cases h2:j=i
  ·subst h2; rw [if_pos rfl,if_pos (by omega)]
  ·rw [if_neg h2,if_neg (by omega)]; split <;> rfl
theorem curF_zero:curF f n 0 []=List.replicate n []:=by
 apply List.ext_getElem
 ·simp [curF]
 ·intro j h1 h2
  simp [curF]
theorem curF_all:curF f n n []=(List.range n).map f:=by
 unfold curF
 apply List.map_congr_left
 intro j hj
 rw [if_pos (List.mem_range.1 hj)]
end
theorem Rw.look {H:List (O U)} {q N:Nat} {cur:List (List Int)} (R:Rw H q N cur) {i:Nat} (hi:i<cur.length):∃(rows:List RowT) (zs:List Int),obj H q=some (.arr 0 .row rows)∧rows.length=cur.length∧
  obj H (rdN ((0,0,none,false):RowT) rows i).1=some (.arr (rdN ((0,0,none,false):RowT) rows i).2.1 (.pure .int) zs)∧subFit (rdN ((0,0,none,false):RowT) rows i).2.2.1 (lenL zs)=true∧subPick (rdN ((0,0,none,false):RowT) rows i).2.2.1 zs=cur[i]:=by
 obtain ⟨rows,h1,h2,h3,h4⟩:=R.ex
 have hir:i<rows.length:=by omega
 have er:rdN ((0,0,none,false):RowT) rows i=rows[i]:=by simp [rdN,List.getD_eq_getElem?_getD,List.getElem?_eq_getElem hir]
 rcases h4 i rows[i] cur[i] (List.getElem?_eq_getElem hir) (List.getElem?_eq_getElem hi) with ⟨hr,hy⟩|⟨n1,n2,n3,n4⟩
 ·refine ⟨rows,[],h1,h2,?_⟩
  rw [er,hr,hy]; exact ⟨h3,rfl,rfl⟩
 ·refine ⟨rows,cur[i],h1,h2,?_⟩
  rw [er,show rows[i].2.2.1=none from congrArg Prod.fst n2]
  exact ⟨n3,rfl,rfl⟩
theorem runs29 {w:api_World} (R:Rgt w):Runs K 29 [worldC w] [] fun c' H'=>∃n gen,c'=.asl (.g n) gen none false∧RowsAre K H' n gen .int (askW w):=by
 have nc:=R.nc
 have inner:∀{i:Nat},i<w.gCells.length→(∀(H:List (O U)) (q N:Nat),Rw H q N (curF (askR w) w.gCells.length (i+1) [])→At K 29 (fun c' H'=>∃n gen,c'=(.asl (.g n) gen none false:C U)∧RowsAre K H' n gen .int (askW w)) t29_3 (s29_3 q w.gCells (intN (lenL w.gCells)) (i+1:Nat) w.gParents w.gCells w.gOpen H))→
   ∀t,t≤(namesW w i).length→∀(H:List (O U)) (q N:Nat),Rw H q N (curF (askR w) w.gCells.length i (((namesW w i).take t).foldl (askN w (cel w i).gScope) []))→
   At K 29 (fun c' H'=>∃n gen,c'=(.asl (.g n) gen none false:C U)∧RowsAre K H' n gen .int (askW w)) t29_7 (s29_7 q i w.gCells (intN (lenL w.gCells)) i (namesW w i) (intN (lenL (namesW w i))) t w.gParents w.gCells w.gOpen (cel w i).1 (cel w i).2.1 (cel w i).2.2 (cel w i).2.3 (cel w i).2.4.1 (cel w i).2.4.2 (cel w i).2.4.3 (cel w i).2.4.4 (cel w i).2.5.1 (cel w i).2.5.2 H):=by
  intro i hi out
  have hn:(namesW w i).length≤1000000:=askedF_len _
  refine upto ?_ fun t ht ih=>?_
  ·intro H q N r
   rw [List.take_length] at r
   have r:Rw H q N (curF (askR w) w.gCells.length i (askR w i)):=r
   rw [curF_next] at r
   refine l29_7 _ _ _ _ _ _ _ _ _ _ _ _ _ _ _ _ _ _ _ _ _ _ _ (ite_f (lt_len_f (Nat.le_refl _)) ?_)
   rw [add_one (by omega)]
   exact out H q N r
  ·intro H q N r
   have hsc:=R.sc i hi
   have g25:=gives25 R hsc.2 (rd (bs []) (namesW w i) (t:Int))
   have hnm:rd (bs []) (namesW w i) (t:Int)=(namesW w i)[t]:=rd_at ht
   generalize hacc:((namesW w i).take t).foldl (askN w (cel w i).gScope) []=acc at *
   have hacclen:acc.length≤t:=by
    have:=ask_len (w:=w) (s:=(cel w i).gScope) (l:=(namesW w i).take t) (acc:=[])
    rw [hacc] at this
    simp only [List.length_nil,List.length_take] at this; omega
   have hstep:((namesW w i).take (t+1)).foldl (askN w (cel w i).gScope) []=askN w (cel w i).gScope acc (namesW w i)[t]:=by
    rw [List.take_succ_eq_append_getElem ht,List.foldl_append,hacc]; rfl
   rw [hstep] at ih
   have hci:i<(curF (askR w) w.gCells.length i acc).length:=by rw [curF_len]; exact hi
   obtain ⟨rows,zs,k1,k2,k3,k4,k5⟩:=r.look hci
   rw [curF_get hi] at k5
   have hir:i<rows.length:=by omega
   have e0:addN (subOff none) (natI (i:Int))=i:=Nat.zero_add i
   have L:=l29_7 q i w.gCells (intN (lenL w.gCells)) i (namesW w i) (intN (lenL (namesW w i))) t w.gParents w.gCells w.gOpen (cel w i).1 (cel w i).2.1 (cel w i).2.2 (cel w i).2.3 (cel w i).2.4.1 (cel w i).2.4.2 (cel w i).2.4.3 (cel w i).2.4.4 (cel w i).2.5.1 (cel w i).2.5.2 H
   refine L _ (ite_t (lt_len ht) (and_t (in_len ht) ⟨_,g25,and_of (b:=notB (hasB acc (findW w (cel w i).gScope (rd (bs []) (namesW w i) (t:Int))))) (fun _=>⟨rows,k1,and_t (in_len hir) (and_t rfl ⟨rows,k1,and_t ?_ ⟨.int,zs,?_,and_t ?_ ⟨_,gives32 _ _,?_⟩⟩⟩)⟩) (ite_w (fun h=>?_) (fun h=>?_))⟩))
   ·rw [e0]; exact ltN_t hir
   ·rw [e0]; exact k3
   ·rw [e0]; exact k4
   ·rw [e0]; exact congrArg (fun l=>notB (hasB l _)) k5
   ·have hq:∀H',lenO H≤lenO H'→Rw H' q N ((curF (askR w) w.gCells.length i acc).set i ((curF (askR w) w.gCells.length i acc)[i] ++ [findW w (cel w i).gScope (rd (bs []) (namesW w i) (t:Int))]))→
      At K 29 (fun c' H'=>∃n gen,c'=(.asl (.g n) gen none false:C U)∧RowsAre K H' n gen .int (askW w)) t29_7 (s29_7 q i w.gCells (intN (lenL w.gCells)) i (namesW w i) (intN (lenL (namesW w i))) (addW .i64 t 1) w.gParents w.gCells w.gOpen (cel w i).1 (cel w i).2.1 (cel w i).2.2 (cel w i).2.3 (cel w i).2.4.1 (cel w i).2.4.2 (cel w i).2.4.3 (cel w i).2.4.4 (cel w i).2.5.1 (cel w i).2.5.2 H'):=by
     intro H' _ r'
     rw [curF_set,curF_get hi,hnm] at r'
     rw [add_one (by omega)]
     refine ih H' q N ?_
     unfold askN
     rw [hnm] at h
     rw [if_pos h]; exact r'
    exact push_row r hci (by rw [curF_get hi]; omega) _ hq
   ·rw [add_one (by omega)]
    refine ih H q N ?_
    unfold askN
    rw [hnm] at h
    rw [if_neg (by rw [h]; decide)]; exact r
 have outer:∀i,i≤w.gCells.length→∀(H:List (O U)) (q N:Nat),Rw H q N (curF (askR w) w.gCells.length i [])→
   At K 29 (fun c' H'=>∃n gen,c'=(.asl (.g n) gen none false:C U)∧RowsAre K H' n gen .int (askW w)) t29_3 (s29_3 q w.gCells (intN (lenL w.gCells)) i w.gParents w.gCells w.gOpen H):=by
  refine upto ?_ fun i hi ih=>?_
  ·intro H q N r
   rw [curF_all] at r
   have r:Rw H q N (askW w):=r
   exact l29_3 _ _ _ _ _ _ _ _ _ (ite_f (lt_len_f (Nat.le_refl _)) ⟨_,_,rfl,r.are⟩)
  ·intro H q N r
   exact l29_3 _ _ _ _ _ _ _ _ _ (ite_t (lt_len hi) (and_t (in_len hi) ⟨askedF (cel w i).gProvider.gExpr,gives55 _,inner hi ih 0 (Nat.zero_le _) H q N r⟩))
 refine e29 _ _ _ (and_t (decide_eq_true (by rw [intN_eq]; omega)) (and_t (by simp [leI]) (and_t (decide_eq_true (by rw [intN_eq,lenL_eq]; simp [room]; omega)) ?_)))
 refine outer 0 (Nat.zero_le _) _ _ (lenO (oN)) ⟨replL (intN (lenL w.gCells)) (lenO oN,0,none,true),obj_push,?_,?_,fun j r ys hr hy=>?_⟩
 ·simp [replL,intN,lenL,curF_len]
 ·rw [obj_push_lt (by show lenO oN<lenO (pushO oN _); rw [len_push]; omega)]; exact obj_push
 ·left
  unfold replL at hr
  rw [List.getElem?_replicate] at hr
  rw [curF_zero,List.getElem?_replicate] at hy
  split at hr
  ·split at hy
   ·exact ⟨(Option.some.inj hr).symm,(Option.some.inj hy).symm⟩
   ·cases hy
  ·cases hr
theorem gives29 {w:api_World} (R:Rgt w):Gives 29 [worldC w] (.d (.sl .sl_int (askW w))):=by
 have hb:(askW w).length * 24≤140737488355328:=by have:=R.nc; rw [askW_len]; omega
 have h:=Runs.rowsD laws (K:=K) (c:=.int) (c2:=.sl_int) (args:=[worldC w]) (H:=[]) (by rfl) (fun (ys:List Int)=>(ys:List Int)) (fun _=>rfl) (yss:=askW w) hb (runs29 R)
 have e:List.map (fun (ys:List Int)=>ys) (askW w)=askW w:=List.map_id' _
 have e':(.d (.sl .sl_int (List.map (fun (ys:List Int)=>ys) (askW w))):C U)=.d (.sl .sl_int (askW w)):=congrArg (fun l=>(.d (.sl .sl_int l):C U)) e
 exact h.mono fun c H hc=>⟨hc.1.trans e',hc.2⟩
def insAt (q:Nat) (h:Int) (l:List Int):List Int:=l.take q ++ h :: l.drop q
theorem insAt_len {q:Nat} {h:Int} {l:List Int} (hq:q≤l.length):(insAt q h l).length=l.length+1:=by simp [insAt]; omega
theorem insAt_set {q:Nat} {h x:Int} {l:List Int} (hq:q≤l.length):(insAt q h l).set q x=insAt q x l:=by
 unfold insAt
 rw [List.set_append_right _ _ (by simp; omega)]
 have:q - (l.take q).length=0:=by simp; omega
 rw [this]; rfl
theorem insAt_back {q:Nat} {h:Int} {l:List Int} (hq:q<l.length):insAt (q+1) l[q] l=insAt q l[q] l:=by
 unfold insAt
 rw [List.take_succ_eq_append_getElem hq,List.append_assoc,List.drop_eq_getElem_cons hq]; rfl
theorem insAt_step {q:Nat} {h:Int} {l:List Int} (hq:q<l.length):(insAt (q+1) h l).set (q+1) l[q]=insAt q l[q] l:=by
 rw [insAt_set (by omega),insAt_back (h:=h) hq]
theorem insAt_get {q:Nat} {h:Int} {l:List Int} (hq:q<l.length):rdN (Int.ofNat 0) (insAt (q+1) h l) q=l[q]:=by
 unfold insAt rdN
 rw [List.getD_eq_getElem?_getD,List.getElem?_append_left (by simp; omega),List.getElem?_take,if_pos (by omega),List.getElem?_eq_getElem hq]; rfl
theorem insAt_mem {q:Nat} {h x:Int} {l:List Int}:x∈insAt q h l↔x∈l∨x=h:=by
 unfold insAt
 have:x∈l↔x∈l.take q∨x∈l.drop q:=by
  rw [←List.mem_append,List.take_append_drop]
 rw [List.mem_append,List.mem_cons,this]
 constructor
 ·rintro (h|h|h)
  ·exact .inl (.inl h)
  ·exact .inr h
  ·exact .inl (.inr h)
 ·rintro ((h|h)|h)
  ·exact .inl h
  ·exact .inr (.inr h)
  ·exact .inr (.inl h)
theorem insAt_end {h:Int} {l:List Int}:l ++ [h]=insAt l.length h l:=by simp [insAt]
theorem gives63 (l:List Int) (hl:l.length≤1000000):∃l':List Int,Gives 63 [.d (.sl .int l)] (.d (.sl .int l'))∧(∀x,x∈l'↔x∈l)∧l'.length≤l.length:=by
 have main:∀i,i≤l.length→∀y:List Int,y.length≤i→∃l':List Int,At K 63 (fun c' H'=>c'=(.d (.sl .int l'):C U)∧H'=[]) t63_3 (s63_3 l i y)∧(∀x,x∈l'↔x∈y∨x∈l.drop i)∧l'.length≤y.length+(l.length - i):=by
  refine upto ?_ fun i hi ih=>?_
  ·intro y hy
   refine ⟨y,l63_3 _ _ _ _ (ite_f (lt_len_f (Nat.le_refl _)) ⟨rfl,rfl⟩),fun x=>by rw [List.drop_length]; simp,by omega⟩
  ·intro y hy
   have hr:rd (Int.ofNat 0) l (i:Int)=l[i]:=rd_at hi
   have hd:∀x,x∈l.drop i↔x=l[i]∨x∈l.drop (i+1):=fun x=>by rw [List.drop_eq_getElem_cons hi,List.mem_cons]
   cases hb:hasB y l[i] with
   | true=>
    obtain ⟨l',a,b,c⟩:=ih y (by omega)
    refine ⟨l',l63_3 _ _ _ _ (ite_t (lt_len hi) (and_t (in_len hi) ⟨true,?_,?_⟩)),fun x=>?_,by omega⟩
    ·have:=gives37 y (rd (Int.ofNat 0) l (i:Int))
     rw [hr,hb] at this; rw [hr]; exact this
    ·show At K 63 _ t63_3 (s63_3 l (addW .i64 i 1) y)
     rw [add_one (by omega)]; exact a
    ·rw [b,hd]
     constructor
     ·rintro (h|h)
      ·exact .inl h
      ·exact .inr (.inr h)
     ·rintro (h|h|h)
      ·exact .inl h
      ·rw [h]; exact .inl (hasB_t.1 hb)
      ·exact .inr h
   | false=>
    have shift:∀p,p≤y.length→∀k h,p+k≤y.length→∃l':List Int,At K 63 (fun c' H'=>c'=(.d (.sl .int l'):C U)∧H'=[]) t63_11 (s63_11 l i p (p+k:Nat) (insAt (p+k) h y))∧(∀x,x∈l'↔x∈y∨x∈l.drop i)∧l'.length≤y.length+(l.length - i):=by
     intro p hp k
     induction k with
     | zero=>
      intro h _
      have hlen:=insAt_len (h:=h) hp
      obtain ⟨l',a,b,c⟩:=ih (insAt p l[i] y) (by rw [insAt_len hp]; omega)
      have hpl:p<(insAt p h y).length:=by omega
      refine ⟨l',l63_11 _ _ _ _ _ _ (ite_f (by simp [ltI]) (and_t (in_len hi) (and_t (in_len hpl) (and_t (ltN_t (by rw [lenL_eq]; exact hpl)) ?_)))),fun x=>?_,by rw [insAt_len hp] at c; omega⟩
      ·rw [add_one (by omega),hr]
       have:setL (insAt (p+0) h y) (natI (p:Int)) l[i]=insAt p l[i] y:=insAt_set hp
       rw [this]; exact a
      ·rw [b,hd,insAt_mem]
       constructor
       ·rintro ((h|h)|h)
        ·exact .inl h
        ·exact .inr (.inl h)
        ·exact .inr (.inr h)
       ·rintro (h|h|h)
        ·exact .inl (.inl h)
        ·exact .inl (.inr h)
        ·exact .inr h
     | succ k ihk=>
      intro h hk
      have hq:p+k<y.length:=by omega
      obtain ⟨l',a,b⟩:=ihk (y[p+k]) (by omega)
      have hlen:(insAt (p+(k+1)) h y).length=y.length+1:=insAt_len (by omega)
      have e1:subW .i64 ((p+(k+1):Nat):Int) 1=((p+k:Nat):Int):=by rw [subW_id (by omega) (by omega)]; omega
      have L:=l63_11 l i p ((p+(k+1):Nat):Int) (insAt (p+(k+1)) h y) (fun c' H'=>c'=(.d (.sl .int l'):C U)∧H'=[])
      simp only [e1,natI_nat] at L
      refine ⟨l',L (ite_t (decide_eq_true (by omega)) (and_t (in_len (by omega)) (and_t (ltN_t (by rw [lenL_eq]; omega)) (and_t (in_len (by omega)) (and_t (ltN_t (by rw [lenL_eq]; omega)) ?_))))),b⟩
      have e2:rdN (Int.ofNat 0) (insAt (p+(k+1)) h y) (p+k)=y[p+k]:=insAt_get hq
      have e3:setL (insAt (p+(k+1)) h y) (p+(k+1)) y[p+k]=insAt (p+k) y[p+k] y:=insAt_step hq
      rw [e2,e3]; exact a
    have start:∀p,p≤y.length→∃l':List Int,At K 63 (fun c' H'=>c'=(.d (.sl .int l'):C U)∧H'=[]) t63_11 (s63_11 l i p (subW .i64 (intN (lenL (appL y [0]))) 1) (appL y [0]))∧(∀x,x∈l'↔x∈y∨x∈l.drop i)∧l'.length≤y.length+(l.length - i):=by
     intro p hp
     obtain ⟨l',a,b⟩:=shift p hp (y.length - p) 0 (by omega)
     have e:p+(y.length - p)=y.length:=by omega
     rw [e,←insAt_end] at a
     have e1:subW .i64 (intN (lenL (appL y [0]))) 1=(y.length:Int):=by
      have:lenL (appL y [0])=y.length+1:=by simp [lenL,appL]
      rw [this,intN_eq,subW_id (by omega) (by omega)]; omega
     exact ⟨l',by rw [e1]; exact a,b⟩
    have hroom:roomB (addN (lenL y) (lenL [0])) 8=true:=roomB_t (by simp [addN,lenL]; omega)
    have find:∀p,p≤y.length→∃l':List Int,At K 63 (fun c' H'=>c'=(.d (.sl .int l'):C U)∧H'=[]) t63_7 (s63_7 l i p y)∧(∀x,x∈l'↔x∈y∨x∈l.drop i)∧l'.length≤y.length+(l.length - i):=by
     intro p
     induction p with
     | zero=>
      intro hp
      obtain ⟨l',a,b⟩:=start 0 hp
      exact ⟨l',l63_7 _ _ _ _ _ (ite_f rfl (and_t hroom a)),b⟩
     | succ p ihp=>
      intro hp
      have hpl:p<y.length:=by omega
      have e1:subW .i64 ((p+1:Nat):Int) 1=(p:Int):=by rw [subW_id (by omega) (by omega)]; omega
      by_cases hlt:ltI (rd (Int.ofNat 0) l (i:Int)) (rdN (Int.ofNat 0) y p)=true
      ·obtain ⟨l',a,b⟩:=ihp (by omega)
       have L:=l63_7 l i ((p+1:Nat):Int) y (fun c' H'=>c'=(.d (.sl .int l'):C U)∧H'=[])
       simp only [e1,natI_nat] at L
       exact ⟨l',L (ite_t (decide_eq_true (by omega)) (and_t (in_len hpl) (and_t (ltN_t (by rw [lenL_eq]; exact hpl)) (and_t (in_len hi) (ite_t hlt a))))),b⟩
      ·obtain ⟨l',a,b⟩:=start (p+1) hp
       have L:=l63_7 l i ((p+1:Nat):Int) y (fun c' H'=>c'=(.d (.sl .int l'):C U)∧H'=[])
       simp only [e1,natI_nat] at L
       exact ⟨l',L (ite_t (decide_eq_true (by omega)) (and_t (in_len hpl) (and_t (ltN_t (by rw [lenL_eq]; exact hpl)) (and_t (in_len hi) (ite_f (by simpa using hlt) (and_t hroom a)))))),b⟩
    obtain ⟨l',a,b⟩:=find y.length (Nat.le_refl _)
    refine ⟨l',l63_3 _ _ _ _ (ite_t (lt_len hi) (and_t (in_len hi) ⟨false,?_,?_⟩)),b⟩
    ·have:=gives37 y (rd (Int.ofNat 0) l (i:Int))
     rw [hr,hb] at this; rw [hr]; exact this
    ·exact a
 obtain ⟨l',a,b,c⟩:=main 0 (Nat.zero_le _) [] (by simp)
 exact ⟨l',e63 _ _ a,fun x=>by rw [b]; simp,by simpa using c⟩
theorem gives36 {w:api_World} (R:Rgt w) {i:Nat} (hi:i<w.gCells.length):∃l:List Int,Gives 36 [worldC w,.d (.int .i64 i)] (.d (.sl .int l))∧(∀x,x∈l↔x∈askR w i)∧l.length≤1000000:=by
 have hn:(namesW w i).length≤1000000:=askedF_len _
 have main:∀t,t≤(namesW w i).length→∀y:List Int,y.length≤t→∃l':List Int,At K 36 (fun c' H'=>c'=(.d (.sl .int l'):C U)∧H'=[]) t36_4 (s36_4 i (namesW w i) t w.gParents w.gCells w.gOpen y)∧
   (∀x,x∈l'↔x∈y∨∃n∈(namesW w i).drop t,0≤x∧x=findW w (cel w i).gScope n)∧l'.length≤1000000:=by
  refine upto ?_ fun t ht ih=>?_
  ·intro y hy
   obtain ⟨l',a,b,c⟩:=gives63 y (by omega)
   exact ⟨l',l36_4 _ _ _ _ _ _ _ _ (ite_f (lt_len_f (Nat.le_refl _)) ⟨l',a,rfl,rfl⟩),fun x=>by rw [b,List.drop_length]; simp,by omega⟩
  ·intro y hy
   have hnm:rd (bs []) (namesW w i) (t:Int)=(namesW w i)[t]:=rd_at ht
   have g:=gives26 R (R.sc i hi).2 (rd (bs []) (namesW w i) (t:Int))
   have hd:∀x,(∃n∈(namesW w i).drop t,0≤x∧x=findW w (cel w i).gScope n)↔(0≤x∧x=findW w (cel w i).gScope (namesW w i)[t])∨∃n∈(namesW w i).drop (t+1),0≤x∧x=findW w (cel w i).gScope n:=fun x=>by
    rw [List.drop_eq_getElem_cons ht]
    constructor
    ·rintro ⟨n,h1,h2⟩
     rcases List.mem_cons.1 h1 with rfl|h1
     ·exact .inl h2
     ·exact .inr ⟨n,h1,h2⟩
    ·rintro (h|⟨n,h1,h2⟩)
     ·exact ⟨_,List.mem_cons_self ..,h⟩
     ·exact ⟨n,List.mem_cons_of_mem _ h1,h2⟩
   by_cases h0:leI 0 (findW w (cel w i).gScope (rd (bs []) (namesW w i) (t:Int)))=true
   ·obtain ⟨l',a,b,c⟩:=ih (y ++ [findW w (cel w i).gScope (rd (bs []) (namesW w i) (t:Int))]) (by simp; omega)
    refine ⟨l',l36_4 _ _ _ _ _ _ _ _ (ite_t (lt_len ht) (and_t (in_len hi) (and_t (in_len ht) ⟨_,g,ite_t h0 (and_t (roomB_t (by simp [addN,lenL]; omega)) ?_)⟩))),fun x=>?_,c⟩
    ·rw [add_one (by omega)]; exact a
    ·rw [hnm] at b h0
     have h0:=of_decide_eq_true h0
     rw [b,hd,List.mem_append,List.mem_singleton]
     constructor
     ·rintro ((h|h)|h)
      ·exact .inl h
      ·exact .inr (.inl ⟨by omega,h⟩)
      ·exact .inr (.inr h)
     ·rintro (h|⟨_,h⟩|h)
      ·exact .inl (.inl h)
      ·exact .inl (.inr h)
      ·exact .inr h
   ·obtain ⟨l',a,b,c⟩:=ih y (by omega)
    refine ⟨l',l36_4 _ _ _ _ _ _ _ _ (ite_t (lt_len ht) (and_t (in_len hi) (and_t (in_len ht) ⟨_,g,ite_f (by simpa using h0) ?_⟩))),fun x=>?_,c⟩
    ·rw [add_one (by omega)]; exact a
    ·rw [hnm] at h0
     have h0:¬0≤findW w (cel w i).gScope (namesW w i)[t]:=fun h=>h0 (decide_eq_true h)
     rw [b,hd]
     constructor
     ·rintro (h|h)
      ·exact .inl h
      ·exact .inr (.inr h)
     ·rintro (h|⟨h1,h2⟩|h)
      ·exact .inl h
      ·omega
      ·exact .inr h
 obtain ⟨l',a,b,c⟩:=main 0 (Nat.zero_le _) [] (by simp)
 refine ⟨l',e36 _ _ _ (and_t (in_len hi) ⟨askedF (cel w i).gProvider.gExpr,gives62 _,a⟩),fun x=>?_,c⟩
 rw [b,askR_mem,List.drop_zero]; simp
def usum:List Bool→Nat
 | []=>0
 | b :: s=>(if b=true then 0 else 1)+usum s
theorem usum_set:∀{s:List Bool} {k:Nat},s[k]?=some false→usum (s.set k true)+1=usum s
 | [],k,h=>by simp at h
 | b :: s,0,h=>by
  simp only [List.getElem?_cons_zero,Option.some.injEq] at h
  subst h
  simp [usum,List.set]; omega
 | b :: s,k+1,h=>by
  simp only [List.getElem?_cons_succ] at h
  have:=usum_set h
  simp only [List.set,usum]; omega
theorem usum_le:∀{s:List Bool},usum s≤s.length
 | []=>by simp [usum]
 | b :: s=>by
  have:=usum_le (s:=s)
  simp only [usum,List.length_cons]
  split <;> omega
structure Near (l l':List (List Int)):Prop where
 len:l'.length=l.length
 row:∀i,i<l.length→(∀x:Int,x∈rd [] l' (i:Int)↔x∈rd [] l (i:Int))∧(rd [] l' (i:Int)).length≤1000000
structure Bfs (l:List (List Int)) (a:Nat) (todo:List Int) (seen:List Bool) (P:Nat→Prop):Prop where
 len:seen.length=l.length
 num:∀x∈todo,∃k:Nat,x=k∧(k=a∨Reach l a k)
 was:∀k,atB seen k=true→Reach l a k
 done:∀k,atB seen k=true∨k=a→(k:Int)∈todo∨P k∨∀b,Edge l k b→atB seen b=true
theorem Bfs.all {l:List (List Int)} {a:Nat} {seen:List Bool} (B:Bfs l a [] seen fun _=>False):∀k,atB seen k=reB l a k:=by
 intro k
 rw [Bool.eq_iff_iff,reB_t]
 refine ⟨B.was k,fun h=>?_⟩
 induction h with
 | single h=>
  rcases B.done a (.inr rfl) with h'|h'|h'
  ·cases h'
  ·exact h'.elim
  ·exact h' _ h
 | tail _ h ih=>
  rcases B.done _ (.inl ih) with h'|h'|h'
  ·cases h'
  ·exact h'.elim
  ·exact h' _ h
noncomputable def clW (w:api_World):List (List Int):=(List.range w.gCells.length).map (reL (askW w))
theorem runs30 {w:api_World} (R:Rgt w):Runs K 30 [worldC w] [] fun c' H'=>∃n gen,c'=.asl (.g n) gen none false∧RowsAre K H' n gen .int (clW w):=by
 have nc:=R.nc
 have G:=askG R
 let post:Post:=fun c' H'=>∃n gen,c'=(.asl (.g n) gen none false:C U)∧RowsAre K H' n gen .int (clW w)
 have gl:(askW w).length=w.gCells.length:=askW_len
 have outer:∀(y:List (List Int)),Near (askW w) y→∀i,i≤w.gCells.length→∀(H:List (O U)) (q N:Nat),Rw H q N (curF (reL (askW w)) w.gCells.length i [])→
   At K 30 post t30_8 (s30_8 q i w.gParents w.gCells w.gOpen y H):=by
  intro y Y
  have yl:y.length=w.gCells.length:=by rw [Y.len,gl]
  refine upto ?_ fun i hi ih=>?_
  ·intro H q N r
   rw [curF_all] at r
   have r:Rw H q N (clW w):=r
   exact l30_8 _ _ _ _ _ _ _ _ (ite_f (lt_len_f (Nat.le_refl _)) ⟨_,_,rfl,r.are⟩)
  intro H q N r
  have tell:∀(seen:List Bool),seen.length=w.gCells.length→(∀k,atB seen k=reB (askW w) i k)→∀t,t≤w.gCells.length→∀(H:List (O U)),Rw H q N (curF (reL (askW w)) w.gCells.length i (ixs (reB (askW w) i) t))→
    At K 30 post t30_23 (s30_23 q i t w.gParents w.gCells w.gOpen y seen H):=by
   intro seen hs he
   refine upto ?_ fun t ht ihT=>?_
   ·intro H r
    have e:ixs (reB (askW w) i) w.gCells.length=reL (askW w) i:=by unfold reL; rw [gl]
    rw [e,curF_next] at r
    refine l30_23 _ _ _ _ _ _ _ _ _ _ (ite_f (lt_len_f (by omega)) ?_)
    rw [add_one (by omega)]
    exact ih H q N r
   ·intro H r
    have hlen:=ixs_len (p:=reB (askW w) i) (n:=t)
    have hci:i<(curF (reL (askW w)) w.gCells.length i (ixs (reB (askW w) i) t)).length:=by rw [curF_len]; exact hi
    refine l30_23 _ _ _ _ _ _ _ _ _ _ (ite_t (lt_len (by omega)) (and_t (in_len (by omega)) (and_t (ltN_t (by simp only [natI_nat,lenL_eq]; omega)) (ite_w (fun h=>?_) (fun h=>?_)))))
    ·have h:atB seen t=true:=h
     have hq:∀H',lenO H≤lenO H'→Rw H' q N ((curF (reL (askW w)) w.gCells.length i (ixs (reB (askW w) i) t)).set i ((curF (reL (askW w)) w.gCells.length i (ixs (reB (askW w) i) t))[i] ++ [(t:Int)]))→
       At K 30 post t30_23 (s30_23 q i (addW .i64 t 1) w.gParents w.gCells w.gOpen y seen H'):=by
      intro H' _ r'
      rw [curF_set,curF_get hi] at r'
      rw [add_one (by omega)]
      refine ihT H' ?_
      rw [ixs_succ,←he,if_pos h]; exact r'
     exact push_row r hci (by rw [curF_get hi]; omega) _ hq
    ·have h:atB seen t=false:=h
     rw [add_one (by omega)]
     refine ihT H ?_
     rw [ixs_succ,←he,if_neg (by rw [h]; decide)]; exact r
  have main:∀(m:Nat) (o n:Nat) (z:List Int) (seen:List Bool),o+n=z.length→z.length+usum seen≤600→Bfs (askW w) i (z.drop o) seen (fun _=>False)→n+2 * usum seen≤m→
    At K 30 post t30_12 (s30_12 q i o n w.gParents w.gCells w.gOpen z y seen H):=by
   intro m
   induction m with
   | zero=>
    intro o n z seen hz hB B hm
    have hn:n=0:=by omega
    subst hn
    have:z.drop o=[]:=List.drop_of_length_le (by omega)
    rw [this] at B
    obtain ⟨rows,k1,k2,k3,k4⟩:=r.ex
    have hir:i<rows.length:=by rw [k2,curF_len]; exact hi
    have q1:obj (pushO H (.arr 0 (.pure .int) ([]:List Int))) q=some (.arr 0 .row rows):=by rw [obj_push_lt (obj_len k1)]; exact k1
    have e0:addN (subOff none) (natI (i:Int))=i:=Nat.zero_add i
    have F:=Rw.fresh k1 k2 k3 k4 (by rw [curF_len]; exact hi) []
    rw [curF_set] at F
    refine l30_12 _ _ _ _ _ _ _ _ _ _ _ _ (ite_f rfl ⟨rows,q1,and_t (in_len hir) (and_t rfl ⟨rows,q1,and_t ?_ ?_⟩)⟩)
    ·rw [e0]; exact ltN_t hir
    ·rw [e0]; exact tell seen (by rw [B.len,gl]) B.all 0 (Nat.zero_le _) _ F
   | succ m ihm=>
    intro o n z seen hz hB B hm
    by_cases hn:n=0
    ·subst hn
     have:z.drop o=[]:=List.drop_of_length_le (by omega)
     rw [this] at B
     obtain ⟨rows,k1,k2,k3,k4⟩:=r.ex
     have hir:i<rows.length:=by rw [k2,curF_len]; exact hi
     have q1:obj (pushO H (.arr 0 (.pure .int) ([]:List Int))) q=some (.arr 0 .row rows):=by rw [obj_push_lt (obj_len k1)]; exact k1
     have e0:addN (subOff none) (natI (i:Int))=i:=Nat.zero_add i
     have F:=Rw.fresh k1 k2 k3 k4 (by rw [curF_len]; exact hi) []
     rw [curF_set] at F
     refine l30_12 _ _ _ _ _ _ _ _ _ _ _ _ (ite_f rfl ⟨rows,q1,and_t (in_len hir) (and_t rfl ⟨rows,q1,and_t ?_ ?_⟩)⟩)
     ·rw [e0]; exact ltN_t hir
     ·rw [e0]; exact tell seen (by rw [B.len,gl]) B.all 0 (Nat.zero_le _) _ F
    have ho:o<z.length:=by omega
    have hzo:z.drop o=z[o] :: z.drop (o+1):=List.drop_eq_getElem_cons ho
    obtain ⟨k,hk,hkr⟩:=B.num z[o] (by rw [hzo]; exact List.mem_cons_self ..)
    have hkl:k<w.gCells.length:=by
     rcases hkr with rfl|h
     ·exact hi
     ·have:=G.reach h; omega
    have hkn:k<(askW w).length:=by omega
    obtain ⟨yr,ylen⟩:=Y.row k hkn
    generalize hrow:rd [] y (k:Int)=row at *
    have hrow':rdN [] y k=row:=by
     rw [←hrow,rd_at (by omega)]; exact rdN_some (List.getElem?_eq_getElem (by omega))
    have hky:inB (k:Int) (lenL y)=true:=in_len (by omega)
    have hky':ltN (natI (k:Int)) (lenL y)=true:=ltN_t (by simp only [natI_nat,lenL_eq]; omega)
    have inner:∀t,t≤row.length→∀(o n:Nat) (z:List Int) (seen:List Bool),o+n=z.length→z.length+usum seen≤600→Bfs (askW w) i (z.drop o) seen (fun j=>j=k)→(∀x∈row.take t,∃b:Nat,x=b∧atB seen b=true)→n+2 * usum seen≤m→
      At K 30 post t30_16 (s30_16 q i o n k t w.gParents w.gCells w.gOpen z y seen H):=by
     refine upto ?_ fun t ht ihT=>?_
     ·intro o n z seen hz hB B hT hm
      rw [List.take_length] at hT
      have L:=l30_16 q i o n k row.length w.gParents w.gCells w.gOpen z y seen H post
      simp only [natI_nat,hrow'] at L
      refine L (and_t hky (and_t hky' (ite_f (lt_len_f (Nat.le_refl _)) (ihm o n z seen hz hB ⟨B.len,B.num,B.was,fun j hj=>?_⟩ hm))))
      rcases B.done j hj with h|rfl|h
      ·exact .inl h
      ·refine .inr (.inr fun b hE=>?_)
       obtain ⟨b',hb,hs⟩:=hT b ((yr b).2 hE.2)
       have:b'=b:=by omega
       rw [←this]; exact hs
      ·exact .inr (.inr h)
     ·intro o n z seen hz hB B hT hm
      have hx:row[t]∈rd [] (askW w) (k:Int):=(yr _).1 (List.getElem_mem ht)
      obtain ⟨b,hb,hbl⟩:∃b:Nat,row[t]=(b:Int)∧b<(askW w).length:=by
       rw [rd_at hkn] at hx
       exact G.num _ (List.getElem_mem hkn) _ hx
      have hE:Edge (askW w) k b:=⟨hkn,by rw [←hb]; exact hx⟩
      have hRb:Reach (askW w) i b:=by
       rcases hkr with rfl|h
       ·exact .single hE
       ·exact .tail h hE
      have hbs:b<seen.length:=by rw [B.len]; exact hbl
      have hr:rd (Int.ofNat 0) row (t:Int)=(b:Int):=(rd_at ht).trans hb
      have L:=l30_16 q i o n k t w.gParents w.gCells w.gOpen z y seen H post
      simp only [natI_nat,hrow',hr] at L
      have ins:inB (b:Int) (lenL seen)=true:=in_len hbs
      have ins':ltN b (lenL seen)=true:=ltN_t (by rw [lenL_eq]; exact hbs)
      have int:inB (t:Int) (lenL row)=true:=in_len ht
      have tak:∀{s:List Bool},(∀x∈row.take t,∃b:Nat,x=b∧atB s b=true)→atB s b=true→∀x∈row.take (t+1),∃b:Nat,x=b∧atB s b=true:=by
       intro s h1 h2 x hx
       rw [List.take_succ_eq_append_getElem ht] at hx
       rcases List.mem_append.1 hx with hx|hx
       ·exact h1 x hx
       ·exact ⟨b,(List.mem_singleton.1 hx).trans hb,h2⟩
      refine L (and_t hky (and_t hky' (ite_t (lt_len ht) (and_t hky (and_t hky' (and_t int (and_t ins (and_t ins' (ite_w (fun h=>?_) (fun h=>?_))))))))))
      ·have h:atB seen b=false:=notB_t.1 h
       have hs:seen[b]?=some false:=by
        unfold atB rdN at h
        rw [List.getD_eq_getElem?_getD,List.getElem?_eq_getElem hbs] at h
        rw [List.getElem?_eq_getElem hbs]; exact congrArg some h
       have hu:=usum_set hs
       have new:atB (setL seen b true) b=true:=by rw [atB_set hbs]; simp
       have old:∀j,atB seen j=true→atB (setL seen b true) j=true:=fun j hj=>by rw [atB_set hbs,hj,Bool.or_true]
       have nxt:∀(o' n':Nat) (z':List Int),o'+n'=z'.length→z'.length≤z.length→z'.drop o'=z.drop o→n'=n→
         At K 30 post t30_16 (s30_16 q i o' (n+1) k (t+1:Nat) w.gParents w.gCells w.gOpen (z' ++ [(b:Int)]) y (setL seen b true) H):=by
        intro o' n' z' h1 h2 h3 h4
        have hdr:(z' ++ [(b:Int)]).drop o'=z.drop o ++ [(b:Int)]:=by
         rw [List.drop_append_of_le_length (by omega),h3]
        refine ihT o' (n+1) (z' ++ [(b:Int)]) (setL seen b true) (by simp; omega) ?_ ?_ (tak (fun x hx=>?_) new) ?_
        ·have:usum (setL seen b true)+1=usum seen:=hu
         simp; omega
        ·rw [hdr]
         refine ⟨by simp [setL,B.len],fun x hx=>?_,fun j hj=>?_,fun j hj=>?_⟩
         ·rcases List.mem_append.1 hx with hx|hx
          ·exact B.num x hx
          ·exact ⟨b,List.mem_singleton.1 hx,.inr hRb⟩
         ·rw [atB_set hbs,Bool.or_eq_true,decide_eq_true_iff] at hj
          rcases hj with rfl|hj
          ·exact hRb
          ·exact B.was j hj
         ·rw [atB_set hbs,Bool.or_eq_true,decide_eq_true_iff] at hj
          by_cases e:j=b
          ·subst e; exact .inl (List.mem_append_right _ (List.mem_singleton.2 rfl))
          ·have hj:atB seen j=true∨j=i:=by
            rcases hj with (h|h)|h
            ·exact absurd h e
            ·exact .inl h
            ·exact .inr h
           rcases B.done j hj with h|h|h
           ·exact .inl (List.mem_append_left _ h)
           ·exact .inr (.inl h)
           ·exact .inr (.inr fun c hc=>old c (h c hc))
        ·obtain ⟨c,hc,hs⟩:=hT x hx
         exact ⟨c,hc,old c hs⟩
        ·have:usum (setL seen b true)+1=usum seen:=hu
         omega
       have hus:usum seen≤seen.length:=usum_le
       refine and_t hky (and_t hky' (and_t int (and_t ins (and_t ins' (and_t hky (and_t hky' (and_t int (and_t ?_ ?_))))))))
       ·have h1:leN (addN o n) (lenL z)=true:=leN_t (by simp only [lenL_eq]; unfold addN; omega)
        have h2:roomB (addN (addN o n) (lenL [(b:Int)])) 8=true:=roomB_t (by simp [addN,lenL]; omega)
        rw [h1,h2]; rfl
       ·have e1:appL (takeL (addN o n) z) [(b:Int)]=z ++ [(b:Int)]:=by
         unfold appL takeL addN; rw [List.take_of_length_le (by omega)]
        have e2:appL (takeL n (dropL o z)) [(b:Int)]=z.drop o ++ [(b:Int)]:=by
         unfold appL takeL dropL; rw [List.take_of_length_le (by simp; omega)]
        have e3:addN n (lenL [(b:Int)])=n+1:=rfl
        rw [e1,e2,e3,add_one (by omega)]
        exact ⟨nxt o n z hz (Nat.le_refl _) rfl rfl,nxt 0 n (z.drop o) (by simp; omega) (by simp) rfl rfl⟩
      ·have h:atB seen b=true:=notB_f.1 h
       rw [add_one (by omega)]
       exact ihT o n z seen hz hB B (tak hT h) hm
    have L:=l30_12 q i o n w.gParents w.gCells w.gOpen z y seen H post
    have e1:addN o (natI 0)=o:=rfl
    have e2:addN o (natI 1)=o+1:=rfl
    have e3:subN (natI (intN n)) (natI 1)=n - 1:=rfl
    have e4:rdN (Int.ofNat 0) z o=(k:Int):=(rdN_some (List.getElem?_eq_getElem ho)).trans hk
    simp only [e1,e2,e3,e4] at L
    refine L (ite_t (decide_eq_true (by rw [intN_eq]; omega)) (and_t ?_ (and_t (ltN_t (by rw [lenL_eq]; omega)) (and_t ?_ (inner 0 (Nat.zero_le _) (o+1) (n - 1) z seen (by omega) hB ⟨B.len,fun x hx=>B.num x (by rw [hzo]; exact List.mem_cons_of_mem _ hx),B.was,fun j hj=>?_⟩ (fun x hx=>by simp at hx) (by omega))))))
    ·have h1:inB 0 n=true:=by rw [inB_iff]; omega
     have h2:leN (addN o n) (lenL z)=true:=leN_t (by simp only [lenL_eq]; unfold addN; omega)
     rw [h1,h2]; rfl
    ·have h2:leN (addN o n) (lenL z)=true:=leN_t (by simp only [lenL_eq]; unfold addN; omega)
     have h1:leI 1 (intN n)=true:=decide_eq_true (by rw [intN_eq]; omega)
     have h3:leI (intN n) (intN n)=true:=decide_eq_true (Int.le_refl _)
     rw [h1,h2,h3]; rfl
    ·rcases B.done j hj with h|h|h
     ·rw [hzo] at h
      rcases List.mem_cons.1 h with h|h
      ·right; left; omega
      ·exact .inl h
     ·exact h.elim
     ·exact .inr (.inr h)
  have z:∀k,atB (replL (intN (lenL w.gCells)) false) k=false:=by
   intro k
   unfold atB rdN replL
   rw [List.getD_eq_getElem?_getD,List.getElem?_replicate]
   split <;> rfl
  have zl:(replL (intN (lenL w.gCells)) false).length=w.gCells.length:=by simp [replL,intN,lenL]
  have zu:=usum_le (s:=replL (intN (lenL w.gCells)) false)
  refine l30_8 _ _ _ _ _ _ _ _ (ite_t (lt_len hi) (and_t ?_ (main _ 0 1 [(i:Int)] _ rfl (by simp; omega) ⟨by rw [zl,gl],fun x hx=>?_,fun k hk=>?_,fun k hk=>?_⟩ (Nat.le_refl _))))
  ·have:roomI (intN (lenL w.gCells)) 1=true:=decide_eq_true (by rw [intN_eq,lenL_eq]; simp [room]; omega)
   rw [this]; simp [andB,leI,intN]
  ·exact ⟨i,List.mem_singleton.1 hx,.inl rfl⟩
  ·rw [z] at hk; cases hk
  ·rcases hk with hk|rfl
   ·rw [z] at hk; cases hk
   ·exact .inl (List.mem_singleton.2 rfl)
 have near:∀i,i≤w.gCells.length→∀y:List (List Int),y.length=w.gCells.length→(∀j,j<i→(∀x:Int,x∈rd [] y (j:Int)↔x∈rd [] (askW w) (j:Int))∧(rd [] y (j:Int)).length≤1000000)→
   At K 30 post t30_3 (s30_3 i w.gParents w.gCells w.gOpen y []):=by
  refine upto ?_ fun i hi ih=>?_
  ·intro y hy hj
   have hc:((intN (lenL w.gCells)).toNat)=w.gCells.length:=rfl
   refine l30_3 _ _ _ _ _ _ _ (ite_f (lt_len_f (Nat.le_refl _)) (and_t (decide_eq_true (by rw [intN_eq]; omega)) (and_t (by simp [leI]) (and_t (decide_eq_true (by rw [intN_eq,lenL_eq]; simp [room]; omega)) ?_))))
   refine outer y ⟨by rw [hy,gl],fun j hj'=>hj j (by omega)⟩ 0 (Nat.zero_le _) _ _ (lenO ([]:List (O U))) ⟨replL (intN (lenL w.gCells)) (lenO ([]:List (O U)),0,none,true),obj_push,?_,?_,fun j r ys hr hy=>?_⟩
   ·simp [replL,intN,lenL,curF_len]
   ·rw [obj_push_lt (by rw [len_push]; omega)]; exact obj_push
   ·left
    unfold replL at hr
    rw [List.getElem?_replicate] at hr
    rw [curF_zero,List.getElem?_replicate] at hy
    split at hr
    ·split at hy
     ·exact ⟨(Option.some.inj hr).symm,(Option.some.inj hy).symm⟩
     ·cases hy
    ·cases hr
  ·intro y hy hj
   obtain ⟨l,g,hm,hl⟩:=gives36 R hi
   refine l30_3 _ _ _ _ _ _ _ (ite_t (lt_len hi) ⟨l,g,and_t (in_len (by omega)) (and_t (ltN_t (by simp only [natI_nat,lenL_eq]; omega)) ?_)⟩)
   rw [add_one (by omega)]
   refine ih (y.set i l) (by simp [hy]) fun j hj'=>?_
   have hjl:j<w.gCells.length:=by omega
   have hjy:j<(y.set i l).length:=by simp; omega
   by_cases e:j=i
   ·subst e
    have e1:rd [] (y.set j l) (j:Int)=l:=by rw [rd_at hjy]; simp
    rw [e1]
    exact ⟨fun x=>by rw [hm,askW_at hi],hl⟩
   ·have e1:rd [] (y.set i l) (j:Int)=rd [] y (j:Int):=by
     rw [rd_at hjy,rd_at (by omega),List.getElem_set_ne (fun h=>e h.symm)]
    rw [e1]; exact hj j (by omega)
 refine e30 _ _ _ (and_t ?_ (near 0 (Nat.zero_le _) _ (by simp [replL,intN,lenL]) fun j hj=>by omega))
 have:roomI (intN (lenL w.gCells)) 24=true:=decide_eq_true (by rw [intN_eq,lenL_eq]; simp [room]; omega)
 rw [this]; simp [andB,leI,intN]
theorem gives30 {w:api_World} (R:Rgt w):Gives 30 [worldC w] (.d (.sl .sl_int (clW w))):=by
 have hb:(clW w).length * 24≤140737488355328:=by have:=R.nc; simp [clW]; omega
 have h:=Runs.rowsD laws (K:=K) (c:=.int) (c2:=.sl_int) (args:=[worldC w]) (H:=[]) (by rfl) (fun (ys:List Int)=>(ys:List Int)) (fun _=>rfl) (yss:=clW w) hb (runs30 R)
 have e:List.map (fun (ys:List Int)=>ys) (clW w)=clW w:=List.map_id' _
 have e':(.d (.sl .sl_int (List.map (fun (ys:List Int)=>ys) (clW w))):C U)=.d (.sl .sl_int (clW w)):=congrArg (fun l=>(.d (.sl .sl_int l):C U)) e
 exact h.mono fun c H hc=>⟨hc.1.trans e',hc.2⟩
end Go.Proofs.YtaldbipmbkapmaaDoor.V
