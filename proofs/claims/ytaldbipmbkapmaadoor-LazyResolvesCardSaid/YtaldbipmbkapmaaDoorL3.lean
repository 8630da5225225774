/- LEMMAS: what functions answer, and what is true of it. Conditions: none. -/
import Derived.Test.YtaldbipmbkapmaaDoorL2
import Derived.Test.YtaldbipmbkapmaaDoorA34
import Derived.Test.YtaldbipmbkapmaaDoorRows
import Derived.LaidMore
set_option maxRecDepth 4000
set_option linter.unusedSectionVars false
namespace Go.Proofs.YtaldbipmbkapmaaDoor.V
set_option linter.unusedVariables false
set_option linter.unusedSimpArgs false
open Go Go.Abs
noncomputable def gatesW (w:api_World) (i:Nat):List ByteArray:=(gatesF (cel w i).gProvider.gExpr).1
theorem gatesF_len (x:List api_Op):(gatesF x).1.length≤1000000:=by
 unfold gatesF
 split
 ·simp
 ·rename_i h
  have h1:=exprE_len (Decidable.not_not.1 h)
  have:=textsF_len 18 x
  simp only; omega
noncomputable def shutB (w:api_World) (i:Nat):Bool:=(firstFrom (fun t=>notB (inB' w.gOpen (rd (bs []) (gatesW w i) (t:Int)))) (gatesW w i).length 0).isSome
theorem gives76 {H:List (O U)} {f:Nat} {caps:List (C U)} {P:ByteArray→Bool} (h:∀s,GivesM f (.d (.str s) :: caps) H (.d (.bool (P s))) H) (l:List ByteArray) (hl:l.length<4611686018427387904):
  GivesM 76 [.d (.sl .str l),.fp f [] caps] H (.d (.int .i64 (oI (firstFrom (fun i=>P (rd (bs []) l (i:Int))) l.length 0)))) H:=by
 have loop:∀i,i≤l.length→At K 76 (fun c' H'=>c'=(.d (.int .i64 (oI (firstFrom (fun i=>P (rd (bs []) l (i:Int))) l.length i))):C U)∧H'=H) t76_2 (s76_2 l f [] caps (intN (lenL l)) i H):=by
  refine upto ?_ fun i hi ih=>?_
  ·exact l76_2 _ _ _ _ _ _ _ _ (ite_f (lt_len_f (Nat.le_refl _)) ⟨by rw [first_end]; rfl,rfl⟩)
  ·refine l76_2 _ _ _ _ _ _ _ _ (ite_t (lt_len hi) (and_t (in_len hi) ⟨_,(),h (rd (bs []) l (i:Int)),ite_w (fun hp=>?_) (fun hp=>?_)⟩))
   ·rw [first_yes hi hp]; exact ⟨rfl,rfl⟩
   ·rw [first_no hi hp,add_one (by omega)]; exact ih
 exact e76 _ _ _ _ _ _ (loop 0 (Nat.zero_le _))
theorem gives31 {w:api_World} {i:Nat} (hi:i<w.gCells.length):Gives 31 [worldC w,.d (.int .i64 i)] (.d (.bool (notB (shutB w i)))):=by
 let H:List (O U):=pushO oN (.cells [.d (.sl .int w.gParents),.d (.sl .api_Own w.gCells),.d (.sl .str w.gOpen)])
 have o:obj H (lenO oN)=some (.cells [.d (.sl .int w.gParents),.d (.sl .api_Own w.gCells),.d (.sl .str w.gOpen)]):=obj_push
 have hg:∀s,GivesM 58 [.d (.str s),.ptr (.g (lenO oN)) 0] H (.d (.bool (notB (inB' w.gOpen s)))) H:=fun s=>e58 _ _ _ _ ⟨w,o,_,gives59 _ _,rfl,rfl⟩
 have hn:=gatesF_len (cel w i).gProvider.gExpr
 have g76:=gives76 (caps:=[.ptr (.g (lenO oN)) 0]) (P:=fun s=>notB (inB' w.gOpen s)) hg (gatesW w i) (by unfold gatesW; omega)
 have g57:GivesM 57 [.d (.sl .str (gatesW w i)),.fp 58 [] [.ptr (.g (lenO oN)) 0]] H (.d (.bool (shutB w i))) H:=e57 _ _ _ _ _ _ ⟨_,(),g76,by rw [oI_ge]; rfl,rfl⟩
 exact e31 _ _ _ ⟨w,o,and_t (in_len hi) ⟨gatesF (cel w i).gProvider.gExpr,gives56 _,_,(),g57,rfl,rfl⟩⟩
theorem gives38 {w:api_World} {i:Nat} (hi:i<w.gCells.length):Gives 38 [worldC w,.d (.int .i64 i)] (.d (.bool (shutB w i))):=by
 have hn:=gatesF_len (cel w i).gProvider.gExpr
 have loop:∀t,t≤(gatesW w i).length→firstFrom (fun t=>notB (inB' w.gOpen (rd (bs []) (gatesW w i) (t:Int)))) (gatesW w i).length t=firstFrom (fun t=>notB (inB' w.gOpen (rd (bs []) (gatesW w i) (t:Int)))) (gatesW w i).length 0→
   At K 38 (fun c' H'=>c'=(.d (.bool (shutB w i)):C U)∧H'=[]) t38_3 (s38_3 (gatesW w i) t w.gParents w.gCells w.gOpen):=by
  refine upto ?_ fun t ht ih=>?_
  ·intro e
   refine l38_3 _ _ _ _ _ _ (ite_f (lt_len_f (Nat.le_refl _)) ⟨?_,rfl⟩)
   unfold shutB; rw [←e,first_end]; rfl
  ·intro e
   refine l38_3 _ _ _ _ _ _ (ite_t (lt_len ht) (and_t (in_len ht) ⟨_,gives51 _ _,ite_w (fun h=>?_) (fun h=>?_)⟩))
   ·refine ⟨?_,rfl⟩
    unfold shutB; rw [←e,first_yes ht h]; rfl
   ·rw [add_one (by unfold gatesW at ht; omega)]
    exact ih (by rw [←first_no ht h]; exact e)
 exact e38 _ _ _ (and_t (in_len hi) ⟨gatesF (cel w i).gProvider.gExpr,gives64 _,loop 0 (Nat.zero_le _) rfl⟩)
noncomputable def cellF (w:api_World) (a:Int):api_Fault:=if (chkW w).gCode ≠ 0 then chkW w else if (ltI a 0 || leI (intN (lenL w.gCells)) a)=true then ⟨0,1⟩ else ⟨0,0⟩
noncomputable def closF (w:api_World) (a:Int):List Int×api_Fault:=if (cellF w a).gCode ≠ 0 then ([],cellF w a) else (reL (askW w) a.toNat,⟨0,0⟩)
theorem gives27 (w:api_World) (a:Int):Gives 27 [worldC w,.d (.int .i64 a)] (fltC (cellF w a)):=by
 unfold cellF
 refine e27 _ _ _ ⟨chkW w,gives5 w,ite_w (fun h=>?_) (fun h=>?_)⟩
 ·rw [if_pos (eqI_f.1 (notB_t.1 h))]; exact ⟨rfl,rfl⟩
 rw [if_neg (Decidable.not_not.2 (eqI_t.1 (notB_f.1 h)))]
 refine or_of (fun _=>rfl) (ite_w (fun h=>?_) (fun h=>?_))
 ·rw [if_pos h]; exact ⟨rfl,rfl⟩
 ·rw [if_neg (by rw [h]; decide)]; exact ⟨rfl,rfl⟩
theorem cell_ok {w:api_World} {a:Int} (h:(cellF w a).gCode=0):Rgt w∧∃k:Nat,a=k∧k<w.gCells.length:=by
 unfold cellF at h
 split at h
 ·rename_i h1; exact absurd h h1
 rename_i h1
 split at h
 ·cases h
 rename_i h2
 rw [Bool.not_eq_true,Bool.or_eq_false_iff] at h2
 have a1:=of_decide_eq_false h2.1
 have a2:=of_decide_eq_false h2.2
 simp only [intN_eq,lenL_eq] at a2
 exact ⟨rgt_of (Decidable.not_not.1 h1),a.toNat,by omega,by omega⟩
theorem gives9 (w:api_World) (a:Int):Gives 9 [worldC w,.d (.int .i64 a)] (.tup [.d (.sl .int (closF w a).1),fltC (closF w a).2]):=by
 unfold closF
 refine e9 _ _ _ ⟨cellF w a,gives27 w a,ite_w (fun h=>?_) (fun h=>?_)⟩
 ·rw [if_pos (eqI_f.1 (notB_t.1 h))]; exact ⟨rfl,rfl⟩
 have h:=eqI_t.1 (notB_f.1 h)
 rw [if_neg (Decidable.not_not.2 h)]
 obtain ⟨R,k,rfl,hk⟩:=cell_ok h
 exact ⟨askW w,(),gives29 R,_,gives28 (askG R) (by rw [askW_len]; exact hk),rfl,rfl⟩
theorem clW_at {w:api_World} {k:Nat} (hk:k<w.gCells.length):rd [] (clW w) (k:Int)=reL (askW w) k:=by
 rw [rd_at (by simpa [clW] using hk)]; simp [clW]
theorem gives10 (w:api_World) (a:Int):Gives 10 [worldC w,.d (.int .i64 a)] (.tup [.d (.sl .int (closF w a).1),fltC (closF w a).2]):=by
 unfold closF cellF
 refine e10 _ _ _ ⟨chkW w,gives6 w,ite_w (fun h=>?_) (fun h=>?_)⟩
 ·have h:=eqI_f.1 (notB_t.1 h)
  rw [if_pos h,if_pos h]; exact ⟨rfl,rfl⟩
 have h:=eqI_t.1 (notB_f.1 h)
 rw [if_neg (Decidable.not_not.2 h)]
 refine or_of (fun _=>rfl) (ite_w (fun h1=>?_) (fun h1=>?_))
 ·rw [if_pos h1,if_pos (by decide)]; exact ⟨rfl,rfl⟩
 ·rw [if_neg (by rw [h1]; decide)]
  have R:=rgt_of h
  rw [Bool.or_eq_false_iff] at h1
  have a1:=of_decide_eq_false h1.1
  have a2:=of_decide_eq_false h1.2
  simp only [intN_eq,lenL_eq] at a2
  obtain ⟨k,rfl⟩:∃k:Nat,a=k:=⟨a.toNat,by omega⟩
  have hk:k<w.gCells.length:=by omega
  have hl:(clW w).length=w.gCells.length:=by simp [clW]
  have hr:=clW_at hk
  refine ⟨clW w,(),gives30 R,and_t (in_len (by omega)) ⟨?_,rfl⟩⟩
  show (.tup [.d (.sl .int (rd [] (clW w) (k:Int))),fltC ⟨0,0⟩]:C U)=.tup [.d (.sl .int (reL (askW w) k)),fltC ⟨0,0⟩]
  exact congrArg (fun l=>(.tup [.d (.sl .int l),fltC ⟨0,0⟩]:C U)) hr
def mx (f:Nat→Nat):List Int→Nat
 | []=>0
 | x :: l=>max (f x.toNat) (mx f l)
theorem mx_le {f:Nat→Nat} {m:Nat}:∀{l:List Int},mx f l≤m↔∀x∈l,f x.toNat≤m
 | []=>by simp [mx]
 | x :: l=>by
  simp only [mx,List.mem_cons,forall_eq_or_imp]
  rw [←mx_le (l:=l)]; omega
theorem mx_same {f:Nat→Nat} {l l':List Int} (h:∀x,x∈l↔x∈l'):mx f l=mx f l':=by
 apply Nat.le_antisymm
 ·exact mx_le.2 fun x hx=>mx_le.1 (Nat.le_refl (mx f l')) x ((h x).1 hx)
 ·exact mx_le.2 fun x hx=>mx_le.1 (Nat.le_refl (mx f l)) x ((h x).2 hx)
theorem mx_min {f:Nat→Nat} {t:Nat}:∀{l:List Int},mx (fun k=>min t (f k)) l=min t (mx f l)
 | []=>by simp [mx]
 | x :: l=>by
  simp only [mx]
  rw [mx_min (l:=l)]; omega
theorem mx_ext {f g:Nat→Nat}:∀{l:List Int},(∀x∈l,f x.toNat=g x.toNat)→mx f l=mx g l
 | [],_=>rfl
 | x :: l,h=>by
  simp only [mx]
  rw [h x (by simp),mx_ext fun y hy=>h y (by simp [hy])]
theorem mx_snoc {f:Nat→Nat} {y:Int}:∀{l:List Int},mx f (l ++ [y])=max (mx f l) (f y.toNat)
 | []=>by simp [mx]
 | x :: l=>by
  simp only [List.cons_append,mx]
  rw [mx_snoc (l:=l)]; omega
section
variable (l:List (List Int))
def lgF:Nat→Nat→Nat
 | 0,_=>0
 | t+1,i=>1+mx (lgF t) (rd [] l (i:Int))
end
variable {l:List (List Int)}
theorem lg_min:∀(t T i:Nat),t≤T→lgF l t i=min t (lgF l T i)
 | 0,T,i,_=>by simp [lgF]
 | t+1,0,i,h=>by omega
 | t+1,T+1,i,h=>by
  simp only [lgF]
  have:mx (lgF l t) (rd [] l (i:Int))=mx (fun k=>min t (lgF l T k)) (rd [] l (i:Int)):=mx_ext fun x _=>lg_min t T _ (by omega)
  rw [this,mx_min]; omega
theorem count_lt {α:Type} {p q:α→Bool}:∀{l:List α},(∀x∈l,p x=true→q x=true)→(∃x∈l,q x=true∧p x=false)→(l.filter p).length<(l.filter q).length
 | [],_,h=>by obtain ⟨x,hx,_⟩:=h; cases hx
 | y :: l,h1,h2=>by
  have hle:(l.filter p).length≤(l.filter q).length:=by
   have:∀m:List α,(∀x∈m,p x=true→q x=true)→(m.filter p).length≤(m.filter q).length:=by
    intro m
    induction m with
    | nil=>simp
    | cons z m ih=>
     intro hm
     have:=ih fun x hx=>hm x (by simp [hx])
     simp only [List.filter_cons]
     by_cases hp:p z=true
     ·rw [if_pos hp,if_pos (hm z (by simp) hp)]; simp; omega
     ·rw [if_neg hp]; split <;> simp <;> omega
   exact this l fun x hx=>h1 x (by simp [hx])
  simp only [List.filter_cons]
  by_cases hp:p y=true
  ·rw [if_pos hp,if_pos (h1 y (by simp) hp)]
   obtain ⟨x,hx,hq,hn⟩:=h2
   rcases List.mem_cons.1 hx with rfl|hx
   ·rw [hn] at hp; cases hp
   ·have:=count_lt (fun z hz=>h1 z (by simp [hz])) ⟨x,hx,hq,hn⟩
    simp; omega
  ·rw [if_neg hp]
   by_cases hq:q y=true
   ·rw [if_pos hq]; simp; omega
   ·rw [if_neg hq]
    obtain ⟨x,hx,hq',hn⟩:=h2
    rcases List.mem_cons.1 hx with rfl|hx
    ·exact absurd hq' hq
    ·exact count_lt (fun z hz=>h1 z (by simp [hz])) ⟨x,hx,hq',hn⟩
theorem reach_head {i k j:Nat} (hE:Edge l i k) (h:Reach l k j):Reach l i j:=by
 induction h with
 | single h=>exact .tail (.single hE) h
 | tail _ h ih=>exact .tail ih h
def Acy (l:List (List Int)) (i:Nat):Prop:=∀k,k=i∨Reach l i k→¬Reach l k k
theorem Acy.next {i k:Nat} (h:Acy l i) (hE:Edge l i k):Acy l k:=fun j hj=>h j (.inr (by
 rcases hj with rfl|hj
 ·exact .single hE
 ·exact reach_head hE hj))
theorem cd_lt (G:Grf l) {i k:Nat} (hE:Edge l i k) (hk:¬Reach l k k):(reL l k).length<(reL l i).length:=by
 unfold reL ixs
 rw [List.length_map,List.length_map]
 refine count_lt (fun x _ hx=>?_) ⟨k,List.mem_range.2 (G.edge hE),?_,?_⟩
 ·rw [reB_t] at hx ⊢; exact reach_head hE hx
 ·rw [reB_t]; exact .single hE
 ·rw [←Bool.not_eq_true,reB_t]; exact hk
theorem row_edge (G:Grf l) {i:Nat} (hi:i<l.length) {x:Int} (hx:x∈rd [] l (i:Int)):∃k:Nat,x=k∧Edge l i k:=by
 have hx':=hx
 rw [rd_at hi] at hx'
 obtain ⟨k,rfl,_⟩:=G.num _ (List.getElem_mem hi) x hx'
 exact ⟨k,rfl,hi,hx⟩
theorem lg_le (G:Grf l):∀(m i:Nat),i<l.length→(reL l i).length≤m→Acy l i→∀t,lgF l t i≤(reL l i).length+1:=by
 intro m
 induction m with
 | zero=>
  intro i hi hm A t
  cases t with
  | zero=>simp [lgF]
  | succ t=>
   simp only [lgF]
   have:mx (lgF l t) (rd [] l (i:Int))≤0:=mx_le.2 fun x hx=>by
    obtain ⟨k,rfl,hE⟩:=row_edge G hi hx
    have:=cd_lt G hE (A k (.inr (.single hE)))
    omega
   omega
 | succ m ih=>
  intro i hi hm A t
  cases t with
  | zero=>simp [lgF]
  | succ t=>
   simp only [lgF]
   have:mx (lgF l t) (rd [] l (i:Int))≤(reL l i).length:=mx_le.2 fun x hx=>by
    obtain ⟨k,rfl,hE⟩:=row_edge G hi hx
    have h1:=cd_lt G hE (A k (.inr (.single hE)))
    have h2:=ih k (G.edge hE) (by omega) (A.next hE) t
    simp only [Int.toNat_natCast]; omega
   omega
def lgW (l:List (List Int)) (i:Nat):Nat:=lgF l 300 i
theorem reL_len (l:List (List Int)) (i:Nat):(reL l i).length≤l.length:=ixs_len
theorem lgW_le (G:Grf l) {i:Nat} (hi:i<l.length) (A:Acy l i):1≤lgW l i∧lgW l i≤257:=by
 have h1:=lg_le G _ i hi (Nat.le_refl _) A 300
 have h2:=reL_len l i
 have h3:=G.few
 refine ⟨?_,by unfold lgW; omega⟩
 unfold lgW
 rw [lgF]; omega
theorem lgW_eq (G:Grf l) {i:Nat} (hi:i<l.length) (A:Acy l i):lgW l i=1+mx (lgW l) (rd [] l (i:Int)):=by
 show lgF l 300 i=_
 rw [lgF]
 congr 1
 refine mx_ext fun x hx=>?_
 obtain ⟨k,rfl,hE⟩:=row_edge G hi hx
 have:=(lgW_le G (G.edge hE) (A.next hE)).2
 rw [lg_min 299 300 _ (by omega)]
 unfold lgW at this ⊢
 simp only [Int.toNat_natCast]
 omega
theorem lg50 {i:Nat}:lgF l 50 i≤48↔lgW l i≤48:=by
 rw [lg_min 50 300 i (by omega)]
 unfold lgW; omega
theorem gives61 {H:List (O U)} {f:Nat} {caps:List (C U)} {P:Int→Bool} {l:List Int} (h:∀t,t<l.length→GivesM f (.d (.int .i64 (rd (Int.ofNat 0) l (t:Int))) :: caps) H (.d (.bool (P (rd (Int.ofNat 0) l (t:Int))))) H) (hl:l.length<4611686018427387904):
  GivesM 61 [.d (.sl .int l),.fp f [] caps] H (.d (.int .i64 (oI (firstFrom (fun t=>P (rd (Int.ofNat 0) l (t:Int))) l.length 0)))) H:=by
 have loop:∀i,i≤l.length→At K 61 (fun c' H'=>c'=(.d (.int .i64 (oI (firstFrom (fun t=>P (rd (Int.ofNat 0) l (t:Int))) l.length i))):C U)∧H'=H) t61_2 (s61_2 l f [] caps (intN (lenL l)) i H):=by
  refine upto ?_ fun i hi ih=>?_
  ·exact l61_2 _ _ _ _ _ _ _ _ (ite_f (lt_len_f (Nat.le_refl _)) ⟨by rw [first_end]; rfl,rfl⟩)
  ·refine l61_2 _ _ _ _ _ _ _ _ (ite_t (lt_len hi) (and_t (in_len hi) ⟨_,(),h i hi,ite_w (fun hp=>?_) (fun hp=>?_)⟩))
   ·rw [first_yes hi hp]; exact ⟨rfl,rfl⟩
   ·rw [first_no hi hp,add_one (by omega)]; exact ih
 exact e61 _ _ _ _ _ _ (loop 0 (Nat.zero_le _))
theorem first_any {P:Int→Bool} {l:List Int}:(firstFrom (fun t=>P (rd (Int.ofNat 0) l (t:Int))) l.length 0).isSome=l.any P:=by
 cases h:firstFrom (fun t=>P (rd (Int.ofNat 0) l (t:Int))) l.length 0 with
 | none=>
  symm
  rw [Option.isSome_none,List.any_eq_false]
  intro x hx
  obtain ⟨j,hj,rfl⟩:=List.getElem_of_mem hx
  have:=first_none 0 (Nat.zero_le _) h j (Nat.zero_le _) hj
  simp only [rd_at hj] at this
  rw [this]; decide
 | some k=>
  obtain ⟨_,hk,hp,_⟩:=first_some 0 (Nat.zero_le _) h
  simp only [rd_at hk] at hp
  symm
  exact List.any_eq_true.2 ⟨_,List.getElem_mem hk,hp⟩
theorem gives34 {H:List (O U)} {f:Nat} {caps:List (C U)} {P:Int→Bool} {l:List Int} (h:∀t,t<l.length→GivesM f (.d (.int .i64 (rd (Int.ofNat 0) l (t:Int))) :: caps) H (.d (.bool (P (rd (Int.ofNat 0) l (t:Int))))) H) (hl:l.length<4611686018427387904):
  GivesM 34 [.d (.sl .int l),.fp f [] caps] H (.d (.bool (l.any P))) H:=
 e34 _ _ _ _ _ _ ⟨_,(),gives61 h hl,by rw [oI_ge,first_any],rfl⟩
theorem at_none (i:Nat):addN (subOff none) (natI (i:Int))=i:=Nat.zero_add i
theorem gives35 {H:List (O U)} {p g gen:Nat} {good:List Bool} (hp:obj H p=some (.cells [.asl (.g g) gen none false])) (hg:obj H g=some (.arr gen (.pure .bool) good)) {i:Nat} (hi:i<good.length):
  GivesM 35 [.d (.int .i64 i),.ptr (.g p) 0] H (.d (.bool (notB (rdN false good i)))) H:=by
 refine e35 _ _ _ _ ⟨⟨g,gen,none⟩,hp,good,hg,and_t (in_len hi) (and_t rfl ⟨good,hg,and_t ?_ ?_⟩)⟩
 ·show ltN (addN (subOff none) (natI (i:Int))) _=true
  rw [at_none]; exact ltN_t hi
 ·refine ⟨?_,rfl⟩
  show (.d (.bool (notB (rdN false good (addN (subOff none) (natI (i:Int)))))):C U)=_
  rw [at_none]
structure Cn (l:List (List Int)) (p g gen q r:Nat) (H:List (O U)) (long:List Int):Prop where
 hp:obj H p=some (.cells [.asl (.g g) gen none false])
 hg:obj H g=some (.arr gen (.pure .int) long)
 hq:obj H q=some (.cells [.d (.sl .sl_int l)])
 hr:obj H r=some (.cells [.fn 33 [] [.ptr (.g p) 0,.ptr (.g q) 0,.ptr (.g r) 0]])
 len:long.length=l.length
 memo:∀j,j<l.length→rdN (Int.ofNat 0) long j=0∨rdN (Int.ofNat 0) long j=(lgW l j:Int)
theorem cells_ne {H:List (O U)} {a b gen:Nat} {xs:List Int} {cs:List (C U)} (h:obj H a=some (.arr gen (.pure .int) xs)) (h':obj H b=some (.cells cs)):b ≠ a:=by
 rintro rfl
 rw [h] at h'
 cases h'
theorem Cn.put {l:List (List Int)} {p g gen q r:Nat} {H:List (O U)} {long:List Int} (N:Cn l p g gen q r H long) {i:Nat} (hi:i<l.length):Cn l p g gen q r (updO H g (.arr gen (.pure .int) (setL long i (lgW l i:Int)))) (setL long i (lgW l i:Int)):=by
 refine ⟨?_,obj_upd N.hg,?_,?_,?_,fun j hj=>?_⟩
 ·rw [obj_upd_ne (cells_ne N.hg N.hp)]; exact N.hp
 ·rw [obj_upd_ne (cells_ne N.hg N.hq)]; exact N.hq
 ·rw [obj_upd_ne (cells_ne N.hg N.hr)]; exact N.hr
 ·show (List.set _ _ _).length=_
  rw [List.length_set]; exact N.len
 ·by_cases e:i=j
  ·subst e
   exact .inr (setL_get (by rw [N.len]; exact hi))
  ·have:rdN (Int.ofNat 0) (setL long i (lgW l i:Int)) j=rdN (Int.ofNat 0) long j:=by
    simp only [rdN,setL,List.getD_eq_getElem?_getD]
    rw [List.getElem?_set_ne e]
   rw [this]; exact N.memo j hj
theorem gives33 {l:List (List Int)} (G:Grf l) {p g gen q r:Nat}:∀(m i:Nat),i<l.length→(reL l i).length=m→Acy l i→∀(H:List (O U)) (long:List Int),Cn l p g gen q r H long→
  ∃(H'':List (O U)) (long'':List Int),GivesM 33 [.d (.int .i64 i),.ptr (.g p) 0,.ptr (.g q) 0,.ptr (.g r) 0] H (.d (.int .i64 (lgW l i:Int))) H''∧Cn l p g gen q r H'' long''∧∀o,o ≠ g→obj H'' o=obj H o:=by
 intro m
 induction m using Nat.strongRecOn with
 | _ m IH=>
  intro i hi hm A H long N
  have hn:∀{long':List Int},long'.length=l.length→inB (i:Int) (subLen none (lenL long'))=true∧ltN i (lenL long')=true:=fun h=>⟨in_len (by rw [h]; exact hi),ltN_t (by show i<List.length _; rw [h]; exact hi)⟩
  have hlg:=lgW_le G hi A
  have L:=e33 (i:Int) p q r H
  by_cases hz:rdN (Int.ofNat 0) long i=0
  ·have hrow:(rd [] l (i:Int)).length≤1000000:=by rw [rd_at hi]; exact G.row _ (List.getElem_mem hi)
   have loop:∀t,t≤(rd [] l (i:Int)).length→∀(H:List (O U)) (long:List Int),Cn l p g gen q r H long→
     ∃(H'':List (O U)) (long'':List Int),At K 33 (fun c' H'=>c'=(.d (.int .i64 (lgW l i:Int)):C U)∧H'=H'') t33_4 (s33_4 i p r (mx (lgW l) ((rd [] l (i:Int)).take t):Nat) (rd [] l (i:Int)) (intN (lenL (rd [] l (i:Int)))) t H)∧Cn l p g gen q r H'' long''∧∀o,o ≠ g→obj H'' o=obj H o:=by
    refine upto ?_ fun t ht ih=>?_
    ·intro H long N
     have e:addW .i64 ((mx (lgW l) ((rd [] l (i:Int)).take (rd [] l (i:Int)).length):Nat):Int) 1=(lgW l i:Int):=by
      have h1:=lgW_eq G hi A
      rw [List.take_length,add_one (by omega),h1,Nat.add_comm]
     have N':=N.put hi
     have L:=l33_4 (i:Int) p r (mx (lgW l) ((rd [] l (i:Int)).take (rd [] l (i:Int)).length):Nat) (rd [] l (i:Int)) (intN (lenL (rd [] l (i:Int)))) (rd [] l (i:Int)).length H (fun c' H'=>c'=(.d (.int .i64 (lgW l i:Int)):C U)∧H'=updO H g (.arr gen (.pure .int) (setL long i (lgW l i:Int))))
     rw [e] at L
     refine ⟨_,_,L (ite_f (lt_len_f (Nat.le_refl _)) ⟨⟨g,gen,none⟩,N.hp,long,N.hg,and_t (hn N.len).1 (and_t rfl ⟨long,N.hg,?_⟩)⟩),N',fun o ho=>obj_upd_ne ho⟩
     show andP (ltN (addN (subOff none) (natI (i:Int))) (lenL long)) _
     simp only [at_none]
     refine and_t (hn N.len).2 ⟨⟨g,gen,none⟩,N'.hp,_,N'.hg,and_t (hn N'.len).1 (and_t rfl ⟨_,N'.hg,?_⟩)⟩
     show andP (ltN (addN (subOff none) (natI (i:Int))) (lenL (setL long i (lgW l i:Int)))) _
     simp only [at_none]
     refine and_t (hn N'.len).2 ⟨?_,trivial⟩
     rw [setL_get (by rw [N.len]; exact hi)]
    ·intro H long N
     have hx:=row_edge G hi (List.getElem_mem ht)
     obtain ⟨k,hk,hE⟩:=hx
     have hrd:rd (Int.ofNat 0) (rd [] l (i:Int)) (t:Int)=(k:Int):=by rw [rd_at ht]; exact hk
     have hlt:=cd_lt G hE (A k (.inr (.single hE)))
     obtain ⟨H1,long1,g1,N1,f1⟩:=IH _ (by omega) k (G.edge hE) rfl (A.next hE) H long N
     obtain ⟨H2,long2,g2,N2,f2⟩:=ih H1 long1 N1
     refine ⟨H2,long2,l33_4 _ _ _ _ _ _ _ _ _ (ite_t (lt_len ht) (and_t (in_len ht) ⟨⟨p,q,r⟩,N.hr,(lgW l k:Int),H1,?_,?_⟩)),N2,fun o ho=>(f2 o ho).trans (f1 o ho)⟩
     ·rw [hrd]; exact g1
     ·rw [maxI_nat,add_one (by omega)]
      have:mx (lgW l) ((rd [] l (i:Int)).take (t+1))=max (mx (lgW l) ((rd [] l (i:Int)).take t)) (lgW l k):=by
       rw [List.take_succ_eq_append_getElem ht,mx_snoc,hk]; rfl
      rw [←this]; exact g2
   obtain ⟨H2,long2,g2,N2,f2⟩:=loop 0 (Nat.zero_le _) H long N
   refine ⟨H2,long2,L _ ⟨⟨g,gen,none⟩,N.hp,long,N.hg,and_t (hn N.len).1 (and_t rfl ⟨long,N.hg,?_⟩)⟩,N2,f2⟩
   show andP (ltN (addN (subOff none) (natI (i:Int))) (lenL long)) _
   simp only [at_none]
   refine and_t (hn N.len).2 (ite_t (eqI_t.2 hz) ⟨l,N.hq,and_t (in_len hi) g2⟩)
  ·refine ⟨H,long,L _ ⟨⟨g,gen,none⟩,N.hp,long,N.hg,and_t (hn N.len).1 (and_t rfl ⟨long,N.hg,?_⟩)⟩,N,fun _ _=>rfl⟩
   show andP (ltN (addN (subOff none) (natI (i:Int))) (lenL long)) _
   simp only [at_none]
   refine and_t (hn N.len).2 (ite_f (eqI_f.2 hz) ⟨⟨g,gen,none⟩,N.hp,long,N.hg,and_t (hn N.len).1 (and_t rfl ⟨long,N.hg,?_⟩)⟩)
   show andP (ltN (addN (subOff none) (natI (i:Int))) (lenL long)) _
   simp only [at_none]
   refine and_t (hn N.len).2 ⟨?_,rfl⟩
   rw [(N.memo i hi).resolve_left hz]
noncomputable def goodW (w:api_World) (i:Nat):Bool:=notB (shutB w i) && notB (hasB (reL (askW w) i) i)
noncomputable def badW (w:api_World) (i:Nat):Bool:=notB (goodW w i) || (reL (askW w) i).any fun x=>notB (goodW w x.toNat)
noncomputable def plainB (w:api_World) (i:Nat):Bool:=notB (badW w i) && leI (lgW (askW w) i:Int) 48
noncomputable def plainL (w:api_World):List Int:=ixs (plainB w) w.gCells.length
noncomputable def plainF (w:api_World):List Int×api_Fault:=if (chkW w).gCode ≠ 0 then ([],chkW w) else (plainL w,⟨0,0⟩)
theorem goodW_not {w:api_World} {i:Nat} (h:goodW w i=true):¬Reach (askW w) i i:=by
 unfold goodW at h
 rw [Bool.and_eq_true] at h
 have h2:=notB_t.1 h.2
 intro hr
 have hi:i<(askW w).length:=by
  have:∀{k:Nat},Reach (askW w) i k→i<(askW w).length:=by
   intro k hk
   induction hk with
   | single h=>exact h.1
   | tail _ _ ih=>exact ih
  exact this hr
 have:hasB (reL (askW w) i) i=true:=hasB_t.2 (ixs_mem.2 ⟨i,rfl,hi,reB_t.2 hr⟩)
 rw [this] at h2; cases h2
theorem acy_of {w:api_World} (R:Rgt w) {i:Nat} (h:badW w i=false):Acy (askW w) i:=by
 unfold badW at h
 rw [Bool.or_eq_false_iff] at h
 rintro k (rfl|hk)
 ·exact goodW_not (notB_f.1 h.1)
 ·have:=List.any_eq_false.1 h.2 (k:Int) (ixs_mem.2 ⟨k,rfl,(askG R).reach hk,reB_t.2 hk⟩)
  exact goodW_not (notB_f.1 (by simpa using this))
noncomputable def gdF (w:api_World) (n i:Nat):List Bool:=(List.range n).map fun j=>if j<i then goodW w j else false
section
variable {w:api_World} {n:Nat}
theorem gd_len {i:Nat}:(gdF w n i).length=n:=by simp [gdF]
theorem gd_set {i:Nat}:(gdF w n i).set i (goodW w i)=gdF w n (i+1):=by
 apply List.ext_getElem
 ·simp [gdF]
 ·intro j h1 h2
  rw [List.getElem_set]
  simp only [gdF,List.getElem_map,List.getElem_range]
  by_cases e:i=j
  ·subst e; simp
  ·rw [if_neg e]
   by_cases h:j<i
   ·rw [if_pos h,if_pos (by omega)]
   ·rw [if_neg h,if_neg (by omega)]
theorem gd_zero:gdF w n 0=List.replicate n false:=by
 apply List.ext_getElem
 ·simp [gdF]
 ·intro j h1 h2
  simp [gdF]
theorem gd_all {j:Nat} (h:j<n):rdN false (gdF w n n) j=goodW w j:=by
 rw [rdN_some (List.getElem?_eq_getElem (by rw [gd_len]; exact h))]
 simp only [gdF,List.getElem_map,List.getElem_range,if_pos h]
end
theorem new_at {H:List (O U)} {o o':O U}:obj (updO (pushO H o) (lenO H) o') (lenO H)=some o':=obj_upd obj_push
theorem new_lt {H:List (O U)} {o o' a:O U} {n:Nat} (h:obj H n=some a):obj (updO (pushO H o) (lenO H) o') n=some a:=by
 have:=obj_len h
 rw [obj_upd_ne (by omega),obj_push_lt this]; exact h
theorem push_lt {H:List (O U)} {o a:O U} {n:Nat} (h:obj H n=some a):obj (pushO H o) n=some a:=by
 rw [obj_push_lt (obj_len h)]; exact h
theorem gives12 (w:api_World):Gives 12 [worldC w] (.tup [.d (.sl .int (plainF w).1),fltC (plainF w).2]):=by
 unfold plainF
 refine e12 _ _ ⟨chkW w,gives5 w,ite_w (fun h=>?_) (fun h=>?_)⟩
 ·rw [if_pos (eqI_f.1 (notB_t.1 h))]; exact ⟨rfl,rfl⟩
 have h:=eqI_t.1 (notB_f.1 h)
 rw [if_neg (Decidable.not_not.2 h)]
 have R:=rgt_of h
 have G:=askG R
 have hl:(askW w).length=w.gCells.length:=askW_len
 have hnc:=R.nc
 have hroom:∀b:Nat,b≤24→roomI (intN (lenL (askW w))) b=true:=fun b hb=>decide_eq_true (by
  rw [intN_eq,lenL_eq,hl]; simp [room]
  have:=Nat.mul_le_mul hnc hb; omega)
 have h0:leI 0 (intN (lenL (askW w)))=true:=decide_eq_true (Int.natCast_nonneg _)
 have h1:leI (intN (lenL (askW w))) (intN (lenL (askW w)))=true:=by simp [leI]
 have hrep:∀{α:Type} (d:α),replL (intN (lenL (askW w))) d=List.replicate w.gCells.length d:=fun d=>by
  show List.replicate _ _=_
  rw [←hl]; rfl
 have turn:∀{p g gen q r v6 g6:Nat},∀i,i≤w.gCells.length→∀(H:List (O U)) (long:List Int),Cn (askW w) p g gen q r H long→obj H v6=some (.cells [.asl (.g g6) 0 none false])→obj H g6=some (.arr 0 (.pure .bool) (gdF w w.gCells.length w.gCells.length))→
   At K 12 (fun c' H'=>c'=(.tup [.d (.sl .int (plainL w)),fltC ⟨0,0⟩]:C U)∧H'=[]) t12_18 (s12_18 v6 r (intN (lenL (askW w))) i 0 0 (ixs (plainB w) i) (curF (reL (askW w)) w.gCells.length w.gCells.length []) H):=by
  intro p g gen q r v6 g6
  refine upto ?_ fun i hi ih=>?_
  ·intro H long N o6 og
   exact l12_18 _ _ _ _ _ _ _ _ _ _ (ite_f (lt_len_f (by rw [hl]; exact Nat.le_refl _)) ⟨rfl,rfl⟩)
  ·intro H long N o6 og
   have next:addW .i64 (i:Int) 1=((i+1:Nat):Int):=add_one (by omega)
   have skip:plainB w i=false→∀(H:List (O U)) (long:List Int),Cn (askW w) p g gen q r H long→obj H v6=some (.cells [.asl (.g g6) 0 none false])→obj H g6=some (.arr 0 (.pure .bool) (gdF w w.gCells.length w.gCells.length))→
     At K 12 (fun c' H'=>c'=(.tup [.d (.sl .int (plainL w)),fltC ⟨0,0⟩]:C U)∧H'=[]) t12_18 (s12_18 v6 r (intN (lenL (askW w))) (addW .i64 i 1) 0 0 (ixs (plainB w) i) (curF (reL (askW w)) w.gCells.length w.gCells.length []) H):=by
    intro hb H long N o6 og
    have:=ih H long N o6 og
    rw [ixs_succ,if_neg (by rw [hb]; decide)] at this
    rw [next]; exact this
   have hg:i<(gdF w w.gCells.length w.gCells.length).length:=by rw [gd_len]; exact hi
   have L:=l12_18 v6 r (intN (lenL (askW w))) i 0 0 (ixs (plainB w) i) (curF (reL (askW w)) w.gCells.length w.gCells.length []) H (fun c' H'=>c'=(.tup [.d (.sl .int (plainL w)),fltC ⟨0,0⟩]:C U)∧H'=[])
   refine L (ite_t (lt_len (by rw [hl]; exact hi)) ⟨⟨g6,0,none⟩,o6,_,og,and_t (in_len hg) (and_t rfl ⟨_,og,?_⟩)⟩)
   show andP (ltN (addN (subOff none) (natI (i:Int))) _) _
   simp only [at_none]
   refine and_t (ltN_t hg) (ite_w (fun hb=>skip ?_ H long N o6 og) fun hb=>?_)
   ·rw [gd_all hi] at hb
    unfold plainB badW; rw [hb]; rfl
   ·rw [gd_all hi] at hb
    have hc:i<(curF (reL (askW w)) w.gCells.length w.gCells.length []).length:=by rw [curF_len]; exact hi
    have hrow:rdN [] (curF (reL (askW w)) w.gCells.length w.gCells.length []) (natI (i:Int))=reL (askW w) i:=by
     rw [curF_all,natI_nat]
     exact (rdN_some (List.getElem?_eq_getElem (by simpa using hi))).trans (by simp)
    have g34:∀l:List Int,l=reL (askW w) i→GivesM 34 [.d (.sl .int l),.fp 35 [] [.ptr (.g v6) 0]] H (.d (.bool ((reL (askW w) i).any fun x=>notB (goodW w x.toNat)))) H:=by
     rintro l rfl
     refine gives34 (fun t ht=>?_) (by have:=reL_len (askW w) i; omega)
     rw [rd_at ht]
     obtain ⟨k,hk,hkl,_⟩:=ixs_mem.1 (List.getElem_mem ht)
     have hk':(reL (askW w) i)[t]=(k:Int):=hk
     rw [hk',Int.toNat_natCast,←gd_all (w:=w) (n:=w.gCells.length) (by omega)]
     exact gives35 o6 og (by rw [gd_len]; omega)
    refine and_t (in_len hc) (and_t (ltN_t hc) ⟨_,(),g34 _ hrow,ite_w (fun ha=>?_) (fun ha=>?_)⟩)
    ·have hbad:badW w i=false:=by unfold badW; rw [hb,notB_t.1 ha]; rfl
     have A:=acy_of R hbad
     have hi':i<(askW w).length:=by omega
     obtain ⟨H2,long2,g2,N2,f2⟩:=gives33 G _ i hi' rfl A H long N
     have o6':obj H2 v6=some (.cells [.asl (.g g6) 0 none false]):=(f2 v6 (cells_ne N.hg o6)).trans o6
     have og':obj H2 g6=some (.arr 0 (.pure .bool) (gdF w w.gCells.length w.gCells.length)):=(f2 g6 (by
      rintro rfl
      have e:=N.hg
      rw [og] at e
      cases e)).trans og
     refine ⟨⟨p,q,r⟩,N.hr,_,H2,g2,ite_w (fun hd=>?_) (fun hd=>skip ?_ H2 long2 N2 o6' og')⟩
     ·have hp:plainB w i=true:=by unfold plainB; rw [hbad,hd]; rfl
      refine and_t (roomB_t ?_) ?_
      ·have:=ixs_len (p:=plainB w) (n:=i)
       simp [addN,lenL]; omega
      ·have:=ih H2 long2 N2 o6' og'
       rw [ixs_succ,if_pos hp] at this
       rw [next]; exact this
     ·unfold plainB; rw [hd,Bool.and_false]
    ·refine skip ?_ H long N o6 og
     unfold plainB badW; rw [notB_f.1 ha]; simp [notB]
 have first:∀{q v6 g6:Nat},∀i,i≤w.gCells.length→∀(H:List (O U)),obj H q=some (.cells [.d (.sl .sl_int (askW w))])→obj H v6=some (.cells [.asl (.g g6) 0 none false])→obj H g6=some (.arr 0 (.pure .bool) (gdF w w.gCells.length i))→
   At K 12 (fun c' H'=>c'=(.tup [.d (.sl .int (plainL w)),fltC ⟨0,0⟩]:C U)∧H'=[]) t12_8 (s12_8 q v6 (intN (lenL (askW w))) i w.gParents w.gCells w.gOpen 0 0 (curF (reL (askW w)) w.gCells.length i []) H):=by
  intro q v6 g6
  refine upto ?_ fun i hi ih=>?_
  ·intro H oq o6 og
   refine l12_8 _ _ _ _ _ _ _ _ _ _ _ _ (ite_f (lt_len_f (by rw [hl]; exact Nat.le_refl _)) ⟨askW w,oq,and_t h0 (and_t h1 (and_t (hroom 8 (by omega)) ⟨_,obj_push,_,obj_push,askW w,new_lt (new_lt (push_lt oq)),?_⟩))⟩)
   refine turn (g:=lenO H) (gen:=0) 0 (Nat.zero_le _) _ (List.replicate w.gCells.length 0) ⟨new_lt new_at,?_,new_lt (new_lt (push_lt oq)),new_at,by simp [hl],fun j hj=>.inl ?_⟩ (new_lt (new_lt (push_lt o6))) (new_lt (new_lt (push_lt og)))
   ·refine new_lt (new_lt ?_)
    exact obj_push.trans (congrArg (fun l:List Int=>some (O.arr 0 (.pure .int) l:O U)) (hrep (0:Int)))
   ·simp [rdN,List.getD_eq_getElem?_getD,List.getElem?_replicate]
    split <;> rfl
  ·intro H oq o6 og
   have next:addW .i64 (i:Int) 1=((i+1:Nat):Int):=add_one (by omega)
   have hc:i<(curF (reL (askW w)) w.gCells.length i []).length:=by rw [curF_len]; exact hi
   have hgl:i<(gdF w w.gCells.length i).length:=by rw [gd_len]; exact hi
   have put:∀b,b=goodW w i→At K 12 (fun c' H'=>c'=(.tup [.d (.sl .int (plainL w)),fltC ⟨0,0⟩]:C U)∧H'=[]) t12_8 (s12_8 q v6 (intN (lenL (askW w))) (addW .i64 i 1) w.gParents w.gCells w.gOpen 0 0 (setL (curF (reL (askW w)) w.gCells.length i []) (natI (i:Int)) (reL (askW w) i)) (updO H g6 (.arr 0 (.pure .bool) (setL (gdF w w.gCells.length i) i b)))):=by
    rintro b rfl
    have e1:setL (curF (reL (askW w)) w.gCells.length i []) (natI (i:Int)) (reL (askW w) i)=curF (reL (askW w)) w.gCells.length (i+1) []:=curF_set.trans curF_next
    have e2:(O.arr 0 (.pure .bool) (setL (gdF w w.gCells.length i) i (goodW w i)):O U)=.arr 0 (.pure .bool) (gdF w w.gCells.length (i+1)):=congrArg (fun l:List Bool=>(O.arr 0 (.pure .bool) l:O U)) gd_set
    rw [e1,e2,next]
    have ne:∀{m:Nat} {cs:List (C U)},obj H m=some (.cells cs)→m ≠ g6:=by
     rintro m cs hm rfl
     rw [og] at hm
     cases hm
    refine ih _ ?_ ?_ (obj_upd og)
    ·rw [obj_upd_ne (ne oq)]; exact oq
    ·rw [obj_upd_ne (ne o6)]; exact o6
   refine l12_8 _ _ _ _ _ _ _ _ _ _ _ _ (ite_t (lt_len (by rw [hl]; exact hi)) ⟨askW w,oq,_,gives28 G (by omega),and_t (in_len hc) (and_t (ltN_t hc) ⟨⟨g6,0,none⟩,o6,_,gives31 hi,ite_w (fun hs=>?_) (fun hs=>?_)⟩)⟩)
   ·have hc':i<(setL (curF (reL (askW w)) w.gCells.length i []) (natI (i:Int)) (reL (askW w) i)).length:=by
     show i<(List.set _ _ _).length
     rw [List.length_set]; exact hc
    have g32:∀l:List Int,l=reL (askW w) i→Gives 32 [.d (.sl .int l),.d (.int .i64 i)] (.d (.bool (hasB (reL (askW w) i) i))):=by rintro l rfl; exact gives32 _ _
    have e:rdN [] (setL (curF (reL (askW w)) w.gCells.length i []) (natI (i:Int)) (reL (askW w) i)) (natI (i:Int))=reL (askW w) i:=setL_get hc
    refine and_t (in_len hc') (and_t (ltN_t hc') ⟨_,g32 _ e,_,og,and_t (in_len hgl) (and_t rfl ⟨_,og,?_⟩)⟩)
    show andP (ltN (addN (subOff none) (natI (i:Int))) _) _
    simp only [at_none]
    refine and_t (ltN_t hgl) (put _ ?_)
    unfold goodW; rw [hs]; rfl
   ·refine ⟨_,og,and_t (in_len hgl) (and_t rfl ⟨_,og,?_⟩)⟩
    show andP (ltN (addN (subOff none) (natI (i:Int))) _) _
    simp only [at_none]
    refine and_t (ltN_t hgl) (put _ ?_)
    unfold goodW; rw [hs]; rfl
 refine ⟨askW w,(),gives29 R,_,obj_push,askW w,new_at,and_t h0 (and_t h1 (and_t (hroom 1 (by omega)) ⟨_,obj_push,askW w,new_lt (push_lt new_at),and_t ?_ ⟨askW w,new_lt (push_lt new_at),?_⟩⟩))⟩
 ·rw [h0,h1,hroom 24 (by omega)]; rfl
 ·have e:replL (intN (lenL (askW w))) (nilL Int)=curF (reL (askW w)) w.gCells.length 0 []:=(hrep _).trans curF_zero.symm
  rw [e]
  refine first 0 (Nat.zero_le _) _ (new_lt (push_lt new_at)) new_at (new_lt ?_)
  exact obj_push.trans (congrArg (fun l:List Bool=>some (O.arr 0 (.pure .bool) l:O U)) ((hrep false).trans gd_zero.symm))
def lrF (f:Nat→Int) (n i:Nat) (v:Int):List Int:=(List.range n).map fun j=>if j<i then f j else if j=i then v else 0
section
variable {f:Nat→Int} {n:Nat}
theorem lr_len {i:Nat} {v:Int}:(lrF f n i v).length=n:=by simp [lrF]
theorem lr_get {i:Nat} {v:Int} (h:i<n):rdN (Int.ofNat 0) (lrF f n i v) i=v:=by
 rw [rdN_some (List.getElem?_eq_getElem (by rw [lr_len]; exact h))]; simp [lrF]
theorem lr_set {i:Nat} {v x:Int}:setL (lrF f n i v) i x=lrF f n i x:=by
 apply List.ext_getElem
 ·simp [lrF,setL]
 ·intro j h1 h2
  simp only [setL,List.getElem_set]
  simp only [lrF,List.getElem_map,List.getElem_range]
  by_cases e:i=j
  ·subst e; simp
  ·have:¬j=i:=fun h=>e h.symm
   simp [e,this]
theorem lr_next {i:Nat}:lrF f n i (f i)=lrF f n (i+1) 0:=by
 unfold lrF
 apply List.map_congr_left
 intro j _
 by_cases h1:j<i
 ·rw [if_pos h1,if_pos (by omega)]
 ·rw [if_neg h1]
  by_cases h2:j=i
  ·subst h2; rw [if_pos rfl,if_pos (by omega)]
  ·rw [if_neg h2,if_neg (by omega)]; split <;> rfl
theorem lr_zero:lrF f n 0 0=List.replicate n 0:=by
 apply List.ext_getElem
 ·simp [lrF]
 ·intro j h1 h2
  simp [lrF]
theorem lr_all {j:Nat} (h:j<n):rd (Int.ofNat 0) (lrF f n n 0) (j:Int)=f j:=by
 rw [rd_at (by rw [lr_len]; exact h)]
 simp only [lrF,List.getElem_map,List.getElem_range,if_pos h]
end
theorem lgF_le {l:List (List Int)} (t i:Nat):lgF l t i≤t:=by
 have:=lg_min (l:=l) t t i (Nat.le_refl _); omega
theorem gives13 (w:api_World):Gives 13 [worldC w] (.tup [.d (.sl .int (plainF w).1),fltC (plainF w).2]):=by
 unfold plainF
 refine e13 _ _ ⟨chkW w,gives6 w,ite_w (fun h=>?_) (fun h=>?_)⟩
 ·rw [if_pos (eqI_f.1 (notB_t.1 h))]; exact ⟨rfl,rfl⟩
 have h:=eqI_t.1 (notB_f.1 h)
 rw [if_neg (Decidable.not_not.2 h)]
 have R:=rgt_of h
 have G:=askG R
 have hl:(askW w).length=w.gCells.length:=askW_len
 have hcl:(clW w).length=w.gCells.length:=by simp [clW]
 have hnc:=R.nc
 have hroom:andB (leI 0 (intN (lenL w.gCells))) (andB (leI (intN (lenL w.gCells)) (intN (lenL w.gCells))) (roomI (intN (lenL w.gCells)) 8))=true:=by
  have h0:leI 0 (intN (lenL w.gCells))=true:=decide_eq_true (Int.natCast_nonneg _)
  have h1:leI (intN (lenL w.gCells)) (intN (lenL w.gCells))=true:=by simp [leI]
  have h2:roomI (intN (lenL w.gCells)) 8=true:=decide_eq_true (by rw [intN_eq,lenL_eq]; simp [room]; omega)
  rw [h0,h1,h2]; rfl
 have hrep:replL (intN (lenL w.gCells)) (0:Int)=List.replicate w.gCells.length 0:=rfl
 let post:Post:=fun c' H'=>c'=(.tup [.d (.sl .int (plainL w)),fltC ⟨0,0⟩]:C U)∧H'=[]
 let fn:Nat→Nat→Int:=fun t i=>(lgF (askW w) t i:Int)
 let row:Nat→List Int:=fun t=>lrF (fn t) w.gCells.length w.gCells.length 0
 have g37:∀{l l':List Int} {x:Int},l'=l→Gives 37 [.d (.sl .int l'),.d (.int .i64 x)] (.d (.bool (hasB l x))):=by rintro l _ x rfl; exact gives37 _ _
 have tell:∀i,i≤w.gCells.length→At K 13 post t13_22 (s13_22 (clW w) (row 50) i w.gParents w.gCells w.gOpen 0 0 (ixs (plainB w) i)):=by
  refine upto ?_ fun i hi ih=>?_
  ·exact l13_22 _ _ _ _ _ _ _ _ _ _ (ite_f (lt_len_f (Nat.le_refl _)) ⟨rfl,rfl⟩)
  ·have next:addW .i64 (i:Int) 1=((i+1:Nat):Int):=add_one (by omega)
   have hc:i<(clW w).length:=by omega
   have hr:rd [] (clW w) (i:Int)=reL (askW w) i:=clW_at hi
   let ok:Nat→Bool:=fun t=>((notB (hasB (reL (askW w) i) i) && notB (shutB w i)) && leI (lgF (askW w) 50 i:Int) 48) && ((reL (askW w) i).take t).all fun x=>notB (hasB (reL (askW w) x.toNat) x) && notB (shutB w x.toNat)
   have hok:ok (reL (askW w) i).length=plainB w i:=by
    have e1:leI (lgF (askW w) 50 i:Int) 48=leI (lgW (askW w) i:Int) 48:=by
     have:=lg50 (l:=askW w) (i:=i)
     rw [Bool.eq_iff_iff]; simp only [leI,decide_eq_true_eq]; omega
    have e2:∀l:List Int,(∀x∈l,0≤x)→(l.all fun x=>notB (hasB (reL (askW w) x.toNat) x) && notB (shutB w x.toNat))=notB (l.any fun x=>notB (goodW w x.toNat)):=by
     intro l
     induction l with
     | nil=>intro _; rfl
     | cons x l ih=>
      intro hx
      rw [List.all_cons,List.any_cons,ih fun y hy=>hx y (by simp [hy])]
      have:((x.toNat:Nat):Int)=x:=Int.toNat_of_nonneg (hx x (by simp))
      unfold goodW
      rw [this]
      cases hasB (reL (askW w) x.toNat) x <;> cases shutB w x.toNat <;> cases (l.any fun x=>notB (notB (shutB w x.toNat) && notB (hasB (reL (askW w) x.toNat) (x.toNat:Int)))) <;> rfl
    show (_ && (List.all _ _))=_
    rw [List.take_length,e2 _ (fun x hx=>by obtain ⟨k,rfl,_⟩:=ixs_mem.1 hx; omega),e1]
    unfold plainB badW goodW
    cases hasB (reL (askW w) i) i <;> cases shutB w i <;> cases leI (lgW (askW w) i:Int) 48 <;> cases ((reL (askW w) i).any fun x=>notB (notB (shutB w x.toNat) && notB (hasB (reL (askW w) x.toNat) (x.toNat:Int)))) <;> rfl
   have inner:∀t,t≤(reL (askW w) i).length→At K 13 post t13_26 (s13_26 (clW w) (row 50) i (ok t) t w.gParents w.gCells w.gOpen 0 0 (ixs (plainB w) i)):=by
    refine upto ?_ fun t ht ihT=>?_
    ·have L:=l13_26 (clW w) (row 50) i (ok (reL (askW w) i).length) (reL (askW w) i).length w.gParents w.gCells w.gOpen 0 0 (ixs (plainB w) i) post
     simp only [hr] at L
     refine L (and_t (in_len hc) (ite_f (lt_len_f (Nat.le_refl _)) (ite_w (fun h=>?_) (fun h=>?_))))
     ·rw [hok] at h
      rw [ixs_succ,if_pos h] at ih
      refine and_t (roomB_t ?_) ?_
      ·have:=ixs_len (p:=plainB w) (n:=i)
       simp [addN,lenL]; omega
      ·rw [next]; exact ih
     ·rw [hok] at h
      rw [ixs_succ,if_neg (by rw [h]; decide)] at ih
      rw [next]; exact ih
    ·obtain ⟨k,hk,hkl,_⟩:=ixs_mem.1 (List.getElem_mem ht)
     have hk':(reL (askW w) i)[t]=(k:Int):=hk
     have hrd:rd (Int.ofNat 0) (reL (askW w) i) (t:Int)=(k:Int):=(rd_at ht).trans hk
     have hkc:k<w.gCells.length:=by omega
     have hrk:rd [] (clW w) (k:Int)=reL (askW w) k:=clW_at hkc
     have L:=l13_26 (clW w) (row 50) i (ok t) t w.gParents w.gCells w.gOpen 0 0 (ixs (plainB w) i) post
     simp only [hr,hrd,hrk] at L
     have e:ok (t+1)=((ok t && notB (hasB (reL (askW w) k) k)) && notB (shutB w k)):=by
      show (_ && (List.all _ _))=(((_ && (List.all _ _)) && _) && _)
      rw [List.take_succ_eq_append_getElem ht,List.all_append,hk']
      simp only [List.all_cons,List.all_nil,Bool.and_true,Int.toNat_natCast,Bool.and_assoc]
     refine L (and_t (in_len hc) (ite_t (lt_len ht) (and_t (in_len hc) (and_t (in_len ht) (and_of (fun _=>and_t (in_len (by omega)) ⟨_,g37 hrk,rfl⟩) (and_of (fun _=>⟨_,gives38 hkc,rfl⟩) ?_))))))
     rw [←e,add_one (by have:=reL_len (askW w) i; omega)]; exact ihT
   have L:=l13_22 (clW w) (row 50) i w.gParents w.gCells w.gOpen 0 0 (ixs (plainB w) i) post
   have hf:rd (Int.ofNat 0) (row 50) (i:Int)=(lgF (askW w) 50 i:Int):=lr_all hi
   simp only [hr,hf] at L
   refine L (ite_t (lt_len hi) (and_t (in_len hc) ⟨_,g37 hr,and_of (fun _=>⟨_,gives38 hi,rfl⟩) (and_of (fun _=>and_t (in_len (by rw [lr_len]; exact hi)) rfl) ?_)⟩))
   have e:((notB (hasB (reL (askW w) i) i) && notB (shutB w i)) && leI (lgF (askW w) 50 i:Int) 48)=ok 0:=by
    show _=(_ && (List.all _ _)); simp
   rw [e]; exact inner 0 (Nat.zero_le _)
 have turns:∀t,t≤50→At K 13 post t13_7 (s13_7 (clW w) (row t) t w.gParents w.gCells w.gOpen 0 0):=by
  refine upto ?_ fun t ht ih=>?_
  ·exact l13_7 _ _ _ _ _ _ _ _ _ (ite_f rfl (tell 0 (Nat.zero_le _)))
  ·have cells:∀i,i≤w.gCells.length→At K 13 post t13_11 (s13_11 (clW w) (row t) t i w.gParents w.gCells w.gOpen 0 0 (lrF (fn (t+1)) w.gCells.length i 0)):=by
    refine upto ?_ fun i hi ihC=>?_
    ·refine l13_11 _ _ _ _ _ _ _ _ _ _ _ (ite_f (lt_len_f (Nat.le_refl _)) ?_)
     rw [add_one (by omega)]; exact ih
    ·obtain ⟨ld,g36,hm,hld⟩:=gives36 R hi
     have hset:∀v x:Int,setL (lrF (fn (t+1)) w.gCells.length i v) (natI (i:Int)) x=lrF (fn (t+1)) w.gCells.length i x:=fun v x=>lr_set
     have hget:∀v:Int,rdN (Int.ofNat 0) (lrF (fn (t+1)) w.gCells.length i v) (natI (i:Int))=v:=fun v=>lr_get hi
     have hin:∀v:Int,inB (i:Int) (lenL (lrF (fn (t+1)) w.gCells.length i v))=true:=fun v=>in_len (by rw [lr_len]; exact hi)
     have hlt:∀v:Int,ltN (natI (i:Int)) (lenL (lrF (fn (t+1)) w.gCells.length i v))=true:=fun v=>ltN_t (by show i<List.length _; rw [lr_len]; exact hi)
     have edges:∀s,s≤ld.length→At K 13 post t13_16 (s13_16 (clW w) (row t) t i ld s w.gParents w.gCells w.gOpen 0 0 (lrF (fn (t+1)) w.gCells.length i ((1+mx (lgF (askW w) t) (ld.take s):Nat):Int))):=by
      refine upto ?_ fun s hs ihS=>?_
      ·refine l13_16 _ _ _ _ _ _ _ _ _ _ _ _ _ (ite_f (lt_len_f (Nat.le_refl _)) ?_)
       have e:((1+mx (lgF (askW w) t) (ld.take ld.length):Nat):Int)=fn (t+1) i:=by
        show _=((lgF (askW w) (t+1) i:Nat):Int)
        rw [List.take_length,lgF,askW_at hi,mx_same hm]
       rw [e,lr_next,add_one (by omega)]; exact ihC
      ·obtain ⟨k,hk,hE⟩:∃k:Nat,ld[s]=k∧Edge (askW w) i k:=row_edge (i:=i) (l:=askW w) G (by omega) (by rw [askW_at hi]; exact (hm _).1 (List.getElem_mem hs))
       have hkc:k<w.gCells.length:=by have:=G.edge hE; omega
       have hrd:rd (Int.ofNat 0) ld (s:Int)=(k:Int):=(rd_at hs).trans hk
       have hv:rd (Int.ofNat 0) (row t) (k:Int)=(lgF (askW w) t k:Int):=lr_all hkc
       have hlg:=lgF_le (l:=askW w) t k
       have ha:addW .i64 1 (lgF (askW w) t k:Int)=((1+lgF (askW w) t k:Nat):Int):=by rw [addW_id (by omega) (by omega)]; omega
       have L:=l13_16 (clW w) (row t) t i ld s w.gParents w.gCells w.gOpen 0 0 (lrF (fn (t+1)) w.gCells.length i ((1+mx (lgF (askW w) t) (ld.take s):Nat):Int)) post
       simp only [hrd,hv,ha,hget,hset,maxI_nat] at L
       refine L (ite_t (lt_len hs) (and_t (hin _) (and_t (hlt _) (and_t (in_len hs) (and_t (in_len (by rw [lr_len]; exact hkc)) (and_t (hin _) (and_t (hlt _) ?_)))))))
       have e:max (1+mx (lgF (askW w) t) (ld.take s)) (1+lgF (askW w) t k)=1+mx (lgF (askW w) t) (ld.take (s+1)):=by
        rw [List.take_succ_eq_append_getElem hs,mx_snoc,hk,Int.toNat_natCast]; omega
       rw [e,add_one (by omega)]; exact ihS
     refine l13_11 _ _ _ _ _ _ _ _ _ _ _ (ite_t (lt_len hi) (and_t (hin 0) (and_t (hlt 0) ⟨ld,g36,?_⟩)))
     rw [hset]; exact edges 0 (Nat.zero_le _)
   refine l13_7 _ _ _ _ _ _ _ _ _ (ite_t (decide_eq_true (by omega)) (and_t hroom ?_))
   have e:replL (intN (lenL w.gCells)) (0:Int)=lrF (fn (t+1)) w.gCells.length 0 0:=hrep.trans lr_zero.symm
   rw [e]; exact cells 0 (Nat.zero_le _)
 refine ⟨clW w,(),gives30 R,and_t hroom ?_⟩
 have e:replL (intN (lenL w.gCells)) (0:Int)=row 0:=by
  rw [hrep]
  apply List.ext_getElem
  ·rw [lr_len,List.length_replicate]
  ·intro j h1 h2
   have hj:j<w.gCells.length:=by rw [lr_len] at h2; exact h2
   have:=lr_all (f:=fn 0) hj
   rw [rd_at h2] at this
   rw [this,List.getElem_replicate]; rfl
 rw [e]; exact turns 0 (Nat.zero_le _)
theorem eqI_self (a:Int):eqI a a=true:=eqI_t.2 rfl
theorem eqB_self (a:Bool):eqB a a=true:=by cases a <;> rfl
theorem gives15 (l:List Int):Gives 15 [.d (.sl .int l)] (.d (.sl .int l)):=by
 refine Runs.known fun hk _=>?_
 have h:=known_ints (hk _ (List.mem_cons_self ..))
 exact e15 _ _ (and_t (roomB_t (by simp [addN,lenL]; omega)) ⟨rfl,rfl⟩)
theorem gives16 (l:List ByteArray):Gives 16 [.d (.sl .str l)] (.d (.sl .str l)):=by
 refine Runs.known fun hk _=>?_
 have h:=known_strs (hk _ (List.mem_cons_self ..))
 exact e16 _ _ (and_t (roomB_t (by simp [addN,lenL]; omega)) ⟨rfl,rfl⟩)
theorem gives41 (l:List api_Op):Gives 41 [.d (.sl .api_Op l)] (.d (.sl .api_Op l)):=by
 refine Runs.known fun hk _=>?_
 have h:=known_ops (hk _ (List.mem_cons_self ..))
 exact e41 _ _ (and_t (roomB_t (by simp [addN,lenL]; omega)) ⟨rfl,rfl⟩)
theorem gives17 (p:api_Provider):Gives 17 [provC p] (provC p):=e17 _ _ ⟨_,gives41 _,rfl,rfl⟩
theorem gives4 (w:api_World):Gives 4 [worldC w] (worldC w):=by
 refine Runs.known fun hk _=>?_
 obtain ⟨h1,h2,h3⟩:=world_small (hk _ (List.mem_cons_self ..))
 have loop:∀i,i≤w.gCells.length→At K 4 (fun c' H'=>c'=worldC w∧H'=[]) t4_3 (s4_3 i w.gParents w.gCells w.gOpen (nilL Int) (nilL api_Own) (nilL ByteArray) w.gParents w.gOpen (w.gCells.take i)):=by
  refine upto ?_ fun i hi ih=>?_
  ·exact l4_3 _ _ _ _ _ _ _ _ _ _ _ (ite_f (lt_len_f (Nat.le_refl _)) ⟨by rw [List.take_length],rfl⟩)
  ·refine l4_3 _ _ _ _ _ _ _ _ _ _ _ (ite_t (lt_len hi) (and_t (in_len hi) (and_t (in_len hi) ⟨(cel w i).gProvider,gives17 _,and_t (roomB_t ?_) ?_⟩)))
   ·simp [addN,lenL]; omega
   ·rw [add_one (by omega)]
    have e:appL (w.gCells.take i) [cel w i]=w.gCells.take (i+1):=by
     rw [cel_at hi,List.take_succ_eq_append_getElem hi]; rfl
    rw [←e] at ih; exact ih
 exact e4 _ _ ⟨_,gives15 _,_,gives16 _,loop 0 (Nat.zero_le _)⟩
theorem gives11 (l:List Int):Gives 11 [.d (.sl .int l),.d (.sl .int l)] (.d (.bool true)):=by
 refine Runs.known fun hk _=>?_
 have h:=known_ints (hk _ (List.mem_cons_self ..))
 have loop:∀i,i≤l.length→At K 11 (fun c' H'=>c'=(.d (.bool true):C U)∧H'=[]) t11_4 (s11_4 l l i):=by
  refine upto ?_ fun i hi ih=>?_
  ·exact l11_4 _ _ _ _ (ite_f (lt_len_f (Nat.le_refl _)) ⟨rfl,rfl⟩)
  ·refine l11_4 _ _ _ _ (ite_t (lt_len hi) (and_t (in_len hi) (and_t (in_len hi) (ite_f (by rw [eqI_self]; rfl) ?_))))
   rw [add_one (by omega)]; exact ih
 exact e11 _ _ _ (ite_f (by rw [eqI_self]; rfl) (loop 0 (Nat.zero_le _)))
theorem gives39 (l:List ByteArray):Gives 39 [.d (.sl .str l),.d (.sl .str l)] (.d (.bool true)):=by
 refine Runs.known fun hk _=>?_
 have h:=known_strs (hk _ (List.mem_cons_self ..))
 have loop:∀i,i≤l.length→At K 39 (fun c' H'=>c'=(.d (.bool true):C U)∧H'=[]) t39_4 (s39_4 l l i):=by
  refine upto ?_ fun i hi ih=>?_
  ·exact l39_4 _ _ _ _ (ite_f (lt_len_f (Nat.le_refl _)) ⟨rfl,rfl⟩)
  ·refine l39_4 _ _ _ _ (ite_t (lt_len hi) (and_t (in_len hi) (and_t (in_len hi) (ite_f (by rw [strEq_self]; rfl) ?_))))
   rw [add_one (by omega)]; exact ih
 exact e39 _ _ _ (ite_f (by rw [eqI_self]; rfl) (loop 0 (Nat.zero_le _)))
theorem gives65 (l:List api_Op):Gives 65 [.d (.sl .api_Op l),.d (.sl .api_Op l)] (.d (.bool true)):=by
 refine Runs.known fun hk _=>?_
 have h:=known_ops (hk _ (List.mem_cons_self ..))
 have loop:∀i,i≤l.length→At K 65 (fun c' H'=>c'=(.d (.bool true):C U)∧H'=[]) t65_4 (s65_4 l l i):=by
  refine upto ?_ fun i hi ih=>?_
  ·exact l65_4 _ _ _ _ (ite_f (lt_len_f (Nat.le_refl _)) ⟨rfl,rfl⟩)
  ·refine l65_4 _ _ _ _ (ite_t (lt_len hi) (and_t (in_len hi) (and_t (in_len hi) (ite_f (by rw [eqI_self,eqI_self,eqI_self,strEq_self]; rfl) ?_))))
   rw [add_one (by omega)]; exact ih
 exact e65 _ _ _ (ite_f (by rw [eqI_self]; rfl) (loop 0 (Nat.zero_le _)))
theorem gives40 (p:api_Provider):Gives 40 [provC p,provC p] (.d (.bool true)):=
 e40 _ _ _ ⟨true,ite_t (strEq_self _) (eqB_self _),true,ite_t rfl (by rw [eqI_self,eqI_self,eqI_self,eqI_self]; rfl),true,ite_t rfl (by rw [eqI_self,strEq_self]; rfl),true,ite_t rfl ⟨_,gives65 _,rfl⟩,rfl,rfl⟩
theorem gives14 (w:api_World):Gives 14 [worldC w,worldC w] (.d (.bool true)):=by
 refine Runs.known fun hk _=>?_
 obtain ⟨h1,h2,h3⟩:=world_small (hk _ (List.mem_cons_self ..))
 have loop:∀i,i≤w.gCells.length→At K 14 (fun c' H'=>c'=(.d (.bool true):C U)∧H'=[]) t14_4 (s14_4 i w.gParents w.gCells w.gOpen w.gParents w.gCells w.gOpen):=by
  refine upto ?_ fun i hi ih=>?_
  ·exact l14_4 _ _ _ _ _ _ _ _ (ite_f (lt_len_f (Nat.le_refl _)) ⟨rfl,rfl⟩)
  ·refine l14_4 _ _ _ _ _ _ _ _ (ite_t (lt_len hi) (and_t (in_len hi) (and_t (in_len hi) (ite_f (by rw [eqI_self]; rfl) (and_t (in_len hi) (and_t (in_len hi) ⟨_,gives40 (cel w i).gProvider,ite_f rfl ?_⟩))))))
   rw [add_one (by omega)]; exact ih
 exact e14 _ _ _ ⟨_,gives11 _,false,ite_f rfl ⟨_,gives39 _,rfl⟩,false,ite_f rfl (by rw [eqI_self]; rfl),ite_f rfl (loop 0 (Nat.zero_le _))⟩
theorem gives3 (w:api_World) (s:Int) (n:ByteArray) (c:Int):Gives 3 [worldC w,.d (.int .i64 s),.d (.str n),.d (.int .i64 c)] (.d (.bool true)):=by
 have fl:∀f:api_Fault,andB (eqI f.gAt f.gAt) (andB (eqI f.gCode f.gCode) true)=true:=fun f=>by rw [eqI_self,eqI_self]; rfl
 refine e3 _ _ _ _ _ ⟨w,gives4 w,_,gives5 w,_,gives6 w,ite_f (by rw [fl]; rfl) ⟨resF w s n,gives7 w s n,resF w s n,gives8 w s n,false,ite_f (by rw [eqI_self]; rfl) (by rw [fl]; rfl),ite_f rfl ⟨closF w c,gives9 w c,closF w c,gives10 w c,false,ite_f (by rw [fl]; rfl) ⟨_,gives11 _,rfl⟩,ite_f rfl ⟨plainF w,gives12 w,plainF w,gives13 w,true,ite_t (fl _) ⟨_,gives11 _,rfl⟩,true,ite_t rfl ⟨_,gives14 w,rfl⟩,rfl,rfl⟩⟩⟩⟩
theorem o3:Opens K 3 fun ds=>∃n,ds=[.int .i64 n]:=opens_int laws (i:=⟨.int .i64,1,8,[.int .i64]⟩) (by kernel_rfl) rfl
theorem o22:Opens K 22 fun ds=>∃xs:List Int,ds=[.sl .int xs]:=
 opens_slice (c:=.int) laws (i:=⟨.slice 3,1,24,[.nils]⟩) (j:=⟨.int .i64,1,8,[.int .i64]⟩) (by kernel_rfl) rfl (by kernel_rfl) o3 (fun _ h=>h) rfl rfl (by decide)
theorem o9:Opens K 9 fun ds=>∃s,ds=[.str s]:=opens_str laws (i:=⟨.str,1,16,[.str]⟩) (by kernel_rfl) rfl
theorem o92:Opens K 92 fun ds=>∃x:api_Op,ds=enc .api_Op x:=
 (opens_struct laws (i:=⟨.strct [(3,0),(3,1),(3,2),(9,3)],4,40,[.int .i64,.int .i64,.int .i64,.str]⟩) (by kernel_rfl) rfl (.cons o3 (.cons o3 (.cons o3 (.cons o9 .nil)))) (by kernel_rfl)).weaken (by
  rintro ds ⟨_,_,rfl,⟨a,rfl⟩,_,_,rfl,⟨b,rfl⟩,_,_,rfl,⟨c,rfl⟩,_,_,rfl,⟨d,rfl⟩,rfl⟩
  exact ⟨⟨a,b,c,d⟩,rfl⟩)
theorem o43:Opens K 43 fun ds=>∃xs:List api_Op,ds=[.sl .api_Op xs]:=
 opens_slice (c:=.api_Op) laws (i:=⟨.slice 92,1,24,[.nils]⟩) (j:=⟨.strct [(3,0),(3,1),(3,2),(9,3)],4,40,[.int .i64,.int .i64,.int .i64,.str]⟩) (by kernel_rfl) rfl (by kernel_rfl) o92 (fun _ h=>h) rfl rfl (by decide)
theorem o4:Opens K 4 fun ds=>∃b,ds=[.bool b]:=opens_bool laws (i:=⟨.bool,1,1,[.bool]⟩) (by kernel_rfl) rfl
theorem o45:Opens K 45 fun ds=>∃x:api_Policy,ds=enc .api_Policy x:=
 (opens_struct laws (i:=⟨.strct [(3,0),(3,1),(3,2),(3,3)],4,32,[.int .i64,.int .i64,.int .i64,.int .i64]⟩) (by kernel_rfl) rfl (.cons o3 (.cons o3 (.cons o3 (.cons o3 .nil)))) (by kernel_rfl)).weaken (by
  rintro ds ⟨_,_,rfl,⟨a,rfl⟩,_,_,rfl,⟨b,rfl⟩,_,_,rfl,⟨c,rfl⟩,_,_,rfl,⟨d,rfl⟩,rfl⟩
  exact ⟨⟨a,b,c,d⟩,rfl⟩)
theorem o47:Opens K 47 fun ds=>∃x:api_Closer,ds=enc .api_Closer x:=
 (opens_struct laws (i:=⟨.strct [(3,0),(9,1)],2,24,[.int .i64,.str]⟩) (by kernel_rfl) rfl (.cons o3 (.cons o9 .nil)) (by kernel_rfl)).weaken (by
  rintro ds ⟨_,_,rfl,⟨a,rfl⟩,_,_,rfl,⟨b,rfl⟩,rfl⟩
  exact ⟨⟨a,b⟩,rfl⟩)
theorem o49:Opens K 49 fun ds=>∃x:api_Provider,ds=enc .api_Provider x:=
 (opens_struct laws (i:=⟨.strct [(9,0),(43,1),(4,2),(45,3),(47,7)],9,104,[.str,.nils,.bool,.int .i64,.int .i64,.int .i64,.int .i64,.int .i64,.str]⟩) (by kernel_rfl) rfl (.cons o9 (.cons o43 (.cons o4 (.cons o45 (.cons o47 .nil))))) (by kernel_rfl)).weaken (by
  rintro ds ⟨_,_,rfl,⟨a,rfl⟩,_,_,rfl,⟨b,rfl⟩,_,_,rfl,⟨c,rfl⟩,_,_,rfl,⟨d,rfl⟩,_,_,rfl,⟨e,rfl⟩,rfl⟩
  exact ⟨⟨a,b,c,d,e⟩,rfl⟩)
theorem o51:Opens K 51 fun ds=>∃x:api_Own,ds=enc .api_Own x:=
 (opens_struct laws (i:=⟨.strct [(3,0),(49,1)],10,112,[.int .i64,.str,.nils,.bool,.int .i64,.int .i64,.int .i64,.int .i64,.int .i64,.str]⟩) (by kernel_rfl) rfl (.cons o3 (.cons o49 .nil)) (by kernel_rfl)).weaken (by
  rintro ds ⟨_,_,rfl,⟨a,rfl⟩,_,_,rfl,⟨b,rfl⟩,rfl⟩
  exact ⟨⟨a,b⟩,rfl⟩)
theorem o23:Opens K 23 fun ds=>∃xs:List api_Own,ds=[.sl .api_Own xs]:=
 opens_slice (c:=.api_Own) laws (i:=⟨.slice 51,1,24,[.nils]⟩) (j:=⟨.strct [(3,0),(49,1)],10,112,[.int .i64,.str,.nils,.bool,.int .i64,.int .i64,.int .i64,.int .i64,.int .i64,.str]⟩) (by kernel_rfl) rfl (by kernel_rfl) o51 (fun _ h=>h) rfl rfl (by decide)
theorem o24:Opens K 24 fun ds=>∃xs:List ByteArray,ds=[.sl .str xs]:=
 opens_slice (c:=.str) laws (i:=⟨.slice 9,1,24,[.nils]⟩) (j:=⟨.str,1,16,[.str]⟩) (by kernel_rfl) rfl (by kernel_rfl) o9 (fun _ h=>h) rfl rfl (by decide)
theorem o26:Opens K 26 fun ds=>∃x:api_World,ds=enc .api_World x:=
 (opens_struct laws (i:=⟨.strct [(22,0),(23,1),(24,2)],3,72,[.nils,.nils,.nils]⟩) (by kernel_rfl) rfl (.cons o22 (.cons o23 (.cons o24 .nil))) (by kernel_rfl)).weaken (by
  rintro ds ⟨_,_,rfl,⟨a,rfl⟩,_,_,rfl,⟨b,rfl⟩,_,_,rfl,⟨c,rfl⟩,rfl⟩
  exact ⟨⟨a,b,c⟩,rfl⟩)
def keysU:List (List UInt8):=[[99,101,108,108],[97,103,97,105,110],[116,114,105,101,115],[98,97,115,101],[102,97,99,116,111,114],[99,97,112],[99,108,111,115,101],[102,105,110,101],[102,97,105,108],[112,97,110,105,99],[105,102],[116,104,101,110],[101,108,115,101],[116,114,121],[119,97,105,116],[108,101,116],[105,110],[105,116,101,109],[115,105,122,101]]
theorem glob0:K.glob 0=some (keysU.map fun s=>.str ⟨s.toArray⟩):=by rfl
theorem globN (n:Nat):K.glob (n+1)=none:=by rfl
theorem gKeys : Tryd.prog.globalNamed "onceweb/lex.keys" = some 0 := by kernel_rfl
theorem tKeys:(Tryd.prog.globals[0]?).map (·.type)=some 96:=by kernel_rfl
theorem szK (s:List UInt8) (h:s∈keysU):(⟨s.toArray⟩:ByteArray).size≤maxStr:=by
 have:∀s∈keysU,s.length≤100:=by decide
 have:=this s h
 show s.toArray.size≤maxStr
 rw [List.size_toArray,maxStr_eq]; omega
theorem glob_of {W : World} (h : laidMetH Tryd.prog [("onceweb/lex.keys", Rows.laid_onceweb_lex_keys)] W) :
  ∀g cells,K.glob g=some cells→Old W g∧∀(j:Nat) d,cells[j]?=some d→∃u,W.cell? (at' g j)=some u∧RepD K (Old W) W d u:=by
 rw [MakeChecks.laidMetH_plain _ _ _ (by kernel_rfl)] at h
 obtain ⟨ps,⟨g0,t0,cs0,f0,p0,q0,hg0,ht0,hv0,hd0,_,_⟩,_,_⟩:=h
 obtain rfl:=Option.some.inj (gKeys.symm.trans hg0)
 obtain rfl:=Option.some.inj (tKeys.symm.trans ht0)
 have e0:∀j s,keysU[j]?=some s→W.cell? ⟨0,j,none⟩=some (.string ⟨s.toArray⟩):=laid_texts hg0 hv0 Tryd.underlying96 Tryd.underlying9 (by kernel_rfl) hd0
 have old:∀{g j u},W.cell? ⟨g,j,none⟩=some u→Old W g:=fun {g j u} h=>by
  unfold Old
  simp only [World.cell?] at h
  by_cases hlt:g<W.heap.size
  ·exact hlt
  ·rw [Array.getElem?_eq_none (by omega)] at h; cases h
 intro g cells hg
 match g with
 | 0=>
  rw [glob0] at hg
  cases hg
  refine ⟨old (e0 0 _ rfl),fun j d hd=>?_⟩
  rw [List.getElem?_map,Option.map_eq_some_iff] at hd
  obtain ⟨s,hs,rfl⟩:=hd
  exact ⟨_,e0 j s hs,.str _ (szK s (List.mem_of_getElem? hs))⟩
 | n+1=>rw [globN] at hg; cases hg
end Go.Proofs.YtaldbipmbkapmaaDoor.V
