/- LEMMAS: what is done in a round of a range. Conditions: none. -/
import Derived.Test.YtaldbipmbkapmaaDoorA36
import Derived.RangeFuncCalls
namespace Go.Abs
set_option linter.unusedVariables false
set_option linter.unusedSimpArgs false
section
variable {K:Cfg} {Rs:Res K} {β:Base K} {nt:Nat} {st:St K.U} {a:Act} {F:Nat→Prop} {pl:Rf→Pl} {w:World}
theorem upon_in {P:Program} {o:Oper} {next next':Act→World→Prop} {Q:Exit→Act→World→Prop} (l m:Nat) (hn:∀a w,next a w→next' a w) (hQ:∀a w,¬Q .outgrown a w):
  ∀{res:Result Next},o.upon P a next Q res→o.uponIn (Fence.wide.inRound l) m P a next' Q res:=by
 intro res h
 have nl:¬LetsOut Q:=fun ⟨x,y,hq⟩=>hQ x y hq
 unfold Oper.upon at h
 split at h
 ·exact hn _ _ h
 ·exact hn _ _ h
 ·exact hn _ _ h
 ·refine ⟨fun h=>by simp [Fence.wide] at h,CallsIn.inRound l (callsIn_wide.2 (h.mono fun e w'' hR=>?_))⟩
  cases e with
  | returned v=>exact hn _ _ hR
  | panicked c=>exact hR
  | outgrown=>exact hR
 ·refine ⟨fun h=>by simp [Fence.wide] at h,fun c cs _=>?_⟩
  obtain ⟨v,w1,hR,hs⟩:=h c cs
  exact ⟨v,w1,hn _ _ hR,stepsIn_wide.2 hs⟩
 ·exact h
 ·exact h.elim
theorem wpOps_in {P:Program} {ops:Array Oper} {Q:Exit→Act→World→Prop} (l m:Nat) (hdf:∀(i:Nat) (o:Oper),ops[i]?=some o→∀c,o.op ≠ .defer c) (hQ:∀a w,¬Q .outgrown a w):
  ∀(is:List Nat) (a:Act) (w:World),wpOps P ops Q is a w→wpOpsIn (Fence.wide.inRound l) m P ops Q is a w
 | [],_,_,h=>h
 | i :: is,a,w,h=>by
  simp only [wpOps] at h
  simp only [wpOpsIn]
  cases ho:ops[i]? with
  | none=>simp only [ho] at h ⊢; exact wpOps_in l m hdf hQ is a w h
  | some o=>
   simp only [ho] at h ⊢
   by_cases hw:Region.wanted o (yielded ops a.tmps)=true
   ·rw [if_pos hw] at h ⊢
    rcases h with h|⟨_,x,y,h⟩
    ·refine ⟨fun _ _=>trivial,?_⟩
     rw [Oper.semAt_eq _ _ _ (hdf i o ho)]
     exact upon_in l m (fun a w h=>wpOps_in l m hdf hQ is a w h) hQ h
    ·exact (hQ x y h).elim
   ·rw [if_neg hw] at h ⊢
    exact ⟨fun _ _=>trivial,wpOps_in l m hdf hQ is _ w h⟩
def RegOk (K:Cfg) (R:Nat→Array Oper→St K.U→(St K.U→Prop)→Prop):Prop:=
 ∀{β:Base K} {nt id:Nat} {ops:Array Oper} {st:St K.U} {a:Act} {F:Nat→Prop} {pl:Rf→Pl} {w:World} {k:St K.U→Prop} {Q:Exit→Act→World→Prop},Sim K β nt st a F pl w→(∀(i:Nat) (o:Oper),ops[i]?=some o→∀d,o.dst=some d→d<nt)→R id ops st k→
  (∀st' a' F' pl' w',Sim K β nt st' a' F' pl' w'→k st'→Q .normal a' w')→wpOps K.P ops Q (List.range ops.size) a w
theorem rgn_ok (L:Laws K) (an:FAnn K.U):RegOk K (fun id ops st k=>rgnP Rs (Runs K) id an ops (2 * ops.size+2) false none ((List.range ops.size).zip ops.toList) st k):=by
 intro β nt id ops st a F pl w k Q S hnt h hk
 have hz:∀p∈(List.range ops.size).zip ops.toList,ops[p.1]?=some p.2:=by
  intro p hp
  obtain ⟨n,hn,e⟩:=List.getElem_of_mem hp
  have h1:((List.range ops.size).zip ops.toList)[n]?=some p:=by rw [←e]; exact List.getElem?_eq_getElem hn
  rw [List.getElem?_zip_eq_some] at h1
  obtain ⟨h2,h3⟩:=h1
  have:=List.getElem?_eq_some_iff.1 h2
  simp only [List.length_range,List.getElem_range] at this
  obtain ⟨_,e⟩:=this
  rw [←e]
  simpa using h3
 have hw:=rgnP_sound (Q:=Q) (rest:=[]) L _ S hz (fun p hp=>hnt _ _ (hz p hp)) (by trivial) h fun st' a' F' pl' w' S' hk' _ _=>hk st' a' F' pl' w' S' hk'
 have e1:((List.range ops.size).zip ops.toList).map (·.1) ++ []=List.range ops.size:=by
  rw [List.append_nil,List.map_fst_zip]; simp
 rw [e1] at hw
 exact hw
theorem bodyC_sound {R:Nat→Array Oper→St K.U→(St K.U→Prop)→Prop} (hR:RegOk K R) (l m:Nat):∀(c:Code) {st:St K.U} {a:Act} {F:Nat→Prop} {pl:Rf→Pl} {w:World} {kN kR:St K.U→Prop} {Q:Exit→Act→World→Prop},
  Sim K β nt st a F pl w→dstOk nt c=true→bodyC R c st kN kR→
  (∀st' a' F' pl' w',Sim K β nt st' a' F' pl' w'→kN st'→Q .normal a' w')→(∀st' a' F' pl' w',Sim K β nt st' a' F' pl' w'→kR st'→Q .ret a' w')→(∀a w,¬Q .outgrown a w)→
  c.wpIn (Fence.wide.inRound l) m K.P Q a w
 | .skip,st,a,F,pl,w,kN,kR,Q,S,_,h,hN,_,_=>wpIn_skip (hN _ _ _ _ _ S h)
 | .ret,st,a,F,pl,w,kN,kR,Q,S,_,h,_,hRt,_=>wpIn_ret (hRt _ _ _ _ _ S h)
 | .seq x y,st,a,F,pl,w,kN,kR,Q,S,hd,h,hN,hRt,hQ=>by
  simp only [dstOk,Bool.and_eq_true] at hd
  simp only [bodyC] at h
  exact wpIn_seq (bodyC_sound hR l m x S hd.1 h (fun st' a' F' pl' w' S' h'=>bodyC_sound hR l m y S' hd.2 h' hN hRt hQ) hRt hQ)
 | .cond c x y,st,a,F,pl,w,kN,kR,Q,S,hd,h,hN,hRt,hQ=>by
  simp only [dstOk,Bool.and_eq_true] at hd
  simp only [bodyC] at h
  split at h
  ·rename_i t ht
   have he:=eval_bool S (x:=c) (b:=t) (by rw [ht]; rfl)
   rw [iteP_iff] at h
   refine wpIn_cond he ?_
   cases t with
   | true=>exact bodyC_sound hR l m x S hd.1 (by simpa using h) hN hRt hQ
   | false=>exact bodyC_sound hR l m y S hd.2 (by simpa using h) hN hRt hQ
  ·exact h.elim
 | .block id c,st,a,F,pl,w,kN,kR,Q,S,hd,h,hN,hRt,hQ=>by
  simp only [dstOk] at hd
  simp only [bodyC] at h
  exact wpIn_block (bodyC_sound hR l m c S hd h hN hRt hQ)
 | .region id ops draw,st,a,F,pl,w,kN,kR,Q,S,hd,h,hN,_,hQ=>by
  simp only [bodyC] at h
  split at h
  ·exact h.elim
  ·rename_i hf
   rw [Bool.or_eq_false_iff] at hf
   obtain ⟨rfl,hf⟩:=hf
   rw [List.any_eq_false] at hf
   have mem:∀(i:Nat) (o:Oper),ops[i]?=some o→o∈ops.toList:=fun i o ho=>by simpa using Array.mem_of_getElem? ho
   refine wpIn_region (wpOps_in l m (fun i o ho c hc=>?_) hQ _ a w (hR S (fun i o ho d hdd=>?_) h hN))
   ·have:=hf o (mem i o ho)
    rw [hc] at this; exact this rfl
   ·simp only [dstOk] at hd
    have:=List.all_eq_true.1 hd o (mem i o ho)
    simpa [hdd] using this
 | .loop _,_,_,_,_,_,_,_,_,_,_,h,_,_,_=>by simp only [bodyC] at h
 | .rangeFunc ..,_,_,_,_,_,_,_,_,_,_,h,_,_,_=>by simp only [bodyC] at h
 | .exit _,_,_,_,_,_,_,_,_,_,_,h,_,_,_=>by simp only [bodyC] at h
 | .scope _,_,_,_,_,_,_,_,_,_,_,h,_,_,_=>by simp only [bodyC] at h
 | .label _,_,_,_,_,_,_,_,_,_,_,h,_,_,_=>by simp only [bodyC] at h
 | .goto _,_,_,_,_,_,_,_,_,_,_,h,_,_,_=>by simp only [bodyC] at h
 | .refuse _,_,_,_,_,_,_,_,_,_,_,h,_,_,_=>by simp only [bodyC] at h
theorem op_in (L:Laws K) {n:Nat} (S:Sim K β nt st a F pl w) {ops:Array Oper} {i:Nat} {o:Oper} {is:List Nat} (ho:ops[i]?=some o) (hg:o.guard=none) {r:Out K.U} (hr:K.aop {} o (K.ev st.tmps) st.loc st.H=some (.out r)) (hok:r.ok=true)
  (hd:∀d,o.dst=some d→d<nt) (hW:r.wr=[]) {Q:Exit→Act→World→Prop}
  (hn:∀v F' pl' w',Sim K β nt ⟨put st.tmps o.dst r.v,st.loc,st.H⟩ (a.put o.dst v) F' pl' w'→wpOpsIn Fence.wide n K.P ops Q is (a.put o.dst v) w'):wpOpsIn Fence.wide n K.P ops Q (i :: is) a w:=by
 simp only [wpOpsIn,ho]
 rw [if_pos (by simp [Region.wanted,hg])]
 refine ⟨fun _ _=>trivial,?_⟩
 obtain ⟨v,w',F',pl',hrun,S',_⟩:=aop_out L S hr hok hd (by rw [hW]; rfl)
 rw [hW] at S'
 show o.uponIn Fence.wide n K.P a _ Q ((execOp a.eval o).run K.P w)
 rcases hrun with e|⟨e,rfl⟩
 ·rw [e,Oper.uponIn_value]; exact hn _ _ _ _ S'
 ·rw [e,Oper.uponIn_skip]; exact hn _ _ _ _ S'
end
end Go.Abs
