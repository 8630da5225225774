/- LEMMAS: a function that is called with old memory, where package variables are known. Conditions: none. -/
import Derived.Test.YtaldbipmbkapmaaDoorA27
namespace Go.Abs
set_option linter.unusedVariables false
set_option linter.unusedSimpArgs false
open Go.RowKit
section
variable {K:Cfg}
theorem Runs.callsG {f:FuncId} {args:List (C K.U)} {post:C K.U→List (O K.U)→Prop} (h:Runs K f args [] post) {w:World} {vs:List Value}
  (hg:∀g cells,K.glob g=some cells→Old w g∧∀j d,cells[j]?=some d→∃u,w.cell? (at' g j)=some u∧RepD K (Old w) w d u) (hr:RepCs (Old w) w (obH []) (fun _=>⟨0,0⟩) args vs):
  Calls K.P f vs.toArray w fun e w'=>∃v,e=.returned v∧(∃c H' F' pl' own,post c H'∧RepR (K:=K) F' w' (obH H') pl' c v own)∧Below w.heap.size w w':=by
 have hm:Mem K (Old w) w (obH []) (fun _=>⟨0,0⟩):=by
  refine ⟨?_,?_,?_,fun b hb=>hb,hg,?_⟩
  all_goals
   intro r
   intros
   exfalso
   cases r <;> simp_all [obH,getO]
 refine (h w (Old w) (fun _=>⟨0,0⟩) vs (fun n o ho=>by simp at ho) hm hr).mono ?_
 rintro e w' ⟨v,rfl,c,H',F',pl',own,hp,hf⟩
 refine ⟨v,rfl,⟨c,H',F',pl',own,hp,hf.rep⟩,⟨hf.fr.os,hf.fr.tape,hf.fr.output,hf.fr.size,fun k hk=>hf.fr.old k hk ?_⟩⟩
 rintro ⟨n,o,ho,_⟩
 cases ho
theorem one_cell {cs:List Value} {i:Nat} {v:Value} (h:(cs.drop (i * 1)).take 1=[v]):cs[i]?=some v:=by
 rw [Nat.mul_one] at h
 have:((cs.drop i).take 1)[0]?=some v:=by rw [h]; rfl
 simpa using this
variable {P:Program} {H:Type} {enc:TypeId×Value→H} {W:World} {n:String} {g t e k fuel base:Nat} {spare:Nat→Bool} {held:Bool} {cs:Array Value} {p:List MemPlace}
theorem laid_texts {ss:List (List UInt8)} (hg:P.globalNamed n=some g) (hv:W.var? P n=some cs) (ht:P.underlying t=some (.array k e)) (he:P.underlying e=some .string) (hc:P.cellsOf e=1)
  (hd:DataW.trod enc P W base spare held fuel t cs.toList=some (.agg (ss.map fun s=>.lit (.string s)),p)):∀j s,ss[j]?=some s→W.cell? ⟨g,j,none⟩=some (.string ⟨s.toArray⟩):=by
 intro j s hs
 obtain ⟨xs,m,_,hx,_,hl,hel⟩:=DataW.trod_array ht hd
 simp only [Prod.mk.injEq,DataW.agg.injEq] at hx
 have hj:j<k:=by
  have h1:=(List.getElem?_eq_some_iff.1 hs).1
  have h2:=congrArg List.length hx.1
  rw [List.length_map,List.length_map] at h2
  omega
 have h1:=hel j hj
 rw [List.getElem?_eq_getElem (by omega)] at h1
 obtain ⟨b,h2,h3,_⟩:=DataW.trod_string he h1
 rw [hc] at h2
 have h4:=one_cell h2
 rw [World.var?_cell hg hv,←Array.getElem?_toList,h4]
 have h5:(xs.map (·.1))[j]?=some (.lit (.string s)):=by rw [←hx.1]; simp [hs]
 rw [List.getElem?_map,List.getElem?_eq_getElem (by omega),h3] at h5
 simp only [Option.map_some,Option.some.injEq,DataW.lit.injEq,Lit.string.injEq] at h5
 rw [←h5]
end
end Go.Abs
