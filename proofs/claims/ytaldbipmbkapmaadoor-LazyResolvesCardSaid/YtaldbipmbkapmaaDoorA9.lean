/- LEMMAS: append, make. Conditions: none. -/
import Derived.Test.YtaldbipmbkapmaaDoorA8
namespace Go.Abs
set_option linter.unusedVariables false
set_option linter.unusedSimpArgs false
section
variable {K:Cfg} {F:Nat→Prop} {w:World} {pl:Rf→Pl}
theorem run_append_fit {P:Program} {t u ty e:TypeId} {i:TypeInfo} {d:TypeDesc} (ht:P.underlying t=some (.slice e)) (hu:P.underlying u=some d) (hd:∀k,d ≠ .int k) (hi:P.info? e=some i)
  {base a:Option Addr} {n cap m c:Nat} {us:List Value} (hnew:∀len cap',(Builtin.firstCells i.size m (.slice a len cap')).run P w=.ok us.toArray w) (hroom:n+m≤cap) {w':World}
  (hst:match base with|some b=>(storeCells (b.add (n * i.size)) us).run P w=.ok () w'|none=>w'=w):
  (Builtin.append_ #[t,u] ty #[.slice base n cap,.slice a m c]).run P w=.ok (.slice base (n+m) cap) w':=by
 cases base with
 | none=>
  subst hst
  simp [Builtin.append_,run_underlying ht,run_underlying hu,sizeOf,typeInfo,hi,Builtin.lenOf,hroom,hnew]
 | some b=>
  simp [Builtin.append_,run_underlying ht,run_underlying hu,sizeOf,typeInfo,hi,Builtin.lenOf,hroom,hnew,hst]
theorem run_append_more {P:Program} {t u ty e:TypeId} {i:TypeInfo} {d:TypeDesc} {z:Value} (ht:P.underlying t=some (.slice e)) (hu:P.underlying u=some d) (hd:∀k,d ≠ .int k) (hi:P.info? e=some i)
  (hz:i.zero=some z) {base a:Option Addr} {n cap m c:Nat} {os us:List Value} (hold:(Builtin.firstCells i.size n (.slice base n cap)).run P w.drew=.ok os.toArray w.drew)
  (hnew:∀len cap',(Builtin.firstCells i.size m (.slice a len cap')).run P w.drew=.ok us.toArray w.drew) (hroom:cap<n+m)
  (h63:n+m≤9223372036854775807) (hfit:Builtin.nextslicecap (n+m) cap * i.bytes≤281474976710656):
  (Builtin.append_ #[t,u] ty #[.slice base n cap,.slice a m c]).run P w=
   .ok (.slice (some ⟨w.heap.size,0,none⟩) (n+m) (grownCap w (n+m) cap e)) (w.drew.alloc (.cells (os.toArray ++ us.toArray ++ Builtin.zeroCells z.cells (grownCap w (n+m) cap e - (n+m))) e)):=by
 have hn:¬(n+m≤cap):=by omega
 have h63':¬(9223372036854775807<((n:Int)+(m:Int))):=by omega
 have hf':¬(281474976710656<Builtin.nextslicecap (n+m) cap * i.bytes):=by omega
 simp [Builtin.append_,run_underlying ht,run_underlying hu,sizeOf,typeInfo,zeroValue,hi,hz,Builtin.lenOf,hn,h63',hf',Question.forced,newRow,grownCap,hold,hnew]
 congr 2
 apply Array.ext'
 simp [List.append_assoc]
theorem zeroCells_mem {z:Array Value} {k:Nat} {u:Value} (h:u∈(Builtin.zeroCells z k).toList):u∈z.toList:=by
 simp only [Builtin.zeroCells,Array.toList_map,Array.toList_range,List.mem_map,List.mem_range] at h
 obtain ⟨q,hq,rfl⟩:=h
 have h0:0<z.size:=by
  rcases Nat.eq_zero_or_pos z.size with e|e
  ·rw [e] at hq; simp at hq
  ·exact e
 have hm:q % z.size<z.size:=Nat.mod_lt _ h0
 rw [getElem!_pos z _ hm]
 simp
theorem append_move {ob:Obs K} (M:Mem K F w ob pl) {r:Rf} {g:Nat} {v:Vc K.U} {xs ys:List v.El} {os us:List Value} {z:Array Value} {e:TypeId} {nc:Nat} (ho:Rows' F w ob pl v xs os)
  (hu:Rows' F w ob pl v ys us) (hz:z.size=K.widthV v) (hz1:∀u∈z.toList,u.oneCell=true) (hnc:xs.length+ys.length≤nc)
  (hc:∀o,ob r=some o→Compat K o (pl r) (.arr g v (xs ++ ys)) ⟨w.heap.size,nc⟩):
  Upd K F w ob pl r (.arr g v (xs ++ ys)) ⟨w.heap.size,nc⟩ (w.drew.alloc (.cells (os.toArray ++ us.toArray ++ Builtin.zeroCells z (nc - (xs.length+ys.length))) e))∧
   RepO F (w.drew.alloc (.cells (os.toArray ++ us.toArray ++ Builtin.zeroCells z (nc - (xs.length+ys.length))) e)) (setOb ob r (.arr g v (xs ++ ys))) (setPl pl r ⟨w.heap.size,nc⟩) ⟨w.heap.size,nc⟩ (.arr g v (xs ++ ys)):=by
 have U:Upd K F w ob pl r (.arr g v (xs ++ ys)) ⟨w.heap.size,nc⟩ (w.drew.alloc (.cells (os.toArray ++ us.toArray ++ Builtin.zeroCells z (nc - (xs.length+ys.length))) e)):=
  ⟨hc,rfl,rfl,rfl,by simp,fun b hb _=>heap_alloc_old w.drew _ b hb,.inl ⟨rfl,fun _=>by simp⟩⟩
 refine ⟨U,.inr ⟨os ++ us ++ (Builtin.zeroCells z (nc - (xs.length+ys.length))).toList,e,?_,?_,by simpa using hnc,fun u hm=>?_,?_⟩⟩
 ·have:=heap_alloc_new w.drew (.cells (os.toArray ++ us.toArray ++ Builtin.zeroCells z (nc - (xs.length+ys.length))) e)
  rw [show w.drew.heap.size=w.heap.size from rfl] at this
  rw [this]
  congr 2
  apply Array.ext'
  simp
 ·simp only [List.length_append,ho.len,hu.len,Array.length_toList,size_zeroCells,hz]
  rw [←Nat.add_mul,←Nat.add_mul]
  congr 1; omega
 ·simp only [List.mem_append] at hm
  rcases hm with (hm|hm)|hm
  ·exact ho.one u hm
  ·exact hu.one u hm
  ·exact hz1 u (zeroCells_mem hm)
 ·have:=(ho.app hu)
  have h2:=ArrIn.more this.len this.row (Builtin.zeroCells z (nc - (xs.length+ys.length))).toList
  exact h2.mono (fun _ h=>h) (fun _ h=>U.heapF M h) U.goes
theorem append_fit {ob:Obs K} (M:Mem K F w ob pl) {r:Rf} {g n:Nat} {v:Vc K.U} {xs ys:List v.El} {us:List Value} (hr:ob r=some (.arr g v xs)) (hu:Rows' F w ob pl v ys us) (hn:n≤xs.length)
  (hroom:n+ys.length≤(pl r).cap) (h0:(pl r).cap ≠ 0) (P:Program):
  ∃w',(storeCells (at' (pl r).blk (n * K.widthV v)) us).run P w=.ok () w'∧Upd K F w ob pl r (.arr (g+1) v (xs.take n ++ ys)) (pl r) w'∧
   RepO F w' (setOb ob r (.arr (g+1) v (xs.take n ++ ys))) (setPl pl r (pl r)) (pl r) (.arr (g+1) v (xs.take n ++ ys)):=by
 rcases M.rep r _ hr with ⟨h,_⟩|⟨vs,e,hb,hvl,hxl,h1,hin⟩
 ·exact absurd h h0
 have hfit:n * K.widthV v+us.length≤vs.length:=by
  rw [hu.len,hvl,←Nat.add_mul]; exact Nat.mul_le_mul_right _ hroom
 have hst:=run_storeCells_at P (pl r).blk (n * K.widthV v) e us 0 vs.toArray w hb (by simpa using hfit) fun u hm=>oneCell_oneCell' (hu.one u hm)
 have U:Upd K F w ob pl r (.arr (g+1) v (xs.take n ++ ys)) (pl r) (w.setRow (pl r).blk (splice vs (n * K.widthV v) us).toArray):=
  .row hr h0 rfl (.arr rfl rfl (Nat.le_succ _) fun e=>absurd e (by omega)) _
 refine ⟨_,by simpa [splice] using hst,U,.inr ⟨_,e,setRow_heap w _ _ _ e _ hb,?_,by simp; omega,fun u hm=>?_,?_⟩⟩
 ·rw [splice_length hfit]; exact hvl
 ·rcases splice_mem hm with hm|hm
  ·exact h1 u hm
  ·exact hu.one u hm
 ·have hp:=hin.piece (o:=0) (n:=n) h1 (by omega) (by rw [hvl]; exact Nat.mul_le_mul_right _ hxl)
  simp only [List.drop_zero,Nat.zero_mul] at hp
  have h2:=hp.app hu
  have h3:=ArrIn.more h2.len h2.row (vs.drop (n * K.widthV v+us.length))
  exact ArrIn.mono (fun _ h=>h) (fun _ h=>U.heapF M h) U.goes h3
theorem heap_drew' (w:World) (b:Nat):w.drew.heap[b]?=w.heap[b]?:=rfl
theorem Mem.drew {ob:Obs K} (M:Mem K F w ob pl):Mem K F w.drew ob pl:=
 ⟨fun r o h=>(M.rep r o h).mono (fun _ h=>h) (fun b _=>heap_drew' w b) (fun _ o h=>⟨o,h,.refl _ _⟩) fun _=>heap_drew' w _,M.apart,M.free,M.frozen,
  fun g cells h=>⟨(M.glob g cells h).1,fun j d hd=>let ⟨u,h1,h2⟩:=(M.glob g cells h).2 j d hd; ⟨u,h1,h2.mono (fun _ h=>h) fun b _=>heap_drew' w b⟩⟩,M.bnd⟩
theorem RepC.drew {ob:Obs K} {c:C K.U} {v:Value} (h:RepC F w ob pl c v):RepC F w.drew ob pl c v:=h.mono (fun _ h=>h) (fun b _=>heap_drew' w b) fun _ o h=>⟨o,h,.refl _ _⟩
end
end Go.Abs
