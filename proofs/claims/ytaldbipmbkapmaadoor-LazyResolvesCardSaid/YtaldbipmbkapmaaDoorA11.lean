/- LEMMAS: arrays, structs and maps that are made. Conditions: none. -/
import Derived.Test.YtaldbipmbkapmaaDoorA10
namespace Go.Abs
set_option linter.unusedVariables false
set_option linter.unusedSimpArgs false
section
variable {K:Cfg} {F:Nat→Prop} {w:World} {pl:Rf→Pl}
theorem new_arr {loc:Loc K.U} {H:List (O K.U)} (M:Mem K F w (getO loc H) pl) {r:Rf} (hr:getO loc H r=none) (hg:∀n,r=.g n→n≤H.length) {v:Vc K.U} {xs:List v.El} {vs:Array Value} {cap:Nat}
  (hl:vs.size=cap * K.widthV v) (hc:xs.length≤cap) (h1:∀u∈vs.toList,u.oneCell=true) (hin:ArrIn F w (getO loc H) pl v xs vs.toList) (hbx:K.bndV v xs.length) (t:TypeId):
  Did1 K F w loc H pl (.asl r 0 none false) [(r,.arr 0 v xs)] (.slice (some ⟨w.heap.size,0,none⟩) xs.length cap) (w.alloc (.cells vs t)):=by
 have U:Upd K F w (getO loc H) pl r (.arr 0 v xs) ⟨w.heap.size,cap⟩ (w.alloc (.cells vs t)):=.alloc _ hr rfl
 refine ⟨r,_,_,rfl,hg,U,.inr ⟨vs.toList,t,?_,by simpa using hl,hc,h1,hin.mono (fun _ h=>h) (fun _ h=>U.heapF M h) U.goes⟩,?_,hbx⟩
 ·rw [Array.toArray_toList]; exact heap_alloc_new w _
 ·exact repC_asl fun _=>rfl
theorem madeCells_get {z:Array Value} {n q:Nat} (h:q<n) (hz:0<z.size):(madeCells z n).toList[q]?=z.toList[q % z.size]?:=by
 have hm:q % z.size<z.size:=Nat.mod_lt _ hz
 simp only [madeCells,Array.toList_map,Array.toList_range,List.getElem?_map,List.getElem?_range h,Option.map_some]
 rw [getElem!_pos z _ hm,Array.getElem?_toList,Array.getElem?_eq_getElem hm]
theorem madeCells_mem {z:Array Value} {n:Nat} {u:Value} (h:u∈(madeCells z n).toList) (hz:0<z.size):u∈z.toList:=by
 obtain ⟨q,hq,e⟩:=List.getElem_of_mem h
 have h1:(madeCells z n).toList[q]?=some u:=by rw [←e]; exact List.getElem?_eq_getElem hq
 have hq':q<n:=by simpa [size_madeCells] using hq
 rw [madeCells_get hq' hz] at h1
 exact List.mem_of_getElem? h1
theorem made_rows {ob:Obs K} {v:Vc K.U} {x:v.El} {z:Array Value} (hz:z.size=K.widthV v) (hx:RepCs F w ob pl (K.encV v x) z.toList) {n c:Nat} (hn:n≤c):
  ArrIn F w ob pl v (List.replicate n x) (madeCells z (c * K.widthV v)).toList:=by
 intro i y hy
 rw [List.getElem?_replicate] at hy
 split at hy
 ·rename_i hi
  cases hy
  have e:((madeCells z (c * K.widthV v)).toList.drop (i * K.widthV v)).take (K.widthV v)=z.toList:=by
   apply List.ext_getElem?
   intro j
   rw [List.getElem?_take,List.getElem?_drop]
   split
   ·rename_i hj
    obtain ⟨h1,_,h3⟩:=row_at (Nat.lt_of_lt_of_le hi hn) hj
    rw [madeCells_get h1 (by omega),hz,h3]
   ·rename_i hj
    rw [List.getElem?_eq_none (by rw [Array.length_toList]; omega)]
  rw [e]; exact hx
 ·cases hy
theorem makeRows_sound (L:Laws K) {loc:Loc K.U} {H:List (O K.U)} (M:Mem K F w (getO loc H) pl) {t:TypeId} {x y:C K.U} {vx vy:Value} {r:Out K.U}
  (h:K.makeRows H t x y=some r) (hok:r.ok=true) (hx:RepC F w (getO loc H) pl x vx) (hy:RepC F w (getO loc H) pl y vy):
  ∃v o,r.wr=[(.g H.length,.arr 0 v (nilL _)),(.g (H.length+1),o)]∧∀{pl:Rf→Pl},Mem K F w (getO loc (H ++ [.arr 0 v (nilL _)])) pl→∃val w',(Instr.makeSlice t vx vy).run K.P w=.ok val w'∧Did1 K F w loc (H ++ [.arr 0 v (nilL _)]) pl r.v [(.g (H.length+1),o)] val w':=by
 unfold Cfg.makeRows at h
 split at h
 ·rename_i i hi
  split at h
  ·rename_i e hk
   have ht:=ti_slice L hi hk
   split at h
   ·rename_i j n m hj
    split at h
    ·rename_i e' hk2
     split at h
     ·rename_i hc
      simp only [Option.some.injEq] at h; subst h
      simp only [andB_true,leI_iff] at hok
      obtain ⟨h0,h1,h2⟩:=hok
      have h2:=of_decide_eq_true h2
      obtain ⟨hk',hlen⟩:=whole_spec hc.2.2.1
      obtain ⟨zv,ij,g1,g2,g3,g4,g5,g6,g7,_⟩:=zero_sound (F:=F) (w:=w) (pl:=pl) L hj hk' (getO loc H)
      rw [repC_int] at hx hy; subst hx hy
      have hroom:(ij.bytes:Int) * m≤140737488355328:=by rw [Int.mul_comm,g4]; simpa [room] using h2
      have hm:m≤9223372036854775807:=by
       have hb:(1:Int)≤ij.bytes:=by have:=hc.2.2.2; omega
       have:m * 1≤m * ij.bytes:=Int.mul_le_mul_of_nonneg_left hb (by omega)
       rw [Int.mul_comm] at hroom; omega
      have run:=run_make (P:=K.P) w t e ij zv ht g1 g2 .i64 .i64 n m h0 h1 (by omega) hm
      have hw:ij.size=1:=by rw [g3,hc.2.1]
      rw [hw,Nat.mul_one] at run
      have hzs:zv.cells.size=1:=by rw [g7,hc.1]; rfl
      have hpos:0<zv.cells.size:=by omega
      have hcell:zv.cells.toList=[.slice none 0 0]:=by
       rw [hc.1] at g5
       simp only [C.ofZ,List.map_cons,List.map_nil,RepCs,RepC] at g5
       obtain ⟨v,rest,e1,e2,e3⟩:=g5
       have e2:RepD K F w (.nils:D K.U) v:=e2
       cases e2
       rw [e1,e3]
      refine ⟨_,_,rfl,fun {pl} M1=>?_⟩
      let H1:List (O K.U):=H ++ [.arr 0 (K.vc e') (nilL _)]
      have hl1:H1.length=H.length+1:=by simp [H1]
      have hn:getO loc H1 (.g (H.length+1))=none:=by simp [getO,H1]
      have hN:getO loc H1 (.g H.length)=some (.arr 0 (K.vc e') (nilL _)):=by simp [getO,H1]
      let xs:List (Nat×Nat×Option (Nat×Nat)×Bool):=replL n (H.length,0,none,true)
      have U:Upd K F w (getO loc H1) pl (.g (H.length+1)) (.arr 0 .row xs) ⟨w.heap.size,m.toNat⟩ (w.alloc (.cells (madeCells zv.cells m.toNat) e)):=.alloc _ hn rfl
      refine ⟨_,_,run,.g (H.length+1),_,_,rfl,(fun q hq=>by injection hq with hq; show q≤H1.length; omega),U,.inr ⟨(madeCells zv.cells m.toNat).toList,e,?_,?_,?_,fun u hu=>g6 u (madeCells_mem hu hpos),?_⟩,?_,trivial⟩
      ·rw [Array.toArray_toList]; exact heap_alloc_new w _
      ·simp [size_madeCells,Cfg.widthV]
      ·simp [xs,replL]; omega
      ·intro q y hq
       have hq:(List.replicate n.toNat ((H.length,0,none,true):Nat×Nat×Option (Nat×Nat)×Bool))[q]?=some y:=hq
       rw [List.getElem?_replicate] at hq
       split at hq
       ·rename_i hlt
        cases hq
        have e1:((madeCells zv.cells m.toNat).toList.drop (q * 1)).take 1=[.slice none 0 0]:=by
         have h3:=madeCells_get (z:=zv.cells) (n:=m.toNat) (q:=q) (by omega) hpos
         rw [hzs,Nat.mod_one,hcell] at h3
         have h4:q<(madeCells zv.cells m.toNat).toList.length:=(List.getElem?_eq_some_iff.1 h3).1
         rw [Nat.mul_one,List.drop_eq_getElem_cons h4]
         have:=(List.getElem?_eq_some_iff.1 h3).2
         simp only [List.take_succ_cons,List.take_zero]
         rw [this]
        show RepCs _ _ _ _ _ ((List.drop (q * 1) _).take 1)
        rw [e1]
        simp only [Cfg.encV,RepCs,RepC]
        exact ⟨_,[],rfl,⟨⟨none,0,0,rfl⟩,_,0,0,_,by rw [setOb_other _ _ (by intro h; injection h with h; omega)]; exact hN,rfl,Nat.le_refl _,fun _=>⟨none,rfl,fun h=>absurd rfl h⟩⟩,rfl⟩
       ·cases hq
      ·have:n.toNat=xs.length:=by simp [xs,replL]
       rw [this]
       exact repC_asl fun _=>rfl
     ·cases h
    ·cases h
   ·cases h
  ·cases h
 ·cases h
theorem makeSlice_sound (L:Laws K) {loc:Loc K.U} {H:List (O K.U)} (M:Mem K F w (getO loc H) pl) {slot:Option Nat} {t:TypeId} {x y:C K.U} {vx vy:Value} {r:Out K.U}
  (h:K.makeSlice loc H slot t x y=some r) (hok:r.ok=true) (hx:RepC F w (getO loc H) pl x vx) (hy:RepC F w (getO loc H) pl y vy):
  ∃val w',(Instr.makeSlice t vx vy).run K.P w=.ok val w'∧Did1 K F w loc H pl r.v r.wr val w':=by
 unfold Cfg.makeSlice at h
 split at h
 ·rename_i i hi
  split at h
  ·rename_i e hk
   have ht:=ti_slice L hi hk
   split at h
   ·rename_i j n m hj
    split at h
    ·rename_i hc
     obtain ⟨hfw,hfb⟩:=fitsV_spec hc.1
     split at h
     ·rename_i z ref hz hnew
      simp only [Option.some.injEq] at h; subst h
      simp only [andB_true,leI_iff] at hok
      obtain ⟨h0,h1,h2⟩:=hok
      have h2:=of_decide_eq_true h2
      obtain ⟨k1,k2⟩:=newO_spec hnew
      obtain ⟨hk',hlen⟩:=whole_spec hc.2.2.1
      obtain ⟨zv,ij,g1,g2,g3,g4,g5,g6,g7,_⟩:=zero_sound (F:=F) (w:=w) (pl:=pl) L hj hk' (getO loc H)
      rw [repC_int] at hx hy; subst hx hy
      have hroom:(ij.bytes:Int) * m≤140737488355328:=by rw [Int.mul_comm,g4]; simpa [room] using h2
      have hm:m≤9223372036854775807:=by
       have hb:(1:Int)≤ij.bytes:=by have:=hc.2.2.2; omega
       have:m * 1≤m * ij.bytes:=Int.mul_le_mul_of_nonneg_left hb (by omega)
       rw [Int.mul_comm] at hroom; omega
      have run:=run_make (P:=K.P) w t e ij zv ht g1 g2 .i64 .i64 n m h0 h1 (by omega) hm
      have hw:ij.size=K.widthV (K.vc e):=by rw [g3,hfw]
      rw [hw] at run
      have hzs:zv.cells.size=K.widthV (K.vc e):=by rw [g7,hlen,hfw]
      have hpos:0<zv.cells.size:=by rw [hzs,hfw]; have:=hc.2.1; omega
      have hd:=decV_sound L hz g5
      have D:=new_arr (r:=ref) (v:=K.vc e) (xs:=replL n z) (cap:=m.toNat) M k1 k2 (by rw [size_madeCells]) (by simp [replL]; omega)
       (fun u hu=>g6 u (madeCells_mem hu hpos)) (by simpa only [replL] using made_rows hzs hd.1 (by omega)) (bndV_of hfb (by
        simp only [replL,List.length_replicate]
        have h3:n.toNat * j.bytes≤m.toNat * j.bytes:=Nat.mul_le_mul_right _ (by omega)
        have h4:((m.toNat * j.bytes:Nat):Int)≤room:=by
         rw [Int.natCast_mul,Int.toNat_of_nonneg (by omega)]; exact h2
        omega)) e
      simp only [replL,List.length_replicate] at D
      exact ⟨_,_,run,D⟩
     ·cases h
    ·cases h
   ·cases h
  ·cases h
 ·cases h
theorem run_append_zeros {P:Program} {t u ty e:TypeId} {i:TypeInfo} {k:IntKind} {z:Value} (ht:P.underlying t=some (.slice e)) (hu:P.underlying u=some (.int k)) (hi:P.info? e=some i) (hz:i.zero=some z)
  {n:Int} (h0:0<n) (h63:n≤9223372036854775807) (hs:i.size ≠ 0) (hzs:z.cells.size=i.size) (hfit:n.toNat * i.bytes≤281474976710656):
  (Builtin.append_ #[t,u] ty #[.slice none 0 0,.int .i64 n]).run P w=
   .ok (.slice (some ⟨w.heap.size,0,none⟩) n.toNat (grownCap w n.toNat 0 e)) (w.drew.alloc (.cells (madeCells z.cells (n.toNat * i.size) ++ Builtin.zeroCells z.cells (grownCap w n.toNat 0 e - n.toNat)) e)):=by
 obtain ⟨m,rfl⟩:∃m:Nat,n=(m:Int):=⟨n.toNat,by omega⟩
 rw [Int.toNat_natCast] at hfit ⊢
 have hm:m ≠ 0:=by omega
 have wl:IntKind.i64.wrap (m:Int)=(m:Int):=by rw [IntKind.wrap_i64]; omega
 have h1:¬((m:Int)<0):=by omega
 have h2:¬(281474976710656<(m:Int) * (i.bytes:Int)):=by
  rw [←Int.natCast_mul]; omega
 have h3:¬(9223372036854775807<(m:Int)):=by omega
 have h4:¬(281474976710656<Builtin.nextslicecap m 0 * i.bytes):=by rw [nextslicecap_zero (by omega)]; omega
 have h5:¬(m * i.size=0):=by
  intro h
  rcases Nat.mul_eq_zero.1 h with h|h
  ·exact hm h
  ·exact hs h
 have e:Builtin.zeroCells z.cells m=madeCells z.cells (m * i.size):=by
  unfold Builtin.zeroCells madeCells
  rw [hzs]
 simp [Builtin.append_,run_underlying ht,run_underlying hu,sizeOf,typeInfo,zeroValue,asInt,asIntOf,hi,hz,hm,hs,wl,h1,h2,h3,h4,h5,Question.forced,run_firstCells_none,newRow,grownCap,e]
theorem appZeros_sound (L:Laws K) {loc:Loc K.U} {H:List (O K.U)} (M:Mem K F w (getO loc H) pl) {slot:Option Nat} {t u ty:TypeId} {k:IntKind} (hu:K.P.underlying u=some (.int k)) {x y:C K.U} {vx vy:Value} {r:Out K.U}
  (h:K.appZeros loc H slot t x y=some r) (hok:r.ok=true) (hx:RepC F w (getO loc H) pl x vx) (hy:RepC F w (getO loc H) pl y vy):
  ∃val w',(Builtin.append_ #[t,u] ty #[vx,vy]).run K.P w=.ok val w'∧Did1 K F w loc H pl r.v r.wr val w':=by
 unfold Cfg.appZeros at h
 split at h
 ·rename_i i hi
  split at h
  ·rename_i e hk
   have ht:=ti_slice L hi hk
   split at h
   ·rename_i j n hj
    split at h
    ·rename_i hc
     obtain ⟨hfw,hfb⟩:=fitsV_spec hc.1
     split at h
     ·rename_i z ref hz hnew
      simp only [Option.some.injEq] at h; subst h
      simp only [andB_true] at hok
      obtain ⟨h0,h2⟩:=hok
      have h0:=of_decide_eq_true h0
      have h2:=of_decide_eq_true h2
      obtain ⟨k1,k2⟩:=newO_spec hnew
      obtain ⟨hk',hlen⟩:=whole_spec hc.2.2.1
      obtain ⟨zv,ij,g1,g2,g3,g4,g5,g6,g7,_⟩:=zero_sound (F:=F) (w:=w) (pl:=pl) L hj hk' (getO loc H)
      rw [repC_nils] at hx
      rw [repC_int] at hy
      subst hx hy
      have hroom:n.toNat * ij.bytes≤140737488355328:=by
       have h4:((n.toNat * j.bytes:Nat):Int)≤room:=by
        rw [Int.natCast_mul,Int.toNat_of_nonneg (by omega)]; exact h2
       rw [g4]; simp only [room] at h4; omega
      have hn63:n≤9223372036854775807:=by
       have hb:1≤ij.bytes:=by have:=hc.2.2.2; omega
       have:n.toNat * 1≤n.toNat * ij.bytes:=Nat.mul_le_mul_left _ hb
       omega
      have hw:ij.size=K.widthV (K.vc e):=by rw [g3,hfw]
      have hzs:zv.cells.size=K.widthV (K.vc e):=by rw [g7,hlen,hfw]
      have hpos:0<zv.cells.size:=by rw [hzs,hfw]; have:=hc.2.1; omega
      have run:=run_append_zeros (w:=w) (ty:=ty) ht hu g1 g2 h0 hn63 (by rw [hw,←hzs]; omega) (by rw [hzs,hw]) (by omega)
      rw [hw] at run
      have hd:=decV_sound L hz g5
      have hrows:Rows' F w (getO loc H) pl (K.vc e) (List.replicate n.toNat z) (madeCells zv.cells (n.toNat * K.widthV (K.vc e))).toList:=
       ⟨by rw [Array.length_toList,size_madeCells,List.length_replicate],fun u hu=>g6 u (madeCells_mem hu hpos),made_rows hzs hd.1 (Nat.le_refl _)⟩
      have hnc:=grownCap_ge w n.toNat 0 e
      obtain ⟨U,R⟩:=append_move M (r:=ref) (g:=0) (e:=e) (nc:=grownCap w n.toNat 0 e) (Rows'.nil _) hrows (z:=zv.cells) hzs g6 (by simp only [List.length_nil,List.length_replicate]; omega) fun o h=>by rw [k1] at h; cases h
      simp only [List.nil_append,List.length_nil,List.length_replicate,Nat.zero_add,Array.toArray_toList] at U R
      have e0:(#[]:Array Value) ++ madeCells zv.cells (n.toNat * K.widthV (K.vc e))=madeCells zv.cells (n.toNat * K.widthV (K.vc e)):=by simp
      have e1:([]:List Value).toArray=(#[]:Array Value):=rfl
      rw [e1,e0] at U R
      refine ⟨_,_,run,⟨ref,_,_,rfl,k2,U,R,?_,bndV_of hfb (by
       simp only [replL,List.length_replicate,room]
       rw [←g4]; omega)⟩⟩
      have:=repC_asl (F:=F) (ob:=getO loc H) (pl:=pl) (w':=w.drew.alloc (.cells (madeCells zv.cells (n.toNat * K.widthV (K.vc e)) ++ Builtin.zeroCells zv.cells (grownCap w n.toNat 0 e - n.toNat)) e)) (r:=ref) (g:=0) (v:=K.vc e)
       (xs:=List.replicate n.toNat z) (p:=⟨w.heap.size,grownCap w n.toNat 0 e⟩) (a:=some ⟨w.heap.size,0,none⟩) fun _=>rfl
      rw [List.length_replicate] at this
      exact this
     ·cases h
    ·cases h
   ·cases h
  ·cases h
 ·cases h
theorem fold_set (off:Nat):∀(vs:List Value) (k:Nat) (cs:Array Value),off+k+vs.length≤cs.size→
  ((vs.zipIdx k).foldl (fun cs (c,j)=>cs.setIfInBounds (off+j) c) cs)=(splice cs.toList (off+k) vs).toArray:=by
 intro vs
 induction vs with
 | nil=>intro k cs _; simp [splice]
 | cons v vs ih=>
  intro k cs hl
  simp only [List.length_cons] at hl
  simp only [List.zipIdx_cons,List.foldl_cons]
  rw [ih (k+1) _ (by simp; omega)]
  congr 1
  apply List.ext_getElem?
  intro j
  rw [splice_get (by simp; omega),splice_get (by simp; omega)]
  simp only [Array.getElem?_toList,Array.getElem?_setIfInBounds,List.length_cons]
  by_cases h1:j<off+k
  ·rw [if_pos (by omega),if_pos h1,if_neg (by omega)]
  ·by_cases h2:j=off+k
   ·subst h2
    simp only [show off+k<off+(k+1) by omega,if_true,Nat.lt_irrefl,if_false,show off+k<off+k+(vs.length+1) by omega,show off+k<cs.size by omega,Nat.sub_self,List.getElem?_cons_zero]
   ·rw [if_neg (by omega),if_neg h1]
    by_cases h3:j<off+k+(vs.length+1)
    ·rw [if_pos (by omega),if_pos h3]
     have e:j - (off+k)=(j - (off+(k+1)))+1:=by omega
     rw [e,List.getElem?_cons_succ]
    ·rw [if_neg (by omega),if_neg h3,if_neg (by omega)]
def RepP (F:Nat→Prop) (w:World) (ob:Obs K) (pl:Rf→Pl):List (Nat×C K.U)→List (Nat×Value)→Prop
 | [],vs=>vs=[]
 | (i,c) :: cs,vs=>∃v rest,vs=(i,v) :: rest∧RepC F w ob pl c v∧RepP F w ob pl cs rest
theorem fill_sound {ob:Obs K} {place:Nat→Option (Nat×Nat)}:∀{parts:List (Nat×C K.U)} {vps:List (Nat×Value)} {cells cs:List (C K.U)} {vs:Array Value},RepP F w ob pl parts vps→RepCs F w ob pl cells vs.toList→
  (∀u∈vs.toList,u.oneCell=true)→fillC place cells parts=some cs→∃us:Array Value,Instr.fill place vs vps=some us∧RepCs F w ob pl cs us.toList∧us.size=vs.size∧∀u∈us.toList,u.oneCell=true
 | [],vps,cells,cs,vs,hp,hr,h1,h=>by
  simp only [RepP] at hp; subst hp
  simp only [fillC,Option.some.injEq] at h; subst h
  exact ⟨vs,rfl,hr,rfl,h1⟩
 | (i,c) :: parts,vps,cells,cs,vs,hp,hr,h1,h=>by
  simp only [RepP] at hp
  obtain ⟨v,rest,rfl,hc,hp⟩:=hp
  simp only [fillC] at h
  split at h
  ·cases h
  ·rename_i off size hpl
   split at h
   ·rename_i hcond
    obtain ⟨e1,e2,e3⟩:=hcond
    obtain ⟨hcs,hone⟩:=hc.cells e3
    have hl:=hcs.length
    have hrl:=hr.length
    simp only [Array.length_toList] at hl hrl
    have hfit:off+v.cells.size≤vs.size:=by omega
    have hfold:(v.cells.zipIdx.foldl (fun cs (c,j)=>cs.setIfInBounds (off+j) c) vs)=(splice vs.toList off v.cells.toList).toArray:=by
     have:=fold_set off v.cells.toList 0 vs (by simpa using hfit)
     rw [←Array.foldl_toList,Array.toList_zipIdx]
     simpa using this
    have hsz:(splice vs.toList off v.cells.toList).toArray.size=vs.size:=by
     rw [List.size_toArray,splice_length (by simpa using hfit)]; simp
    obtain ⟨us,k1,k2,k3,k4⟩:=fill_sound (vs:=(splice vs.toList off v.cells.toList).toArray) hp (by simpa using repCs_splice hr hcs (by omega)) (fun u hu=>by
     rcases splice_mem (by simpa using hu) with hu|hu
     ·exact h1 u hu
     ·exact hone u hu) h
    refine ⟨us,?_,k2,k3.trans hsz,k4⟩
    have n1:¬(v.cells.size ≠ size):=by omega
    have n2:¬(off+v.cells.size > vs.size):=by omega
    simp only [Instr.fill,hpl,n1,n2,decide_false,Bool.or_false,Bool.false_eq_true,if_false,hfold]
    exact k1
   ·cases h
theorem Sim.evsN {β:Base K} {nt:Nat} {st:St K.U} {a:Act} (S:Sim K β nt st a F pl w):∀{xs:List (Nat×Operand)} {cs:List (Nat×C K.U)},Go.Abs.evsN (K.ev st.tmps) xs=some cs→
  RepP F w st.obs pl cs (xs.map fun (i,x)=>(i,a.eval x))
 | [],cs,h=>by simp only [Go.Abs.evsN,Option.some.injEq] at h; subst h; simp [RepP]
 | (i,x) :: xs,cs,h=>by
  simp only [Go.Abs.evsN] at h
  split at h
  ·rename_i y ys h1 h2
   simp only [Option.some.injEq] at h; subst h
   simp only [RepP,List.map_cons]
   exact ⟨_,_,rfl,S.ev h1,S.evsN h2⟩
  ·cases h
theorem places_sound (L:Laws K) {w:World}:∀{fs:List (TypeId×Nat)} {ps:List (Nat×Nat)} {gs:List Field},K.places fs=some ps→gs.map (fun f=>(f.type,f.offset))=fs→
  (gs.mapM (m:=Sem) fun f=>do pure (f.offset,←sizeOf f.type)).run K.P w=.ok ps w
 | [],ps,gs,h,hg=>by
  simp only [Cfg.places,List.mapM_nil,Option.pure_def,Option.some.injEq] at h; subst h
  have:gs=[]:=by simpa using hg
  subst this
  simp
 | (t,off) :: fs,ps,gs,h,hg=>by
  cases gs with
  | nil=>simp at hg
  | cons f gs=>
   simp only [List.map_cons,List.cons.injEq,Prod.mk.injEq] at hg
   obtain ⟨⟨rfl,rfl⟩,hg⟩:=hg
   simp only [Cfg.places,List.mapM_cons,Option.pure_def,Option.bind_eq_bind,Option.bind_eq_some_iff,Option.map_eq_some_iff,Option.some.injEq] at h
   obtain ⟨p,⟨j,hj,rfl⟩,ps',hps,rfl⟩:=h
   have ih:=places_sound L (w:=w) (fs:=fs) (ps:=ps') (gs:=gs) hps hg
   simp only [List.mapM_cons,Sem.run_bind,run_sizeOf' L hj,Result.andThen_ok,Sem.run_pure]
   rw [ih]
   simp
theorem ti_strct' (L:Laws K) {t:TypeId} {fs:List (TypeId×Nat)} {i:TI} (h:K.ti t=some i) (hk:i.kind=.strct fs):
  ∃fs':Array Field,K.P.underlying t=some (.struct fs')∧fs'.toList.map (fun f=>(f.type,f.offset))=fs:=by
 obtain ⟨d,h1,h2⟩:=kind_is L h
 rw [hk] at h2
 cases d <;> first|exact (Bool.false_ne_true h2).elim|skip
 rename_i fs'
 simp only [TK.is,Bool.and_eq_true,beq_iff_eq] at h2
 exact ⟨fs',h1,h2.1⟩
theorem build_sound (L:Laws K) {ob:Obs K} {t:TypeId} {parts:List (Nat×C K.U)} {vps:Array (Nat×Value)} {c:C K.U} (h:K.build t parts=some c) (hp:RepP F w ob pl parts vps.toList):
  ∃u,(Instr.build t vps).run K.P w=.ok u w∧RepC F w ob pl c u:=by
 unfold Cfg.build at h
 split at h
 ·rename_i i hi
  split at h
  ·rename_i fs hk
   split at h
   ·rename_i ps hps
    simp only [Option.map_eq_some_iff] at h
    obtain ⟨cs,hf,rfl⟩:=h
    obtain ⟨fs',hu,hfs⟩:=ti_strct' L hi hk
    obtain ⟨z,j,g1,g2,g3,g4,g5,g6,g7,_⟩:=zero_sound (F:=F) (w:=w) (pl:=pl) L hi (by rw [hk]; simp) ob
    obtain ⟨us,k1,k2,_,_⟩:=fill_sound hp g5 g6 hf
    have hpl:=places_sound L (w:=w) hps hfs
    have e:(fs'.mapM (m:=Sem) fun f=>do pure (f.offset,←sizeOf f.type)).run K.P w=.ok ps.toArray w:=by
     rw [Array.mapM_eq_mapM_toList,Sem.run_map,hpl]; rfl
    refine ⟨.agg us,?_,?_⟩
    ·have e2:(fun x=>ps.toArray[x]?:Nat→Option (Nat×Nat))=(ps[·]?):=by funext x; simp
     simp only [Instr.build,Sem.run_bind,run_zeroValue g1 g2,Result.andThen_ok,run_underlying hu,e,e2,k1,Sem.run_pure]
    ·simp only [RepC]; exact ⟨us.toList,by simp,k2⟩
   ·cases h
  ·cases h
 ·cases h
theorem timesL_get {α:Type} {n:Nat} {cs:List α} {q:Nat} (h:q<n * cs.length) (h0:0<cs.length):(timesL n cs)[q]?=cs[q % cs.length]?:=by
 induction n generalizing q with
 | zero=>simp at h
 | succ n ih=>
  have e:timesL (n+1) cs=cs ++ timesL n cs:=by simp [timesL,List.replicate_succ]
  rw [e,List.getElem?_append]
  split
  ·rename_i h1; rw [Nat.mod_eq_of_lt h1]
  ·rename_i h1
   rw [Nat.add_mul,Nat.one_mul] at h
   rw [ih (by omega),←Nat.mod_eq_sub_mod (by omega)]
theorem timesL_length {α:Type} (n:Nat) (cs:List α):(timesL n cs).length=n * cs.length:=by simp [timesL]
theorem decAll_sound (L:Laws K) {ob:Obs K} {v:Vc K.U}:∀{rows:List (List (C K.U))} {xs:List v.El},K.decAll v rows=some xs→xs.length=rows.length∧
  ∀(i:Nat) (x:v.El) (r:List (C K.U)) (us:List Value),xs[i]?=some x→rows[i]?=some r→RepCs F w ob pl r us→RepCs F w ob pl (K.encV v x) us
 | [],xs,h=>by simp only [Cfg.decAll,Option.some.injEq] at h; subst h; simp
 | r :: rs,xs,h=>by
  simp only [Cfg.decAll] at h
  split at h
  ·rename_i y ys h1 h2
   simp only [Option.some.injEq] at h; subst h
   obtain ⟨k1,k2⟩:=decAll_sound L (ob:=ob) h2
   refine ⟨by simp [k1],fun i x r' us hx hr hrep=>?_⟩
   cases i with
   | zero=>
    simp only [List.getElem?_cons_zero,Option.some.injEq] at hx hr
    subst hx hr
    exact (decV_sound L h1 hrep).1
   | succ i=>exact k2 i x r' us (by simpa using hx) (by simpa using hr) hrep
  ·cases h
theorem buildSlice_sound (L:Laws K) {loc:Loc K.U} {H:List (O K.U)} (M:Mem K F w (getO loc H) pl) {slot:Option Nat} {t:TypeId} {n:Nat} {parts:List (Nat×C K.U)} {vps:Array (Nat×Value)} {r:Out K.U}
  (h:K.buildSlice loc H slot t n parts=some r) (hp:RepP F w (getO loc H) pl parts vps.toList):
  ∃val w',(Instr.buildSlice t n vps).run K.P w=.ok val w'∧Did1 K F w loc H pl r.v r.wr val w':=by
 unfold Cfg.buildSlice at h
 split at h
 ·rename_i i hi
  split at h
  ·rename_i e hk
   have ht:=ti_slice L hi hk
   split at h
   ·rename_i j hj
    split at h
    ·rename_i hc
     obtain ⟨⟨c1,c1'⟩,c2,c3',c4⟩:=hc
     obtain ⟨c3,c3b⟩:=fitsV_spec c3'
     split at h
     ·rename_i cs hf
      split at h
      ·rename_i xs ref hx hnew
       simp only [Option.some.injEq] at h; subst h
       obtain ⟨k1,k2⟩:=newO_spec hnew
       obtain ⟨hk',hlen⟩:=whole_spec c4
       obtain ⟨z,ij,g1,g2,g3,g4,g5,g6,g7,_⟩:=zero_sound (F:=F) (w:=w) (pl:=pl) L hj hk' (getO loc H)
       have hzs:z.cells.size=j.size:=by rw [g7,hlen]
       have hpos:0<z.cells.size:=by omega
       have hZ:(C.ofZ j.zero:List (C K.U)).length=j.size:=by rw [ofZ_length,hlen]
       have h0:RepCs F w (getO loc H) pl (timesL n (C.ofZ j.zero)) (madeCells z.cells (n * j.size)).toList:=by
        refine repCs_iff.2 ⟨by rw [timesL_length,hZ]; simp [size_madeCells],fun q c u hc hu=>?_⟩
        have hq:q<n * j.size:=by
         have:=(List.getElem?_eq_some_iff.1 hu).1
         simpa [size_madeCells] using this
        rw [madeCells_get hq hpos,hzs] at hu
        rw [timesL_get (by rw [hZ]; exact hq) (by omega),hZ] at hc
        exact (repCs_iff.1 g5).2 _ c u hc hu
       obtain ⟨us,f1,f2,f3,f4⟩:=fill_sound hp h0 (fun u hu=>g6 u (madeCells_mem hu hpos)) hf
       rw [size_madeCells] at f3
       obtain ⟨d1,d2⟩:=decAll_sound L (F:=F) (w:=w) (ob:=getO loc H) (pl:=pl) hx
       have hxl:xs.length=n:=by rw [d1]; simp [rowsOfCells]
       have hin:ArrIn F w (getO loc H) pl (K.vcAt slot e j.size) xs us.toList:=by
        intro i x hi'
        have hi2:i<n:=by rw [←hxl]; exact (List.getElem?_eq_some_iff.1 hi').1
        refine d2 i x _ _ hi' (by simp only [rowsOfCells,List.getElem?_map,List.getElem?_range hi2,Option.map_some]; rfl) ?_
        rw [c3]
        exact repCs_take (repCs_drop f2 _) _
       have D:=new_arr (r:=ref) (cap:=n) M k1 k2 (by rw [f3,c3]) (by omega) f4 hin (bndV_of c3b (by rw [hxl]; exact c1')) e
       rw [hxl] at D
       refine ⟨_,_,?_,D⟩
       have n1:¬(n * j.size > 2 ^ 24):=by omega
       by_cases e0:n * j.size=0
       ·have hm:madeCells z.cells (n * j.size)=#[]:=by rw [e0]; simp [madeCells]
        rw [hm] at f1
        simp only [Instr.buildSlice,Sem.run_bind,run_underlying ht,Result.andThen_ok,run_sizeOf' L hj,n1,if_false,Sem.run_pure,e0,if_true,Array.range_zero',Array.map_empty,f1,newRow,run_newObj]
        rfl
       ·have f1':Instr.fill (fun i=>some (i * j.size,j.size)) ((Array.range (n * j.size)).map (z.cells[· % z.cells.size]!)) vps.toList=some us:=f1
        simp only [Instr.buildSlice,Sem.run_bind,run_underlying ht,Result.andThen_ok,run_sizeOf' L hj,n1,if_false,Sem.run_pure,e0,run_zeroValue g1 g2,f1',newRow,run_newObj]
        rfl
      ·cases h
     ·cases h
    ·cases h
   ·cases h
  ·cases h
 ·cases h
end
end Go.Abs
