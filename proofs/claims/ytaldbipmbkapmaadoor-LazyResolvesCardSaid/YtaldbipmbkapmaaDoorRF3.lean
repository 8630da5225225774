/- THE ROW: LazyResolves. Conditions: none. -/
import Derived.Test.YtaldbipmbkapmaaDoorL3
set_option maxRecDepth 4000
namespace Go.Proofs.YtaldbipmbkapmaaDoor.V
set_option linter.unusedVariables false
set_option linter.unusedSimpArgs false
open Go Go.Abs
abbrev laidL : List (String × DataW Unit) := [("onceweb/lex.keys", Rows.laid_onceweb_lex_keys)]
theorem walk3 (x0:api_World) (x1:Int) (x2:ByteArray) (x3:Int) {W:World} (hL:laidMetH Tryd.prog laidL W) {v0 v1 v2 v3:Value} (h0:RepC (K:=K) (Old W) W (obH []) (fun _=>⟨0,0⟩) (worldC x0) v0) (h1:RepC (K:=K) (Old W) W (obH []) (fun _=>⟨0,0⟩) (.d (.int .i64 x1)) v1) (h2:RepC (K:=K) (Old W) W (obH []) (fun _=>⟨0,0⟩) (.d (.str x2)) v2) (h3:RepC (K:=K) (Old W) W (obH []) (fun _=>⟨0,0⟩) (.d (.int .i64 x3)) v3):
  Calls Tryd.prog 3 #[v0,v1,v2,v3] W fun e w'=>e=.returned (.bool true)∧Go.RowKit.Below W.heap.size W w':=by
 refine ((gives3 x0 x1 x2 x3).callsG (vs:=[v0,v1,v2,v3]) (glob_of hL) ?_).mono ?_
 ·simp only [RepCs]
  exact ⟨v0,_,rfl,h0,⟨v1,_,rfl,h1,⟨v2,_,rfl,h2,⟨v3,_,rfl,h3,rfl⟩⟩⟩⟩
 ·rintro e w' ⟨v,rfl,⟨c,H',F',pl',own,⟨rfl,rfl⟩,hr⟩,hb⟩
  obtain ⟨_,hr⟩:=hr
  have hr:=(repC_bool (K:=K) (b:=true)).1 hr
  exact ⟨by rw [hr],hb⟩
end Go.Proofs.YtaldbipmbkapmaaDoor.V
namespace Go.Proofs.YtaldbipmbkapmaaDoor.lazyResolves
open Go.ChangeShapes Go.WideShapes Go.ChangeAt Go.RowKit Go.Abs Go.Proofs.YtaldbipmbkapmaaDoor.V
open Go.ChangeMaps (open_string shut_string)
theorem own:ownKnob Tryd.prog.godebug=none:=by kernel_rfl
theorem laidOut:laidOutB Tryd.prog=true:=by kernel_rfl
theorem door_met (os:Os) (args:Array Value):laidMetH Tryd.prog laidL ((World.doorLaid Tryd.prog 400 os).forCall (fun _ _=>0) ⟨#[],args,[]⟩).memory:=
 laidMetH_of_parts3 (fuel:=8) (laidMet_of_run' 8 (by kernel_rfl) (by kernel_rfl)) (by kernel_rfl) (by kernel_rfl)
set_option maxRecDepth 100000 in
theorem lifted (os:Os) (started:os.Started) (H:Type) (enc:TypeId×Value→H):
  ReturnsInHanded {} Tryd.checked os 3 .any (fun w args=>(Rows.lazyResolvesSpec.pre enc Tryd.prog Tryd.f3 [] false w args∧laidMetH Tryd.prog laidL w)∧sizedMet enc Tryd.prog Tryd.f3 (OpenSpec.ofChange Rows.lazyResolvesSpec) false w args)
   (Rows.lazyResolvesSpec.post enc Tryd.prog Tryd.f3 false true false false):=by
 refine returnsInHanded_of_change_and (C:=Tryd.checked) (X:=fun w _=>laidMetH Tryd.prog laidL w) (fun _ _ _ hh h=>h.of_heap hh) own started (by kernel_rfl) Tryd.func3
  (ChangeSpec.witness_shaped (enc:=enc) (C:=Tryd.checked) (os:=os) (X:=fun w _=>laidMetH Tryd.prog laidL w) false (World.doorLaid Tryd.prog 400 os) #[.agg #[.slice none 0 0,.slice none 0 0,.slice none 0 0],.int .i64 0,.string ByteArray.empty,.int .i64 0] 8 rfl (World.shaped_of_RefB (by kernel_rfl) (by kernel_rfl)) (by kernel_rfl) (by kernel_rfl) (by kernel_rfl) (door_met os _)) ?_
 intro W base args ds gs before hval0 hW hcnd hsz0 hL _
 have hsz:(DataW.weightsEach Tryd.prog (Tryd.f3.params.toList ++ Rows.lazyResolvesSpec.plain.varTypes Tryd.prog) (ds ++ gs)).all (·≤reachBytes)=true:=hsz0
 have hval:∀(j:Nat) t v,Tryd.f3.params[j]?=some t→args[j]?=some v→Value.okWide Tryd.prog W .any base t v:=hval0
 have hW':=hW
 obtain ⟨p,q,hA0,hV,rfl,hfz,hnd⟩:=hW
 have hA:DataW.TrodAll enc Tryd.prog W 0 (fun _=>true) true Tryd.f3.params.toList args.toList ds p:=hA0
 rw [Tryd.params3] at hA hval hsz
 obtain ⟨v0,vs0,d0,ds0,p0,q0,hargs,rfl,rfl,h0,r0⟩:=trodAll_cons hA
 obtain ⟨v1,vs1,d1,ds1,p1,q1,rfl,rfl,rfl,h1,r1⟩:=trodAll_cons r0
 obtain ⟨v2,vs2,d2,ds2,p2,q2,rfl,rfl,rfl,h2,r2⟩:=trodAll_cons r1
 obtain ⟨v3,vs3,d3,ds3,p3,q3,rfl,rfl,rfl,h3,r3⟩:=trodAll_cons r2
 obtain ⟨rfl,rfl,rfl⟩:=trodAll_nil r3
 obtain rfl:args=#[v0,v1,v2,v3]:=by cases args; simp_all
 obtain ⟨rfl,rfl⟩:=trodVars_none hV
 obtain ⟨c0,rfl,_⟩:=okWide_struct Tryd.underlying26 (hval 0 26 v0 rfl rfl)
 obtain ⟨n1,rfl⟩:=okWide_int Tryd.underlying3 (hval 1 3 v1 rfl rfl)
 obtain ⟨s2,rfl⟩:=okWide_string Tryd.underlying9 (hval 2 9 v2 rfl rfl)
 obtain ⟨n3,rfl⟩:=okWide_int Tryd.underlying3 (hval 3 3 v3 rfl rfl)
 have lt0:∀x∈p0,x.block<W.heap.size:=by obtain ⟨m,hm⟩:=h0; exact DataW.trod_lt m _ _ _ hm
 have lt1:∀x∈p1,x.block<W.heap.size:=by obtain ⟨m,hm⟩:=h1; exact DataW.trod_lt m _ _ _ hm
 have lt2:∀x∈p2,x.block<W.heap.size:=by obtain ⟨m,hm⟩:=h2; exact DataW.trod_lt m _ _ _ hm
 have lt3:∀x∈p3,x.block<W.heap.size:=by obtain ⟨m,hm⟩:=h3; exact DataW.trod_lt m _ _ _ hm
 obtain ⟨y0,⟨x0,rfl⟩,e0⟩:=open_one (K:=K) o26 h0 hsz (j:=0) rfl rfl
 obtain ⟨y1,⟨x1,rfl⟩,e1⟩:=open_one (K:=K) o3 h1 hsz (j:=1) rfl rfl
 obtain ⟨y2,⟨x2,rfl⟩,e2⟩:=open_one (K:=K) o9 h2 hsz (j:=2) rfl rfl
 obtain ⟨y3,⟨x3,rfl⟩,e3⟩:=open_one (K:=K) o3 h3 hsz (j:=3) rfl rfl
 clear hA0 hval0 hsz0 hsz
 refine (walk3 x0 x1 x2 x3 (W:=W) hL ⟨c0.toList,by simp,e0.cells⟩ (show RepD K (Old W) W (.int .i64 x1) (.int .i64 n1) from e1.1) (show RepD K (Old W) W (.str x2) (.string s2) from e2.1) (show RepD K (Old W) W (.int .i64 x3) (.int .i64 n3) from e3.1)).mono fun e W' ⟨he,bel⟩=>?_
 subst he
 exact ⟨_,rfl,_,_,_,[],_,[],hW',trodAll_mk1 (shut_bool Tryd.underlying4 _),(trodAll_cons_mk (Below.trod laidOut (by kernel_rfl) (of_decide_eq_true (by kernel_rfl)) h0 bel lt0) (trodAll_cons_mk (Below.trod laidOut (by kernel_rfl) (of_decide_eq_true (by kernel_rfl)) h1 bel lt1) (trodAll_cons_mk (Below.trod laidOut (by kernel_rfl) (of_decide_eq_true (by kernel_rfl)) h2 bel lt2) (trodAll_cons_mk (Below.trod laidOut (by kernel_rfl) (of_decide_eq_true (by kernel_rfl)) h3 bel lt3) trodAll_mk0)))),rfl,bel.frame _,fun h=>by cases h⟩
theorem both {a b:Bool} (h:a=true) (k:b=true):(a && b)=true:=by rw [h,k]; rfl
theorem j0:(Rows.lazyResolvesRow.wf (OpenSpec.ofChange Rows.lazyResolvesSpec))=true:=by kernel_rfl
theorem j1:(laidOutB Tryd.pinned.checked.prog)=true:=by kernel_rfl
theorem j2:(mapsRowed Tryd.pinned.checked.prog)=true:=by kernel_rfl
theorem j3:(Tryd.f3.params.all (Tryd.pinned.checked.prog.readableRec ·))=true:=by kernel_rfl
theorem j4:(namedTie Tryd.pinned.checked.prog Rows.lazyResolvesRow.named Rows.lazyResolvesSpec.vars)=true:=by kernel_rfl
theorem j5:((Rows.lazyResolvesRow.stops == []))=true:=by kernel_rfl
theorem j6:((Tryd.pinned.checked.prog.stops == []))=true:=by kernel_rfl
theorem j7:((Rows.lazyResolvesRow.knobs == []))=true:=by kernel_rfl
theorem j8:((Tryd.pinned.checked.prog.stopKnobs == []))=true:=by kernel_rfl
theorem j9:((Rows.lazyResolvesRow.inPlace == Tryd.pinned.checked.prog.inPlace 3))=true:=by kernel_rfl
theorem j10:((Rows.lazyResolvesRow.unfollowed == Tryd.pinned.checked.prog.unfollowed 3))=true:=by kernel_rfl
theorem j11:((Rows.lazyResolvesRow.recurses == Tryd.pinned.checked.prog.recurses 3))=true:=by kernel_rfl
theorem j12:((Rows.lazyResolvesRow.named == Tryd.pinned.checked.prog.varsNamed 3))=true:=by kernel_rfl
theorem j13:((Rows.lazyResolvesRow.maps == (Tryd.f3.params.toList ++ Rows.lazyResolvesSpec.plain.varTypes Tryd.pinned.checked.prog).any (Tryd.pinned.checked.prog.mapsRec ·)))=true:=by kernel_rfl
theorem j14:((Rows.lazyResolvesRow.ifaces == (Tryd.f3.params.toList ++ Rows.lazyResolvesSpec.plain.varTypes Tryd.pinned.checked.prog).any (Tryd.pinned.checked.prog.ifacesRec ·)))=true:=by kernel_rfl
theorem j15:((Rows.lazyResolvesRow.mapsOut == Tryd.pinned.checked.prog.mapsAmong Tryd.f3.resultTypes.toList))=true:=by kernel_rfl
theorem j16:((Rows.lazyResolvesRow.loops == (Tryd.f3.params.toList ++ Rows.lazyResolvesSpec.plain.varTypes Tryd.pinned.checked.prog).any (Tryd.pinned.checked.prog.loopsFrom ·)))=true:=by kernel_rfl
theorem j17:((Rows.lazyResolvesRow.wideKeys == (Tryd.f3.params.toList ++ Rows.lazyResolvesSpec.plain.varTypes Tryd.pinned.checked.prog ++ Tryd.f3.resultTypes.toList).any (Tryd.pinned.checked.prog.wideKeysFrom ·)))=true:=by kernel_rfl
theorem j18:(Rows.lazyResolvesSpec.vars.all (Tryd.pinned.checked.prog.varReadable ·))=true:=by kernel_rfl
theorem j19:(Tryd.f3.resultTypes.all (fun t=>Tryd.pinned.checked.prog.readableRec t && decide (t<Tryd.pinned.checked.prog.types.size)))=true:=by kernel_rfl
theorem j20:((Rows.lazyResolvesRow.ifacesOut == Tryd.f3.resultTypes.toList.any (Tryd.pinned.checked.prog.ifacesRec ·)))=true:=by kernel_rfl
theorem j21:((Rows.lazyResolvesRow.loopsOut == Tryd.f3.resultTypes.toList.any (Tryd.pinned.checked.prog.loopsFrom ·)))=true:=by kernel_rfl
theorem j22:((Rows.lazyResolvesRow.plainKeys == Tryd.pinned.checked.prog.plainKeys))=true:=by kernel_rfl
theorem j23:(Rows.lazyResolvesRow.shortTexts.isNone)=true:=by kernel_rfl
theorem j24:(Tryd.pinned.checked.prog.stopsHeard)=true:=by kernel_rfl
theorem j25:(Tryd.pinned.checked.prog.mayEnter)=true:=by kernel_rfl
theorem j26:((Rows.lazyResolvesRow.lifted == Tryd.pinned.checked.prog.liftsFinal))=true:=by kernel_rfl
theorem j27:((Tryd.pinned.checked.prog.make == some Rows.lazyResolvesRow.make))=true:=by kernel_rfl
theorem j28:((Rows.lazyResolvesRow.kinds == (if Rows.lazyResolvesRow.domain.isEmpty then [] else Tryd.f3.params.toList.map fun t=>match Tryd.pinned.checked.prog.underlying t with|some (.int k)=>some k|_=>none)))=true:=by kernel_rfl
theorem j29:((Rows.lazyResolvesRow.pinned == Rows.lazyResolvesRow.pinnedBy))=true:=by kernel_rfl
theorem j30:((Rows.lazyResolvesRow.veiled == (Tryd.f3.params.toList ++ Rows.lazyResolvesSpec.plain.varTypes Tryd.pinned.checked.prog ++ Tryd.f3.resultTypes.toList).any (Tryd.pinned.checked.prog.veiledRec ·)))=true:=by kernel_rfl
theorem j31:(Rows.lazyResolvesRow.veiledFits Tryd.pinned.checked.prog Tryd.f3.params.toList (Tryd.f3.params.toList ++ Rows.lazyResolvesSpec.plain.varTypes Tryd.pinned.checked.prog ++ Tryd.f3.resultTypes.toList))=true:=by kernel_rfl
theorem closed:joinedFacts Tryd.pinned.checked.prog 3 Tryd.f3 Rows.lazyResolvesSpec Rows.lazyResolvesRow=true:=by
 unfold joinedFacts
 exact (both (both (both (both (both (both (both (both (both (both (both (both (both (both (both (both (both (both (both (both (both (both (both (both (both (both (both (both (both (both (both j0 j1) j2) j3) j4) j5) j6) j7) j8) j9) j10) j11) j12) j13) j14) j15) j16) j17) j18) j19) j20) j21) j22) j23) j24) j25) j26) j27) j28) j29) j30) j31)
theorem over:Rows.lazyResolvesRow.holds Tryd.pinned (OpenSpec.ofChange Rows.lazyResolvesSpec):=
 OpenClaim.holds_of_wide 3 Tryd.f3 rfl rfl rfl rfl rfl rfl rfl ⟨rfl,rfl,rfl,rfl,rfl⟩ rfl rfl rfl rfl rfl (by kernel_rfl) Tryd.func3 closed
  (of_decide_eq_true (by kernel_rfl)) (by unfold Func.isWrapper; first|(rw [if_pos (by decide +kernel)]; kernel_rfl)|(rw [if_neg (by decide +kernel)]; exact ⟨rfl,rfl⟩))
  (fun os started H enc _=>lifted os started H enc)
theorem proved:Rows.LazyResolvesSaid:=over
end Go.Proofs.YtaldbipmbkapmaaDoor.lazyResolves
namespace Go.Proofs.YtaldbipmbkapmaaDoor
theorem lazyResolves_holds:Rows.LazyResolvesSaid:=lazyResolves.proved
#print axioms lazyResolves_holds
end Go.Proofs.YtaldbipmbkapmaaDoor
