/- THE ROW: MachinePieces. Conditions: none. -/
import Derived.Test.YtopifagbbmhgfaaGreatDoorL2
set_option maxRecDepth 4000
namespace Go.Proofs.YtopifagbbmhgfaaGreatDoor.V
set_option linter.unusedVariables false
set_option linter.unusedSimpArgs false
open Go Go.Abs
abbrev laidL : List (String × DataW Unit) := [("onceweb/lex.keys", Rows.laid_onceweb_lex_keys), ("onceweb/fail.sorts", Rows.laid_onceweb_fail_sorts), ("onceweb/fail.values", Rows.laid_onceweb_fail_values)]
theorem walk6 (x0:List api_Instr) (x1:List api_Outcome) (x2:Int) {W:World} (hL:laidMetH Tryz.prog laidL W) {v0 v1 v2:Value} (h0:RepC (K:=K) (Old W) W (obH []) (fun _=>⟨0,0⟩) (.d (.sl .api_Instr x0)) v0) (h1:RepC (K:=K) (Old W) W (obH []) (fun _=>⟨0,0⟩) (.d (.sl .api_Outcome x1)) v1) (h2:RepC (K:=K) (Old W) W (obH []) (fun _=>⟨0,0⟩) (.d (.int .i64 x2)) v2):
  Calls Tryz.prog 6 #[v0,v1,v2] W fun e w'=>e=.returned (.bool true)∧Go.RowKit.Below W.heap.size W w':=by
 refine ((gives6 x0 x1 x2).callsG (vs:=[v0,v1,v2]) (glob_of hL) ?_).mono ?_
 ·simp only [RepCs]
  exact ⟨v0,_,rfl,h0,⟨v1,_,rfl,h1,⟨v2,_,rfl,h2,rfl⟩⟩⟩
 ·rintro e w' ⟨v,rfl,⟨c,H',F',pl',own,⟨rfl,rfl⟩,hr⟩,hb⟩
  obtain ⟨_,hr⟩:=hr
  have hr:=(repC_bool (K:=K) (b:=true)).1 hr
  exact ⟨by rw [hr],hb⟩
end Go.Proofs.YtopifagbbmhgfaaGreatDoor.V
namespace Go.Proofs.YtopifagbbmhgfaaGreatDoor.machinePieces
open Go.ChangeShapes Go.WideShapes Go.ChangeAt Go.RowKit Go.Abs Go.Proofs.YtopifagbbmhgfaaGreatDoor.V
open Go.ChangeMaps (open_string shut_string)
theorem own:ownKnob Tryz.prog.godebug=none:=by kernel_rfl
theorem laidOut:laidOutB Tryz.prog=true:=by kernel_rfl
theorem door_met (os:Os) (args:Array Value):laidMetH Tryz.prog laidL ((World.doorLaid Tryz.prog 400 os).forCall (fun _ _=>0) ⟨#[],args,[]⟩).memory:=
 laidMetH_of_parts3 (fuel:=8) (laidMet_of_run' 8 (by kernel_rfl) (by kernel_rfl)) (by kernel_rfl) (by kernel_rfl)
set_option maxRecDepth 100000 in
theorem lifted (os:Os) (started:os.Started) (H:Type) (enc:TypeId×Value→H):
  ReturnsInHanded {} Tryz.checked os 6 .any (fun w args=>(Rows.machinePiecesSpec.pre enc Tryz.prog Tryz.f6 [] false w args∧laidMetH Tryz.prog laidL w)∧sizedMet enc Tryz.prog Tryz.f6 (OpenSpec.ofChange Rows.machinePiecesSpec) false w args)
   (Rows.machinePiecesSpec.post enc Tryz.prog Tryz.f6 false true false false):=by
 refine returnsInHanded_of_change_and (C:=Tryz.checked) (X:=fun w _=>laidMetH Tryz.prog laidL w) (fun _ _ _ hh h=>h.of_heap hh) own started (by kernel_rfl) Tryz.func6
  (ChangeSpec.witness_shaped (enc:=enc) (C:=Tryz.checked) (os:=os) (X:=fun w _=>laidMetH Tryz.prog laidL w) false (World.doorLaid Tryz.prog 400 os) #[.slice none 0 0,.slice none 0 0,.int .i64 0] 8 rfl (World.shaped_of_RefB (by kernel_rfl) (by kernel_rfl)) (by kernel_rfl) (by kernel_rfl) (by kernel_rfl) (door_met os _)) ?_
 intro W base args ds gs before hval0 hW hcnd hsz0 hL _
 have hsz:(DataW.weightsEach Tryz.prog (Tryz.f6.params.toList ++ Rows.machinePiecesSpec.plain.varTypes Tryz.prog) (ds ++ gs)).all (·≤reachBytes)=true:=hsz0
 have hval:∀(j:Nat) t v,Tryz.f6.params[j]?=some t→args[j]?=some v→Value.okWide Tryz.prog W .any base t v:=hval0
 have hW':=hW
 obtain ⟨p,q,hA0,hV,rfl,hfz,hnd⟩:=hW
 have hA:DataW.TrodAll enc Tryz.prog W 0 (fun _=>true) true Tryz.f6.params.toList args.toList ds p:=hA0
 rw [Tryz.params6] at hA hval hsz
 obtain ⟨v0,vs0,d0,ds0,p0,q0,hargs,rfl,rfl,h0,r0⟩:=trodAll_cons hA
 obtain ⟨v1,vs1,d1,ds1,p1,q1,rfl,rfl,rfl,h1,r1⟩:=trodAll_cons r0
 obtain ⟨v2,vs2,d2,ds2,p2,q2,rfl,rfl,rfl,h2,r2⟩:=trodAll_cons r1
 obtain ⟨rfl,rfl,rfl⟩:=trodAll_nil r2
 obtain rfl:args=#[v0,v1,v2]:=by cases args; simp_all
 obtain ⟨rfl,rfl⟩:=trodVars_none hV
 obtain ⟨ad0,ln0,cp0,rfl⟩:=okWide_slice Tryz.underlying51 (hval 0 51 v0 rfl rfl)
 obtain ⟨ad1,ln1,cp1,rfl⟩:=okWide_slice Tryz.underlying87 (hval 1 87 v1 rfl rfl)
 obtain ⟨n2,rfl⟩:=okWide_int Tryz.underlying3 (hval 2 3 v2 rfl rfl)
 have lt0:∀x∈p0,x.block<W.heap.size:=by obtain ⟨m,hm⟩:=h0; exact DataW.trod_lt m _ _ _ hm
 have lt1:∀x∈p1,x.block<W.heap.size:=by obtain ⟨m,hm⟩:=h1; exact DataW.trod_lt m _ _ _ hm
 have lt2:∀x∈p2,x.block<W.heap.size:=by obtain ⟨m,hm⟩:=h2; exact DataW.trod_lt m _ _ _ hm
 obtain ⟨y0,⟨x0,rfl⟩,e0⟩:=open_one (K:=K) o51 h0 hsz (j:=0) rfl rfl
 obtain ⟨y1,⟨x1,rfl⟩,e1⟩:=open_one (K:=K) o87 h1 hsz (j:=1) rfl rfl
 obtain ⟨y2,⟨x2,rfl⟩,e2⟩:=open_one (K:=K) o3 h2 hsz (j:=2) rfl rfl
 clear hA0 hval0 hsz0 hsz
 refine (walk6 x0 x1 x2 (W:=W) hL (show RepD K (Old W) W (.sl .api_Instr x0) (.slice ad0 ln0 cp0) from e0.1) (show RepD K (Old W) W (.sl .api_Outcome x1) (.slice ad1 ln1 cp1) from e1.1) (show RepD K (Old W) W (.int .i64 x2) (.int .i64 n2) from e2.1)).mono fun e W' ⟨he,bel⟩=>?_
 subst he
 exact ⟨_,rfl,_,_,_,[],_,[],hW',trodAll_mk1 (shut_bool Tryz.underlying4 _),(trodAll_cons_mk (Below.trod laidOut (by kernel_rfl) (of_decide_eq_true (by kernel_rfl)) h0 bel lt0) (trodAll_cons_mk (Below.trod laidOut (by kernel_rfl) (of_decide_eq_true (by kernel_rfl)) h1 bel lt1) (trodAll_cons_mk (Below.trod laidOut (by kernel_rfl) (of_decide_eq_true (by kernel_rfl)) h2 bel lt2) trodAll_mk0))),rfl,bel.frame _,fun h=>by cases h⟩
theorem both {a b:Bool} (h:a=true) (k:b=true):(a && b)=true:=by rw [h,k]; rfl
theorem j0:(Rows.machinePiecesRow.wf (OpenSpec.ofChange Rows.machinePiecesSpec))=true:=by kernel_rfl
theorem j1:(laidOutB Tryz.pinned.checked.prog)=true:=by kernel_rfl
theorem j2:(mapsRowed Tryz.pinned.checked.prog)=true:=by kernel_rfl
theorem j3:(Tryz.f6.params.all (Tryz.pinned.checked.prog.readableRec ·))=true:=by kernel_rfl
theorem j4:(namedTie Tryz.pinned.checked.prog Rows.machinePiecesRow.named Rows.machinePiecesSpec.vars)=true:=by kernel_rfl
theorem j5:((Rows.machinePiecesRow.stops == []))=true:=by kernel_rfl
theorem j6:((Tryz.pinned.checked.prog.stops == []))=true:=by kernel_rfl
theorem j7:((Rows.machinePiecesRow.knobs == []))=true:=by kernel_rfl
theorem j8:((Tryz.pinned.checked.prog.stopKnobs == []))=true:=by kernel_rfl
theorem j9:((Rows.machinePiecesRow.inPlace == Tryz.pinned.checked.prog.inPlace 6))=true:=by kernel_rfl
theorem j10:((Rows.machinePiecesRow.unfollowed == Tryz.pinned.checked.prog.unfollowed 6))=true:=by kernel_rfl
theorem j11:((Rows.machinePiecesRow.recurses == Tryz.pinned.checked.prog.recurses 6))=true:=by kernel_rfl
theorem j12:((Rows.machinePiecesRow.named == Tryz.pinned.checked.prog.varsNamed 6))=true:=by kernel_rfl
theorem j13:((Rows.machinePiecesRow.maps == (Tryz.f6.params.toList ++ Rows.machinePiecesSpec.plain.varTypes Tryz.pinned.checked.prog).any (Tryz.pinned.checked.prog.mapsRec ·)))=true:=by kernel_rfl
theorem j14:((Rows.machinePiecesRow.ifaces == (Tryz.f6.params.toList ++ Rows.machinePiecesSpec.plain.varTypes Tryz.pinned.checked.prog).any (Tryz.pinned.checked.prog.ifacesRec ·)))=true:=by kernel_rfl
theorem j15:((Rows.machinePiecesRow.mapsOut == Tryz.pinned.checked.prog.mapsAmong Tryz.f6.resultTypes.toList))=true:=by kernel_rfl
theorem j16:((Rows.machinePiecesRow.loops == (Tryz.f6.params.toList ++ Rows.machinePiecesSpec.plain.varTypes Tryz.pinned.checked.prog).any (Tryz.pinned.checked.prog.loopsFrom ·)))=true:=by kernel_rfl
theorem j17:((Rows.machinePiecesRow.wideKeys == (Tryz.f6.params.toList ++ Rows.machinePiecesSpec.plain.varTypes Tryz.pinned.checked.prog ++ Tryz.f6.resultTypes.toList).any (Tryz.pinned.checked.prog.wideKeysFrom ·)))=true:=by kernel_rfl
theorem j18:(Rows.machinePiecesSpec.vars.all (Tryz.pinned.checked.prog.varReadable ·))=true:=by kernel_rfl
theorem j19:(Tryz.f6.resultTypes.all (fun t=>Tryz.pinned.checked.prog.readableRec t && decide (t<Tryz.pinned.checked.prog.types.size)))=true:=by kernel_rfl
theorem j20:((Rows.machinePiecesRow.ifacesOut == Tryz.f6.resultTypes.toList.any (Tryz.pinned.checked.prog.ifacesRec ·)))=true:=by kernel_rfl
theorem j21:((Rows.machinePiecesRow.loopsOut == Tryz.f6.resultTypes.toList.any (Tryz.pinned.checked.prog.loopsFrom ·)))=true:=by kernel_rfl
theorem j22:((Rows.machinePiecesRow.plainKeys == Tryz.pinned.checked.prog.plainKeys))=true:=by kernel_rfl
theorem j23:(Rows.machinePiecesRow.shortTexts.isNone)=true:=by kernel_rfl
theorem j24:(Tryz.pinned.checked.prog.stopsHeard)=true:=by kernel_rfl
theorem j25:(Tryz.pinned.checked.prog.mayEnter)=true:=by kernel_rfl
theorem j26:((Rows.machinePiecesRow.lifted == Tryz.pinned.checked.prog.liftsFinal))=true:=by kernel_rfl
theorem j27:((Tryz.pinned.checked.prog.make == some Rows.machinePiecesRow.make))=true:=by kernel_rfl
theorem j28:((Rows.machinePiecesRow.kinds == (if Rows.machinePiecesRow.domain.isEmpty then [] else Tryz.f6.params.toList.map fun t=>match Tryz.pinned.checked.prog.underlying t with|some (.int k)=>some k|_=>none)))=true:=by kernel_rfl
theorem j29:((Rows.machinePiecesRow.pinned == Rows.machinePiecesRow.pinnedBy))=true:=by kernel_rfl
theorem j30:((Rows.machinePiecesRow.veiled == (Tryz.f6.params.toList ++ Rows.machinePiecesSpec.plain.varTypes Tryz.pinned.checked.prog ++ Tryz.f6.resultTypes.toList).any (Tryz.pinned.checked.prog.veiledRec ·)))=true:=by kernel_rfl
theorem j31:(Rows.machinePiecesRow.veiledFits Tryz.pinned.checked.prog Tryz.f6.params.toList (Tryz.f6.params.toList ++ Rows.machinePiecesSpec.plain.varTypes Tryz.pinned.checked.prog ++ Tryz.f6.resultTypes.toList))=true:=by kernel_rfl
theorem closed:joinedFacts Tryz.pinned.checked.prog 6 Tryz.f6 Rows.machinePiecesSpec Rows.machinePiecesRow=true:=by
 unfold joinedFacts
 exact (both (both (both (both (both (both (both (both (both (both (both (both (both (both (both (both (both (both (both (both (both (both (both (both (both (both (both (both (both (both (both j0 j1) j2) j3) j4) j5) j6) j7) j8) j9) j10) j11) j12) j13) j14) j15) j16) j17) j18) j19) j20) j21) j22) j23) j24) j25) j26) j27) j28) j29) j30) j31)
theorem over:Rows.machinePiecesRow.holds Tryz.pinned (OpenSpec.ofChange Rows.machinePiecesSpec):=
 OpenClaim.holds_of_wide 6 Tryz.f6 rfl rfl rfl rfl rfl rfl rfl ⟨rfl,rfl,rfl,rfl,rfl⟩ rfl rfl rfl rfl rfl (by kernel_rfl) Tryz.func6 closed
  (of_decide_eq_true (by kernel_rfl)) (by unfold Func.isWrapper; first|(rw [if_pos (by decide +kernel)]; kernel_rfl)|(rw [if_neg (by decide +kernel)]; exact ⟨rfl,rfl⟩))
  (fun os started H enc _=>lifted os started H enc)
theorem proved:Rows.MachinePiecesSaid:=over
end Go.Proofs.YtopifagbbmhgfaaGreatDoor.machinePieces
namespace Go.Proofs.YtopifagbbmhgfaaGreatDoor
theorem machinePieces_holds:Rows.MachinePiecesSaid:=machinePieces.proved
#print axioms machinePieces_holds
end Go.Proofs.YtopifagbbmhgfaaGreatDoor
