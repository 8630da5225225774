/- THE ROW: EvalLiterals. Conditions: none. -/
import Derived.Test.YtikcopbjconkfaaDoorL2
set_option maxRecDepth 4000
namespace Go.Proofs.YtikcopbjconkfaaDoor.V
set_option linter.unusedVariables false
set_option linter.unusedSimpArgs false
open Go Go.Abs
abbrev laidL : List (String × DataW Unit) := [("onceweb/lex.keys", Rows.laid_onceweb_lex_keys), ("onceweb/fail.sorts", Rows.laid_onceweb_fail_sorts), ("onceweb/fail.values", Rows.laid_onceweb_fail_values)]
theorem walk10 (x0 : List api_Atom) {W : World} (hL : laidMetH Tryd.prog laidL W) {v0 : Value} (h0 : RepC (K := K) (Old W) W (obH []) (fun _ => ⟨0, 0⟩) (.d (.sl .api_Atom x0)) v0) :
    Calls Tryd.prog 10 #[v0] W fun e w' => e = .returned (.bool true) ∧ Go.RowKit.Below W.heap.size W w' := by
  refine ((gives10 x0).callsG (vs := [v0]) (glob_of hL) ?_).mono ?_
  · simp only [RepCs]
    exact ⟨v0, _, rfl, h0, rfl⟩
  · rintro e w' ⟨v, rfl, ⟨c, H', F', pl', own, ⟨rfl, rfl⟩, hr⟩, hb⟩
    obtain ⟨_, hr⟩ := hr
    have hr := (repC_bool (K := K) (b := true)).1 hr
    exact ⟨by rw [hr], hb⟩
end Go.Proofs.YtikcopbjconkfaaDoor.V

namespace Go.Proofs.YtikcopbjconkfaaDoor.evalLiterals
open Go.ChangeShapes Go.WideShapes Go.ChangeAt Go.RowKit Go.Abs Go.Proofs.YtikcopbjconkfaaDoor.V
open Go.ChangeMaps (open_string shut_string)
theorem own : ownKnob Tryd.prog.godebug = none := by kernel_rfl
theorem laidOut : laidOutB Tryd.prog = true := by kernel_rfl
/-- The door's own heap meets the condition. -/
theorem door_met (os : Os) (args : Array Value) : laidMetH Tryd.prog laidL ((World.doorLaid Tryd.prog 400 os).forCall (fun _ _ => 0) ⟨#[], args, []⟩).memory :=
  laidMetH_of_parts3 (fuel := 8) (laidMet_of_run' 8 (by kernel_rfl) (by kernel_rfl)) (by kernel_rfl) (by kernel_rfl)
set_option maxRecDepth 100000 in
theorem lifted (os : Os) (started : os.Started) (H : Type) (enc : TypeId × Value → H) :
    ReturnsInHanded {} Tryd.checked os 10 .any (fun w args => (Rows.evalLiteralsSpec.pre enc Tryd.prog Tryd.f10 [] false w args ∧ laidMetH Tryd.prog laidL w) ∧ sizedMet enc Tryd.prog Tryd.f10 (OpenSpec.ofChange Rows.evalLiteralsSpec) false w args)
      (Rows.evalLiteralsSpec.post enc Tryd.prog Tryd.f10 false true false false) := by
  refine returnsInHanded_of_change_and (C := Tryd.checked) (X := fun w _ => laidMetH Tryd.prog laidL w) (fun _ _ _ hh h => h.of_heap hh) own started (by kernel_rfl) Tryd.func10
    (ChangeSpec.witness_shaped (enc := enc) (C := Tryd.checked) (os := os) (X := fun w _ => laidMetH Tryd.prog laidL w) false (World.doorLaid Tryd.prog 400 os) #[.slice none 0 0] 8 rfl (World.shaped_of_RefB (by kernel_rfl) (by kernel_rfl)) (by kernel_rfl) (by kernel_rfl) (by kernel_rfl) (door_met os _)) ?_
  intro W base args ds gs before hval0 hW hcnd hsz0 hL _
  have hsz : (DataW.weightsEach Tryd.prog (Tryd.f10.params.toList ++ Rows.evalLiteralsSpec.plain.varTypes Tryd.prog) (ds ++ gs)).all (· ≤ reachBytes) = true := hsz0
  have hval : ∀ (j : Nat) t v, Tryd.f10.params[j]? = some t → args[j]? = some v → Value.okWide Tryd.prog W .any base t v := hval0
  have hW' := hW
  obtain ⟨p, q, hA0, hV, rfl, hfz, hnd⟩ := hW
  have hA : DataW.TrodAll enc Tryd.prog W 0 (fun _ => true) true Tryd.f10.params.toList args.toList ds p := hA0
  rw [Tryd.params10] at hA hval hsz
  obtain ⟨v0, vs0, d0, ds0, p0, q0, hargs, rfl, rfl, h0, r0⟩ := trodAll_cons hA
  obtain ⟨rfl, rfl, rfl⟩ := trodAll_nil r0
  obtain rfl : args = #[v0] := by cases args; simp_all
  obtain ⟨rfl, rfl⟩ := trodVars_none hV
  obtain ⟨ad0, ln0, cp0, rfl⟩ := okWide_slice Tryd.underlying59 (hval 0 59 v0 rfl rfl)
  have lt0 : ∀ x ∈ p0, x.block < W.heap.size := by obtain ⟨m, hm⟩ := h0; exact DataW.trod_lt m _ _ _ hm
  obtain ⟨y0, ⟨x0, rfl⟩, e0⟩ := open_one (K := K) o59 h0 hsz (j := 0) rfl rfl
  clear hA0 hval0 hsz0 hsz
  refine (walk10 x0 (W := W) hL (show RepD K (Old W) W (.sl .api_Atom x0) (.slice ad0 ln0 cp0) from e0.1)).mono fun e W' ⟨he, bel⟩ => ?_
  subst he
  exact ⟨_, rfl, _, _, _, [], _, [], hW', trodAll_mk1 (shut_bool Tryd.underlying4 _), (trodAll_cons_mk (Below.trod laidOut (by kernel_rfl) (of_decide_eq_true (by kernel_rfl)) h0 bel lt0) trodAll_mk0), rfl, bel.frame _, fun h => by cases h⟩
theorem over : Rows.evalLiteralsRow.holds Tryd.pinned (OpenSpec.ofChange Rows.evalLiteralsSpec) :=
  OpenClaim.holds_of_wide 10 Tryd.f10 rfl rfl rfl rfl rfl rfl rfl ⟨rfl, rfl, rfl, rfl, rfl⟩ rfl rfl rfl rfl rfl (by kernel_rfl) Tryd.func10 (by kernel_rfl)
    (of_decide_eq_true (by kernel_rfl)) (by unfold Func.isWrapper; first | (rw [if_pos (by decide +kernel)]; kernel_rfl) | (rw [if_neg (by decide +kernel)]; exact ⟨rfl, rfl⟩))
    (fun os started H enc _ => lifted os started H enc)
theorem proved : Rows.EvalLiteralsSaid := over
end Go.Proofs.YtikcopbjconkfaaDoor.evalLiterals

namespace Go.Proofs.YtikcopbjconkfaaDoor
/-- The row, under a short name. -/
theorem evalLiterals_holds : Rows.EvalLiteralsSaid := evalLiterals.proved
#print axioms evalLiterals_holds
end Go.Proofs.YtikcopbjconkfaaDoor
