/- THE ROW: EvalGatesUpto. Conditions: none. -/
import Derived.Test.YtikcopbjconkfaaDoorL2
set_option maxRecDepth 4000
namespace Go.Proofs.YtikcopbjconkfaaDoor.V
set_option linter.unusedVariables false
set_option linter.unusedSimpArgs false
open Go Go.Abs
abbrev laidL : List (String × DataW Unit) := [("onceweb/lex.keys", Rows.laid_onceweb_lex_keys), ("onceweb/fail.sorts", Rows.laid_onceweb_fail_sorts), ("onceweb/fail.values", Rows.laid_onceweb_fail_values)]
theorem walk9 (x0 : List api_Op) (x1 : List api_Known) (x2 : List ByteArray) (x3 : List ByteArray) {W : World} (hL : laidMetH Tryd.prog laidL W) {v0 v1 v2 v3 : Value} (h0 : RepC (K := K) (Old W) W (obH []) (fun _ => ⟨0, 0⟩) (.d (.sl .api_Op x0)) v0) (h1 : RepC (K := K) (Old W) W (obH []) (fun _ => ⟨0, 0⟩) (.d (.sl .api_Known x1)) v1) (h2 : RepC (K := K) (Old W) W (obH []) (fun _ => ⟨0, 0⟩) (.d (.sl .str x2)) v2) (h3 : RepC (K := K) (Old W) W (obH []) (fun _ => ⟨0, 0⟩) (.d (.sl .str x3)) v3) (hlen : (x2.length + x3.length) * 16 ≤ 140737488355328) :
    Calls Tryd.prog 9 #[v0, v1, v2, v3] W fun e w' => e = .returned (.bool true) ∧ Go.RowKit.Below W.heap.size W w' := by
  refine ((gives9 x0 x1 x2 x3 hlen).callsG (vs := [v0, v1, v2, v3]) (glob_of hL) ?_).mono ?_
  · simp only [RepCs]
    exact ⟨v0, _, rfl, h0, ⟨v1, _, rfl, h1, ⟨v2, _, rfl, h2, ⟨v3, _, rfl, h3, rfl⟩⟩⟩⟩
  · rintro e w' ⟨v, rfl, ⟨c, H', F', pl', own, ⟨rfl, rfl⟩, hr⟩, hb⟩
    obtain ⟨_, hr⟩ := hr
    have hr := (repC_bool (K := K) (b := true)).1 hr
    exact ⟨by rw [hr], hb⟩
end Go.Proofs.YtikcopbjconkfaaDoor.V

namespace Go.Proofs.YtikcopbjconkfaaDoor.evalGatesUpto
open Go.ChangeShapes Go.WideShapes Go.ChangeAt Go.RowKit Go.Abs Go.Proofs.YtikcopbjconkfaaDoor.V
open Go.ChangeMaps (open_string shut_string)
theorem own : ownKnob Tryd.prog.godebug = none := by kernel_rfl
theorem laidOut : laidOutB Tryd.prog = true := by kernel_rfl
/-- The door's own heap meets the condition. -/
theorem door_met (os : Os) (args : Array Value) : laidMetH Tryd.prog laidL ((World.doorLaid Tryd.prog 400 os).forCall (fun _ _ => 0) ⟨#[], args, []⟩).memory :=
  laidMetH_of_parts3 (fuel := 8) (laidMet_of_run' 8 (by kernel_rfl) (by kernel_rfl)) (by kernel_rfl) (by kernel_rfl)
theorem wit (os : Os) {H : Type} (enc : TypeId × Value → H) : ((DataW.whole enc Tryd.prog ((World.doorLaid Tryd.prog 400 os).forCall (fun _ _ => 0) ⟨#[], #[.slice none 0 0, .slice none 0 0, .slice none 0 0, .slice none 0 0], []⟩).memory Tryd.f9.params.toList Rows.evalGatesSpec.vars false (#[.slice none 0 0, .slice none 0 0, .slice none 0 0, .slice none 0 0] : Array Value).toList 8).map fun x => Rows.uptoSmall H (x.1 ++ x.2.1)) = some true := by kernel_rfl
set_option maxRecDepth 100000 in
theorem lifted (os : Os) (started : os.Started) (H : Type) (enc : TypeId × Value → H) (F : Stop.Interp) :
    ReturnsInHanded {} Tryd.checked os 9 .any (fun w args => ((Rows.OpenSpec.upto Rows.evalGatesSpec).pre enc Tryd.prog Tryd.f9 [] false w args ∧ laidMetH Tryd.prog laidL w) ∧ sizedMet enc Tryd.prog Tryd.f9 (Rows.OpenSpec.upto Rows.evalGatesSpec) false w args)
      (((Rows.OpenSpec.upto Rows.evalGatesSpec).at F).post enc Tryd.prog Tryd.f9 false true false false) := by
  refine returnsInHanded_of_cond_and (C := Tryd.checked) (s := (Rows.OpenSpec.upto Rows.evalGatesSpec)) (k := Rows.uptoSmall) rfl (X := fun w _ => laidMetH Tryd.prog laidL w) (fun _ _ _ hh h => h.of_heap hh) own started (by kernel_rfl) Tryd.func9
    (cond_witness (C := Tryd.checked) (os := os) (s := Rows.evalGatesSpec) (X := fun w _ => laidMetH Tryd.prog laidL w) ⟨rfl, rfl, rfl⟩ (wit os enc) rfl (World.shaped_of_RefB (by kernel_rfl) (by kernel_rfl)) (by kernel_rfl) (by kernel_rfl) (door_met os _)) ?_
  intro W base args ds gs before hval0 hW hcnd hbulk hsz0 hL _
  have hsz : (DataW.weightsEach Tryd.prog (Tryd.f9.params.toList ++ Rows.evalGatesSpec.plain.varTypes Tryd.prog) (ds ++ gs)).all (· ≤ reachBytes) = true := hsz0
  have hval : ∀ (j : Nat) t v, Tryd.f9.params[j]? = some t → args[j]? = some v → Value.okWide Tryd.prog W .any base t v := hval0
  have hW' := hW
  obtain ⟨p, q, hA0, hV, rfl, hfz, hnd⟩ := hW
  have hA : DataW.TrodAll enc Tryd.prog W 0 (fun _ => true) true Tryd.f9.params.toList args.toList ds p := hA0
  rw [Tryd.params9] at hA hval hsz
  obtain ⟨v0, vs0, d0, ds0, p0, q0, hargs, rfl, rfl, h0, r0⟩ := trodAll_cons hA
  obtain ⟨v1, vs1, d1, ds1, p1, q1, rfl, rfl, rfl, h1, r1⟩ := trodAll_cons r0
  obtain ⟨v2, vs2, d2, ds2, p2, q2, rfl, rfl, rfl, h2, r2⟩ := trodAll_cons r1
  obtain ⟨v3, vs3, d3, ds3, p3, q3, rfl, rfl, rfl, h3, r3⟩ := trodAll_cons r2
  obtain ⟨rfl, rfl, rfl⟩ := trodAll_nil r3
  obtain rfl : args = #[v0, v1, v2, v3] := by cases args; simp_all
  obtain ⟨rfl, rfl⟩ := trodVars_none hV
  obtain ⟨ad0, ln0, cp0, rfl⟩ := okWide_slice Tryd.underlying70 (hval 0 70 v0 rfl rfl)
  obtain ⟨ad1, ln1, cp1, rfl⟩ := okWide_slice Tryd.underlying71 (hval 1 71 v1 rfl rfl)
  obtain ⟨ad2, ln2, cp2, rfl⟩ := okWide_slice Tryd.underlying24 (hval 2 24 v2 rfl rfl)
  obtain ⟨ad3, ln3, cp3, rfl⟩ := okWide_slice Tryd.underlying24 (hval 3 24 v3 rfl rfl)
  have lt0 : ∀ x ∈ p0, x.block < W.heap.size := by obtain ⟨m, hm⟩ := h0; exact DataW.trod_lt m _ _ _ hm
  have lt1 : ∀ x ∈ p1, x.block < W.heap.size := by obtain ⟨m, hm⟩ := h1; exact DataW.trod_lt m _ _ _ hm
  have lt2 : ∀ x ∈ p2, x.block < W.heap.size := by obtain ⟨m, hm⟩ := h2; exact DataW.trod_lt m _ _ _ hm
  have lt3 : ∀ x ∈ p3, x.block < W.heap.size := by obtain ⟨m, hm⟩ := h3; exact DataW.trod_lt m _ _ _ hm
  obtain ⟨y0, ⟨x0, rfl⟩, e0⟩ := open_one (K := K) o70 h0 hsz (j := 0) rfl rfl
  obtain ⟨y1, ⟨x1, rfl⟩, e1⟩ := open_one (K := K) o71 h1 hsz (j := 1) rfl rfl
  obtain ⟨y2, ⟨x2, rfl⟩, e2⟩ := open_one (K := K) o24 h2 hsz (j := 2) rfl rfl
  obtain ⟨y3, ⟨x3, rfl⟩, e3⟩ := open_one (K := K) o24 h3 hsz (j := 3) rfl rfl
  clear hA0 hval0 hsz0 hsz
  have hb : Rows.uptoBulkAll ([d0, d1, d2, d3] ++ []) ≤ 1048576 := of_decide_eq_true hbulk
  simp only [List.append_nil, Rows.uptoBulkAll] at hb
  have hl2 : @List.length ByteArray x2 ≤ Rows.uptoBulk d2 := by
    have hq := bulk_len Tryd.underlying24 h2
    rw [← rep_len e2.1] at hq
    exact hq
  have hl3 : @List.length ByteArray x3 ≤ Rows.uptoBulk d3 := by
    have hq := bulk_len Tryd.underlying24 h3
    rw [← rep_len e3.1] at hq
    exact hq
  refine (walk9 x0 x1 x2 x3 (W := W) hL (show RepD K (Old W) W (.sl .api_Op x0) (.slice ad0 ln0 cp0) from e0.1) (show RepD K (Old W) W (.sl .api_Known x1) (.slice ad1 ln1 cp1) from e1.1) (show RepD K (Old W) W (.sl .str x2) (.slice ad2 ln2 cp2) from e2.1) (show RepD K (Old W) W (.sl .str x3) (.slice ad3 ln3 cp3) from e3.1) (by omega)).mono fun e W' ⟨he, bel⟩ => ?_
  subst he
  exact ⟨_, rfl, _, _, _, [], _, [], hW', trodAll_mk1 (shut_bool Tryd.underlying4 _), (trodAll_cons_mk (Below.trod laidOut (by kernel_rfl) (of_decide_eq_true (by kernel_rfl)) h0 bel lt0) (trodAll_cons_mk (Below.trod laidOut (by kernel_rfl) (of_decide_eq_true (by kernel_rfl)) h1 bel lt1) (trodAll_cons_mk (Below.trod laidOut (by kernel_rfl) (of_decide_eq_true (by kernel_rfl)) h2 bel lt2) (trodAll_cons_mk (Below.trod laidOut (by kernel_rfl) (of_decide_eq_true (by kernel_rfl)) h3 bel lt3) trodAll_mk0)))), rfl, bel.frame _, fun h => by cases h⟩
theorem over : Rows.evalGatesUptoRow.holds Tryd.pinned (Rows.OpenSpec.upto Rows.evalGatesSpec) :=
  OpenClaim.holds_of_cond 9 Tryd.f9 rfl rfl rfl rfl rfl rfl rfl ⟨rfl, rfl, rfl, rfl, rfl⟩ rfl rfl rfl rfl rfl (by kernel_rfl) Tryd.func9 (by kernel_rfl)
    (of_decide_eq_true (by kernel_rfl)) (by unfold Func.isWrapper; first | (rw [if_pos (by decide +kernel)]; kernel_rfl) | (rw [if_neg (by decide +kernel)]; exact ⟨rfl, rfl⟩))
    (fun os started H enc _ F => lifted os started H enc F)
theorem proved : Rows.EvalGatesUptoSaid := over
end Go.Proofs.YtikcopbjconkfaaDoor.evalGatesUpto

namespace Go.Proofs.YtikcopbjconkfaaDoor
/-- The row, under a short name. -/
theorem evalGatesUpto_holds : Rows.EvalGatesUptoSaid := evalGatesUpto.proved
#print axioms evalGatesUpto_holds
end Go.Proofs.YtikcopbjconkfaaDoor
