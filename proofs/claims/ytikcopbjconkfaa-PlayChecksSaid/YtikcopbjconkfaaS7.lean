/- THE ROW: PlayChecks. Conditions: none. -/
import Derived.Test.YtikcopbjconkfaaS6
import Derived.Test.YtikcopbjconkfaaA27
import Derived.Test.YtikcopbjconkfaaRows
namespace Go.Proofs.Ytikcopbjconkfaa.V
set_option linter.unusedVariables false
set_option linter.unusedSimpArgs false
open Go Go.Abs

theorem o3 : Opens K 3 fun ds => ∃ n, ds = [.int .i64 n] := opens_int laws (i := ⟨.int .i64, 1, 8, [.int .i64]⟩) (by kernel_rfl) rfl
theorem o32 : Opens K 32 fun ds => ∃ n, ds = [.int .u64 n] := opens_int laws (i := ⟨.int .u64, 1, 8, [.int .u64]⟩) (by kernel_rfl) rfl
theorem o4 : Opens K 4 fun ds => ∃ b, ds = [.bool b] := opens_bool laws (i := ⟨.bool, 1, 1, [.bool]⟩) (by kernel_rfl) rfl
theorem o9 : Opens K 9 fun ds => ∃ s, ds = [.str s] := opens_str laws (i := ⟨.str, 1, 16, [.str]⟩) (by kernel_rfl) rfl

theorem o99 : Opens K 99 fun ds => ∃ x : api_Op, ds = enc .api_Op x :=
  (opens_struct laws (i := ⟨.strct [(3, 0), (3, 1), (3, 2), (9, 3)], 4, 40, [.int .i64, .int .i64, .int .i64, .str]⟩) (by kernel_rfl) rfl (.cons o3 (.cons o3 (.cons o3 (.cons o9 .nil)))) (by kernel_rfl)).weaken (by
    rintro ds ⟨_, _, rfl, ⟨a, rfl⟩, _, _, rfl, ⟨b, rfl⟩, _, _, rfl, ⟨c, rfl⟩, _, _, rfl, ⟨d, rfl⟩, rfl⟩
    exact ⟨⟨a, b, c, d⟩, rfl⟩)

theorem o23 : Opens K 23 fun ds => ∃ xs : List api_Op, ds = [.sl .api_Op xs] :=
  opens_slice (c := .api_Op) laws (i := ⟨.slice 99, 1, 24, [.nils]⟩) (j := ⟨.strct [(3, 0), (3, 1), (3, 2), (9, 3)], 4, 40, [.int .i64, .int .i64, .int .i64, .str]⟩) (by kernel_rfl) rfl (by kernel_rfl) o99 (fun _ h => h) rfl rfl (by decide)

theorem o33 : Opens K 33 fun ds => ∃ xs : List Int, ds = [.sl .int xs] :=
  opens_slice (c := .int) laws (i := ⟨.slice 3, 1, 24, [.nils]⟩) (j := ⟨.int .i64, 1, 8, [.int .i64]⟩) (by kernel_rfl) rfl (by kernel_rfl) o3 (fun _ h => h) rfl rfl (by decide)

theorem o25 : Opens K 25 fun ds => ∃ x : api_Policy, ds = enc .api_Policy x :=
  (opens_struct laws (i := ⟨.strct [(3, 0), (3, 1), (3, 2), (3, 3)], 4, 32, [.int .i64, .int .i64, .int .i64, .int .i64]⟩) (by kernel_rfl) rfl (.cons o3 (.cons o3 (.cons o3 (.cons o3 .nil)))) (by kernel_rfl)).weaken (by
    rintro ds ⟨_, _, rfl, ⟨a, rfl⟩, _, _, rfl, ⟨b, rfl⟩, _, _, rfl, ⟨c, rfl⟩, _, _, rfl, ⟨d, rfl⟩, rfl⟩
    exact ⟨⟨a, b, c, d⟩, rfl⟩)

theorem o27 : Opens K 27 fun ds => ∃ x : api_Closer, ds = enc .api_Closer x :=
  (opens_struct laws (i := ⟨.strct [(3, 0), (9, 1)], 2, 24, [.int .i64, .str]⟩) (by kernel_rfl) rfl (.cons o3 (.cons o9 .nil)) (by kernel_rfl)).weaken (by
    rintro ds ⟨_, _, rfl, ⟨a, rfl⟩, _, _, rfl, ⟨b, rfl⟩, rfl⟩
    exact ⟨⟨a, b⟩, rfl⟩)

theorem o29 : Opens K 29 fun ds => ∃ x : api_Provider, ds = enc .api_Provider x :=
  (opens_struct laws (i := ⟨.strct [(9, 0), (23, 1), (4, 2), (25, 3), (27, 7)], 9, 104, [.str, .nils, .bool, .int .i64, .int .i64, .int .i64, .int .i64, .int .i64, .str]⟩) (by kernel_rfl) rfl (.cons o9 (.cons o23 (.cons o4 (.cons o25 (.cons o27 .nil))))) (by kernel_rfl)).weaken (by
    rintro ds ⟨_, _, rfl, ⟨a, rfl⟩, _, _, rfl, ⟨b, rfl⟩, _, _, rfl, ⟨c, rfl⟩, _, _, rfl, ⟨d, rfl⟩, _, _, rfl, ⟨e, rfl⟩, rfl⟩
    exact ⟨⟨a, b, c, d, e⟩, rfl⟩)

theorem o31 : Opens K 31 fun ds => ∃ x : api_Act, ds = enc .api_Act x :=
  (opens_struct laws (i := ⟨.strct [(3, 0), (3, 1), (3, 2), (9, 3), (9, 4), (29, 5)], 14, 160, [.int .i64, .int .i64, .int .i64, .str, .str, .str, .nils, .bool, .int .i64, .int .i64, .int .i64, .int .i64, .int .i64, .str]⟩) (by kernel_rfl) rfl
    (.cons o3 (.cons o3 (.cons o3 (.cons o9 (.cons o9 (.cons o29 .nil)))))) (by kernel_rfl)).weaken (by
    rintro ds ⟨_, _, rfl, ⟨a, rfl⟩, _, _, rfl, ⟨b, rfl⟩, _, _, rfl, ⟨c, rfl⟩, _, _, rfl, ⟨d, rfl⟩, _, _, rfl, ⟨e, rfl⟩, _, _, rfl, ⟨f, rfl⟩, rfl⟩
    exact ⟨⟨a, b, c, d, e, f⟩, rfl⟩)

theorem o35 : Opens K 35 fun ds => ∃ x : api_Rule, ds = enc .api_Rule x :=
  (opens_struct laws (i := ⟨.strct [(3, 0), (32, 1), (33, 2)], 3, 40, [.int .i64, .int .u64, .nils]⟩) (by kernel_rfl) rfl (.cons o3 (.cons o32 (.cons o33 .nil))) (by kernel_rfl)).weaken (by
    rintro ds ⟨_, _, rfl, ⟨a, rfl⟩, _, _, rfl, ⟨b, rfl⟩, _, _, rfl, ⟨c, rfl⟩, rfl⟩
    exact ⟨⟨a, b, c⟩, rfl⟩)

theorem walk3 (a : api_Act) (r : api_Rule) {W : World} {v0 v1 : Value} (h0 : RepC (K := K) (Old W) W (obH []) (fun _ => ⟨0, 0⟩) (actC a) v0) (h1 : RepC (K := K) (Old W) W (obH []) (fun _ => ⟨0, 0⟩) (ruleC r) v1) :
    Calls Try.prog 3 #[v0, v1] W fun e w' => e = .returned (.bool true) ∧ Go.RowKit.Below W.heap.size W w' := by
  refine ((gives3 a r).calls (fun _ => rfl) (vs := [v0, v1]) ?_).mono ?_
  · simp only [RepCs]
    exact ⟨v0, _, rfl, h0, v1, _, rfl, h1, rfl⟩
  · rintro e w' ⟨v, rfl, ⟨c, H', F', pl', own, ⟨rfl, rfl⟩, hr⟩, hb⟩
    obtain ⟨_, hr⟩ := hr
    have hr := (repC_bool (K := K) (b := true)).1 hr
    exact ⟨by rw [hr], hb⟩
end Go.Proofs.Ytikcopbjconkfaa.V

namespace Go.Proofs.Ytikcopbjconkfaa.playChecks
open Go.ChangeShapes Go.WideShapes Go.ChangeAt Go.RowKit Go.Abs Go.Proofs.Ytikcopbjconkfaa.V
open Go.ChangeMaps (open_string shut_string)
theorem own : ownKnob Try.prog.godebug = none := by kernel_rfl
theorem laidOut : laidOutB Try.prog = true := by kernel_rfl
set_option maxRecDepth 100000 in
theorem lifted (os : Os) (started : os.Started) (H : Type) (enc : TypeId × Value → H) :
    ReturnsInHanded {} Try.checked os 3 .any (Rows.playChecksSpec.pre6 enc Try.prog Try.f3 Rows.playChecksRow.domain false) (Rows.playChecksSpec.post enc Try.prog Try.f3 false true false false) := by
  refine returnsInHanded_of_change_sized (C := Try.checked) own started (by kernel_rfl) Try.func3
    (ChangeSpec.witness6 (enc := enc) (C := Try.checked) false ⟨#[], #[.agg #[.int .i64 0, .int .i64 0, .int .i64 0, .string ByteArray.empty, .string ByteArray.empty, .string ByteArray.empty, .slice none 0 0, .bool false, .int .i64 0, .int .i64 0, .int .i64 0, .int .i64 0, .int .i64 0, .string ByteArray.empty], .agg #[.int .i64 0, .int .u64 0, .slice none 0 0]], []⟩ 8 (by kernel_rfl) (by kernel_rfl) (by kernel_rfl) (by kernel_rfl)) ?_
  intro W base args ds gs before hval0 hW hcnd hsz0 _
  have hsz : (DataW.weightsEach Try.prog (Try.f3.params.toList ++ Rows.playChecksSpec.plain.varTypes Try.prog) (ds ++ gs)).all (· ≤ reachBytes) = true := hsz0
  have hval : ∀ (j : Nat) t v, Try.f3.params[j]? = some t → args[j]? = some v → Value.okWide Try.prog W .any base t v := hval0
  have hW' := hW
  obtain ⟨p, q, hA0, hV, rfl, hfz, hnd⟩ := hW
  have hA : DataW.TrodAll enc Try.prog W 0 (fun _ => true) true Try.f3.params.toList args.toList ds p := hA0
  rw [Try.params3] at hA hval hsz
  obtain ⟨v0, vs0, d0, ds0, p0, q0, hargs, rfl, rfl, h0, r0⟩ := trodAll_cons hA
  obtain ⟨v1, vs1, d1, ds1, p1, q1, rfl, rfl, rfl, h1, r1⟩ := trodAll_cons r0
  obtain ⟨rfl, rfl, rfl⟩ := trodAll_nil r1
  obtain rfl : args = #[v0, v1] := by cases args; simp_all
  obtain ⟨rfl, rfl⟩ := trodVars_none hV
  obtain ⟨c0, rfl, _⟩ := okWide_struct Try.underlying31 (hval 0 31 v0 rfl rfl)
  obtain ⟨c1, rfl, _⟩ := okWide_struct Try.underlying35 (hval 1 35 v1 rfl rfl)
  have lt0 : ∀ x ∈ p0, x.block < W.heap.size := by obtain ⟨m, hm⟩ := h0; exact DataW.trod_lt m _ _ _ hm
  have lt1 : ∀ x ∈ p1, x.block < W.heap.size := by obtain ⟨m, hm⟩ := h1; exact DataW.trod_lt m _ _ _ hm
  obtain ⟨x0, ⟨a, rfl⟩, e0⟩ := open_one (K := K) o31 h0 hsz (j := 0) rfl rfl
  obtain ⟨x1, ⟨r, rfl⟩, e1⟩ := open_one (K := K) o35 h1 hsz (j := 1) rfl rfl
  clear hA0 hval0 hsz0 hsz
  refine (walk3 a r (W := W) ⟨c0.toList, by simp, e0.cells⟩ ⟨c1.toList, by simp, e1.cells⟩).mono fun e W' ⟨he, bel⟩ => ?_
  subst he
  exact ⟨_, rfl, _, _, _, [], _, [], hW', trodAll_mk1 (shut_bool Try.underlying4 _), trodAll_cons_mk (Below.trod laidOut (by kernel_rfl) (of_decide_eq_true (by kernel_rfl)) h0 bel lt0) (trodAll_cons_mk (Below.trod laidOut (by kernel_rfl) (of_decide_eq_true (by kernel_rfl)) h1 bel lt1) trodAll_mk0), rfl, bel.frame _, fun h => by cases h⟩
theorem over : Rows.playChecksRow.holds Try.pinned (OpenSpec.ofChange Rows.playChecksSpec) :=
  OpenClaim.holds_of_wide 3 Try.f3 rfl rfl rfl rfl rfl rfl rfl ⟨rfl, rfl, rfl, rfl, rfl⟩ rfl rfl rfl rfl rfl (by kernel_rfl) Try.func3 (by kernel_rfl)
    (of_decide_eq_true (by kernel_rfl)) (by unfold Func.isWrapper; first | (rw [if_pos (by decide +kernel)]; kernel_rfl) | (rw [if_neg (by decide +kernel)]; exact ⟨rfl, rfl⟩))
    (fun os started H enc _ => lifted os started H enc)
theorem proved : Rows.PlayChecksSaid := over
end Go.Proofs.Ytikcopbjconkfaa.playChecks

namespace Go.Proofs.Ytikcopbjconkfaa
/-- The row, under a short name, for the claim. -/
theorem playChecks_holds : Rows.PlayChecksSaid := playChecks.proved
#print axioms playChecks_holds
end Go.Proofs.Ytikcopbjconkfaa
