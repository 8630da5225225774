/- LEMMAS: whether a rule is right; the whole. Conditions: none. -/
import Derived.Test.YtikcopbjconkfaaS4
namespace Go.Proofs.Ytikcopbjconkfaa.V
set_option linter.unusedVariables false
set_option linter.unusedSimpArgs false
open Go Go.Abs

/-- How a rule lies. -/
abbrev ruleC (r : api_Rule) : C U := .agg [.d (.int .i64 r.gKind), .d (.int .u64 r.gSeed), .d (.sl .int r.gList)]

def badP (r : api_Rule) : Bool :=
  ((notB (eqI r.gKind 5 || eqI r.gKind 8) && notB (eqI r.gSeed 0)) || (notB ((eqI r.gKind 6 || eqI r.gKind 7) || eqI r.gKind 8) && ltI 0 (intN (lenL r.gList)))) || (eqI r.gKind 8 && notB (eqI (intN (lenL r.gList)) 2))
def badR (r : api_Rule) : Bool :=
  (((ltI r.gKind 1 || ltI 8 r.gKind) || ((notB (eqI r.gKind 5) && notB (eqI r.gKind 8)) && notB (eqI r.gSeed 0))) || (leI r.gKind 5 && ltI 0 (intN (lenL r.gList)))) || (eqI r.gKind 8 && notB (eqI (intN (lenL r.gList)) 2))

/-- What is wrong with a rule. -/
def chkRule (r : api_Rule) : Int :=
  match badR r with
  | true => 231
  | false => match eqI r.gKind 6 with
    | true => err28 r.gList
    | false => match eqI r.gKind 7 with
      | true => err29 r.gList
      | false => match eqI r.gKind 8 with
        | true => err30 (rd (Int.ofNat 0) r.gList 0) (rd (Int.ofNat 0) r.gList 1)
        | false => 0

theorem vs19 (r : api_Rule) {P : Bool → Prop} (h : P (badP r)) : (∃ (v : Bool), iteP (eqI r.1 5) (true = v) (eqI r.1 8 = v) ∧ ∃ (v_1 : Bool), iteP (eqI r.1 6) (true = v_1) (eqI r.1 7 = v_1) ∧ ∃ (v_2 : Bool), iteP v_1 (true = v_2) (eqI r.1 8 = v_2) ∧
    ∃ (v_3 : Bool), iteP (notB v) (notB (eqI r.2 0) = v_3) (false = v_3) ∧ ∃ (v : Bool), iteP v_3 (true = v) (∃ (v_4 : Bool), iteP (notB v_2) (ltI 0 (intN (lenL r.3)) = v_4) (false = v_4) ∧ v_4 = v) ∧
    ∃ (v_4 : Bool), iteP v (true = v_4) (∃ (v : Bool), iteP (eqI r.1 8) (notB (eqI (intN (lenL r.3)) 2) = v) (false = v) ∧ v = v_4) ∧ P v_4) :=
  ⟨_, or_w _ _, _, or_w _ _, _, or_w _ _, _, and_w _ _, _, or_and_w _ _ _, _, or_and_w _ _ _, h⟩

theorem vs20 (r : api_Rule) {P : Bool → Prop} (h : P (badR r)) : (∃ (v : Bool), iteP (ltI r.1 1) (true = v) (ltI 8 r.1 = v) ∧ ∃ (v_1 : Bool), iteP v (true = v_1) (∃ (v : Bool), iteP (notB (eqI r.1 5)) (notB (eqI r.1 8) = v) (false = v) ∧ ∃ (v_2 : Bool), iteP v (notB (eqI r.2 0) = v_2) (false = v_2) ∧ v_2 = v_1) ∧
    ∃ (v : Bool), iteP v_1 (true = v) (∃ (v_2 : Bool), iteP (leI r.1 5) (ltI 0 (intN (lenL r.3)) = v_2) (false = v_2) ∧ v_2 = v) ∧ ∃ (v_2 : Bool), iteP v (true = v_2) (∃ (v : Bool), iteP (eqI r.1 8) (notB (eqI (intN (lenL r.3)) 2) = v) (false = v) ∧ v = v_2) ∧ P v_2) :=
  ⟨_, or_w _ _, _, or_and3_w _ _ _ _, _, or_and_w _ _ _, _, or_and_w _ _ _, h⟩

theorem kinds8 (k : Int) : (k = 1 ∨ k = 2 ∨ k = 3 ∨ k = 4 ∨ k = 5) ∨ (k = 6 ∨ k = 7 ∨ k = 8) ∨ (k ≠ 1 ∧ k ≠ 2 ∧ k ≠ 3 ∧ k ≠ 4 ∧ k ≠ 5 ∧ k ≠ 6 ∧ k ≠ 7 ∧ k ≠ 8) := by omega

/-- Within the kinds both are bad for the same rules; without, the document's is bad. -/
theorem bad_same (r : api_Rule) (h : 1 ≤ r.gKind ∧ r.gKind ≤ 8) : badP r = badR r := by
  unfold badP badR
  generalize r.gSeed = s; generalize ltI 0 (intN (lenL r.gList)) = b; generalize eqI (intN (lenL r.gList)) 2 = c
  rcases kinds8 r.gKind with (h | h | h | h | h) | (h | h | h) | ⟨h1, h2, h3, h4, h5, h6, h7, h8⟩
  case inr.inr => omega
  all_goals
    rw [h]
    cases eqI s 0 <;> cases b <;> cases c <;> rfl

theorem bad_out (r : api_Rule) (h : ¬ (1 ≤ r.gKind ∧ r.gKind ≤ 8)) : badR r = true := by
  unfold badR
  have : (ltI r.gKind 1 || ltI 8 r.gKind) = true := by
    simp only [ltI, Bool.or_eq_true, decide_eq_true_eq]; omega
  rw [this]; simp

theorem two_len {r : api_Rule} (h : r.gKind = 8) (hb : badR r = false) : r.gList.length = 2 := by
  unfold badR at hb
  simp only [Bool.or_eq_false_iff] at hb
  have := hb.2
  rw [h] at this
  have e : eqI 8 8 = true := rfl
  rw [e, Bool.true_and] at this
  have : eqI (intN (lenL r.gList)) 2 = true := by
    cases h' : eqI (intN (lenL r.gList)) 2 with
    | true => rfl
    | false => rw [h'] at this; cases this
  rw [eqI_iff] at this
  simp [intN, lenL] at this
  omega

theorem leaves19 (r : api_Rule) : ∃ x y, Leaves 19 [ruleC r] (.tup [.optr x, .d (.int .i64 (chkRule r))]) y := by
  by_cases hin : 1 ≤ r.gKind ∧ r.gKind ≤ 8
  case neg =>
    have e : chkRule r = 231 := by unfold chkRule; rw [bad_out r hin]
    rw [e]
    refine ⟨none, [], Runs.tells (e19 r _ (vs19 r ?_)) tells_nil⟩
    cases hb : badP r with
    | true => exact ⟨rfl, rfl⟩
    | false =>
      rcases kinds8 r.gKind with (h | h | h | h | h) | (h | h | h) | ⟨h1, h2, h3, h4, h5, h6, h7, h8⟩
      iterate 8 (exact absurd (by omega) hin)
      simp only [eqI_ne h1, eqI_ne h2, eqI_ne h3, eqI_ne h4, eqI_ne h5, eqI_ne h6, eqI_ne h7, eqI_ne h8, iteP_f]
      exact ⟨rfl, rfl⟩
  case pos =>
    have hs := bad_same r hin
    cases hb : badR r with
    | true =>
      have e : chkRule r = 231 := by unfold chkRule; rw [hb]
      rw [e]
      refine ⟨none, [], Runs.tells (e19 r _ (vs19 r ?_)) tells_nil⟩
      rw [hs, hb]
      exact ⟨rfl, rfl⟩
    | false =>
      unfold chkRule
      rw [hb]
      rcases kinds8 r.gKind with (h | h | h | h | h) | (h | h | h) | ⟨h1, h2, h3, h4, h5, h6, h7, h8⟩
      · obtain ⟨x, y, hl⟩ := leaves23
        refine ⟨some x, y, Runs.tells (e19 r _ (vs19 r ?_)) tells_ptr⟩
        rw [hs, hb]; simp only [eqI_lit h]
        exact ⟨x, y, hl, rfl, rfl⟩
      · obtain ⟨x, y, hl⟩ := leaves24
        refine ⟨some x, y, Runs.tells (e19 r _ (vs19 r ?_)) tells_ptr⟩
        rw [hs, hb]; simp only [eqI_lit h]
        exact ⟨x, y, hl, rfl, rfl⟩
      · obtain ⟨x, y, hl⟩ := leaves25
        refine ⟨some x, y, Runs.tells (e19 r _ (vs19 r ?_)) tells_ptr⟩
        rw [hs, hb]; simp only [eqI_lit h]
        exact ⟨x, y, hl, rfl, rfl⟩
      · obtain ⟨x, y, hl⟩ := leaves26
        refine ⟨some x, y, Runs.tells (e19 r _ (vs19 r ?_)) tells_ptr⟩
        rw [hs, hb]; simp only [eqI_lit h]
        exact ⟨x, y, hl, rfl, rfl⟩
      · obtain ⟨x, y, hl⟩ := leaves27 r.gSeed
        refine ⟨some x, y, Runs.tells (e19 r _ (vs19 r ?_)) tells_ptr⟩
        rw [hs, hb]; simp only [eqI_lit h]
        exact ⟨x, y, hl, rfl, rfl⟩
      · obtain ⟨x, y, hl⟩ := leaves28 r.gList
        simp only [eqI_lit h]
        refine ⟨x, y, e19 r _ (vs19 r ?_)⟩
        rw [hs, hb]; simp only [eqI_lit h]
        exact ⟨(x, _), y, hl, rfl, rfl⟩
      · obtain ⟨x, y, hl⟩ := leaves29 r.gList
        simp only [eqI_lit h]
        refine ⟨x, y, e19 r _ (vs19 r ?_)⟩
        rw [hs, hb]; simp only [eqI_lit h]
        exact ⟨(x, _), y, hl, rfl, rfl⟩
      · obtain ⟨x, y, hl⟩ := leaves30 r.gSeed (rd (Int.ofNat 0) r.gList 0) (rd (Int.ofNat 0) r.gList 1)
        have h2 := two_len h hb
        simp only [eqI_lit h]
        refine ⟨x, y, e19 r _ (vs19 r ?_)⟩
        rw [hs, hb]; simp only [eqI_lit h]
        refine andP_iff.2 ⟨?_, andP_iff.2 ⟨?_, (x, _), y, hl, rfl, rfl⟩⟩
        · rw [inB_iff]; simp [lenL, h2]
        · rw [inB_iff]; simp [lenL, h2]
      · exfalso; omega

theorem gives8 (r : api_Rule) : Gives 8 [ruleC r] (.d (.int .i64 (chkRule r))) := by
  obtain ⟨x, y, h⟩ := leaves19 r
  exact e8 r _ ⟨(x, _), y, h, rfl, rfl⟩
end Go.Proofs.Ytikcopbjconkfaa.V
