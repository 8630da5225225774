/- LEMMAS: whether an act is right. Conditions: none. -/
import Derived.Test.YtikcopbjconkfaaW3
import Derived.Test.YtikcopbjconkfaaS1
namespace Go.Proofs.Ytikcopbjconkfaa.V
set_option linter.unusedVariables false
set_option linter.unusedSimpArgs false
open Go Go.Abs

/-- How an act lies. -/
abbrev actC (a : api_Act) : C U := .agg [.d (.int .i64 a.gKind), .d (.int .i64 a.gScope), .d (.int .i64 a.gNumber), .d (.str a.gName), .d (.str a.gText), .d (.str a.gProvider.gName), .d (.sl .api_Op a.gProvider.gExpr), .d (.bool a.gProvider.gAgain), .d (.int .i64 a.gProvider.gPolicy.gTries), .d (.int .i64 a.gProvider.gPolicy.gBase), .d (.int .i64 a.gProvider.gPolicy.gFactor), .d (.int .i64 a.gProvider.gPolicy.gCap), .d (.int .i64 a.gProvider.gCloser.gKind), .d (.str a.gProvider.gCloser.gText)]

/-- An act uses nothing but these fields. -/
def okAct (a : api_Act) (s n m t p : Bool) : Bool := (s || eqI a.gScope 0) && (n || eqI a.gNumber 0) && (m || strEq a.gName (bs [])) && (t || strEq a.gText (bs [])) && (p || plainP a.gProvider)

/-- The document's letters. -/
def useR (k : Int) : Option ByteArray :=
  if k = 1 then some (bs [83]) else if k = 2 then some (bs [83, 80]) else if k = 3 then some (bs [110, 116]) else if k = 4 then some (bs [83, 110, 116]) else if k = 5 then some (bs [83, 78]) else
  if k = 6 then some (bs [83, 110]) else if k = 7 then some (bs [83]) else if k = 8 then some (bs [110, 116]) else if k = 9 then some (bs [110]) else if k = 10 then some (bs [110]) else
  if k = 11 then some (bs [78]) else if k = 12 then some (bs [78]) else if k = 13 then some (bs [78]) else if k = 14 then some (bs [110, 78]) else none

/-- The program's letters. -/
def useP (k : Int) : ByteArray × Bool :=
  if k = 1 then (bs [115], true) else if k = 2 then (bs [115, 112], true) else if k = 3 then (bs [97, 116], true) else if k = 4 then (bs [115, 97, 116], true) else if k = 5 then (bs [115, 110], true) else
  if k = 6 then (bs [115, 97], true) else if k = 7 then (bs [115], true) else if k = 8 then (bs [97, 116], true) else if k = 9 then (bs [97], true) else if k = 10 then (bs [97], true) else
  if k = 11 then (bs [110], true) else if k = 12 then (bs [110], true) else if k = 13 then (bs [110], true) else if k = 14 then (bs [97, 110], true) else (bs [], false)

def chkR (a : api_Act) : Int := match useR a.gKind with
  | none => 230
  | some u => if okAct a (hasB u 83) (hasB u 78) (hasB u 110) (hasB u 116) (hasB u 80) then 0 else 230

def chkP (a : api_Act) : Int := if (useP a.gKind).2 && okAct a (hasB (useP a.gKind).1 115) (hasB (useP a.gKind).1 110) (hasB (useP a.gKind).1 97) (hasB (useP a.gKind).1 116) (hasB (useP a.gKind).1 112) then 0 else 230

theorem kinds (k : Int) : (k = 1 ∨ k = 2 ∨ k = 3 ∨ k = 4 ∨ k = 5 ∨ k = 6 ∨ k = 7) ∨ (k = 8 ∨ k = 9 ∨ k = 10 ∨ k = 11 ∨ k = 12 ∨ k = 13 ∨ k = 14) ∨
    (k ≠ 1 ∧ k ≠ 2 ∧ k ≠ 3 ∧ k ≠ 4 ∧ k ≠ 5 ∧ k ≠ 6 ∧ k ≠ 7 ∧ k ≠ 8 ∧ k ≠ 9 ∧ k ≠ 10 ∧ k ≠ 11 ∧ k ≠ 12 ∧ k ≠ 13 ∧ k ≠ 14) := by omega

theorem chk_same (a : api_Act) : chkP a = chkR a := by
  unfold chkP chkR
  rcases kinds a.gKind with (h | h | h | h | h | h | h) | (h | h | h | h | h | h | h) | ⟨h1, h2, h3, h4, h5, h6, h7, h8, h9, h10, h11, h12, h13, h14⟩
  case inr.inr => simp [useR, useP, *]
  all_goals
    rw [h]
    rfl

theorem eqI_lit {k n : Int} (h : k = n) (m : Int) : eqI k m = eqI n m := by rw [h]
theorem eqI_ne {k m : Int} (h : k ≠ m) : eqI k m = false := by simp [eqI, h]
theorem iteP_t {p q : Prop} : iteP true p q = p := rfl
theorem iteP_f {p q : Prop} : iteP false p q = q := rfl

theorem gives14 (k : Int) : Gives 14 [.d (.int .i64 k)] (.tup [.d (.str (useP k).1), .d (.bool (useP k).2)]) := by
  refine e14 k _ ?_
  rcases kinds k with (h | h | h | h | h | h | h) | (h | h | h | h | h | h | h) | ⟨h1, h2, h3, h4, h5, h6, h7, h8, h9, h10, h11, h12, h13, h14⟩
  case inr.inr =>
    simp only [eqI_ne h1, eqI_ne h2, eqI_ne h3, eqI_ne h4, eqI_ne h5, eqI_ne h6, eqI_ne h7, eqI_ne h8, eqI_ne h9, eqI_ne h10, eqI_ne h11, eqI_ne h12, eqI_ne h13, eqI_ne h14, iteP_f]
    have e : useP k = (bs [], false) := by simp [useP, *]
    rw [e]; exact ⟨rfl, rfl⟩
  all_goals
    subst h
    exact ⟨rfl, rfl⟩

theorem at7 (u : ByteArray) (a : api_Act) (hu : useR a.gKind = some u) : At K 7 (fun c' H' => c' = (.d (.int .i64 (chkR a)) : C U) ∧ H' = []) t7_27 (s7_27 u a.1 a.2 a.3 a.4 a.5 a.6.1 a.6.2 a.6.3 a.6.4.1 a.6.4.2 a.6.4.3 a.6.4.4 a.6.5.1 a.6.5.2) := by
  refine l7_27 _ _ _ _ _ _ _ _ _ _ _ _ _ _ _ _ ?_
  have e : chkR a = if okAct a (hasB u 83) (hasB u 78) (hasB u 110) (hasB u 116) (hasB u 80) then 0 else 230 := by simp only [chkR, hu]
  rw [e]
  let v1 := !hasB u 83 && !eqI a.gScope 0
  let v2 := v1 || (!hasB u 78 && !eqI a.gNumber 0)
  let v3 := v2 || (!hasB u 110 && !strEq a.gName (bs []))
  let v4 := v3 || (!hasB u 116 && !strEq a.gText (bs []))
  let v5 := v4 || (!hasB u 80 && !plainP a.gProvider)
  refine ⟨hasB u 83, gives17 _ _, v1, ?_, v2, ?_, v3, ?_, v4, ?_, v5, ?_, ?_⟩
  · rw [iteP_iff]; cases h : hasB u 83 <;> simp [v1, notB, h]
  · rw [iteP_iff]
    cases h : v1
    · simp only [Bool.false_eq_true, if_false]
      refine ⟨hasB u 78, gives17 _ _, v2, ?_, rfl⟩
      rw [iteP_iff]; cases h' : hasB u 78 <;> simp [v2, notB, h, h']
    · simp [v2, h]
  · rw [iteP_iff]
    cases h : v2
    · simp only [Bool.false_eq_true, if_false]
      refine ⟨hasB u 110, gives17 _ _, v3, ?_, rfl⟩
      rw [iteP_iff]; cases h' : hasB u 110 <;> simp [v3, notB, h, h']
    · simp [v3, h]
  · rw [iteP_iff]
    cases h : v3
    · simp only [Bool.false_eq_true, if_false]
      refine ⟨hasB u 116, gives17 _ _, v4, ?_, rfl⟩
      rw [iteP_iff]; cases h' : hasB u 116 <;> simp [v4, notB, h, h']
    · simp [v4, h]
  · rw [iteP_iff]
    cases h : v4
    · simp only [Bool.false_eq_true, if_false]
      refine ⟨hasB u 80, gives17 _ _, v5, ?_, rfl⟩
      rw [iteP_iff]
      cases h' : hasB u 80
      · simp only [notB, Bool.not_false, if_true]
        refine ⟨plainP a.gProvider, gives18 a.gProvider, ?_⟩
        simp [v5, h, h']
      · simp [v5, notB, h, h']
    · simp [v5, h]
  · have hv : v5 = !okAct a (hasB u 83) (hasB u 78) (hasB u 110) (hasB u 116) (hasB u 80) := by
      simp only [v5, v4, v3, v2, v1, okAct]
      cases hasB u 83 <;> cases hasB u 78 <;> cases hasB u 110 <;> cases hasB u 116 <;> cases hasB u 80 <;> simp
    rw [hv, iteP_iff]
    cases okAct a (hasB u 83) (hasB u 78) (hasB u 110) (hasB u 116) (hasB u 80) <;> exact ⟨rfl, rfl⟩

theorem gives7 (a : api_Act) : Gives 7 [actC a] (.d (.int .i64 (chkR a))) := by
  refine e7 a _ ?_
  rcases kinds a.gKind with (h | h | h | h | h | h | h) | (h | h | h | h | h | h | h) | ⟨h1, h2, h3, h4, h5, h6, h7, h8, h9, h10, h11, h12, h13, h14⟩
  case inr.inr =>
    simp only [eqI_ne h1, eqI_ne h2, eqI_ne h3, eqI_ne h4, eqI_ne h5, eqI_ne h6, eqI_ne h7, eqI_ne h8, eqI_ne h9, eqI_ne h10, eqI_ne h11, eqI_ne h12, eqI_ne h13, eqI_ne h14, iteP_f]
    have : useR a.gKind = none := by simp [useR, *]
    simp only [chkR, this]
    exact ⟨rfl, rfl⟩
  all_goals
    simp only [eqI_lit h]
    exact at7 _ a (by rw [h]; rfl)
end Go.Proofs.Ytikcopbjconkfaa.V
