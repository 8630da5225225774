/- LEMMAS: what the small functions come to. Conditions: none. -/
import Derived.Test.YtikcopbjconkfaaW1
import Derived.Test.YtikcopbjconkfaaA26
namespace Go.Proofs.Ytikcopbjconkfaa.V
set_option linter.unusedVariables false
set_option linter.unusedSimpArgs false
open Go Go.Abs

/-- It answers this. -/
abbrev Gives (f : Nat) (args : List (C U)) (c : C U) : Prop := Runs K f args [] fun c' H' => c' = c ∧ H' = []

theorem known_len {l : List Int} (h : C.Known K (.d (.sl (U := U) .int l))) : l.length * 8 ≤ room := h.d.sl.1
theorem known_ops {l : List api_Op} (h : C.Known K (.d (.sl (U := U) .api_Op l))) : l.length * 40 ≤ room := h.d.sl.1

/-- Two equal rows of numbers. -/
theorem same11 (l : List Int) : Gives 11 [.d (.sl .int l), .d (.sl .int l)] (.d (.bool true)) := by
  refine Runs.known fun hk _ => ?_
  have hl := known_len (hk _ (List.mem_cons_self ..))
  have hr : room = 140737488355328 := rfl
  refine e11 l l _ ?_
  refine ite_of (c := false) (by simp [eqI, notB]) ?_
  have loop : ∀ (n i : Nat), l.length - i = n → i ≤ l.length → At K 11 (fun c' H' => c' = (.d (.bool true) : C U) ∧ H' = []) t11_4 (s11_4 l l i) := by
    intro n
    induction n with
    | zero =>
      intro i h1 h2
      refine l11_4 _ _ _ _ (ite_of (c := false) ?_ ⟨rfl, rfl⟩)
      simp [ltI, intN, lenL]; omega
    | succ n ih =>
      intro i h1 h2
      refine l11_4 _ _ _ _ (ite_of (c := true) ?_ ?_)
      · simp [ltI, intN, lenL]; omega
      have hin : inB (i : Int) (lenL l) = true := by rw [inB_iff]; simp [lenL]; omega
      refine andP_iff.2 ⟨hin, andP_iff.2 ⟨hin, ite_of (c := false) (by simp [eqI, notB]) ?_⟩⟩
      rw [addW_small (by omega) (by omega)]
      exact ih (i + 1) (by omega) (by omega)
  exact loop _ 0 rfl (by omega)

theorem andB_self4 (o : api_Op) : andB (eqI o.1 o.1) (andB (eqI o.2 o.2) (andB (eqI o.3 o.3) (andB (strEq o.4 o.4) true))) = true := by
  simp [andB, eqI, strEq]

/-- Two equal rows of operations; a row against none. -/
theorem same32 (l : List api_Op) : Gives 32 [.d (.sl .api_Op l), .d (.sl .api_Op l)] (.d (.bool true)) := by
  refine Runs.known fun hk _ => ?_
  have hl := known_ops (hk _ (List.mem_cons_self ..))
  have hr : room = 140737488355328 := rfl
  refine e32 l l _ ?_
  refine ite_of (c := false) (by simp [eqI, notB]) ?_
  have loop : ∀ (n i : Nat), l.length - i = n → i ≤ l.length → At K 32 (fun c' H' => c' = (.d (.bool true) : C U) ∧ H' = []) t32_4 (s32_4 l l i) := by
    intro n
    induction n with
    | zero =>
      intro i h1 h2
      refine l32_4 _ _ _ _ (ite_of (c := false) ?_ ⟨rfl, rfl⟩)
      simp [ltI, intN, lenL]; omega
    | succ n ih =>
      intro i h1 h2
      refine l32_4 _ _ _ _ (ite_of (c := true) ?_ ?_)
      · simp [ltI, intN, lenL]; omega
      have hin : inB (i : Int) (lenL l) = true := by rw [inB_iff]; simp [lenL]; omega
      refine andP_iff.2 ⟨hin, andP_iff.2 ⟨hin, ite_of (c := false) (by rw [andB_self4]; rfl) ?_⟩⟩
      rw [addW_small (by omega) (by omega)]
      exact ih (i + 1) (by omega) (by omega)
  exact loop _ 0 rfl (by omega)

theorem none32 (l : List api_Op) : Gives 32 [.d (.sl .api_Op l), .d (.sl .api_Op [])] (.d (.bool (eqI (intN (lenL l)) 0))) := by
  refine e32 l [] _ ?_
  have e0 : intN (lenL ([] : List api_Op)) = 0 := rfl
  rw [e0]
  cases h : eqI (intN (lenL l)) 0 with
  | false => exact ite_of (c := true) (by rfl) ⟨rfl, rfl⟩
  | true =>
    refine ite_of (c := false) (by rfl) ?_
    have : l = [] := by
      rw [eqI_iff] at h
      simp [intN, lenL] at h
      exact h
    subst this
    refine l32_4 _ _ _ _ (ite_of (c := false) (by rfl) ⟨rfl, rfl⟩)

/-- How a provider lies. -/
abbrev provC (p : api_Provider) : C U := .agg [.d (.str p.gName), .d (.sl .api_Op p.gExpr), .d (.bool p.gAgain), .d (.int .i64 p.gPolicy.gTries), .d (.int .i64 p.gPolicy.gBase), .d (.int .i64 p.gPolicy.gFactor), .d (.int .i64 p.gPolicy.gCap), .d (.int .i64 p.gCloser.gKind), .d (.str p.gCloser.gText)]

theorem same21 (p : api_Provider) : Gives 21 [provC p, provC p] (.d (.bool true)) := by
  refine e21 p p _ ?_
  refine ⟨true, ite_of (c := true) (strEq_self _) (eqB_self _), true, ite_of (c := true) rfl (by simp [andB, eqI]), true, ite_of (c := true) rfl (by simp [andB, eqI, strEq]), true, ite_of (c := true) rfl ⟨true, same32 _, rfl⟩, rfl, rfl⟩

/-- Is a provider nothing? -/
def plainP (p : api_Provider) : Bool :=
  strEq p.gName (bs []) && eqI (intN (lenL p.gExpr)) 0 && !p.gAgain && (eqI p.gPolicy.gTries 0 && (eqI p.gPolicy.gBase 0 && (eqI p.gPolicy.gFactor 0 && eqI p.gPolicy.gCap 0))) && (eqI p.gCloser.gKind 0 && strEq p.gCloser.gText (bs []))

theorem gives16 (p : api_Provider) : Gives 16 [provC p] (.d (.bool (plainP p))) := by
  refine e16 p _ ?_
  let b1 := strEq p.gName (bs []) && eqI (intN (lenL p.gExpr)) 0
  let b2 := b1 && !p.gAgain
  let b3 := b2 && (eqI p.gPolicy.gTries 0 && (eqI p.gPolicy.gBase 0 && (eqI p.gPolicy.gFactor 0 && eqI p.gPolicy.gCap 0)))
  refine ⟨b1, ?_, b2, ?_, b3, ?_, plainP p, ?_, rfl, rfl⟩
  · rw [iteP_iff]; show if strEq p.gName (bs []) = true then _ else _; cases h : strEq p.gName (bs []) <;> simp [b1, h]
  · rw [iteP_iff]; cases h : b1 <;> simp [b2, h, notB]
  · rw [iteP_iff]; cases h : b2 <;> simp [b3, h, andB]
  · rw [iteP_iff]
    have e : plainP p = (b3 && (eqI p.gCloser.gKind 0 && strEq p.gCloser.gText (bs []))) := rfl
    rw [e]
    cases h : b3 <;> simp [andB]

theorem gives18 (p : api_Provider) : Gives 18 [provC p] (.d (.bool (plainP p))) := by
  refine e18 p _ ⟨plainP p, ?_, rfl, rfl⟩
  refine e21 p ⟨bs [], [], false, ⟨0, 0, 0, 0⟩, ⟨0, bs []⟩⟩ _ ?_
  let b1 := strEq p.gName (bs []) && !p.gAgain
  let b2 := b1 && (eqI p.gPolicy.gTries 0 && (eqI p.gPolicy.gBase 0 && (eqI p.gPolicy.gFactor 0 && eqI p.gPolicy.gCap 0)))
  let b3 := b2 && (eqI p.gCloser.gKind 0 && strEq p.gCloser.gText (bs []))
  refine ⟨b1, ?_, b2, ?_, b3, ?_, b3 && eqI (intN (lenL p.gExpr)) 0, ?_, ?_, rfl⟩
  · rw [iteP_iff]; show if strEq p.gName (bs []) = true then _ else _; cases h : strEq p.gName (bs []) <;> simp [b1, h, eqB]
  · rw [iteP_iff]; cases h : b1 <;> simp [b2, h, andB]
  · rw [iteP_iff]; cases h : b2 <;> simp [b3, h, andB]
  · rw [iteP_iff]
    cases h : b3 with
    | false => simp
    | true =>
      simp only [if_true, Bool.true_and]
      exact ⟨_, none32 p.gExpr, rfl⟩
  · have : (b3 && eqI (intN (lenL p.gExpr)) 0) = plainP p := by
      simp only [b3, b2, b1, plainP]
      cases strEq p.gName (bs []) <;> cases p.gAgain <;> cases eqI (intN (lenL p.gExpr)) 0 <;> simp
    rw [this]; rfl

theorem gives22 (l : List api_Op) : Gives 22 [.d (.sl .api_Op l)] (.d (.sl .api_Op l)) := by
  refine Runs.known fun hk _ => ?_
  have hl := known_ops (hk _ (List.mem_cons_self ..))
  exact e22 l _ (andP_iff.2 ⟨roomB_iff.2 (by simpa [addN, lenL] using hl), rfl, rfl⟩)

theorem gives13 (l : List Int) : Gives 13 [.d (.sl .int l)] (.d (.sl .int l)) := by
  refine Runs.known fun hk _ => ?_
  have hl := known_len (hk _ (List.mem_cons_self ..))
  exact e13 l _ (andP_iff.2 ⟨roomB_iff.2 (by simpa [addN, lenL] using hl), rfl, rfl⟩)

theorem gives12 (p : api_Provider) : Gives 12 [provC p] (provC p) := e12 p _ ⟨p.gExpr, gives22 _, rfl, rfl⟩

/-- Stands this byte in a text? -/
def hasB (s : ByteArray) (c : Int) : Bool := s.data.toList.any fun b => eqI b.toNat c

theorem gives17 (s : ByteArray) (c : Int) : Gives 17 [.d (.str s), .d (.int .u8 c)] (.d (.bool (hasB s c))) := by
  refine Runs.known fun hk _ => ?_
  have hl : s.size ≤ maxStr := (hk _ (List.mem_cons_self ..)).d.str
  have hm : maxStr = 4611686018427387904 := rfl
  have hsz : s.data.toList.length = s.size := by simp
  refine e17 s c _ ?_
  have loop : ∀ (n i : Nat), s.size - i = n → i ≤ s.size → At K 17 (fun c' H' => c' = (.d (.bool ((s.data.toList.drop i).any fun b => eqI b.toNat c)) : C U) ∧ H' = []) t17_2 (s17_2 s c i) := by
    intro n
    induction n with
    | zero =>
      intro i h1 h2
      refine l17_2 _ _ _ _ (ite_of (c := false) ?_ ⟨?_, rfl⟩)
      · simp [ltI, intN, strLen]; omega
      · rw [List.drop_eq_nil_of_le (by omega)]; rfl
    | succ n ih =>
      intro i h1 h2
      refine l17_2 _ _ _ _ (ite_of (c := true) ?_ ?_)
      · simp [ltI, intN, strLen]; omega
      have hin : inB (i : Int) (strLen s) = true := by rw [inB_iff]; simp [strLen]; omega
      refine andP_iff.2 ⟨hin, ?_⟩
      have hi : i < s.data.toList.length := by omega
      rw [byteAt_nat (by omega), List.drop_eq_getElem_cons hi, List.any_cons]
      rw [iteP_iff]
      cases hb : eqI ((s.data.toList[i]).toNat : Int) c with
      | true =>
        simp only [if_true, Bool.true_or]
        exact ⟨rfl, rfl⟩
      | false =>
        simp only [Bool.false_eq_true, if_false, Bool.false_or]
        rw [addW_small (by omega) (by omega)]
        exact ih (i + 1) (by omega) (by omega)
  exact loop _ 0 rfl (by omega)

end Go.Proofs.Ytikcopbjconkfaa.V
