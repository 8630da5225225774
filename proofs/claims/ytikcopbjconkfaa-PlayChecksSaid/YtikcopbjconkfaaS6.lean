/- LEMMAS: whether a rule is right, by the document; the whole. Conditions: none. -/
import Derived.Test.YtikcopbjconkfaaS5
namespace Go.Proofs.Ytikcopbjconkfaa.V
set_option linter.unusedVariables false
set_option linter.unusedSimpArgs false
open Go Go.Abs

/-- How the document's scheduler lies. -/
abbrev schedC (x : oncewebref20_Sched) : C U := .agg [.d (.int .i64 x.gPolicy), .d (.sl .int x.gList), .d (.int .u64 x.gState), .d (.sl .int x.gPicks), .d (.sl .oncewebref20_Weight x.gWeights)]

/-- It answers a scheduler, and this. -/
abbrev Makes (f : Nat) (args : List (C U)) (e : Int) : Prop := ∃ x, Gives f args (.tup [schedC x, .d (.int .i64 e)])

abbrev args31 (p : Int) (l : List Int) (s a b : Int) : List (C U) := [.d (.int .i64 p), .d (.sl .int l), .d (.int .u64 s), .d (.int .i64 a), .d (.int .i64 b)]

theorem known31 {p : Int} {l : List Int} {s a b : Int} {post : C U → List (O U) → Prop} (h : l.length * 8 ≤ room → Runs K 31 (args31 p l s a b) [] post) : Runs K 31 (args31 p l s a b) [] post :=
  Runs.known fun hk _ => h (known_len (hk _ (.tail _ (.head _))))

theorem makes31_0 (l : List Int) (s a b : Int) : Makes 31 (args31 0 l s a b) 0 := ⟨⟨0, [], 0, [], []⟩, e31 0 l s a b _ ⟨rfl, rfl⟩⟩
theorem makes31_1 (l : List Int) (s a b : Int) : Makes 31 (args31 1 l s a b) 0 := ⟨⟨1, [], 0, [], []⟩, e31 1 l s a b _ ⟨rfl, rfl⟩⟩
theorem makes31_2 (l : List Int) (s a b : Int) : Makes 31 (args31 2 l s a b) 0 := ⟨⟨2, [], 0, [], []⟩, e31 2 l s a b _ ⟨rfl, rfl⟩⟩
theorem makes31_3 (l : List Int) (s a b : Int) : Makes 31 (args31 3 l s a b) 0 := ⟨⟨3, [], 0, [], []⟩, e31 3 l s a b _ ⟨rfl, rfl⟩⟩
theorem makes31_6 (l : List Int) (s a b : Int) : Makes 31 (args31 6 l s a b) 0 := ⟨⟨6, [], seedV s, [], []⟩, e31 6 l s a b _ ⟨_, gives47 s, rfl, rfl⟩⟩

theorem makes31_4 (l : List Int) (s a b : Int) : Makes 31 (args31 4 l s a b) (err28 l) := by
  unfold err28
  cases h1 : ltI 4096 (intN (lenL l)) with
  | true => exact ⟨⟨4, [], 0, [], []⟩, e31 4 l s a b _ (ite_of (c := true) rfl (ite_of (c := true) h1 ⟨rfl, rfl⟩))⟩
  | false =>
    by_cases hl : l.length * 8 ≤ room
    case neg => exact ⟨⟨0, [], 0, [], []⟩, known31 fun h => absurd h hl⟩
    have hr : room = 140737488355328 := rfl
    have loop : ∀ (k i : Nat), l.length - i = k → i ≤ l.length → ∃ x, At K 31 (fun c' H' => c' = (.tup [schedC x, .d (.int .i64 (if (l.drop i).any (fun n => ltI n 0) then 1 else 0))] : C U) ∧ H' = []) t31_7 (s31_7 l i 0 [] 0 [] [] 4 0 [] [] []) := by
      intro k
      induction k with
      | zero =>
        intro i h1 h2
        refine ⟨⟨4, [] ++ l, 0, [], []⟩, l31_7 _ _ _ _ _ _ _ _ _ _ _ _ _ (ite_of (c := false) ?_ (andP_iff.2 ⟨roomB_iff.2 (by simpa [addN, lenL] using hl), ?_, rfl⟩))⟩
        · simp [ltI, intN, lenL]; omega
        · rw [List.drop_eq_nil_of_le (by omega)]; rfl
      | succ k ih =>
        intro i h1 h2
        have hi : i < l.length := by omega
        have hin : inB (i : Int) (lenL l) = true := by rw [inB_iff]; simp [lenL]; omega
        have hlt : ltI (i : Int) (intN (lenL l)) = true := by simp [ltI, intN, lenL]; omega
        have hrd : rd (Int.ofNat 0) l (i : Int) = l[i] := rd_at hi
        cases hp : ltI l[i] 0 with
        | true =>
          refine ⟨⟨4, [], 0, [], []⟩, l31_7 _ _ _ _ _ _ _ _ _ _ _ _ _ (ite_of (c := true) hlt (andP_iff.2 ⟨hin, ite_of (c := true) (by rw [hrd]; exact hp) ⟨?_, rfl⟩⟩))⟩
          rw [List.drop_eq_getElem_cons hi, List.any_cons, hp]; rfl
        | false =>
          obtain ⟨x, hx⟩ := ih (i + 1) (by omega) (by omega)
          have e : (l.drop i).any (fun n => ltI n 0) = (l.drop (i + 1)).any (fun n => ltI n 0) := by rw [List.drop_eq_getElem_cons hi, List.any_cons, hp, Bool.false_or]
          rw [← hrd] at hp
          rw [← e] at hx
          refine ⟨x, l31_7 _ _ _ _ _ _ _ _ _ _ _ _ _ (ite_of (c := true) hlt (andP_iff.2 ⟨hin, ite_of (c := false) hp ?_⟩))⟩
          rw [addW_small (by omega) (by omega)]
          exact hx
    obtain ⟨x, hx⟩ := loop _ 0 rfl (Nat.zero_le _)
    exact ⟨x, e31 4 l s a b _ (ite_of (c := true) rfl (ite_of (c := false) h1 hx))⟩

theorem makes31_5 (l : List Int) (s a b : Int) : Makes 31 (args31 5 l s a b) (err29 l) := by
  unfold err29
  cases h1 : ltI 128 (intN (lenL l)) with
  | true => exact ⟨⟨5, [], 0, [], []⟩, e31 5 l s a b _ (ite_of (c := false) rfl (ite_of (c := true) rfl (ite_of (c := true) h1 ⟨rfl, rfl⟩)))⟩
  | false =>
    by_cases hl : l.length * 8 ≤ room
    case neg => exact ⟨⟨0, [], 0, [], []⟩, known31 fun h => absurd h hl⟩
    have hr : room = 140737488355328 := rfl
    have loop : ∀ (k i : Nat), l.length - i = k → i ≤ l.length → ∃ x, At K 31 (fun c' H' => c' = (.tup [schedC x, .d (.int .i64 (if (l.drop i).any (fun n => ltI n 0 || ltI 9007199254740992 n) then 1 else 0))] : C U) ∧ H' = []) t31_16 (s31_16 l i 0 [] 0 [] [] 5 0 [] [] []) := by
      intro k
      induction k with
      | zero =>
        intro i h1 h2
        refine ⟨⟨5, [] ++ l, 0, [], []⟩, l31_16 _ _ _ _ _ _ _ _ _ _ _ _ _ (ite_of (c := false) ?_ (andP_iff.2 ⟨roomB_iff.2 (by simpa [addN, lenL] using hl), ?_, rfl⟩))⟩
        · simp [ltI, intN, lenL]; omega
        · rw [List.drop_eq_nil_of_le (by omega)]; rfl
      | succ k ih =>
        intro i h1 h2
        have hi : i < l.length := by omega
        have hin : inB (i : Int) (lenL l) = true := by rw [inB_iff]; simp [lenL]; omega
        have hlt : ltI (i : Int) (intN (lenL l)) = true := by simp [ltI, intN, lenL]; omega
        have hrd : rd (Int.ofNat 0) l (i : Int) = l[i] := rd_at hi
        have hv : iteP (ltI (rd (Int.ofNat 0) l (i : Int)) 0) (true = (ltI l[i] 0 || ltI 9007199254740992 l[i])) (andP (inB (i : Int) (lenL l)) (ltI 9007199254740992 (rd (Int.ofNat 0) l (i : Int)) = (ltI l[i] 0 || ltI 9007199254740992 l[i]))) := by
          rw [hrd, hin]; exact or_w _ _
        cases hp : (ltI l[i] 0 || ltI 9007199254740992 l[i]) with
        | true =>
          rw [hp] at hv
          refine ⟨⟨5, [], 0, [], []⟩, l31_16 _ _ _ _ _ _ _ _ _ _ _ _ _ (ite_of (c := true) hlt (andP_iff.2 ⟨hin, true, hv, ite_of (c := true) rfl ⟨?_, rfl⟩⟩))⟩
          rw [List.drop_eq_getElem_cons hi, List.any_cons, hp]; rfl
        | false =>
          rw [hp] at hv
          obtain ⟨x, hx⟩ := ih (i + 1) (by omega) (by omega)
          have e : (l.drop i).any (fun n => ltI n 0 || ltI 9007199254740992 n) = (l.drop (i + 1)).any (fun n => ltI n 0 || ltI 9007199254740992 n) := by rw [List.drop_eq_getElem_cons hi, List.any_cons, hp, Bool.false_or]
          rw [← e] at hx
          refine ⟨x, l31_16 _ _ _ _ _ _ _ _ _ _ _ _ _ (ite_of (c := true) hlt (andP_iff.2 ⟨hin, false, hv, ite_of (c := false) rfl ?_⟩))⟩
          rw [addW_small (by omega) (by omega)]
          exact hx
    obtain ⟨x, hx⟩ := loop _ 0 rfl (Nat.zero_le _)
    exact ⟨x, e31 5 l s a b _ (ite_of (c := false) rfl (ite_of (c := true) rfl (ite_of (c := false) h1 hx)))⟩

theorem makes31_7 (l : List Int) (s a b : Int) : Makes 31 (args31 7 l s a b) (err30 a b) := by
  unfold err30
  have go : ∀ {post : C U → List (O U) → Prop}, _ → Runs K 31 (args31 7 l s a b) [] post := fun {post} h => e31 7 l s a b post (ite_of (c := false) rfl (ite_of (c := false) rfl (ite_of (c := false) rfl (ite_of (c := true) rfl h))))
  cases h : ((ltI a 1 || ltI 1048576 a) || ltI b 0) || ltI 64 b with
  | true => exact ⟨⟨7, [], 0, [], []⟩, go ⟨_, or_w _ _, _, or_w _ _, _, or_w _ _, ite_of (c := true) h ⟨rfl, rfl⟩⟩⟩
  | false =>
    have h' := h
    simp only [Bool.or_eq_false_iff] at h'
    obtain ⟨⟨⟨h1, h2⟩, h3⟩, h4⟩ := h'
    have ha1 : ¬ a < 1 := by simpa [ltI] using h1
    have ha2 : ¬ 1048576 < a := by simpa [ltI] using h2
    have hb : ¬ 64 < b := by simpa [ltI] using h4
    have hn : notB (eqI (convW .u64 a) 0) = true := by
      have : convW .u64 a = a := by
        unfold convW IntKind.wrap
        simp only [IntKind.signed, IntKind.bits]
        simp
        omega
      rw [notB_iff, this]; simp [eqI]; omega
    have loop : ∀ (k i : Nat) (y : List Int) (z : Int), (b - i).toNat = k → y.length = i → (i : Int) ≤ max b 0 → ∃ x, At K 31 (fun c' H' => c' = (.tup [schedC x, .d (.int .i64 0)] : C U) ∧ H' = []) t31_28 (s31_28 a b i 0 [] 0 [] [] 7 z [] [] y) := by
      intro k
      induction k with
      | zero =>
        intro i y z h1 h2 h3
        refine ⟨⟨7, y, z, [], []⟩, l31_28 _ _ _ _ _ _ _ _ _ _ _ _ _ _ (ite_of (c := false) ?_ ⟨rfl, rfl⟩)⟩
        simp [ltI]; omega
      | succ k ih =>
        intro i y z h1 h2 h3
        obtain ⟨p, hz⟩ : ∃ p : Int × Int, Gives 48 [.d (.int .u64 z)] (.tup [.d (.int .u64 p.1), .d (.int .u64 p.2)]) := ⟨(_, _), e48 z _ ⟨rfl, rfl⟩⟩
        obtain ⟨x, hx⟩ := ih (i + 1) (y ++ [convW .i64 (remW (shrW .u64 p.2 33) (convW .u64 a))]) p.1 (by omega) (by simp only [List.length_append, List.length_cons, List.length_nil, h2]) (by omega)
        refine ⟨x, l31_28 _ _ _ _ _ _ _ _ _ _ _ _ _ _ (ite_of (c := true) ?_ ⟨p, hz, andP_iff.2 ⟨rfl, andP_iff.2 ⟨hn, andP_iff.2 ⟨?_, ?_⟩⟩⟩⟩)⟩
        · simp [ltI]; omega
        · have hr : room = 140737488355328 := rfl
          have : (y.length + 1) * 8 ≤ room := by omega
          exact roomB_iff.2 this
        · rw [addW_small (by omega) (by omega)]; exact hx
    obtain ⟨x, hx⟩ := loop _ 0 [] (seedV s) rfl rfl (by simp; omega)
    exact ⟨x, go ⟨_, or_w _ _, _, or_w _ _, _, or_w _ _, ite_of (c := false) h ⟨_, gives47 s, hx⟩⟩⟩

theorem gives9 (r : api_Rule) : Gives 9 [ruleC r] (.d (.int .i64 (chkRule r))) := by
  suffices h : Makes 20 [ruleC r] (chkRule r) by
    obtain ⟨x, h⟩ := h
    exact e9 r _ ⟨(x, _), h, rfl, rfl⟩
  unfold chkRule
  cases hb : badR r with
  | true => exact ⟨⟨0, [], 0, [], []⟩, e20 r _ (vs20 r (by rw [hb]; exact ⟨rfl, rfl⟩))⟩
  | false =>
    have hin : 1 ≤ r.gKind ∧ r.gKind ≤ 8 := by
      by_cases h : 1 ≤ r.gKind ∧ r.gKind ≤ 8
      · exact h
      · have := bad_out r h; rw [hb] at this; cases this
    rcases kinds8 r.gKind with (h | h | h | h | h) | (h | h | h) | ⟨h1, h2, h3, h4, h5, h6, h7, h8⟩
    · obtain ⟨x, hx⟩ := makes31_0 r.gList r.gSeed 0 0
      refine ⟨x, e20 r _ (vs20 r ?_)⟩
      rw [hb]; simp only [eqI_lit h]; rw [h]
      exact andP_iff.2 ⟨rfl, andP_iff.2 ⟨rfl, (x, _), hx, rfl, rfl⟩⟩
    · obtain ⟨x, hx⟩ := makes31_1 r.gList r.gSeed 0 0
      refine ⟨x, e20 r _ (vs20 r ?_)⟩
      rw [hb]; simp only [eqI_lit h]; rw [h]
      exact andP_iff.2 ⟨rfl, andP_iff.2 ⟨rfl, (x, _), hx, rfl, rfl⟩⟩
    · obtain ⟨x, hx⟩ := makes31_2 r.gList r.gSeed 0 0
      refine ⟨x, e20 r _ (vs20 r ?_)⟩
      rw [hb]; simp only [eqI_lit h]; rw [h]
      exact andP_iff.2 ⟨rfl, andP_iff.2 ⟨rfl, (x, _), hx, rfl, rfl⟩⟩
    · obtain ⟨x, hx⟩ := makes31_3 r.gList r.gSeed 0 0
      refine ⟨x, e20 r _ (vs20 r ?_)⟩
      rw [hb]; simp only [eqI_lit h]; rw [h]
      exact andP_iff.2 ⟨rfl, andP_iff.2 ⟨rfl, (x, _), hx, rfl, rfl⟩⟩
    · obtain ⟨x, hx⟩ := makes31_6 r.gList r.gSeed 0 0
      refine ⟨x, e20 r _ (vs20 r ?_)⟩
      rw [hb]; simp only [eqI_lit h]; rw [h]
      exact andP_iff.2 ⟨rfl, andP_iff.2 ⟨rfl, (x, _), hx, rfl, rfl⟩⟩
    · obtain ⟨x, hx⟩ := makes31_4 r.gList r.gSeed 0 0
      refine ⟨x, e20 r _ (vs20 r ?_)⟩
      rw [hb]; simp only [eqI_lit h]; rw [h]
      exact andP_iff.2 ⟨rfl, andP_iff.2 ⟨rfl, (x, _), hx, rfl, rfl⟩⟩
    · obtain ⟨x, hx⟩ := makes31_5 r.gList r.gSeed 0 0
      refine ⟨x, e20 r _ (vs20 r ?_)⟩
      rw [hb]; simp only [eqI_lit h]; rw [h]
      exact andP_iff.2 ⟨rfl, andP_iff.2 ⟨rfl, (x, _), hx, rfl, rfl⟩⟩
    · obtain ⟨x, hx⟩ := makes31_7 r.gList r.gSeed (rd (Int.ofNat 0) r.gList 0) (rd (Int.ofNat 0) r.gList 1)
      have h2 := two_len h hb
      refine ⟨x, e20 r _ (vs20 r ?_)⟩
      rw [hb]; simp only [eqI_lit h]; rw [h]
      refine andP_iff.2 ⟨?_, andP_iff.2 ⟨?_, andP_iff.2 ⟨rfl, andP_iff.2 ⟨rfl, (x, _), hx, rfl, rfl⟩⟩⟩⟩
      · rw [inB_iff]; simp [lenL, h2]
      · rw [inB_iff]; simp [lenL, h2]
    · exfalso; omega

theorem gives5 (r : api_Rule) : Gives 5 [ruleC r] (ruleC r) := e5 r _ ⟨r.gList, gives13 _, rfl, rfl⟩

/-- **The statement's function answers true.** -/
theorem gives3 (a : api_Act) (r : api_Rule) : Gives 3 [actC a, ruleC r] (.d (.bool true)) := by
  refine e3 a r _ ⟨[a], gives4 a, andP_iff.2 ⟨rfl, r, gives5 r, chkR a, gives6 a, chkR a, gives7 a, ite_of (c := true) (eqI_self _) ⟨chkRule r, gives8 r, chkRule r, gives9 r, ite_of (c := true) (eqI_self _) ⟨true, gives10 a, ite_of (c := true) rfl ⟨true, same11 r.gList, rfl, rfl⟩⟩⟩⟩⟩
end Go.Proofs.Ytikcopbjconkfaa.V
