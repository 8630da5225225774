/- LEMMAS: whether a rule is right. Conditions: none. -/
import Derived.Test.YtikcopbjconkfaaW2
import Derived.Test.YtikcopbjconkfaaS3
namespace Go.Proofs.Ytikcopbjconkfaa.V
set_option linter.unusedVariables false
set_option linter.unusedSimpArgs false
open Go Go.Abs

theorem or_w (a b : Bool) : iteP a (true = (a || b)) (b = (a || b)) := by cases a <;> cases b <;> exact rfl
theorem and_w (a b : Bool) : iteP a (b = (a && b)) (false = (a && b)) := by cases a <;> cases b <;> exact rfl
theorem or_and_w (a b c : Bool) : iteP a (true = (a || (b && c))) (∃ v : Bool, iteP b (c = v) (false = v) ∧ v = (a || (b && c))) := by
  cases a with
  | true => exact rfl
  | false => exact ⟨b && c, and_w b c, by simp⟩
theorem or_and3_w (a b c d : Bool) : iteP a (true = (a || ((b && c) && d))) (∃ v : Bool, iteP b (c = v) (false = v) ∧ ∃ v_2 : Bool, iteP v (d = v_2) (false = v_2) ∧ v_2 = (a || ((b && c) && d))) := by
  cases a with
  | true => exact rfl
  | false => exact ⟨b && c, and_w b c, (b && c) && d, and_w _ _, by simp⟩

def err28 (l : List Int) : Int := if ltI 4096 (intN (lenL l)) then 3 else if l.any (fun n => ltI n 0) then 1 else 0
def err29 (l : List Int) : Int := if ltI 128 (intN (lenL l)) then 3 else if l.any (fun n => ltI n 0 || ltI 9007199254740992 n) then 1 else 0
def err30 (s d : Int) : Int := if ((ltI s 1 || ltI 1048576 s) || ltI d 0) || ltI 64 d then 1 else 0

theorem gives43 (n : Int) : Gives 43 [.d (.int .i64 n)] (.d (.bool (ltI n 0))) := e43 n _ ⟨rfl, rfl⟩
theorem gives45 (n : Int) : Gives 45 [.d (.int .i64 n)] (.d (.bool (ltI n 0 || ltI 9007199254740992 n))) := e45 n _ ⟨_, or_w _ _, rfl, rfl⟩
/-- Where a seed begins. -/
def seedV (n : Int) : Int := match eqI n 0 with | true => 11400714819323198485 | false => n
theorem gives41 (n : Int) : Gives 41 [.d (.int .u64 n)] (.d (.int .u64 (seedV n))) := by
  refine e41 n _ ?_
  unfold seedV
  cases eqI n 0 <;> exact ⟨rfl, rfl⟩
theorem gives47 (n : Int) : Gives 47 [.d (.int .u64 n)] (.d (.int .u64 (seedV n))) := by
  refine e47 n _ ?_
  unfold seedV
  cases eqI n 0 <;> exact ⟨rfl, rfl⟩

theorem gives37 (g : Nat) (p : Int → Bool) (hp : ∀ n, Gives g [.d (.int .i64 n)] (.d (.bool (p n)))) (l : List Int) : ∃ n, Gives 37 [.d (.sl .int l), .fp g [] []] (.d (.int .i64 n)) ∧ (l.length * 8 ≤ room → leI 0 n = l.any p) := by
  by_cases hl : l.length * 8 ≤ room
  case neg =>
    refine ⟨0, Runs.known fun hk _ => absurd (known_len (hk _ (List.mem_cons_self ..))) hl, fun h => absurd h hl⟩
  have hr : room = 140737488355328 := rfl
  have loop : ∀ (k i : Nat), l.length - i = k → i ≤ l.length → ∃ n, At K 37 (fun c' H' => c' = (.d (.int .i64 n) : C U) ∧ H' = []) t37_2 (s37_2 l g [] [] (intN (lenL l)) i []) ∧ leI 0 n = (l.drop i).any p := by
    intro k
    induction k with
    | zero =>
      intro i h1 h2
      refine ⟨-1, l37_2 _ _ _ _ _ _ _ _ (ite_of (c := false) ?_ ⟨rfl, rfl⟩), ?_⟩
      · simp [ltI, intN, lenL]; omega
      · rw [List.drop_eq_nil_of_le (by omega)]; rfl
    | succ k ih =>
      intro i h1 h2
      have hi : i < l.length := by omega
      have hin : inB (i : Int) (lenL l) = true := by rw [inB_iff]; simp [lenL]; omega
      have hlt : ltI (i : Int) (intN (lenL l)) = true := by simp [ltI, intN, lenL]; omega
      have hrd : rd (Int.ofNat 0) l (i : Int) = l[i] := rd_at hi
      cases hpi : p l[i] with
      | true =>
        refine ⟨i, l37_2 _ _ _ _ _ _ _ _ (ite_of (c := true) hlt (andP_iff.2 ⟨hin, true, ?_, ite_of (c := true) rfl ⟨rfl, rfl⟩⟩)), ?_⟩
        · have := hp l[i]
          rw [hpi] at this
          rw [hrd]; exact this
        · rw [List.drop_eq_getElem_cons hi, List.any_cons, hpi]; simp [leI]
      | false =>
        obtain ⟨n, k1, k2⟩ := ih (i + 1) (by omega) (by omega)
        refine ⟨n, l37_2 _ _ _ _ _ _ _ _ (ite_of (c := true) hlt (andP_iff.2 ⟨hin, false, ?_, ite_of (c := false) rfl ?_⟩)), ?_⟩
        · have := hp l[i]
          rw [hpi] at this
          rw [hrd]; exact this
        · rw [addW_small (by omega) (by omega)]; exact k1
        · rw [List.drop_eq_getElem_cons hi, List.any_cons, hpi, k2]; simp
  obtain ⟨n, k1, k2⟩ := loop _ 0 rfl (Nat.zero_le _)
  exact ⟨n, e37 _ _ _ _ _ _ k1, fun _ => k2⟩

theorem gives42 (g : Nat) (p : Int → Bool) (hp : ∀ n, Gives g [.d (.int .i64 n)] (.d (.bool (p n)))) (l : List Int) : Gives 42 [.d (.sl .int l), .fp g [] []] (.d (.bool (l.any p))) := by
  refine Runs.known fun hk _ => ?_
  have hl := known_len (hk _ (List.mem_cons_self ..))
  obtain ⟨n, k1, k2⟩ := gives37 g p hp l
  refine e42 _ _ _ _ _ _ ⟨n, (), k1, ?_, rfl⟩
  rw [k2 hl]

theorem gives44 (l : List Int) : Gives 44 [.d (.sl .int l)] (.d (.sl .int l)) := by
  refine Runs.known fun hk _ => ?_
  have hl := known_len (hk _ (List.mem_cons_self ..))
  refine e44 l _ ⟨andP_iff.2 ⟨roomB_iff.2 (by simpa [addN, lenL] using hl), rfl, rfl⟩, ?_⟩
  rw [iteP_iff]
  split
  · rename_i h
    rw [emptyL_iff] at h
    subst h
    exact ⟨rfl, rfl⟩
  · trivial

/-- It answers a pointer, and leaves these objects. -/
abbrev Leaves (f : Nat) (args : List (C U)) (c : C U) (y : List (O U)) : Prop := Runs K f args [] fun c' H' => c' = c ∧ H' = y

theorem leaves23 : ∃ x y, Leaves 23 [] (.ptr (.g x) 0) y := ⟨0, _, e23 _ ⟨0, _, e33f _ _ _ ⟨rfl, rfl⟩, rfl, rfl⟩⟩
theorem leaves24 : ∃ x y, Leaves 24 [] (.ptr (.g x) 0) y := ⟨0, _, e24 _ ⟨0, _, e33f _ _ _ ⟨rfl, rfl⟩, rfl, rfl⟩⟩
theorem leaves25 : ∃ x y, Leaves 25 [] (.ptr (.g x) 0) y := ⟨0, _, e25 _ ⟨0, _, e33f _ _ _ ⟨rfl, rfl⟩, rfl, rfl⟩⟩
theorem leaves26 : ∃ x y, Leaves 26 [] (.ptr (.g x) 0) y := ⟨0, _, e26 _ ⟨0, _, e33f _ _ _ ⟨rfl, rfl⟩, rfl, rfl⟩⟩
theorem leaves27 (s : Int) : ∃ x y, Leaves 27 [.d (.int .u64 s)] (.ptr (.g x) 0) y := ⟨1, _, e27 _ _ ⟨_, gives41 _, 1, _, e33p _ _ _ ⟨rfl, rfl⟩, rfl, rfl⟩⟩

theorem leaves28 (l : List Int) : ∃ x y, Leaves 28 [.d (.sl .int l)] (.tup [.optr x, .d (.int .i64 (err28 l))]) y := by
  unfold err28
  cases h1 : ltI 4096 (intN (lenL l)) with
  | true => exact ⟨none, _, Runs.tells (e28 l _ (ite_of (c := true) h1 ⟨rfl, rfl⟩)) tells_nil⟩
  | false =>
    cases h2 : l.any (fun n => ltI n 0) with
    | true => exact ⟨none, _, Runs.tells (e28 l _ (ite_of (c := false) h1 ⟨_, (), gives42 43 _ gives43 l, ite_of (c := true) h2 ⟨rfl, rfl⟩⟩)) tells_nil⟩
    | false => exact ⟨some 0, _, Runs.tells (e28 l _ (ite_of (c := false) h1 ⟨_, (), gives42 43 _ gives43 l, ite_of (c := false) h2 ⟨l, gives44 l, 0, _, e33l _ _ _ ⟨rfl, rfl⟩, rfl, rfl⟩⟩)) tells_ptr⟩

theorem leaves29 (l : List Int) : ∃ x y, Leaves 29 [.d (.sl .int l)] (.tup [.optr x, .d (.int .i64 (err29 l))]) y := by
  unfold err29
  cases h1 : ltI 128 (intN (lenL l)) with
  | true => exact ⟨none, _, Runs.tells (e29 l _ (ite_of (c := true) h1 ⟨rfl, rfl⟩)) tells_nil⟩
  | false =>
    cases h2 : l.any (fun n => ltI n 0 || ltI 9007199254740992 n) with
    | true => exact ⟨none, _, Runs.tells (e29 l _ (ite_of (c := false) h1 ⟨_, (), gives42 45 _ gives45 l, ite_of (c := true) h2 ⟨rfl, rfl⟩⟩)) tells_nil⟩
    | false => exact ⟨some 0, _, Runs.tells (e29 l _ (ite_of (c := false) h1 ⟨_, (), gives42 45 _ gives45 l, ite_of (c := false) h2 ⟨l, gives44 l, 0, _, e33l _ _ _ ⟨rfl, rfl⟩, rfl, rfl⟩⟩)) tells_ptr⟩

abbrev hp (g : Nat) (y : List Int) (z : Int) : List (O U) := [.arr g (.pure .int) y, .cells (.d (.int .u64 z) :: .asl (.g 0) g none false :: kk)]

theorem leaves46 (n : Int) (hn : convW .u64 n ≠ 0) (g : Nat) (y : List Int) (z : Int) : ∃ x z', Runs K 46 [.ptr (.g 1) 0, .d (.int .i64 n)] (hp g y z) (fun c' H' => c' = (.d (.int .i64 x) : C U) ∧ H' = hp g y z') := by
  have h : notB (eqI (convW .u64 n) 0) = true := by rw [notB_iff]; simp [eqI, hn]
  exact ⟨_, _, e46 n g y z _ ⟨_, _, e51 g y z _ ⟨rfl, rfl⟩, andP_iff.2 ⟨rfl, andP_iff.2 ⟨h, rfl, rfl⟩⟩⟩⟩

theorem leaves30 (s a b : Int) : ∃ x y, Leaves 30 [.d (.int .u64 s), .d (.int .i64 a), .d (.int .i64 b)] (.tup [.optr x, .d (.int .i64 (err30 a b))]) y := by
  unfold err30
  cases h : ((ltI a 1 || ltI 1048576 a) || ltI b 0) || ltI 64 b with
  | true => exact ⟨none, _, Runs.tells (e30 s a b _ ⟨_, or_w _ _, _, or_w _ _, _, or_w _ _, ite_of (c := true) h ⟨rfl, rfl⟩⟩) tells_nil⟩
  | false =>
    have h' := h
    simp only [Bool.or_eq_false_iff] at h'
    obtain ⟨⟨⟨h1, h2⟩, h3⟩, h4⟩ := h'
    have ha1 : ¬ a < 1 := by simpa [ltI] using h1
    have ha2 : ¬ 1048576 < a := by simpa [ltI] using h2
    have hb : ¬ 64 < b := by simpa [ltI] using h4
    have hn : convW .u64 a ≠ 0 := by
      have : convW .u64 a = a := by
        unfold convW IntKind.wrap
        simp only [IntKind.signed, IntKind.bits]
        simp
        omega
      omega
    have loop : ∀ (k i g : Nat) (y : List Int) (z : Int), (b - i).toNat = k → y.length = i → (i : Int) ≤ max b 0 → ∃ H, At K 30 (fun c' H' => c' = (.tup [.ptr (.g 2) 0, .d (.int .i64 0)] : C U) ∧ H' = H) t30_5 (s30_5 a b i g y z) := by
      intro k
      induction k with
      | zero =>
        intro i g y z h1 h2 h3
        refine ⟨_, l30_5 _ _ _ _ _ _ _ (ite_of (c := false) ?_ ⟨2, _, e33q _ _ _ _ _ ⟨rfl, rfl⟩, rfl, rfl⟩)⟩
        simp [ltI]; omega
      | succ k ih =>
        intro i g y z h1 h2 h3
        obtain ⟨x, z', hr⟩ := leaves46 a hn g y z
        obtain ⟨H, hA⟩ := ih (i + 1) (g + 1) (y ++ [x]) z' (by omega) (by simp [h2]) (by omega)
        refine ⟨H, l30_5 _ _ _ _ _ _ _ (ite_of (c := true) ?_ ⟨x, z', hr, rfl, andP_iff.2 ⟨?_, ?_⟩⟩)⟩
        · simp [ltI]; omega
        · rw [andB_true]
          refine ⟨by simp, ?_⟩
          have hr : room = 140737488355328 := rfl
          rw [roomB_iff]; simp only [addN, lenL, List.length_cons, List.length_nil]; omega
        · rw [addW_small (by omega) (by omega)]; exact hA
    obtain ⟨H, hA⟩ := loop _ 0 0 [] (seedV s) rfl rfl (by simp; omega)
    exact ⟨some 2, H, Runs.tells (e30 s a b _ ⟨_, or_w _ _, _, or_w _ _, _, or_w _ _, ite_of (c := false) h ⟨_, gives41 s, hA⟩⟩) tells_ptr⟩

end Go.Proofs.Ytikcopbjconkfaa.V
