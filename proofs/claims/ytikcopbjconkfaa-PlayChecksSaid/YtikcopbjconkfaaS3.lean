/- LEMMAS: whether an act is right, in the program. Conditions: none. -/
import Derived.Test.YtikcopbjconkfaaS2
namespace Go.Proofs.Ytikcopbjconkfaa.V
set_option linter.unusedVariables false
set_option linter.unusedSimpArgs false
open Go Go.Abs

abbrev hm (m : List (Int × Int)) : List (O U) := [.map (false, false) .int_u8 (.pure .int) m, .cells [.mp (.g 0)]]
abbrev ek : Int → Int → Bool := fun x y => andB (eqI x y) true

theorem ek_eq (x y : Int) : ek x y = decide (x = y) := by
  show (eqI x y && true) = _
  rw [Bool.and_true]
  by_cases h : x = y <;> simp [h, eqI]

theorem find_upd (c k : Int) (m : List (Int × Int)) : findK ek c (updK ek k 1 m) = if c = k then some 1 else findK ek c m := by
  induction m with
  | nil =>
    simp only [updK, findK, List.find?, ek_eq]
    by_cases h : c = k <;> simp [h]
  | cons e m ih =>
    simp only [updK, ek_eq]
    by_cases h : k = e.1
    · simp only [h, decide_true, if_true, findK, List.find?, ek_eq]
      by_cases h' : c = e.1 <;> simp [h']
    · simp only [h, decide_false, Bool.false_eq_true, if_false]
      simp only [findK, List.find?, ek_eq] at ih ⊢
      by_cases h' : c = e.1
      · have : c ≠ k := fun e' => h (by rw [← e', h'])
        simp [h', fun e' => h (Eq.symm e')]
        exact fun e' => absurd e'.symm h
      · simp only [h', decide_false]
        exact ih

/-- Is it marked? -/
abbrev mk (m : List (Int × Int)) (c : Int) : Bool := ltI 0 (getO' 0 (findK ek c m))

theorem gives15 (c : Int) (b : Bool) (m : List (Int × Int)) : Runs K 15 [.d (.int .u8 c), .d (.bool b), .ptr (.g 1) 0] (hm m) (fun c' H' => c' = (.d (.bool (mk m c || b)) : C U) ∧ H' = hm m) := by
  refine e15 c b m _ ⟨mk m c || b, ?_, rfl, rfl⟩
  rw [iteP_iff]
  show if mk m c = true then _ else _
  cases mk m c <;> simp

theorem mk_upd (c k : Int) (m : List (Int × Int)) : mk (updK ek k 1 m) c = (eqI k c || mk m c) := by
  unfold mk
  rw [find_upd]
  by_cases h : c = k
  · simp [h, eqI, getO', ltI]
  · have : (k == c) = false := by simpa using fun e => h e.symm
    simp [h, eqI, this]

theorem at6 (u : ByteArray) (ok : Bool) (a : api_Act) (hu : u.size ≤ 100) : ∀ (n i : Nat) (m : List (Int × Int)), u.size - i = n → i ≤ u.size → (∀ c, mk m c = ((u.data.toList.take i).any fun b => eqI b.toNat c)) →
    At K 6 (fun c' H' => c' = (.d (.int .i64 (if ok && okAct a (hasB u 115) (hasB u 110) (hasB u 97) (hasB u 116) (hasB u 112) then 0 else 230)) : C U) ∧ H' = []) t6_4 (s6_4 u ok (intN (strLen u)) i a.1 a.2 a.3 a.4 a.5 a.6.1 a.6.2 a.6.3 a.6.4.1 a.6.4.2 a.6.4.3 a.6.4.4 a.6.5.1 a.6.5.2 m) := by
  have hsz : u.data.toList.length = u.size := by simp
  intro n
  induction n with
  | zero =>
    intro i m h1 h2 hm
    have hall : ∀ c, mk m c = hasB u c := by
      intro c
      rw [hm c, List.take_of_length_le (by omega)]; rfl
    refine l6_4 _ _ _ _ _ _ _ _ _ _ _ _ _ _ _ _ _ _ _ _ (ite_of (c := false) ?_ ?_)
    · simp [ltI, intN, strLen]; omega
    have e : ∀ c b, Runs K 15 [.d (.int .u8 c), .d (.bool b), .ptr (.g 1) 0] [O.map (false, false) Ty.int_u8 (Vc.pure Ty.int) m, O.cells [C.mp (Rf.g 0)]] (fun c' H' => c' = (.d (.bool (hasB u c || b)) : C U) ∧ H' = [O.map (false, false) Ty.int_u8 (Vc.pure Ty.int) m, O.cells [C.mp (Rf.g 0)]]) := by
      intro c b
      rw [← hall c]
      exact gives15 c b m
    have bad : ∀ b : Bool, b = false → okAct a (hasB u 115) (hasB u 110) (hasB u 97) (hasB u 116) (hasB u 112) = b → (C.d (D.int IntKind.i64 230) : C U) = (.d (.int .i64 (if ok && okAct a (hasB u 115) (hasB u 110) (hasB u 97) (hasB u 116) (hasB u 112) then 0 else 230)) : C U) ∧ ([] : List (O U)) = [] := by
      intro b hb h
      rw [h, hb]; simp
    cases hok : ok with
    | false => exact ⟨rfl, rfl⟩
    | true =>
      subst hok
      refine ⟨_, e 115 _, ?_⟩
      rw [iteP_iff]; split
      · rename_i h; exact bad _ rfl (by rw [notB_iff] at h; simp [okAct, h])
      · rename_i g1; rw [notB_iff, Bool.not_eq_false] at g1
        refine ⟨_, e 110 _, ?_⟩
        rw [iteP_iff]; split
        · rename_i h; exact bad _ rfl (by rw [notB_iff] at h; simp [okAct, h])
        · rename_i g2; rw [notB_iff, Bool.not_eq_false] at g2
          refine ⟨_, e 97 _, ?_⟩
          rw [iteP_iff]; split
          · rename_i h; exact bad _ rfl (by rw [notB_iff] at h; simp [okAct, h])
          · rename_i g3; rw [notB_iff, Bool.not_eq_false] at g3
            refine ⟨_, e 116 _, ?_⟩
            rw [iteP_iff]; split
            · rename_i h; exact bad _ rfl (by rw [notB_iff] at h; simp [okAct, h])
            · rename_i g4; rw [notB_iff, Bool.not_eq_false] at g4
              refine ⟨_, gives16 a.gProvider, _, e 112 _, ?_⟩
              rw [iteP_iff]; split
              · rename_i h; exact bad _ rfl (by rw [notB_iff] at h; simp [okAct, h])
              · rename_i g5; rw [notB_iff, Bool.not_eq_false] at g5
                have : okAct a (hasB u 115) (hasB u 110) (hasB u 97) (hasB u 116) (hasB u 112) = true := by
                  simp only [okAct, g1, g2, g3, g4, g5, Bool.and_self]
                rw [this]; exact ⟨rfl, rfl⟩
  | succ n ih =>
    intro i m h1 h2 hm
    refine l6_4 _ _ _ _ _ _ _ _ _ _ _ _ _ _ _ _ _ _ _ _ (ite_of (c := true) ?_ ?_)
    · simp [ltI, intN, strLen]; omega
    have hin : inB (i : Int) (strLen u) = true := by rw [inB_iff]; simp [strLen]; omega
    refine andP_iff.2 ⟨hin, ?_⟩
    rw [addW_small (by omega) (by omega)]
    refine ih (i + 1) _ (by omega) (by omega) fun c => ?_
    have hi : i < u.data.toList.length := by omega
    show mk (updK ek _ 1 m) c = _
    rw [mk_upd, hm c, byteAt_nat (by omega), List.take_add_one, List.getElem?_eq_getElem hi, List.any_append]
    simp [Bool.or_comm]

theorem useP_size (k : Int) : (useP k).1.size ≤ 100 := by
  rcases kinds k with (h | h | h | h | h | h | h) | (h | h | h | h | h | h | h) | ⟨h1, h2, h3, h4, h5, h6, h7, h8, h9, h10, h11, h12, h13, h14⟩
  case inr.inr =>
    have e : useP k = (bs [], false) := by simp [useP, *]
    rw [e]; decide
  all_goals
    subst h
    decide

theorem gives6 (a : api_Act) : Gives 6 [actC a] (.d (.int .i64 (chkR a))) := by
  rw [← chk_same a]
  refine e6 a _ ⟨useP a.gKind, gives14 _, ?_⟩
  exact at6 (useP a.gKind).1 (useP a.gKind).2 a (useP_size _) _ 0 [] rfl (Nat.zero_le _) fun c => by simp [mk, findK, getO', ltI]

/-! ### Copies -/
theorem gives4 (a : api_Act) : Gives 4 [.d (.sl .api_Act [a])] (.d (.sl .api_Act [a])) := by
  refine e4 [a] _ (l4_3 _ _ _ _ (ite_of (c := true) rfl (andP_iff.2 ⟨rfl, a.gProvider, gives12 a.gProvider, andP_iff.2 ⟨?_, ?_⟩⟩)))
  · rw [roomB_iff]; simp [addN, lenL, room]
  · exact l4_3 _ _ _ _ (ite_of (c := false) rfl ⟨rfl, rfl⟩)

theorem gives10 (a : api_Act) : Gives 10 [.d (.sl .api_Act [a]), .d (.sl .api_Act [a])] (.d (.bool true)) := by
  refine e10 [a] [a] _ (ite_of (c := false) rfl (l10_4 _ _ _ _ (ite_of (c := true) rfl (andP_iff.2 ⟨rfl, andP_iff.2 ⟨rfl, ?_⟩⟩))))
  refine ⟨false, ite_of (c := false) (by simp [eqI, notB]) (by simp [eqI, notB]), false, ite_of (c := false) rfl (by simp [eqI, notB]), false, ite_of (c := false) rfl (by simp [strEq, notB]), false, ite_of (c := false) rfl (by simp [strEq, notB]),
    false, ite_of (c := false) rfl ⟨true, same21 a.gProvider, rfl⟩, ite_of (c := false) rfl ?_⟩
  exact l10_4 _ _ _ _ (ite_of (c := false) rfl ⟨rfl, rfl⟩)
end Go.Proofs.Ytikcopbjconkfaa.V
