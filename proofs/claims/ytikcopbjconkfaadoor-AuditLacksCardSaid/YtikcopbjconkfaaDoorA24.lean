/- LEMMAS: **the walk is true of the program.** Conditions: none. -/
import Derived.Test.YtikcopbjconkfaaDoorA23
namespace Go.Abs
set_option linter.unusedVariables false
set_option linter.unusedSimpArgs false
section
variable {K : Cfg} {Rs : Res K}

theorem Sim.drewN {β : Base K} {nt : Nat} {st : St K.U} {a : Act} {F : Nat → Prop} {pl : Rf → Pl} {w : World} (S : Sim K β nt st a F pl w) : Sim K β nt st a F pl { w with drawn := w.drawn + 1 } :=
  S.ext ⟨rfl, rfl, rfl, Nat.le_refl _, fun _ _ => rfl⟩

theorem zip_range {α : Type} (l : List α) : ((List.range l.length).zip l).map (·.1) = List.range l.length := by
  rw [List.map_fst_zip]; simp

theorem mem_zip_range {ops : Array Oper} {p : Nat × Oper} (h : p ∈ (List.range ops.size).zip ops.toList) : ops[p.1]? = some p.2 := by
  obtain ⟨n, hn, e⟩ := List.getElem_of_mem h
  have h1 : ((List.range ops.size).zip ops.toList)[n]? = some p := by rw [← e]; exact List.getElem?_eq_getElem hn
  rw [List.getElem?_zip_eq_some] at h1
  obtain ⟨h2, h3⟩ := h1
  have := List.getElem?_eq_some_iff.1 h2
  simp only [List.length_range, List.getElem_range] at this
  obtain ⟨_, e⟩ := this
  rw [← e]
  simpa using h3

theorem walkP_sound (L : Laws K) {Leaf : List Item → St K.U → Prop} {f : FuncId} {fn : Func} {post : C K.U → List (O K.U) → Prop} (hfn : K.P.funcs[f]? = some fn) (hLeaf : ∀ todo st, Leaf todo st → At K f post todo st) :
    ∀ (n : Nat) {first : Bool} {todo : List Item} {st : St K.U}, walkP Rs (Runs K) Leaf f fn post n first todo st → At K f post todo st := by
  intro n
  induction n with
  | zero => intro first todo st h; simp only [walkP] at h
  | succ n ih =>
    intro first todo st h fn' hfn' β b a w F pl cs hb hk hp S
    rw [hfn] at hfn'; cases hfn'
    have ends : ∀ todo', step K.P (lone (b.at a todo) cs w) = .next (lone { b.at a todo' with mode := .returning } cs w) → endP f fn st post →
        ∃ v w' fr, Steps K.P (lone (b.at a todo) cs w) (lone fr cs w') ∧ fr.fn = f ∧ fr.leaving K.P w' (.returned v) ∧ ∃ c H' F' pl' own, post c H' ∧ Fin K β c v H' F' pl' w' own := by
      intro todo' hs he
      obtain ⟨v, h1, c, H', F', pl', own, h2, h3⟩ := endP_sound L S hp he
      exact ⟨v, w, _, .one hs, hb, ⟨rfl, S.defers, hk, fn, by rw [← hfn, ← hb]; rfl, h1⟩, c, H', F', pl', own, h2, h3⟩
    have goes : ∀ {todo' : List Item} {st' : St K.U} {first' : Bool} {a' : Act} {F' : Nat → Prop} {pl' : Rf → Pl} {w' : World}, Steps K.P (lone (b.at a todo) cs w) (lone (b.at a' todo') cs w') → Sim K β fn.ntmps st' a' F' pl' w' →
        walkP Rs (Runs K) Leaf f fn post n first' todo' st' →
        ∃ v w' fr, Steps K.P (lone (b.at a todo) cs w) (lone fr cs w') ∧ fr.fn = f ∧ fr.leaving K.P w' (.returned v) ∧ ∃ c H' F' pl' own, post c H' ∧ Fin K β c v H' F' pl' w' own := by
      intro todo' st' first' a' F' pl' w' hs S' hw
      obtain ⟨v, w2, fr, h1, h2⟩ := ih hw fn hfn β b a' w' F' pl' cs hb hk hp S'
      exact ⟨v, w2, fr, hs.trans h1, h2⟩
    cases todo with
    | nil => simp only [walkP] at h; exact ends _ step_end h
    | cons x k =>
      cases x with
      | inBlock id => simp only [walkP] at h; exact goes (.one step_inBlock) S h
      | inScope c =>
        simp only [walkP] at h
        exact goes (todo' := k) (.one (step_lone_go (by simp [stepG, stepG.exec, Frame.at]))) S h
      | inLoop c => simp only [walkP] at h; exact goes (.one step_inLoop) S h
      | code c =>
        cases c with
        | ret => simp only [walkP] at h; exact ends _ step_ret h
        | skip => simp only [walkP] at h; exact goes (.one step_skip) S h
        | label l => simp only [walkP] at h; exact goes (.one step_label) S h
        | seq x y => simp only [walkP] at h; exact goes (.one step_seq) S h
        | block id x => simp only [walkP] at h; exact goes (.one step_block) S h
        | loop x => simp only [walkP] at h; exact goes (.one step_loop) S h
        | exit id =>
          simp only [walkP] at h
          split at h
          · rename_i k' hk'
            exact goes (.one (step_exit hk')) S h
          · exact h.elim
        | cond c x y =>
          simp only [walkP] at h
          split at h
          · rename_i t ht
            have he := eval_bool S (x := c) (b := t) (by rw [ht]; rfl)
            have hs := step_cond (P := K.P) (b := b) (k := k) (cs := cs) (w := w) (x := x) (y := y) he
            rw [iteP_iff] at h
            cases t with
            | true => exact goes (.one hs) S (by simpa using h)
            | false => exact goes (.one hs) S (by simpa using h)
          · exact h.elim
        | region id ops draw =>
          simp only [walkP] at h
          split at h
          · exact h.elim
          · rename_i hnt
            have hnt' : ∀ (i : Nat) (o : Oper), ops[i]? = some o → ∀ d, o.dst = some d → d < fn.ntmps := by
              intro i o ho d hd
              simp only [Bool.not_eq_false] at hnt
              have := List.all_eq_true.1 hnt o (by simpa using Array.mem_of_getElem? ho)
              simpa [hd] using this
            split at h
            · split at h
              · rename_i hc
                have hl := hLeaf _ _ h
                exact hl fn hfn β b a w F pl cs hb hk hp (S.clear hc)
              · exact h.elim
            · cases draw with
              | true =>
                simp only [if_true] at h
                split at h
                · rename_i hB
                  simp only [Bool.and_eq_true] at hB
                  have hw := wp_region_any (P := K.P) (id := id) (ops := ops) (a := a) (w := w) (Q := fun e a' w' => e = .normal ∧ ∃ st' F' pl', Sim K β fn.ntmps st' a' F' pl' w' ∧ walkP Rs (Runs K) Leaf f fn post n false k st') hB.2
                    (drawP_sound (an := K.ann f) L hB.1 hnt' S.drewN h fun st' a' F' pl' w' S' hk' => ⟨rfl, st', F', pl', S', hk'⟩)
                  obtain ⟨e, a', w', ⟨rfl, st', F', pl', S', hk'⟩, harr⟩ := hw b k cs
                  exact goes harr S' hk'
                · exact h.elim
              | false =>
                simp only [Bool.false_eq_true, if_false] at h
                have hw := rgnP_sound (Q := fun e a' w' => e = .normal ∧ ∃ st' F' pl', Sim K β fn.ntmps st' a' F' pl' w' ∧ walkP Rs (Runs K) Leaf f fn post n false k st') (rest := []) L _ S (fun p hp => mem_zip_range hp)
                  (fun p hp => hnt' _ _ (mem_zip_range hp)) (by trivial) h fun st' a' F' pl' w' S' hk' _ _ => ⟨rfl, st', F', pl', S', hk'⟩
                have e1 : ((List.range ops.size).zip ops.toList).map (·.1) ++ [] = List.range ops.size := by
                  rw [List.append_nil]
                  have := zip_range ops.toList
                  simpa using this
                rw [e1] at hw
                obtain ⟨e, a', w', ⟨rfl, st', F', pl', S', hk'⟩, harr⟩ := wp_ops _ a w hw b k cs
                exact goes (.head step_region harr) S' hk'
        | _ => simp only [walkP] at h
      | _ => simp only [walkP] at h

/-- **A function's way on, from a place.** -/
theorem At.of_walk (L : Laws K) (Rs : Res K) {f : FuncId} {fn : Func} {post : C K.U → List (O K.U) → Prop} (n : Nat) (hfn : K.P.funcs[f]? = some fn) {first : Bool} {todo : List Item} {st : St K.U}
    (h : walkP Rs (Runs K) (At K f post) f fn post n first todo st) : At K f post todo st := walkP_sound L hfn (fun _ _ h => h) n h

theorem fin_refl {F : Nat → Prop} {H : List (O K.U)} {pl : Rf → Pl} {w : World} : Fr K ⟨w, F, H, pl⟩ F w (obH H) pl :=
  ⟨rfl, rfl, rfl, Nat.le_refl _, fun _ _ _ => rfl, fun _ h => h, fun _ h => .inl h, fun r o h ho => by
    obtain ⟨n, rfl, h1, _⟩ := obH_some (loc := fun _ => none) h
    exact .inr ⟨n, o, h1, ho, rfl⟩, fun n o h => ⟨o, h, .refl _ _⟩⟩

/-- **A function.** -/
theorem Runs.of_walk (L : Laws K) (Rs : Res K) {f : FuncId} {fn : Func} {body : Code} {args : List (C K.U)} {H : List (O K.U)} {post : C K.U → List (O K.U) → Prop} (n : Nat) (hfn : K.P.funcs[f]? = some fn) (hbody : fn.body = some body)
    (hlen : Nat.ble args.length fn.ntmps = true) (hp : (K.ann f).pure = true → H = [])
    (h : walkP Rs (Runs K) (At K f post) f fn post n true [.code body] ⟨fun t => args.getD t .dead, fun _ => none, H⟩) : Runs K f args H post := by
  intro w F pl vs hok M hr cs
  have hl : args.length ≤ fn.ntmps := Nat.le_of_ble_eq_true hlen
  have hlv := hr.length
  have hat := At.of_walk L Rs n hfn h
  have S : Sim K ⟨w, F, H, pl⟩ fn.ntmps ⟨fun t => args.getD t .dead, fun _ => none, H⟩ ⟨vs.toArray ++ Array.replicate (fn.ntmps - vs.toArray.size) undef, []⟩ F pl w := by
    refine ⟨by simp; omega, rfl, fun t => ?_, M, fin_refl, hok⟩
    by_cases ht : t < args.length
    · obtain ⟨v, hv, hc⟩ := hr.get (List.getElem?_eq_getElem ht)
      have e1 : args.getD t .dead = args[t] := by rw [List.getD_eq_getElem?_getD, List.getElem?_eq_getElem ht]; rfl
      have e2 : (vs.toArray ++ Array.replicate (fn.ntmps - vs.toArray.size) undef).getD t undef = v := by
        rw [Array.getD_eq_getD_getElem?, Array.getElem?_append_left (by simp; omega), List.getElem?_toArray, hv]; rfl
      show RepC F w (obH H) pl (args.getD t .dead) _
      rw [e1, e2]; exact hc
    · have e1 : args.getD t .dead = .dead := by rw [List.getD_eq_getElem?_getD, List.getElem?_eq_none (by omega)]; rfl
      show RepC F w (obH H) pl (args.getD t .dead) _
      rw [e1]; exact repC_dead _
  obtain ⟨v, w', fr, h1, h2, h3, h4⟩ := hat fn hfn ⟨w, F, H, pl⟩ (Frame.enter K.P f vs.toArray .normal) _ w F pl cs rfl rfl hp S
  refine ⟨.returned v, w', fr, ⟨v, rfl, h4⟩, ?_, h2, h3⟩
  have e : (Frame.enter K.P f vs.toArray .normal) = (Frame.enter K.P f vs.toArray .normal).at ⟨vs.toArray ++ Array.replicate (fn.ntmps - vs.toArray.size) undef, []⟩ [.code body] := by
    simp [Frame.enter, Frame.at, hfn, hbody]
  show Steps K.P (lone (Frame.enter K.P f vs.toArray .normal) cs w) (lone fr cs w')
  rw [e]; exact h1

end
end Go.Abs
