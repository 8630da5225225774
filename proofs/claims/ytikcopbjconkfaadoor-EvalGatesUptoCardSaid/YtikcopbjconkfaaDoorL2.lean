/- LEMMAS: what functions answer, and what is true of it. Conditions: none. -/
import Derived.Test.YtikcopbjconkfaaDoorL1
import Derived.Test.YtikcopbjconkfaaDoorW4
import Derived.Test.YtikcopbjconkfaaDoorW3
import Derived.Test.YtikcopbjconkfaaDoorA34
import Derived.Test.YtikcopbjconkfaaDoorRows
import Derived.LaidMore
import Derived.JoinedCond
import Derived.LaidLaws
set_option maxRecDepth 4000
set_option linter.unusedSectionVars false
namespace Go.Proofs.YtikcopbjconkfaaDoor.V
set_option linter.unusedVariables false
set_option linter.unusedSimpArgs false
open Go Go.Abs

theorem clone77 (v : ValL) : Gives 77 [.d (.sl .api_Atom v)] (.d (.sl .api_Atom v)) := by
  refine Runs.known fun hk _ => ?_
  have hl := known_atoms (hk _ (List.mem_cons_self ..))
  refine e77 _ _ ⟨and_t (roomB_t (by simpa [addN, lenL, nilL] using hl)) ⟨rfl, rfl⟩, ite_w (fun h => ?_) (fun _ => trivial)⟩
  cases v with
  | nil => exact ⟨rfl, rfl⟩
  | cons _ _ => cases h
theorem clone78 (v : List api_Crack) : Gives 78 [.d (.sl .api_Crack v)] (.d (.sl .api_Crack v)) := by
  refine Runs.known fun hk _ => ?_
  have hl := known_cracks (hk _ (List.mem_cons_self ..))
  refine e78 _ _ ⟨and_t (roomB_t (by simpa [addN, lenL, nilL] using hl)) ⟨rfl, rfl⟩, ite_w (fun h => ?_) (fun _ => trivial)⟩
  cases v with
  | nil => exact ⟨rfl, rfl⟩
  | cons _ _ => cases h

/-- A value that comes is not empty. -/
def OkO (o : api_Outcome) : Prop := o.gKind = 1 → o.gValue ≠ []

theorem outR_ok {o : api_Outcome} (h : outR o = true) : OkO o := by
  intro hk hv
  unfold outR at h
  rw [if_pos (eqI_t.2 hk), hv, Bool.and_eq_true] at h
  have := h.2
  revert this
  decide

theorem findK_in {n k : ByteArray} {x o : api_Outcome} : ∀ {es : List (ByteArray × api_Outcome)}, findK kS n (updK kS k x es) = some o → o = x ∨ findK kS n es = some o
  | [], h => by
    unfold updK findK at h
    simp only [List.find?] at h
    split at h
    · simp at h; exact .inl h.symm
    · simp at h
  | e :: es, h => by
    unfold updK at h
    by_cases hk : kS k e.1 = true
    · rw [if_pos hk] at h
      unfold findK at h ⊢
      simp only [List.find?] at h ⊢
      have he : k = e.1 := kS_iff.1 hk
      rw [he] at h
      split at h
      · rename_i hb
        simp at h; exact .inl h.symm
      · rename_i hb
        exact .inr h
    · rw [if_neg hk] at h
      unfold findK at h ⊢
      simp only [List.find?] at h ⊢
      split at h
      · rename_i hb
        exact .inr h
      · rename_i hb
        exact findK_in (es := es) h

theorem scanK_ok : ∀ {r : List api_Known} {es : List (ByteArray × api_Outcome)}, (scanK es r).1 = 0 → (∀ n o, findK kS n es = some o → OkO o) → ∀ n o, findK kS n (scanK es r).2 = some o → OkO o
  | [], es, _, h => h
  | k :: r, es, h0, h => by
    unfold scanK at h0 ⊢
    by_cases h1 : nameB k.gName = false
    · rw [if_pos h1] at h0; cases h0
    rw [if_neg h1] at h0 ⊢
    by_cases h2 : (findK kS k.gName es).isSome = true
    · rw [if_pos h2] at h0; cases h0
    rw [if_neg h2] at h0 ⊢
    by_cases h3 : outR k.gOutcome = false
    · rw [if_pos h3] at h0; cases h0
    rw [if_neg h3] at h0 ⊢
    refine scanK_ok h0 fun n o ho => ?_
    rcases findK_in ho with rfl | ho
    · exact outR_ok (by simpa using h3)
    · exact h n o ho

noncomputable def envOf (kn : List api_Known) (op : List ByteArray) : Env := ⟨knownF (scanK [] kn).2, fun n => inB' op n, doneF, wordF⟩
noncomputable def evalF (x : List api_Op) (kn : List api_Known) (op : List ByteArray) : api_Meaning × Int :=
  if exprE x ≠ 0 then (⟨nilO, bs [], []⟩, 5)
  else if givenE kn op ≠ 0 then (⟨nilO, bs [], []⟩, givenE kn op)
  else match exprT x with
    | some [t] => if (ev (envOf kn op) t [] ⟨[], bs []⟩).1.gKind = 0 then (⟨nilO, (ev (envOf kn op) t [] ⟨[], bs []⟩).2.gate, (ev (envOf kn op) t [] ⟨[], bs []⟩).2.asked⟩, 0) else (⟨(ev (envOf kn op) t [] ⟨[], bs []⟩).1, bs [], (ev (envOf kn op) t [] ⟨[], bs []⟩).2.asked⟩, 0)
    | _ => (⟨nilO, bs [], []⟩, 0)

abbrev meanC (m : api_Meaning) : C U := .agg [.d (.int .i64 m.gOutcome.gKind), .d (.sl .api_Atom m.gOutcome.gValue), .d (.sl .api_Crack m.gOutcome.gFail), .d (.str m.gGate), .d (.sl .str m.gAsked)]

theorem frz_mean {H : List (O U)} {a g : Nat} {asked : List ByteArray} {k : Int} {v : ValL} {f : List api_Crack} {t : ByteArray} (h : obj H a = some (arrS g asked)) :
    K.frz (fun _ => none) H (.agg [.d (.int .i64 k), .d (.sl (U := U) .api_Atom v), .d (.sl (U := U) .api_Crack f), .d (.str t), .asl (.g a) g none false]) = some (true, .agg [.d (.int .i64 k), .d (.sl (U := U) .api_Atom v), .d (.sl (U := U) .api_Crack f), .d (.str t), .d (.sl (U := U) .str asked)], [(.g a, .fro (U := U) g .str asked)]) := by
  have h : getO (fun _ => none) H (.g a) = some (.arr g (.pure .str) asked) := h
  have hn : K.now (fun _ => none) H (.g a) g none = some (true, .sl (U := U) .str asked, .fro (U := U) g .str asked) := by
    unfold Cfg.now
    split
    · rename_i g1 c xs he
      have := h.symm.trans he
      cases this
      simp [andB, subOk, subBy]
      rfl
    · rename_i g1 c xs he
      have := h.symm.trans he
      cases this
    · rename_i he _
      exact absurd h (he _ _ _)
  simp only [Cfg.frz, Cfg.frzAll, hn]
  rfl

theorem gives31 (x : List api_Op) (kn : List api_Known) (op : List ByteArray) (H : List (O U)) : ∃ H', GivesM 31 [.d (.sl .api_Op x), .d (.sl .api_Known kn), .d (.sl .str op)] H (.tup [meanC (evalF x kn op).1, .d (.int .i64 (evalF x kn op).2)]) H' := by
  by_cases h0 : exprE x ≠ 0
  · have e : evalF x kn op = (⟨nilO, bs [], []⟩, 5) := if_pos h0
    rw [e]
    exact ⟨H, e31 _ _ _ _ _ ⟨_, gives73 x, ite_t (notB_t.2 (eqI_f.2 h0)) ⟨rfl, rfl⟩⟩⟩
  have hE : notB (eqI (exprE x) 0) = false := notB_f.2 (eqI_t.2 (by omega))
  obtain ⟨m, y, g1, g2⟩ := gives74 kn op H
  by_cases h1 : givenE kn op ≠ 0
  · have e : evalF x kn op = (⟨nilO, bs [], []⟩, givenE kn op) := by unfold evalF; rw [if_neg h0, if_pos h1]
    rw [e]
    have g1 : GivesM 74 [.d (.sl .api_Known kn), .d (.sl .str op)] H (.tup [.d .nilm, .d (.int .i64 (givenE kn op))]) y := by
      have ea : ansK m (givenE kn op) = .tup [.d .nilm, .d (.int .i64 (givenE kn op))] := by unfold ansK; rw [if_neg h1]
      rw [← ea]; exact g1
    exact ⟨y, e31n _ _ _ _ _ ⟨_, gives73 x, ite_f hE ⟨givenE kn op, y, g1, ite_t (notB_t.2 (eqI_f.2 h1)) ⟨rfl, rfl⟩⟩⟩⟩
  have h1 : givenE kn op = 0 := by omega
  have h0 : exprE x = 0 := by omega
  -- the tree
  have hlen : x.length ≤ 256 := by
    by_cases hl : 256 < x.length
    · unfold exprE at h0; rw [if_pos hl] at h0; cases h0
    · omega
  have ht : ∃ t, exprT x = some [t] ∧ bndB [] t = true := by
    unfold exprE at h0
    rw [if_neg (by omega)] at h0
    split at h0
    · rename_i t ht
      by_cases hb : bndB [] t = true
      · exact ⟨t, ht, hb⟩
      · rw [if_neg hb] at h0; cases h0
    · cases h0
  obtain ⟨t, ht, hbnd⟩ := ht
  obtain ⟨hxt, hgood⟩ := Tr.read_one ht
  have hsz : t.size = x.length := by rw [hxt, Tr.post_length]
  have hscan : (scanK [] kn).1 = 0 := by
    unfold givenE at h1
    split at h1
    · cases h1
    · split at h1
      · assumption
      · assumption
  have hm := g2 h1
  let d : WayD := ⟨x, Ns (t.fronts 0), m, op, lenO y, lenO (pushO y (O.arr 0 (Vc.pure Ty.str) (nilL ByteArray))), (scanK [] kn).2⟩
  let H1 : List (O U) := pushO (pushO y (O.arr 0 (Vc.pure Ty.str) (nilL ByteArray))) (wayO d 0 (bs []))
  have hM : MR d H1 [] (bs []) := by
    refine ⟨0, obj_push, ?_, ?_⟩
    · show obj H1 (lenO y) = _
      have e := obj_push (H := y) (o := O.arr 0 (Vc.pure Ty.str) (nilL ByteArray))
      rw [obj_push_lt (obj_len e)]; exact e
    · show obj H1 m = _
      have e : obj (pushO y (O.arr 0 (Vc.pure Ty.str) (nilL ByteArray))) m = some (mapK (scanK [] kn).2) := by rw [obj_push_lt (obj_len hm)]; exact hm
      rw [obj_push_lt (obj_len e)]; exact e
  have hat := at_main (d := d) (frN := t.fronts 0) rfl hlen (scanK_ok hscan (fun n o h => by cases h)) t.size (p := 0) (t := t) (loc := []) (s := ⟨[], bs []⟩) (H := H1) (Nat.le_refl _) (by show InT x _ 0 t; rw [hxt]; exact InT.whole t) hgood hbnd (fun _ h => by cases h) (by simp; omega) (by simp; omega) hM
  obtain ⟨H', f1, f2, f3⟩ := hat
  have hev : evalF x kn op = if (ev (wayE d) t [] ⟨[], bs []⟩).1.gKind = 0 then (⟨nilO, (ev (wayE d) t [] ⟨[], bs []⟩).2.gate, (ev (wayE d) t [] ⟨[], bs []⟩).2.asked⟩, 0) else (⟨(ev (wayE d) t [] ⟨[], bs []⟩).1, bs [], (ev (wayE d) t [] ⟨[], bs []⟩).2.asked⟩, 0) := by
    unfold evalF
    rw [if_neg (by omega), if_neg (by omega), ht]
    rfl
  generalize ev (wayE d) t [] ⟨[], bs []⟩ = r at f1 f2 f3 hev
  obtain ⟨g', w1, w2, w3⟩ := f2
  have ep : subW .i64 (intN (lenL x)) 1 = ((0 + t.size - 1 : Nat) : Int) := by
    have := Tr.size_pos t
    rw [intN_eq, lenL_eq, subW_id (by omega) (by omega), hsz]; omega
  have g1' : GivesM 74 [.d (.sl .api_Known kn), .d (.sl .str op)] H (.tup [.mp (.g m), .d (.int .i64 0)]) y := by
    rw [h1] at g1; exact g1
  rw [hev]
  refine ⟨apH H' [(.g (lenO y), .fro (U := U) g' .str r.2.asked)], runs_frz (e31 _ _ _ _ _ ⟨_, gives73 x, ite_f hE ⟨(m, 0), y, g1', ite_f rfl ⟨Ns (t.fronts 0), gives75 ht (by omega), r.1, H', by rw [ep]; exact f1, ite_w (fun hk => ?_) (fun hk => ?_)⟩⟩⟩)⟩
  · rw [if_pos (eqI_t.1 hk)]
    exact ⟨⟨x, Ns (t.fronts 0), m, op, lenO y, g', none, r.2.gate⟩, w1, ⟨x, Ns (t.fronts 0), m, op, lenO y, g', none, r.2.gate⟩, w1, _, _, _, _, rfl, frz_mean w2, fun l => rfl, rfl, rfl⟩
  · rw [if_neg (eqI_f.1 hk)]
    exact ⟨_, clone77 _, _, clone78 _, ⟨x, Ns (t.fronts 0), m, op, lenO y, g', none, r.2.gate⟩, w1, _, _, _, _, rfl, frz_mean w2, fun l => rfl, rfl, rfl⟩

/-- Are they one? -/
noncomputable def eqv {α : Type} (a b : α) : Bool := @decide (a = b) (Classical.propDecidable _)
theorem eqv_t {α : Type} {a b : α} : eqv a b = true ↔ a = b := by unfold eqv; exact @decide_eq_true_iff _ (Classical.propDecidable _)
theorem eqv_f {α : Type} {a b : α} : eqv a b = false ↔ a ≠ b := by rw [← Bool.not_eq_true, eqv_t]
theorem eqv_self {α : Type} (a : α) : eqv a a = true := eqv_t.2 rfl

theorem atomE_iff {x y : api_Atom} : (andB (eqI x.1 y.1) (andB (eqI x.2 y.2) (andB (eqI x.3 y.3) (andB (strEq x.4 y.4) true)))) = true ↔ x = y := by
  obtain ⟨a, b, c, d⟩ := x
  obtain ⟨a', b', c', d'⟩ := y
  simp only [andB_true, eqI_t, strEq_iff', and_true, api_Atom.mk.injEq]
theorem crackE_iff {x y : api_Crack} : (andB (eqI x.1 y.1) (andB (eqI x.2 y.2) (andB (strEq x.3 y.3) true))) = true ↔ x = y := by
  obtain ⟨a, b, c⟩ := x
  obtain ⟨a', b', c'⟩ := y
  simp only [andB_true, eqI_t, strEq_iff', and_true, api_Crack.mk.injEq]

theorem gives42 (a b : List api_Atom) : Gives 42 [.d (.sl .api_Atom a), .d (.sl .api_Atom b)] (.d (.bool (eqv a b))) := by
  refine Runs.known fun hk _ => ?_
  have hl := known_atoms (hk _ (List.mem_cons_self ..))
  refine e42 _ _ _ (ite_w (fun h => ?_) (fun h => ?_))
  · have h := eqI_f.1 (notB_t.1 h)
    have : a ≠ b := fun e => h (by rw [e])
    rw [eqv_f.2 this]; exact ⟨rfl, rfl⟩
  · have hn : a.length = b.length := by
      have h := eqI_t.1 (notB_f.1 h)
      simp only [intN_eq, lenL_eq] at h; omega
    have loop : ∀ i, i ≤ a.length → (∀ j (h : j < a.length), j < i → a[j] = b[j]'(hn ▸ h)) → At K 42 (fun c' H' => c' = (.d (.bool (eqv a b)) : C U) ∧ H' = []) t42_4 (s42_4 a b i) := by
      refine upto ?_ fun i hi ih => ?_
      · intro hb
        have : a = b := List.ext_getElem hn fun j h _ => hb j h h
        rw [eqv_t.2 this]
        exact l42_4 _ _ _ _ (ite_f (lt_len_f (Nat.le_refl _)) ⟨rfl, rfl⟩)
      · intro hb
        refine l42_4 _ _ _ _ (ite_t (lt_len hi) (and_t (in_len hi) (and_t (in_len (hn ▸ hi)) ?_)))
        rw [rd_at hi, rd_at (hn ▸ hi)]
        refine ite_w (fun h => ?_) (fun h => ?_)
        · have : a ≠ b := fun e => by
            subst e
            have := notB_t.1 h
            rw [atomE_iff.2 rfl] at this; cases this
          rw [eqv_f.2 this]; exact ⟨rfl, rfl⟩
        · have h := atomE_iff.1 (notB_f.1 h)
          rw [add_one (by omega)]
          refine ih fun j hj hji => ?_
          by_cases e : j = i
          · subst e; exact h
          · exact hb j hj (by omega)
    exact loop 0 (Nat.zero_le _) fun _ _ h => absurd h (Nat.not_lt_zero _)

theorem gives71 (a b : List api_Crack) : Gives 71 [.d (.sl .api_Crack a), .d (.sl .api_Crack b)] (.d (.bool (eqv a b))) := by
  refine Runs.known fun hk _ => ?_
  have hl := known_cracks (hk _ (List.mem_cons_self ..))
  refine e71 _ _ _ (ite_w (fun h => ?_) (fun h => ?_))
  · have h := eqI_f.1 (notB_t.1 h)
    have : a ≠ b := fun e => h (by rw [e])
    rw [eqv_f.2 this]; exact ⟨rfl, rfl⟩
  · have hn : a.length = b.length := by
      have h := eqI_t.1 (notB_f.1 h)
      simp only [intN_eq, lenL_eq] at h; omega
    have loop : ∀ i, i ≤ a.length → (∀ j (h : j < a.length), j < i → a[j] = b[j]'(hn ▸ h)) → At K 71 (fun c' H' => c' = (.d (.bool (eqv a b)) : C U) ∧ H' = []) t71_4 (s71_4 a b i) := by
      refine upto ?_ fun i hi ih => ?_
      · intro hb
        have : a = b := List.ext_getElem hn fun j h _ => hb j h h
        rw [eqv_t.2 this]
        exact l71_4 _ _ _ _ (ite_f (lt_len_f (Nat.le_refl _)) ⟨rfl, rfl⟩)
      · intro hb
        refine l71_4 _ _ _ _ (ite_t (lt_len hi) (and_t (in_len hi) (and_t (in_len (hn ▸ hi)) ?_)))
        rw [rd_at hi, rd_at (hn ▸ hi)]
        refine ite_w (fun h => ?_) (fun h => ?_)
        · have : a ≠ b := fun e => by
            subst e
            have := notB_t.1 h
            rw [crackE_iff.2 rfl] at this; cases this
          rw [eqv_f.2 this]; exact ⟨rfl, rfl⟩
        · have h := crackE_iff.1 (notB_f.1 h)
          rw [add_one (by omega)]
          refine ih fun j hj hji => ?_
          by_cases e : j = i
          · subst e; exact h
          · exact hb j hj (by omega)
    exact loop 0 (Nat.zero_le _) fun _ _ h => absurd h (Nat.not_lt_zero _)

theorem gives28 (a b : api_Outcome) : Gives 28 [outC a, outC b] (.d (.bool (eqv a b))) := by
  have e : eqv a b = ((eqI a.1 b.1 && eqv a.2 b.2) && eqv a.3 b.3) := by
    obtain ⟨x, y, z⟩ := a
    obtain ⟨x', y', z'⟩ := b
    rw [Bool.eq_iff_iff]
    simp only [Bool.and_eq_true, eqv_t, eqI_t, api_Outcome.mk.injEq, and_assoc]
  rw [e]
  exact e28 _ _ _ (and_of (fun _ => ⟨_, gives42 _ _, rfl⟩) (and_of (fun _ => ⟨_, gives71 _ _, rfl⟩) ⟨rfl, rfl⟩))

theorem gives38 (a : List api_Atom) : Gives 38 [.d (.sl .api_Atom a)] (.d (.sl .api_Atom a)) := by
  refine Runs.known fun hk _ => ?_
  have hl := known_atoms (hk _ (List.mem_cons_self ..))
  exact e38 _ _ (and_t (roomB_t (by simp only [addN, lenL_eq, List.length_nil]; omega)) ⟨rfl, rfl⟩)
theorem gives72 (a : List api_Crack) : Gives 72 [.d (.sl .api_Crack a)] (.d (.sl .api_Crack a)) := by
  refine Runs.known fun hk _ => ?_
  have hl := known_cracks (hk _ (List.mem_cons_self ..))
  exact e72 _ _ (and_t (roomB_t (by simp only [addN, lenL_eq, List.length_nil]; omega)) ⟨rfl, rfl⟩)
theorem gives29 (a : api_Outcome) : Gives 29 [outC a] (outC a) := e29 _ _ ⟨_, gives38 _, _, gives72 _, rfl, rfl⟩

theorem gives37 (a b : List ByteArray) : Gives 37 [.d (.sl .str a), .d (.sl .str b)] (.d (.bool (eqv a b))) := by
  refine Runs.known fun hk _ => ?_
  have hl := known_strs (hk _ (List.mem_cons_self ..))
  refine e37 _ _ _ (ite_w (fun h => ?_) (fun h => ?_))
  · have h := eqI_f.1 (notB_t.1 h)
    have : a ≠ b := fun e => h (by rw [e])
    rw [eqv_f.2 this]; exact ⟨rfl, rfl⟩
  · have hn : a.length = b.length := by
      have h := eqI_t.1 (notB_f.1 h)
      simp only [intN_eq, lenL_eq] at h; omega
    have loop : ∀ i, i ≤ a.length → (∀ j (h : j < a.length), j < i → a[j] = b[j]'(hn ▸ h)) → At K 37 (fun c' H' => c' = (.d (.bool (eqv a b)) : C U) ∧ H' = []) t37_4 (s37_4 a b i) := by
      refine upto ?_ fun i hi ih => ?_
      · intro hb
        have : a = b := List.ext_getElem hn fun j h _ => hb j h h
        rw [eqv_t.2 this]
        exact l37_4 _ _ _ _ (ite_f (lt_len_f (Nat.le_refl _)) ⟨rfl, rfl⟩)
      · intro hb
        refine l37_4 _ _ _ _ (ite_t (lt_len hi) (and_t (in_len hi) (and_t (in_len (hn ▸ hi)) ?_)))
        rw [rd_at hi, rd_at (hn ▸ hi)]
        refine ite_w (fun h => ?_) (fun h => ?_)
        · have : a ≠ b := fun e => by
            subst e
            have := notB_t.1 h
            rw [strEq_iff'.2 rfl] at this; cases this
          rw [eqv_f.2 this]; exact ⟨rfl, rfl⟩
        · have h := strEq_iff'.1 (notB_f.1 h)
          rw [add_one (by omega)]
          refine ih fun j hj hji => ?_
          by_cases e : j = i
          · subst e; exact h
          · exact hb j hj (by omega)
    exact loop 0 (Nat.zero_le _) fun _ _ h => absurd h (Nat.not_lt_zero _)

theorem gives32 (a : List api_Op) : Gives 32 [.d (.sl .api_Op a)] (.d (.sl .api_Op a)) := by
  refine Runs.known fun hk _ => ?_
  have hl := known_ops (hk _ (List.mem_cons_self ..))
  exact e32 _ _ (and_t (roomB_t (by simp only [addN, lenL_eq, List.length_nil]; omega)) ⟨rfl, rfl⟩)
theorem gives34 (a : List ByteArray) : Gives 34 [.d (.sl .str a)] (.osl .str a) := by
  refine Runs.known fun hk _ => ?_
  have hl := known_strs (hk _ (List.mem_cons_self ..))
  exact e34 _ _ (and_t (roomB_t (by simp only [addN, lenL_eq, List.length_nil]; omega)) ⟨rfl, rfl⟩)
theorem known_knowns {l : List api_Known} (h : C.Known K (.d (.sl (U := U) .api_Known l))) : l.length * 72 ≤ 140737488355328 := h.d.sl.1
theorem gives33 (a : List api_Known) : Gives 33 [.d (.sl .api_Known a)] (.d (.sl .api_Known a)) := by
  refine Runs.known fun hk _ => ?_
  have hl := known_knowns (hk _ (List.mem_cons_self ..))
  have loop : ∀ i, i ≤ a.length → At K 33 (fun c' H' => c' = (.d (.sl .api_Known a) : C U) ∧ H' = []) t33_3 (s33_3 a (intN (lenL a)) i (a.take i)) := by
    refine upto ?_ fun i hi ih => ?_
    · refine l33_3 _ _ _ _ _ (ite_f (lt_len_f (Nat.le_refl _)) ⟨?_, rfl⟩)
      rw [List.take_length]
    · refine l33_3 _ _ _ _ _ (ite_t (lt_len hi) (and_t (in_len hi) ⟨_, gives29 (rd (api_Known.mk (bs []) (api_Outcome.mk 0 [] [])) a (i : Int)).gOutcome, and_t (roomB_t ?_) ?_⟩))
      · simp only [addN, lenL_eq, List.length_singleton, List.length_take]; omega
      · rw [add_one (by omega)]
        have e : appL (a.take i) [api_Known.mk (rd (api_Known.mk (bs []) (api_Outcome.mk 0 [] [])) a (i : Int)).1 (api_Outcome.mk (rd (api_Known.mk (bs []) (api_Outcome.mk 0 [] [])) a (i : Int)).gOutcome.1 (rd (api_Known.mk (bs []) (api_Outcome.mk 0 [] [])) a (i : Int)).gOutcome.2 (rd (api_Known.mk (bs []) (api_Outcome.mk 0 [] [])) a (i : Int)).gOutcome.3)] = a.take (i + 1) := by
          rw [rd_at hi, List.take_succ_eq_append_getElem hi]; rfl
        rw [e]; exact ih
  exact e33 _ _ (loop 0 (Nat.zero_le _))
theorem gives36 (a b : api_Meaning) : Gives 36 [meanC a, meanC b] (.d (.bool ((eqv a.gOutcome b.gOutcome && strEq a.gGate b.gGate) && eqv a.gAsked b.gAsked))) :=
  e36 _ _ _ ⟨_, gives28 _ _, and_of (fun _ => rfl) (and_of (fun _ => ⟨_, gives37 _ _, rfl⟩) ⟨rfl, rfl⟩)⟩

def exX : List api_Op := [api_Op.mk 3 0 0 (bs [97]), api_Op.mk 1 0 7 (bs []), api_Op.mk 15 2 0 (bs [])]
def exT : Tr api_Op := .nd (api_Op.mk 15 2 0 (bs [])) [.nd (api_Op.mk 3 0 0 (bs [97])) [], .nd (api_Op.mk 1 0 7 (bs [])) []]
def exK : List api_Known := [api_Known.mk (bs [97]) (api_Outcome.mk 1 [api_Atom.mk 2 0 0 (bs [116])] (nilL api_Crack))]
theorem exX_ok : exprE exX = 0 := by kernel_rfl
theorem exT_ok : exprT exX = some [exT] := by kernel_rfl
theorem ex_given0 : givenE [] [] = 0 := by kernel_rfl
theorem ex_given1 : givenE exK [] = 0 := by kernel_rfl
theorem ex_known0 : knownF (scanK [] []).2 (bs [97]) = none := by kernel_rfl
theorem ex_known1 : knownF (scanK [] exK).2 (bs [97]) = some (api_Outcome.mk 1 [api_Atom.mk 2 0 0 (bs [116])] (nilL api_Crack)) := by kernel_rfl
theorem ex_ev0 : ev (envOf [] []) exT [] ⟨[], bs []⟩ = (comesO [⟨1, 0, 7, ⟨#[]⟩⟩], ⟨[bs [97]], bs []⟩) := by
  have h0 : evn (envOf [] []) [.nd (api_Op.mk 3 0 0 (bs [97])) [], .nd (api_Op.mk 1 0 7 (bs [])) []] 0 [] ⟨[], bs []⟩ = (failO 4 (bs [97]), ⟨[bs [97]], bs []⟩) := by
    rw [evn, ev_3 rfl]
    show ((knownF (scanK [] []).2 (bs [97])).getD _, _) = _
    rw [ex_known0]; rfl
  rw [exT, ev_15 rfl, h0, goTry, if_pos (show (failO 4 (bs [97])).gKind = 2 from rfl), evn, evn, ev_1 rfl]
theorem ex_ev1 : ev (envOf exK []) exT [] ⟨[], bs []⟩ = (⟨1, [⟨2, 0, 0, bs [116]⟩], []⟩, ⟨[bs [97]], bs []⟩) := by
  have h0 : evn (envOf exK []) [.nd (api_Op.mk 3 0 0 (bs [97])) [], .nd (api_Op.mk 1 0 7 (bs [])) []] 0 [] ⟨[], bs []⟩ = (⟨1, [⟨2, 0, 0, bs [116]⟩], []⟩, ⟨[bs [97]], bs []⟩) := by
    rw [evn, ev_3 rfl]
    show ((knownF (scanK [] exK).2 (bs [97])).getD _, _) = _
    rw [ex_known1]; rfl
  rw [exT, ev_15 rfl, h0, goTry, if_neg (by decide)]
theorem ex_eval0 : evalF exX [] [] = (⟨⟨1, [⟨1, 0, 7, bs []⟩], []⟩, bs [], [bs [97]]⟩, 0) := by
  unfold evalF
  rw [if_neg (by rw [exX_ok]; decide), if_neg (by rw [ex_given0]; decide), exT_ok]
  dsimp only
  rw [ex_ev0]; rfl
theorem ex_eval1 : evalF exX exK [] = (⟨⟨1, [⟨2, 0, 0, bs [116]⟩], []⟩, bs [], [bs [97]]⟩, 0) := by
  unfold evalF
  rw [if_neg (by rw [exX_ok]; decide), if_neg (by rw [ex_given1]; decide), exT_ok]
  dsimp only
  rw [ex_ev1]; rfl
theorem gives30 : Gives 30 [] (.d (.bool true)) := by
  obtain ⟨H1, f1⟩ := gives31 exX [] [] []
  obtain ⟨H2, f2⟩ := gives31 exX exK [] H1
  rw [ex_eval0] at f1
  rw [ex_eval1] at f2
  refine e30 _ ⟨(⟨⟨1, [⟨1, 0, 7, bs []⟩], []⟩, bs [], [bs [97]]⟩, 0), H1, f1, (⟨⟨1, [⟨2, 0, 0, bs [116]⟩], []⟩, bs [], [bs [97]]⟩, 0), H2, f2, true, ite_t rfl rfl, true, ite_t rfl rfl, true, ite_t rfl ⟨_, gives42 _ _, eqv_self _⟩, true, ite_t rfl ⟨_, gives37 _ _, eqv_self _⟩, true, ite_t rfl (strEq_iff'.2 rfl), true, ite_t rfl ⟨_, gives42 _ _, eqv_self _⟩, rfl, rfl⟩

section
variable {E : Env} (hk : ∀ n o, E.known n = some o → o.gKind ≠ 0) (hd : ∀ k a, (E.done k a).gKind ≠ 0)
include hk hd
mutual
theorem ev_gate : ∀ (t : Tr api_Op) (loc : Loc') (s : Sta), t.good opB (·.gN) → (ev E t loc s).1.gKind = 0 → nameB (ev E t loc s).2.gate = true
  | .nd o l, loc, s, hg, h => by
    simp only [Tr.good] at hg
    have h1 := fun n loc' s' => evn_gate l n loc' s' hg.2
    have h2 := evl_gate l [] o.gKind loc s hg.2
    by_cases c1 : o.gKind = 1
    · rw [ev_1 c1] at h; cases h
    by_cases c2 : o.gKind = 2
    · rw [ev_2 c2] at h; cases h
    by_cases c3 : o.gKind = 3
    · rw [ev_3 c3] at h
      have h : ((E.known o.gText).getD (failO 4 o.gText)).gKind = 0 := h
      cases hq : E.known o.gText with
      | none => rw [hq] at h; cases h
      | some x => rw [hq] at h; exact absurd h (hk _ _ hq)
    by_cases c4 : o.gKind = 4
    · rw [ev_4 c4] at h; cases h
    by_cases c5 : o.gKind = 18
    · rw [ev_18 c5] at h ⊢
      by_cases hb : E.opn o.gText = true
      · rw [if_pos hb] at h ⊢; exact h1 _ _ _ h
      · rw [if_neg hb]
        have ho := hg.1.1
        simp only [opB, Bool.and_eq_true] at ho
        have ho := ho.2
        rw [if_neg (by omega), if_neg (by omega), if_pos (by omega), Bool.and_eq_true] at ho
        exact ho.2
    by_cases c6 : o.gKind = 15
    · rw [ev_15 c6] at h ⊢
      unfold goTry at h ⊢
      by_cases hb : (evn E l 0 loc s).1.gKind = 2
      · rw [if_pos hb] at h ⊢; exact h1 _ _ _ h
      · rw [if_neg hb] at h ⊢; exact h1 _ _ _ h
    by_cases c7 : o.gKind = 14 ∨ o.gKind = 19 ∨ o.gKind = 16 ∨ o.gKind = 17
    · rw [ev_g c7] at h ⊢
      exact goOn_ind (P := fun x => x.1.gKind = 0 → nameB x.2.gate = true) (fun _ h => h1 _ _ _ h) (fun n loc' _ _ h => h1 _ _ _ h) (fun x hx h => by dsimp only at h; omega) h
    · rw [ev_r (by omega)] at h ⊢; exact h2 h
theorem evn_gate : ∀ (l : List (Tr api_Op)) (n : Nat) (loc : Loc') (s : Sta), Tr.goods opB (·.gN) l → (evn E l n loc s).1.gKind = 0 → nameB (evn E l n loc s).2.gate = true
  | [], _, _, s, _, h => by rw [evn] at h; cases h
  | t :: _, 0, loc, s, hg, h => by
    simp only [Tr.goods] at hg
    rw [evn] at h ⊢; exact ev_gate t loc s hg.1 h
  | _ :: l, n + 1, loc, s, hg, h => by
    simp only [Tr.goods] at hg
    rw [evn] at h ⊢; exact evn_gate l n loc s hg.2 h
theorem evl_gate : ∀ (l : List (Tr api_Op)) (args : List Val) (k : Int) (loc : Loc') (s : Sta), Tr.goods opB (·.gN) l → (evl E l args k loc s).1.gKind = 0 → nameB (evl E l args k loc s).2.gate = true
  | [], args, k, loc, s, _, h => by rw [evl] at h; exact absurd h (hd _ _)
  | t :: l, args, k, loc, s, hg, h => by
    simp only [Tr.goods] at hg
    rw [evl] at h ⊢
    by_cases hb : (ev E t loc s).1.gKind = 1
    · rw [if_pos hb] at h ⊢; exact evl_gate l _ k loc _ hg.2 h
    · rw [if_neg hb] at h ⊢; exact ev_gate t loc s hg.1 h
end
end

theorem openE_more {op more : List ByteArray} (h : openE op ≠ 0) : openE (op ++ more) = 2 ∨ openE (op ++ more) = 3 := by
  unfold openE at h ⊢
  by_cases h1 : 4096 < (op ++ more).length
  · rw [if_pos h1]; exact .inr rfl
  · rw [if_neg h1]
    rw [List.length_append] at h1
    rw [if_neg (by omega)] at h
    by_cases h2 : op.any (fun s => notB (nameB s)) = true
    · rw [List.any_append, h2]; exact .inl rfl
    · rw [if_neg h2] at h; exact absurd rfl h
theorem openE_vals (op : List ByteArray) : openE op = 0 ∨ openE op = 2 ∨ openE op = 3 := by
  unfold openE
  by_cases h1 : 4096 < op.length
  · rw [if_pos h1]; exact .inr (.inr rfl)
  · rw [if_neg h1]
    by_cases h2 : op.any (fun s => notB (nameB s)) = true
    · rw [if_pos h2]; exact .inr (.inl rfl)
    · rw [if_neg h2]; exact .inl rfl

/-- The codes of two: with less gates, with more. -/
theorem codes_more (x : List api_Op) (kn : List api_Known) (op more : List ByteArray) :
    ((evalF x kn op).2 ≠ 0 → (evalF x kn (op ++ more)).2 ≠ 0) ∧ ((evalF x kn op).2 = 0 → (evalF x kn (op ++ more)).2 = 0 ∨ (evalF x kn (op ++ more)).2 = 2 ∨ (evalF x kn (op ++ more)).2 = 3) := by
  have code : ∀ q, (evalF x kn q).2 = if exprE x ≠ 0 then 5 else givenE kn q := by
    intro q
    unfold evalF
    by_cases h0 : exprE x ≠ 0
    · rw [if_pos h0, if_pos h0]
    · rw [if_neg h0, if_neg h0]
      by_cases h1 : givenE kn q ≠ 0
      · rw [if_pos h1]
      · rw [if_neg h1]
        have h1 : givenE kn q = 0 := by omega
        rw [h1]
        split
        · split <;> rfl
        · rfl
  rw [code, code]
  by_cases h0 : exprE x ≠ 0
  · rw [if_pos h0, if_pos h0]; exact ⟨fun h => h, fun h => by cases h⟩
  · rw [if_neg h0, if_neg h0]
    unfold givenE
    by_cases h1 : 4096 < kn.length
    · rw [if_pos h1, if_pos h1]; exact ⟨fun h => h, fun h => by cases h⟩
    · rw [if_neg h1, if_neg h1]
      by_cases h2 : (scanK [] kn).1 = 0
      · rw [if_pos h2, if_pos h2]
        exact ⟨fun h => by rcases openE_more h with h | h <;> rw [h] <;> decide, fun _ => openE_vals _⟩
      · rw [if_neg h2, if_neg h2]; exact ⟨fun h => h, fun h => absurd h h2⟩

abbrev sta0 : Sta := ⟨[], bs []⟩
noncomputable def evR (t : Tr api_Op) (kn : List api_Known) (op : List ByteArray) : api_Outcome × Sta := ev (envOf kn op) t [] sta0
noncomputable def meanF (r : api_Outcome × Sta) : api_Meaning := if r.1.gKind = 0 then ⟨nilO, r.2.gate, r.2.asked⟩ else ⟨r.1, bs [], r.2.asked⟩

/-- Where Eval answers OK: the tree. -/
theorem evalF_tree {x : List api_Op} (h : exprE x = 0) : ∃ t, t.good opB (·.gN) ∧ ∀ kn op, givenE kn op = 0 → evalF x kn op = (meanF (evR t kn op), 0) := by
  have h' := h
  unfold exprE at h'
  split at h'
  · cases h'
  split at h'
  · rename_i t ht
    refine ⟨t, (Tr.read_one ht).2, fun kn op hg => ?_⟩
    unfold evalF
    rw [if_neg (by omega), if_neg (by omega), ht]
    dsimp only
    unfold meanF evR
    split <;> rfl
  · cases h'

theorem evalF_code (x : List api_Op) (kn : List api_Known) (op : List ByteArray) : (evalF x kn op).2 = if exprE x ≠ 0 then 5 else givenE kn op := by
  unfold evalF
  by_cases h0 : exprE x ≠ 0
  · rw [if_pos h0, if_pos h0]
  · rw [if_neg h0, if_neg h0]
    by_cases h1 : givenE kn op ≠ 0
    · rw [if_pos h1]
    · rw [if_neg h1]
      have h1 : givenE kn op = 0 := by omega
      rw [h1]
      split
      · split <;> rfl
      · rfl
theorem evalF_zero {x : List api_Op} {kn : List api_Known} {op : List ByteArray} (h : (evalF x kn op).2 = 0) : exprE x = 0 ∧ givenE kn op = 0 := by
  rw [evalF_code] at h
  by_cases h0 : exprE x ≠ 0
  · rw [if_pos h0] at h; cases h
  · rw [if_neg h0] at h; exact ⟨by omega, h⟩
theorem evalF_bad {x : List api_Op} {kn : List api_Known} {op : List ByteArray} (h : (evalF x kn op).2 ≠ 0) : (evalF x kn op).1 = ⟨nilO, bs [], []⟩ := by
  rw [evalF_code] at h
  unfold evalF
  by_cases h0 : exprE x ≠ 0
  · rw [if_pos h0]
  · rw [if_neg h0] at h ⊢
    rw [if_pos h]

theorem outR_kind {o : api_Outcome} (h : outR o = true) : o.gKind ≠ 0 := by
  intro hk
  unfold outR at h
  rw [if_neg (by rw [hk]; decide), if_neg (by rw [hk]; decide), if_neg (by rw [hk]; decide)] at h
  cases h
theorem scanK_kind : ∀ {r : List api_Known} {es : List (ByteArray × api_Outcome)}, (scanK es r).1 = 0 → (∀ n o, findK kS n es = some o → o.gKind ≠ 0) → ∀ n o, findK kS n (scanK es r).2 = some o → o.gKind ≠ 0
  | [], es, _, h => h
  | k :: r, es, h0, h => by
    unfold scanK at h0 ⊢
    by_cases h1 : nameB k.gName = false
    · rw [if_pos h1] at h0; cases h0
    rw [if_neg h1] at h0 ⊢
    by_cases h2 : (findK kS k.gName es).isSome = true
    · rw [if_pos h2] at h0; cases h0
    rw [if_neg h2] at h0 ⊢
    by_cases h3 : outR k.gOutcome = false
    · rw [if_pos h3] at h0; cases h0
    rw [if_neg h3] at h0 ⊢
    refine scanK_kind h0 fun n o ho => ?_
    rcases findK_in ho with rfl | ho
    · exact outR_kind (by simpa using h3)
    · exact h n o ho
theorem given_scan {kn : List api_Known} {op : List ByteArray} (h : givenE kn op = 0) : (scanK [] kn).1 = 0 ∧ openE op = 0 ∧ kn.length ≤ 4096 := by
  unfold givenE at h
  split at h
  · cases h
  · split at h
    · rename_i h1 h2; exact ⟨h2, h, by omega⟩
    · rename_i h2; exact absurd h h2
theorem known_kind {kn : List api_Known} {op : List ByteArray} (h : givenE kn op = 0) : ∀ n o, (envOf kn op).known n = some o → o.gKind ≠ 0 :=
  scanK_kind (given_scan h).1 fun n o h => by cases h
theorem doneF_kind (k : Int) (L : List ValL) : (doneF k L).gKind ≠ 0 := by
  rcases doneF_ok k L with ⟨h, _⟩ | h <;> rw [h] <;> decide

theorem nameB_ne {s : ByteArray} (h : nameB s = true) : s ≠ bs [] := by
  intro e; have := (nameB_len h).2; rw [e] at this; exact this rfl

/-- With more gates open. -/
theorem gates_pure {x : List api_Op} {kn : List api_Known} {op more : List ByteArray} (h1 : (evalF x kn op).2 = 0) (h2 : (evalF x kn (op ++ more)).2 = 0) :
    ((evalF x kn op).1.gGate = bs [] → (evalF x kn (op ++ more)).1 = (evalF x kn op).1 ∧ (evalF x kn op).1.gOutcome.gKind ≠ 0) ∧
    ((evalF x kn op).1.gGate ≠ bs [] → inB' op (evalF x kn op).1.gGate = false ∧ (evalF x kn op).1.gOutcome.gKind = 0 ∧ (evalF x kn op).1.gAsked <+: (evalF x kn (op ++ more)).1.gAsked ∧
      (inB' more (evalF x kn op).1.gGate = false → (evalF x kn (op ++ more)).1 = (evalF x kn op).1)) := by
  obtain ⟨hx, g1⟩ := evalF_zero h1
  obtain ⟨_, g2⟩ := evalF_zero h2
  obtain ⟨t, ht, he⟩ := evalF_tree hx
  rw [he _ _ g1, he _ _ g2]
  have L : Wide (envOf kn op) (envOf kn (op ++ more)) := {
    opn := fun n h => by
      show inB' (op ++ more) n = true
      have h : inB' op n = true := h
      unfold inB' at h ⊢
      rw [List.any_append, h]; rfl
    known := rfl
    done := rfl
    word := rfl
    some := known_kind g1
    does := doneF_kind }
  have w := ev_wide L t [] sta0
  have hgt := ev_gate (E := envOf kn op) (known_kind g1) doneF_kind t [] sta0 ht
  dsimp only
  unfold evR
  generalize ev (envOf kn op) t [] sta0 = r at w hgt ⊢
  generalize ev (envOf kn (op ++ more)) t [] sta0 = r' at w ⊢
  by_cases hk : r.1.gKind = 0
  · have e : meanF r = ⟨nilO, r.2.gate, r.2.asked⟩ := if_pos hk
    obtain ⟨a, b, c, d⟩ := w.2 hk
    rw [e]
    have hne := nameB_ne (hgt hk)
    refine ⟨fun h => absurd h hne, fun _ => ⟨b, rfl, ?_, fun hm => ?_⟩⟩
    · unfold meanF; split <;> exact d
    · have : inB' (op ++ more) r.2.gate = false := by
        have b : inB' op r.2.gate = false := b
        have hm : inB' more r.2.gate = false := hm
        unfold inB' at b hm ⊢
        rw [List.any_append, b, hm]; rfl
      rw [c this, e]
  · have e : meanF r = ⟨r.1, bs [], r.2.asked⟩ := if_neg hk
    obtain ⟨a, _⟩ := w.1 hk
    rw [a, e]
    exact ⟨fun _ => ⟨rfl, hk⟩, fun h => absurd rfl h⟩

/-! ### What is not asked for -/
theorem findK_upd {n k : ByteArray} {x : api_Outcome} : ∀ {es : List (ByteArray × api_Outcome)}, findK kS n (updK kS k x es) = if kS n k = true then some x else findK kS n es
  | [] => by
    unfold updK findK
    simp only [List.find?]
    by_cases h : kS n k = true
    · rw [h, if_pos rfl]; rfl
    · rw [if_neg h, Bool.not_eq_true] at *; rw [h]
  | e :: es => by
    unfold updK
    by_cases hk : kS k e.1 = true
    · rw [if_pos hk]
      have he : k = e.1 := kS_iff.1 hk
      unfold findK
      simp only [List.find?]
      by_cases h : kS n k = true
      · rw [h, if_pos rfl]; rfl
      · rw [if_neg h]
        have h : kS n k = false := by simpa using h
        have h' : kS n e.1 = false := he ▸ h
        rw [h, h']
    · rw [if_neg hk]
      have ih := findK_upd (n := n) (k := k) (x := x) (es := es)
      unfold findK at ih ⊢
      simp only [List.find?]
      by_cases h' : kS n e.1 = true
      · rw [h']
        have : ¬ kS n k = true := fun h => hk (by rw [← kS_iff.1 h]; exact h')
        rw [if_neg this]
      · have h' : kS n e.1 = false := by simpa using h'
        rw [h']; exact ih

/-- Another outcome for each name that is not of these. -/
def swapK (A : List ByteArray) (o : api_Outcome) (k : api_Known) : api_Known := if inB' A k.gName = true then k else ⟨k.gName, o⟩
theorem swapK_name {A : List ByteArray} {o : api_Outcome} {k : api_Known} : (swapK A o k).gName = k.gName := by unfold swapK; split <;> rfl

theorem scan_swap {A : List ByteArray} {o : api_Outcome} : ∀ {r : List api_Known} {es es' : List (ByteArray × api_Outcome)}, (scanK es r).1 = 0 → (∀ n, (findK kS n es).isSome = (findK kS n es').isSome) → (∀ n, inB' A n = true → findK kS n es = findK kS n es') →
    (scanK es' (r.map (swapK A o))).1 = 5 ∨ ((scanK es' (r.map (swapK A o))).1 = 0 ∧ ∀ n, inB' A n = true → findK kS n (scanK es r).2 = findK kS n (scanK es' (r.map (swapK A o))).2)
  | [], es, es', _, _, h => .inr ⟨rfl, h⟩
  | k :: r, es, es', h0, hs, h => by
    rw [List.map_cons]
    unfold scanK at h0 ⊢
    rw [swapK_name]
    by_cases h1 : nameB k.gName = false
    · rw [if_pos h1] at h0; cases h0
    rw [if_neg h1] at h0
    rw [if_neg h1, if_neg h1]
    by_cases h2 : (findK kS k.gName es).isSome = true
    · rw [if_pos h2] at h0; cases h0
    rw [if_neg h2] at h0
    rw [if_neg h2, if_neg (by rw [← hs]; exact h2)]
    by_cases h3 : outR k.gOutcome = false
    · rw [if_pos h3] at h0; cases h0
    rw [if_neg h3] at h0
    rw [if_neg h3]
    by_cases h4 : outR (swapK A o k).gOutcome = false
    · rw [if_pos h4]; exact .inl rfl
    rw [if_neg h4]
    refine scan_swap h0 (fun n => ?_) fun n hn => ?_
    · rw [findK_upd, findK_upd]
      by_cases hq : kS n k.gName = true
      · rw [if_pos hq, if_pos hq]; rfl
      · rw [if_neg hq, if_neg hq]; exact hs n
    · rw [findK_upd, findK_upd]
      by_cases hq : kS n k.gName = true
      · rw [if_pos hq, if_pos hq]
        have : swapK A o k = k := if_pos (by rw [← kS_iff.1 hq]; exact hn)
        rw [this]
      · rw [if_neg hq, if_neg hq]; exact h n hn

theorem unasked_pure {x : List api_Op} {kn : List api_Known} {op : List ByteArray} {o : api_Outcome} (h : (evalF x kn op).2 = 0) :
    (evalF x (kn.map (swapK (evalF x kn op).1.gAsked o)) op).2 = 5 ∨ ((evalF x (kn.map (swapK (evalF x kn op).1.gAsked o)) op).2 = 0 ∧ (evalF x (kn.map (swapK (evalF x kn op).1.gAsked o)) op).1 = (evalF x kn op).1) := by
  obtain ⟨hx, g1⟩ := evalF_zero h
  obtain ⟨t, ht, he⟩ := evalF_tree hx
  obtain ⟨s1, s2, s3⟩ := given_scan g1
  have ea : (evalF x kn op).1.gAsked = (evR t kn op).2.asked := by rw [he _ _ g1]; unfold meanF; split <;> rfl
  rw [ea]
  have hcode := evalF_code x (kn.map (swapK (evR t kn op).2.asked o)) op
  rw [if_neg (by omega)] at hcode
  have hg : givenE (kn.map (swapK (evR t kn op).2.asked o)) op = (scanK [] (kn.map (swapK (evR t kn op).2.asked o))).1 := by
    unfold givenE
    rw [List.length_map, if_neg (by omega)]
    split
    · rename_i h; rw [h, s2]
    · rfl
  rcases scan_swap (A := (evR t kn op).2.asked) (o := o) (r := kn) (es := []) (es' := []) s1 (fun _ => rfl) (fun _ _ => rfl) with h5 | ⟨h0, hf⟩
  · exact .inl (by rw [hcode, hg, h5])
  · right
    have g2 : givenE (kn.map (swapK (evR t kn op).2.asked o)) op = 0 := by rw [hg, h0]
    rw [he _ _ g1, he _ _ g2]
    refine ⟨rfl, ?_⟩
    have : evR t kn op = evR t (kn.map (swapK (evR t kn op).2.asked o)) op := by
      refine ev_like (E := envOf kn op) (E' := envOf (kn.map (swapK (evR t kn op).2.asked o)) op) ⟨rfl, rfl, rfl⟩ t [] sta0 fun n hn => ?_
      refine hf n ?_
      unfold inB'
      rw [List.any_eq_true]
      exact ⟨n, hn, strEq_self n⟩
    show meanF _ = meanF _
    rw [← this]

/-- The literal of an atom; as the document has it. -/
def litA (a : api_Atom) : api_Op := ⟨if a.gKind = 2 then 2 else if a.gKind = 3 then 5 else 1, a.gN, a.gInt, a.gText⟩
def litR (a : api_Atom) : api_Op := if a.gKind = 1 then ⟨1, 0, a.gInt, bs []⟩ else if a.gKind = 2 then ⟨2, 0, 0, a.gText⟩ else ⟨5, a.gN, 0, bs []⟩

/-- What an atom that is right is. -/
theorem atomB_cases {a : api_Atom} (h : atomB a = true) : (a.gKind = 1 ∧ a.gN = 0 ∧ a.gText = bs [] ∧ -9007199254740992 ≤ a.gInt ∧ a.gInt ≤ 9007199254740992) ∨ (a.gKind = 2 ∧ a.gN = 0 ∧ a.gInt = 0 ∧ a.gText.size ≤ 4096) ∨ (a.gKind = 3 ∧ 0 ≤ a.gN ∧ a.gInt = 0 ∧ a.gText = bs []) := by
  unfold atomB at h
  split at h
  · rename_i hk
    simp only [Bool.and_eq_true, eqI_t, strEq_iff'] at h
    exact .inl ⟨hk, h.1.1.1, h.1.1.2, of_decide_eq_true h.1.2, of_decide_eq_true h.2⟩
  · split at h
    · rename_i hk
      simp only [Bool.and_eq_true, eqI_t] at h
      have := of_decide_eq_true h.2
      simp only [intN, strLen] at this
      exact .inr (.inl ⟨hk, h.1.1, h.1.2, by omega⟩)
    · split at h
      · rename_i hk
        simp only [Bool.and_eq_true, eqI_t, strEq_iff'] at h
        exact .inr (.inr ⟨hk, of_decide_eq_true h.1.1, h.1.2, h.2⟩)
      · cases h

theorem lit_same {a : api_Atom} (h : atomB a = true) : litA a = litR a := by
  obtain ⟨k, n, i, t⟩ := a
  rcases atomB_cases h with ⟨h1, h2, h3, _⟩ | ⟨h1, h2, h3, _⟩ | ⟨h1, h2, h3, h4⟩ <;> dsimp only at * <;> subst_vars <;> rfl

theorem lit_ok {a : api_Atom} (h : atomB a = true) : opB (litA a) = true ∧ (litA a).gText.size ≤ 4096 ∧ ((litA a).gKind = 1 ∨ (litA a).gKind = 2 ∨ (litA a).gKind = 5) := by
  obtain ⟨k, n, i, t⟩ := a
  rcases atomB_cases h with ⟨h1, h2, h3, h4, h5⟩ | ⟨h1, h2, h3, h4⟩ | ⟨h1, h2, h3, h4⟩ <;> dsimp only at * <;> subst h1
  · subst h2; subst h3
    refine ⟨?_, Nat.zero_le _, .inl rfl⟩
    have e : opB (litA ⟨1, 0, i, bs []⟩) = ((leI (Int.negSucc 9007199254740991) i && leI i 9007199254740992) && strEq (bs []) (bs [])) := rfl
    rw [e, strEq_self, Bool.and_true, Bool.and_eq_true]
    exact ⟨decide_eq_true h4, decide_eq_true h5⟩
  · subst h2; subst h3
    exact ⟨rfl, h4, .inr (.inl rfl)⟩
  · subst h3; subst h4
    refine ⟨?_, Nat.zero_le _, .inr (.inr rfl)⟩
    show (notB (ltI n 0 || notB (eqI n n)) && (eqI 0 0 && strEq (bs []) (bs []))) = true
    rw [strEq_self, eqI_self, eqI_self]
    have : ltI n 0 = false := decide_eq_false (by omega)
    rw [this]; rfl

mutual
def litT : Tr api_Atom → Tr api_Op
  | .nd a l => .nd (litA a) (litTs l)
def litTs : List (Tr api_Atom) → List (Tr api_Op)
  | [] => []
  | t :: l => litT t :: litTs l
end
mutual
theorem litT_post : ∀ t : Tr api_Atom, (litT t).post = t.post.map litA
  | .nd a l => by simp only [litT, Tr.post, List.map_append, litTs_posts l]; rfl
theorem litTs_posts : ∀ l : List (Tr api_Atom), Tr.posts (litTs l) = (Tr.posts l).map litA
  | [] => rfl
  | t :: l => by simp only [litTs, Tr.posts, List.map_append, litT_post t, litTs_posts l]
end
mutual
theorem litT_deep : ∀ t : Tr api_Atom, (litT t).deep = t.deep
  | .nd a l => by simp only [litT, Tr.deep, litTs_deeps l]
theorem litTs_deeps : ∀ l : List (Tr api_Atom), Tr.deeps (litTs l) = Tr.deeps l
  | [] => rfl
  | t :: l => by simp only [litTs, Tr.deeps, litT_deep t, litTs_deeps l]
end
theorem litTs_length : ∀ l : List (Tr api_Atom), (litTs l).length = l.length
  | [] => rfl
  | t :: l => by simp only [litTs, List.length_cons, litTs_length l]
mutual
theorem litT_good : ∀ t : Tr api_Atom, t.good atomB (·.gN) → (litT t).good opB (·.gN)
  | .nd a l, h => by
    simp only [Tr.good] at h
    simp only [litT, Tr.good]
    exact ⟨⟨(lit_ok h.1.1).1, by rw [litTs_length]; exact h.1.2⟩, litTs_goods l h.2⟩
theorem litTs_goods : ∀ l : List (Tr api_Atom), Tr.goods atomB (·.gN) l → Tr.goods opB (·.gN) (litTs l)
  | [], _ => trivial
  | t :: l, h => by
    simp only [Tr.goods] at h
    simp only [litTs, Tr.goods]
    exact ⟨litT_good t h.1, litTs_goods l h.2⟩
end
mutual
theorem litT_bnd : ∀ (t : Tr api_Atom) (loc : List ByteArray), t.good atomB (·.gN) → bndB loc (litT t) = true
  | .nd a l, loc, h => by
    simp only [Tr.good] at h
    have hk := (lit_ok h.1.1).2.2
    rw [litT, bndB, Bool.and_eq_true]
    refine ⟨?_, litTs_bnd l loc (litA a) 0 (eqI_f.2 (by omega)) h.2⟩
    rw [eqI_f.2 (show (litA a).gKind ≠ 4 by omega)]; rfl
theorem litTs_bnd : ∀ (l : List (Tr api_Atom)) (loc : List ByteArray) (a : api_Op) (i : Nat), eqI a.gKind 19 = false → Tr.goods atomB (·.gN) l → bndsB loc a i (litTs l) = true
  | [], _, _, _, _, _ => rfl
  | t :: l, loc, a, i, ha, h => by
    simp only [Tr.goods] at h
    rw [litTs, bndsB, Bool.and_eq_true]
    refine ⟨?_, litTs_bnd l loc a (i + 1) ha h.2⟩
    rw [if_neg (by rw [ha]; exact Bool.false_ne_true)]
    exact litT_bnd t loc h.1
end

theorem lit_expr {v : ValL} (h : valE v = 0) : exprE (v.map litA) = if 256 < v.length then 3 else 0 := by
  have hv : valOk v = true ∧ v.length ≤ 1024 := by
    unfold valE at h
    split at h
    · cases h
    · split at h
      · exact ⟨by assumption, by omega⟩
      · cases h
  obtain ⟨t, rfl, ht⟩ := valOk_tree hv.1 hv.2
  unfold exprE
  rw [List.length_map]
  by_cases hl : 256 < t.post.length
  · rw [if_pos hl, if_pos hl]
  · rw [if_neg hl, if_neg hl, ← litT_post]
    have e : exprT (litT t).post = some [litT t] := Tr.read_post (st := []) (litT_good t ht.good)
    rw [e]
    dsimp only
    rw [if_pos (litT_bnd t [] ht.good), restE, if_neg, if_neg]
    · have hd := ht.deep
      rw [litT_deep]
      intro hc
      have hc := of_decide_eq_true hc
      omega
    · intro hc
      rw [List.any_eq_true] at hc
      obtain ⟨o, ho, hc⟩ := hc
      rw [litT_post, List.mem_map] at ho
      obtain ⟨a, ha, rfl⟩ := ho
      have h1 := (lit_ok (good_all ht.good a ha)).2.1
      have hc := of_decide_eq_true hc
      simp only [intN, strLen] at hc
      omega
theorem lit_map {v : ValL} (h : valE v = 0) : v.map litA = v.map litR := by
  have hv : valOk v = true ∧ v.length ≤ 1024 := by
    unfold valE at h
    split at h
    · cases h
    · split at h
      · exact ⟨by assumption, by omega⟩
      · cases h
  obtain ⟨t, rfl, ht⟩ := valOk_tree hv.1 hv.2
  exact List.map_congr_left fun a ha => lit_same (good_all ht.good a ha)

theorem same_self (m : api_Meaning) : ((eqv m.gOutcome m.gOutcome && strEq m.gGate m.gGate) && eqv m.gAsked m.gAsked) = true := by
  rw [eqv_self, eqv_self, strEq_self]; rfl

theorem gives8 (a0 : List api_Op) (a1 : List api_Known) (a2 : List ByteArray) (a3 : api_Outcome) : Gives 8 [.d (.sl .api_Op a0), .d (.sl .api_Known a1), .d (.sl .str a2), outC a3] (.d (.bool true)) := by
  refine Runs.known fun hk _ => ?_
  have hl := known_knowns (hk _ (List.mem_cons_of_mem _ (List.mem_cons_self ..)))
  obtain ⟨H1, g1⟩ := gives31 a0 a1 a2 []
  refine e8 _ _ _ _ _ ⟨true, gives30, ite_f rfl ⟨a0, gives32 _, a1, gives33 _, a2, gives34 _, evalF a0 a1 a2, H1, g1, ite_w (fun h => ?_) (fun h => ?_)⟩⟩
  · rw [evalF_bad (eqI_f.1 (notB_t.1 h))]
    exact ⟨true, ite_t rfl (strEq_self _), true, ite_t rfl rfl, rfl, rfl⟩
  have h0 := eqI_t.1 (notB_f.1 h)
  have hu := unasked_pure (o := a3) h0
  refine ⟨a1, gives33 _, ?_⟩
  generalize (evalF a0 a1 a2).1 = m at hu ⊢
  have loop : ∀ i, i ≤ a1.length → At K 8 (fun c' H' => c' = (.d (.bool true) : C U) ∧ H' = []) t8_8 (s8_8 a0 a2 a1 (intN (lenL a1)) i a3.1 a3.2 a3.3 m.1.1 m.1.2 m.1.3 m.2 m.3 ((a1.take i).map (swapK m.gAsked a3)) H1) := by
    refine upto ?_ fun i hi ih => ?_
    · rw [List.take_length]
      obtain ⟨H2, g2⟩ := gives31 a0 (a1.map (swapK m.gAsked a3)) a2 H1
      refine l8_8 _ _ _ _ _ _ _ _ _ _ _ _ _ _ _ _ (ite_f (lt_len_f (Nat.le_refl _)) ⟨a0, gives32 _, a2, gives34 _, _, H2, g2, ?_⟩)
      rcases hu with h5 | ⟨h0, he⟩
      · exact ⟨true, ite_t (eqI_t.2 h5) rfl, rfl, rfl⟩
      · refine ⟨true, ite_f (by rw [h0]; rfl) ⟨true, ite_t (eqI_t.2 h0) ⟨_, gives36 m _, ?_⟩, rfl⟩, rfl, rfl⟩
        rw [he]; exact same_self m
    · have ht : (a1.take (i + 1)).map (swapK m.gAsked a3) = (a1.take i).map (swapK m.gAsked a3) ++ [swapK m.gAsked a3 a1[i]] := by
        rw [List.take_succ_eq_append_getElem hi, List.map_append]; rfl
      have hr : ∀ z : api_Known, roomB (addN (lenL ((a1.take i).map (swapK m.gAsked a3))) (lenL [z])) 72 = true := fun z => roomB_t (by simp only [addN, lenL_eq, List.length_map, List.length_take, List.length_singleton]; omega)
      refine l8_8 _ _ _ _ _ _ _ _ _ _ _ _ _ _ _ _ (ite_t (lt_len hi) (and_t (in_len hi) ⟨_, gives35 _ _, ite_w (fun h => and_t (hr _) ?_) (fun h => ⟨a3, gives29 a3, and_t (hr _) ?_⟩)⟩))
      · rw [rd_at hi] at h ⊢
        rw [add_one (by omega)]
        have e : swapK m.gAsked a3 a1[i] = a1[i] := if_pos h
        rw [ht, e] at ih; exact ih
      · rw [rd_at hi] at h ⊢
        rw [add_one (by omega)]
        have e : swapK m.gAsked a3 a1[i] = ⟨a1[i].gName, a3⟩ := if_neg (by rw [h]; exact Bool.false_ne_true)
        rw [ht, e] at ih; exact ih
  exact loop 0 (Nat.zero_le _)

theorem gives9 (a0 : List api_Op) (a1 : List api_Known) (a2 : List ByteArray) (a3 : List ByteArray) (hlen : (a2.length + a3.length) * 16 ≤ 140737488355328) : Gives 9 [.d (.sl .api_Op a0), .d (.sl .api_Known a1), .d (.sl .str a2), .d (.sl .str a3)] (.d (.bool true)) := by
  obtain ⟨H1, g1⟩ := gives31 a0 a1 a2 []
  obtain ⟨H2, g2⟩ := gives31 a0 a1 (a2 ++ a3) H1
  refine e9 _ _ _ _ _ ⟨true, gives30, ite_f rfl ⟨a0, gives32 _, a1, gives33 _, a2, gives34 _, evalF a0 a1 a2, H1, g1, a0, gives32 _, a1, gives33 _, a2, gives34 _, and_t (roomB_t hlen) ⟨evalF a0 a1 (a2 ++ a3), H2, g2, ?_⟩⟩⟩
  obtain ⟨c1, c2⟩ := codes_more a0 a1 a2 a3
  have gp := gates_pure (x := a0) (kn := a1) (op := a2) (more := a3)
  generalize evalF a0 a1 a2 = m at c1 c2 gp ⊢
  generalize evalF a0 a1 (a2 ++ a3) = n at c1 c2 gp ⊢
  by_cases h1 : m.2 = 0
  case neg =>
    have e1 : notB (eqI m.2 0) = true := notB_t.2 (eqI_f.2 h1)
    exact ⟨true, ite_t e1 rfl, true, ite_t e1 (notB_t.2 (eqI_f.2 (c1 h1))), true, rfl, true, rfl, rfl, rfl⟩
  have e1 : notB (eqI m.2 0) = false := notB_f.2 (eqI_t.2 h1)
  by_cases h2 : n.2 = 0
  case neg =>
    have e2 : notB (eqI n.2 0) = true := notB_t.2 (eqI_f.2 h2)
    refine ⟨true, ite_f e1 e2, false, ite_f e1 rfl, eqI n.2 2, rfl, true, ?_, rfl, rfl⟩
    rcases c2 h1 with h | h | h
    · exact absurd h h2
    · rw [h]; exact rfl
    · rw [h]; exact rfl
  have e2 : notB (eqI n.2 0) = false := notB_f.2 (eqI_t.2 h2)
  obtain ⟨p1, p2⟩ := gp h1 h2
  refine ⟨false, ite_f e1 e2, ite_f rfl (ite_w (fun hg => ?_) (fun hg => ?_))⟩
  · obtain ⟨q1, q2⟩ := p1 (strEq_iff'.1 hg)
    exact ⟨_, gives36 m.1 n.1, true, ite_t (by rw [q1]; exact same_self _) (notB_t.2 (eqI_f.2 q2)), rfl, rfl⟩
  · obtain ⟨q1, q2, q3, q4⟩ := p2 fun e => by rw [strEq_iff'.2 e] at hg; cases hg
    have hlt : ltI (intN (lenL n.1.gAsked)) (intN (lenL m.1.gAsked)) = false := by
      have hq := q3.length_le
      refine decide_eq_false ?_
      rw [intN_eq, intN_eq, lenL_eq, lenL_eq]; omega
    refine ⟨_, gives35 _ _, false, ite_f q1 (notB_f.2 (eqI_t.2 q2)), false, hlt, ite_f rfl ⟨_, gives35 _ _, ite_w (fun h => ?_) (fun h => ?_)⟩⟩
    · refine ⟨_, gives36 m.1 n.1, ?_, rfl⟩
      rw [q4 (notB_t.1 h)]
      exact congrArg (fun b => (C.d (D.bool b) : C U)) (same_self _)
    · refine and_t ?_ ⟨_, gives37 _ _, ?_, rfl⟩
      · rw [andB_true, andB_true]
        have := q3.length_le
        exact ⟨rfl, decide_eq_true (by simp only [intN, lenL]; omega), decide_eq_true (by simp only [intN, lenL]; omega)⟩
      · have e := List.prefix_iff_eq_take.1 q3
        have e' : eqv (n.1.gAsked.take m.1.gAsked.length) m.1.gAsked = true := by rw [← e]; exact eqv_self _
        exact congrArg (fun b => (C.d (D.bool b) : C U)) e'

theorem opE_iff {x y : api_Op} : (andB (eqI x.1 y.1) (andB (eqI x.2 y.2) (andB (eqI x.3 y.3) (andB (strEq x.4 y.4) true)))) = true ↔ x = y := by
  obtain ⟨a, b, c, d⟩ := x
  obtain ⟨a', b', c', d'⟩ := y
  simp only [andB_true, eqI_t, strEq_iff', and_true, api_Op.mk.injEq]

theorem gives41 (a b : List api_Op) : Gives 41 [.d (.sl .api_Op a), .d (.sl .api_Op b)] (.d (.bool (eqv a b))) := by
  refine Runs.known fun hk _ => ?_
  have hl := known_ops (hk _ (List.mem_cons_self ..))
  refine e41 _ _ _ (ite_w (fun h => ?_) (fun h => ?_))
  · have h := eqI_f.1 (notB_t.1 h)
    have : a ≠ b := fun e => h (by rw [e])
    rw [eqv_f.2 this]; exact ⟨rfl, rfl⟩
  · have hn : a.length = b.length := by
      have h := eqI_t.1 (notB_f.1 h)
      simp only [intN_eq, lenL_eq] at h; omega
    have loop : ∀ i, i ≤ a.length → (∀ j (h : j < a.length), j < i → a[j] = b[j]'(hn ▸ h)) → At K 41 (fun c' H' => c' = (.d (.bool (eqv a b)) : C U) ∧ H' = []) t41_4 (s41_4 a b i) := by
      refine upto ?_ fun i hi ih => ?_
      · intro hb
        have : a = b := List.ext_getElem hn fun j h _ => hb j h h
        rw [eqv_t.2 this]
        exact l41_4 _ _ _ _ (ite_f (lt_len_f (Nat.le_refl _)) ⟨rfl, rfl⟩)
      · intro hb
        refine l41_4 _ _ _ _ (ite_t (lt_len hi) (and_t (in_len hi) (and_t (in_len (hn ▸ hi)) ?_)))
        rw [rd_at hi, rd_at (hn ▸ hi)]
        refine ite_w (fun h => ?_) (fun h => ?_)
        · have : a ≠ b := fun e => by
            subst e
            have := notB_t.1 h
            rw [opE_iff.2 rfl] at this; cases this
          rw [eqv_f.2 this]; exact ⟨rfl, rfl⟩
        · have h := opE_iff.1 (notB_f.1 h)
          rw [add_one (by omega)]
          refine ih fun j hj hji => ?_
          by_cases e : j = i
          · subst e; exact h
          · exact hb j hj (by omega)
    exact loop 0 (Nat.zero_le _) fun _ _ h => absurd h (Nat.not_lt_zero _)

theorem gives80 (v : ValL) : Gives 80 [.d (.sl .api_Atom v)] (.d (.sl .api_Op (v.map litA))) := by
  refine Runs.known fun hk _ => ?_
  have hl := known_atoms (hk _ (List.mem_cons_self ..))
  have loop : ∀ i, i ≤ v.length → At K 80 (fun c' H' => c' = (.d (.sl .api_Op (v.map litA)) : C U) ∧ H' = []) t80_3 (s80_3 v (intN (lenL v)) i ((v.take i).map litA)) := by
    refine upto ?_ fun i hi ih => ?_
    · rw [List.take_length]
      exact l80_3 _ _ _ _ _ (ite_f (lt_len_f (Nat.le_refl _)) ⟨rfl, rfl⟩)
    · have ht : (v.take (i + 1)).map litA = appL ((v.take i).map litA) [litA v[i]] := by
        rw [List.take_succ_eq_append_getElem hi, List.map_append]; rfl
      have hr : ∀ z : api_Op, roomB (addN (lenL ((v.take i).map litA)) (lenL [z])) 40 = true := fun z => roomB_t (by simp only [addN, lenL_eq, List.length_map, List.length_take, List.length_singleton]; omega)
      rw [ht] at ih
      refine l80_3 _ _ _ _ _ (ite_t (lt_len hi) (and_t (in_len hi) ?_))
      rw [rd_at hi, add_one (by omega)]
      refine sw (fun h => and_t (hr _) ?_) (fun h => sw (fun h' => and_t (hr _) ?_) (fun h' => and_t (hr _) ?_))
      · have e : litA v[i] = ⟨2, v[i].gN, v[i].gInt, v[i].gText⟩ := by unfold litA; rw [if_pos h]
        rw [e] at ih; exact ih
      · have e : litA v[i] = ⟨5, v[i].gN, v[i].gInt, v[i].gText⟩ := by unfold litA; rw [if_neg h, if_pos h']
        rw [e] at ih; exact ih
      · have e : litA v[i] = ⟨1, v[i].gN, v[i].gInt, v[i].gText⟩ := by unfold litA; rw [if_neg h, if_neg h']
        rw [e] at ih; exact ih
  exact e80 _ _ (loop 0 (Nat.zero_le _))

theorem gives82 (v : ValL) : Gives 82 [.d (.sl .api_Atom v)] (.d (.sl .api_Op (v.map litR))) := by
  refine Runs.known fun hk _ => ?_
  have hl := known_atoms (hk _ (List.mem_cons_self ..))
  have loop : ∀ i, i ≤ v.length → At K 82 (fun c' H' => c' = (.d (.sl .api_Op (v.map litR)) : C U) ∧ H' = []) t82_3 (s82_3 v i ((v.take i).map litR)) := by
    refine upto ?_ fun i hi ih => ?_
    · rw [List.take_length]
      exact l82_3 _ _ _ _ (ite_f (lt_len_f (Nat.le_refl _)) ⟨rfl, rfl⟩)
    · have ht : (v.take (i + 1)).map litR = appL ((v.take i).map litR) [litR v[i]] := by
        rw [List.take_succ_eq_append_getElem hi, List.map_append]; rfl
      have hr : ∀ z : api_Op, roomB (addN (lenL ((v.take i).map litR)) (lenL [z])) 40 = true := fun z => roomB_t (by simp only [addN, lenL_eq, List.length_map, List.length_take, List.length_singleton]; omega)
      rw [ht] at ih
      refine l82_3 _ _ _ _ (ite_t (lt_len hi) (and_t (in_len hi) ?_))
      rw [rd_at hi, add_one (by omega)]
      refine sw (fun h => and_t (in_len hi) (and_t (hr _) ?_)) (fun h => sw (fun h' => and_t (in_len hi) (and_t (hr _) ?_)) (fun h' => and_t (in_len hi) (and_t (hr _) ?_)))
      · have e : litR v[i] = ⟨1, 0, v[i].gInt, bs []⟩ := by unfold litR; rw [if_pos h]
        rw [e] at ih; exact ih
      · have e : litR v[i] = ⟨2, 0, 0, v[i].gText⟩ := by unfold litR; rw [if_neg h, if_pos h']
        rw [e] at ih; exact ih
      · have e : litR v[i] = ⟨5, v[i].gN, 0, bs []⟩ := by unfold litR; rw [if_neg h, if_neg h']
        rw [e] at ih; exact ih
  exact e82 _ _ (loop 0 (Nat.zero_le _))

/-- The literal of a value; what is wrong with it. -/
def litF (v : ValL) : List api_Op × Int := if valE v ≠ 0 then ([], 5) else if 256 < v.length then ([], 3) else (v.map litA, 0)

theorem gives39 (v : ValL) : Gives 39 [.d (.sl .api_Atom v)] (.tup [.d (.sl .api_Op (litF v).1), .d (.int .i64 (litF v).2)]) := by
  refine e39 _ _ ⟨_, gives79 v, ite_w (fun h => ?_) (fun h => ?_)⟩
  · have e : litF v = ([], 5) := if_pos (eqI_f.1 (notB_t.1 h))
    rw [e]; exact ⟨rfl, rfl⟩
  have h := eqI_t.1 (notB_f.1 h)
  have hx := lit_expr h
  refine ⟨_, gives80 v, _, gives73 _, ?_⟩
  by_cases hl : 256 < v.length
  · have e : litF v = ([], 3) := by unfold litF; rw [if_neg (by omega), if_pos hl]
    rw [if_pos hl] at hx
    have hb : notB (eqI (exprE (v.map litA)) 0) = true := by rw [hx]; rfl
    rw [e]; exact ite_t hb ⟨rfl, rfl⟩
  · have e : litF v = (v.map litA, 0) := by unfold litF; rw [if_neg (by omega), if_neg hl]
    rw [if_neg hl] at hx
    have hb : notB (eqI (exprE (v.map litA)) 0) = false := by rw [hx]; rfl
    rw [e]; exact ite_f hb ⟨rfl, rfl⟩

theorem gives40 (v : ValL) : Gives 40 [.d (.sl .api_Atom v)] (.tup [.d (.sl .api_Op (litF v).1), .d (.int .i64 (litF v).2)]) := by
  refine e40 _ _ ⟨_, gives81 v, ite_w (fun h => ?_) (fun h => ite_w (fun hl => ?_) (fun hl => ?_))⟩
  · have e : litF v = ([], 5) := if_pos (eqI_f.1 (notB_t.1 h))
    rw [e]; exact ⟨rfl, rfl⟩
  · have h := eqI_t.1 (notB_f.1 h)
    have hl := of_decide_eq_true hl
    rw [intN_eq, lenL_eq] at hl
    have e : litF v = ([], 3) := by unfold litF; rw [if_neg (by omega), if_pos (by omega)]
    rw [e]; exact ⟨rfl, rfl⟩
  · have h := eqI_t.1 (notB_f.1 h)
    have hl := of_decide_eq_false hl
    rw [intN_eq, lenL_eq] at hl
    have e : litF v = (v.map litA, 0) := by unfold litF; rw [if_neg (by omega), if_neg (by omega)]
    rw [e, lit_map h]
    exact ⟨_, gives82 v, rfl, rfl⟩

theorem gives10 (v : ValL) : Gives 10 [.d (.sl .api_Atom v)] (.d (.bool true)) :=
  e10 _ _ ⟨v, gives38 v, litF v, gives39 v, litF v, gives40 v, _, gives41 _ _, true, ite_t (eqv_self _) (eqI_t.2 rfl), true, ite_t rfl ⟨_, gives42 _ _, eqv_self _⟩, true, ite_t rfl ⟨_, gives30, rfl⟩, rfl, rfl⟩

theorem o3 : Opens K 3 fun ds => ∃ n, ds = [.int .i64 n] := opens_int laws (i := ⟨.int .i64, 1, 8, [.int .i64]⟩) (by kernel_rfl) rfl
theorem o9 : Opens K 9 fun ds => ∃ s, ds = [.str s] := opens_str laws (i := ⟨.str, 1, 16, [.str]⟩) (by kernel_rfl) rfl
theorem o129 : Opens K 129 fun ds => ∃ x : api_Atom, ds = enc .api_Atom x :=
  (opens_struct laws (i := ⟨.strct [(3, 0), (3, 1), (3, 2), (9, 3)], 4, 40, [.int .i64, .int .i64, .int .i64, .str]⟩) (by kernel_rfl) rfl (.cons o3 (.cons o3 (.cons o3 (.cons o9 .nil)))) (by kernel_rfl)).weaken (by
    rintro ds ⟨_, _, rfl, ⟨a, rfl⟩, _, _, rfl, ⟨b, rfl⟩, _, _, rfl, ⟨c, rfl⟩, _, _, rfl, ⟨d, rfl⟩, rfl⟩
    exact ⟨⟨a, b, c, d⟩, rfl⟩)
theorem o132 : Opens K 132 fun ds => ∃ x : api_Op, ds = enc .api_Op x :=
  (opens_struct laws (i := ⟨.strct [(3, 0), (3, 1), (3, 2), (9, 3)], 4, 40, [.int .i64, .int .i64, .int .i64, .str]⟩) (by kernel_rfl) rfl (.cons o3 (.cons o3 (.cons o3 (.cons o9 .nil)))) (by kernel_rfl)).weaken (by
    rintro ds ⟨_, _, rfl, ⟨a, rfl⟩, _, _, rfl, ⟨b, rfl⟩, _, _, rfl, ⟨c, rfl⟩, _, _, rfl, ⟨d, rfl⟩, rfl⟩
    exact ⟨⟨a, b, c, d⟩, rfl⟩)
theorem o143 : Opens K 143 fun ds => ∃ x : api_Crack, ds = enc .api_Crack x :=
  (opens_struct laws (i := ⟨.strct [(3, 0), (3, 1), (9, 2)], 3, 32, [.int .i64, .int .i64, .str]⟩) (by kernel_rfl) rfl (.cons o3 (.cons o3 (.cons o9 .nil))) (by kernel_rfl)).weaken (by
    rintro ds ⟨_, _, rfl, ⟨a, rfl⟩, _, _, rfl, ⟨b, rfl⟩, _, _, rfl, ⟨c, rfl⟩, rfl⟩
    exact ⟨⟨a, b, c⟩, rfl⟩)
theorem o59 : Opens K 59 fun ds => ∃ xs : List api_Atom, ds = [.sl .api_Atom xs] :=
  opens_slice (c := .api_Atom) laws (i := ⟨.slice 129, 1, 24, [.nils]⟩) (j := ⟨.strct [(3, 0), (3, 1), (3, 2), (9, 3)], 4, 40, [.int .i64, .int .i64, .int .i64, .str]⟩) (by kernel_rfl) rfl (by kernel_rfl) o129 (fun _ h => h) rfl rfl (by decide)
theorem o70 : Opens K 70 fun ds => ∃ xs : List api_Op, ds = [.sl .api_Op xs] :=
  opens_slice (c := .api_Op) laws (i := ⟨.slice 132, 1, 24, [.nils]⟩) (j := ⟨.strct [(3, 0), (3, 1), (3, 2), (9, 3)], 4, 40, [.int .i64, .int .i64, .int .i64, .str]⟩) (by kernel_rfl) rfl (by kernel_rfl) o132 (fun _ h => h) rfl rfl (by decide)
theorem o61 : Opens K 61 fun ds => ∃ xs : List api_Crack, ds = [.sl .api_Crack xs] :=
  opens_slice (c := .api_Crack) laws (i := ⟨.slice 143, 1, 24, [.nils]⟩) (j := ⟨.strct [(3, 0), (3, 1), (9, 2)], 3, 32, [.int .i64, .int .i64, .str]⟩) (by kernel_rfl) rfl (by kernel_rfl) o143 (fun _ h => h) rfl rfl (by decide)
theorem o24 : Opens K 24 fun ds => ∃ xs : List ByteArray, ds = [.sl .str xs] :=
  opens_slice (c := .str) laws (i := ⟨.slice 9, 1, 24, [.nils]⟩) (j := ⟨.str, 1, 16, [.str]⟩) (by kernel_rfl) rfl (by kernel_rfl) o9 (fun _ h => h) rfl rfl (by decide)
theorem o63 : Opens K 63 fun ds => ∃ x : api_Outcome, ds = enc .api_Outcome x :=
  (opens_struct laws (i := ⟨.strct [(3, 0), (59, 1), (61, 2)], 3, 56, [.int .i64, .nils, .nils]⟩) (by kernel_rfl) rfl (.cons o3 (.cons o59 (.cons o61 .nil))) (by kernel_rfl)).weaken (by
    rintro ds ⟨_, _, rfl, ⟨a, rfl⟩, _, _, rfl, ⟨b, rfl⟩, _, _, rfl, ⟨c, rfl⟩, rfl⟩
    exact ⟨⟨a, b, c⟩, rfl⟩)
theorem o80 : Opens K 80 fun ds => ∃ x : api_Known, ds = enc .api_Known x :=
  (opens_struct laws (i := ⟨.strct [(9, 0), (63, 1)], 4, 72, [.str, .int .i64, .nils, .nils]⟩) (by kernel_rfl) rfl (.cons o9 (.cons o63 .nil)) (by kernel_rfl)).weaken (by
    rintro ds ⟨_, _, rfl, ⟨a, rfl⟩, _, _, rfl, ⟨b, rfl⟩, rfl⟩
    exact ⟨⟨a, b⟩, rfl⟩)
theorem o71 : Opens K 71 fun ds => ∃ xs : List api_Known, ds = [.sl .api_Known xs] :=
  opens_slice (c := .api_Known) laws (i := ⟨.slice 80, 1, 24, [.nils]⟩) (j := ⟨.strct [(9, 0), (63, 1)], 4, 72, [.str, .int .i64, .nils, .nils]⟩) (by kernel_rfl) rfl (by kernel_rfl) o80 (fun _ h => h) rfl rfl (by decide)

def keysU : List (List UInt8) := [[99, 101, 108, 108], [97, 103, 97, 105, 110], [116, 114, 105, 101, 115], [98, 97, 115, 101], [102, 97, 99, 116, 111, 114], [99, 97, 112], [99, 108, 111, 115, 101], [102, 105, 110, 101], [102, 97, 105, 108], [112, 97, 110, 105, 99], [105, 102], [116, 104, 101, 110], [101, 108, 115, 101], [116, 114, 121], [119, 97, 105, 116], [108, 101, 116], [105, 110], [105, 116, 101, 109], [115, 105, 122, 101]]
def sortsU : List Int := [0, 1, 1, 1, 1, 1, 1, 1, 2, 3, 4, 1]
def valuesU : List (List UInt8) := [[108, 105, 115, 116], [97, 100, 100], [115, 117, 98], [109, 117, 108], [106, 111, 105, 110], [105, 116, 101, 109], [115, 105, 122, 101], [105, 102], [102, 97, 105, 108], [112, 97, 110, 105, 99]]
theorem glob0 : K.glob 0 = some (keysU.map fun s => .str ⟨s.toArray⟩) := by rfl
theorem glob1 : K.glob 1 = some (sortsU.map fun s => .int .i64 s) := by rfl
theorem glob2 : K.glob 2 = some (valuesU.map fun s => .str ⟨s.toArray⟩) := by rfl
theorem globN (n : Nat) : K.glob (n + 3) = none := by rfl
theorem gKeys : Tryd.prog.globalNamed "onceweb/lex.keys" = some 0 := by kernel_rfl
theorem gSorts : Tryd.prog.globalNamed "onceweb/fail.sorts" = some 1 := by kernel_rfl
theorem gValues : Tryd.prog.globalNamed "onceweb/fail.values" = some 2 := by kernel_rfl
theorem tKeys : (Tryd.prog.globals[0]?).map (·.type) = some 199 := by kernel_rfl
theorem tSorts : (Tryd.prog.globals[1]?).map (·.type) = some 265 := by kernel_rfl
theorem tValues : (Tryd.prog.globals[2]?).map (·.type) = some 266 := by kernel_rfl

theorem szK (s : List UInt8) (h : s ∈ keysU) : (⟨s.toArray⟩ : ByteArray).size ≤ maxStr := by
  have : ∀ s ∈ keysU, s.length ≤ 100 := by decide
  have := this s h
  show s.toArray.size ≤ maxStr
  rw [List.size_toArray, maxStr_eq]; omega
theorem szV (s : List UInt8) (h : s ∈ valuesU) : (⟨s.toArray⟩ : ByteArray).size ≤ maxStr := by
  have : ∀ s ∈ valuesU, s.length ≤ 100 := by decide
  have := this s h
  show s.toArray.size ≤ maxStr
  rw [List.size_toArray, maxStr_eq]; omega

theorem glob_of {W : World} (h : laidMetH Tryd.prog [("onceweb/lex.keys", Rows.laid_onceweb_lex_keys), ("onceweb/fail.sorts", Rows.laid_onceweb_fail_sorts), ("onceweb/fail.values", Rows.laid_onceweb_fail_values)] W) :
    ∀ g cells, K.glob g = some cells → Old W g ∧ ∀ (j : Nat) d, cells[j]? = some d → ∃ u, W.cell? (at' g j) = some u ∧ RepD K (Old W) W d u := by
  rw [MakeChecks.laidMetH_plain _ _ _ (by kernel_rfl)] at h
  obtain ⟨ps, ⟨g0, t0, cs0, f0, p0, q0, hg0, ht0, hv0, hd0, ⟨g1, t1, cs1, f1, p1, q1, hg1, ht1, hv1, hd1, ⟨g2, t2, cs2, f2, p2, q2, hg2, ht2, hv2, hd2, _, _⟩, _⟩, _⟩, _, _⟩ := h
  obtain rfl := Option.some.inj (gKeys.symm.trans hg0)
  obtain rfl := Option.some.inj (gSorts.symm.trans hg1)
  obtain rfl := Option.some.inj (gValues.symm.trans hg2)
  obtain rfl := Option.some.inj (tKeys.symm.trans ht0)
  obtain rfl := Option.some.inj (tSorts.symm.trans ht1)
  obtain rfl := Option.some.inj (tValues.symm.trans ht2)
  have e0 : ∀ j s, keysU[j]? = some s → W.cell? ⟨0, j, none⟩ = some (.string ⟨s.toArray⟩) := laid_texts hg0 hv0 Tryd.underlying199 Tryd.underlying9 (by kernel_rfl) hd0
  have e1 : ∀ j s, sortsU[j]? = some s → W.cell? ⟨1, j, none⟩ = some (.int .i64 s) := laid_ints hg1 hv1 Tryd.underlying265 Tryd.underlying3 (by kernel_rfl) hd1
  have e2 : ∀ j s, valuesU[j]? = some s → W.cell? ⟨2, j, none⟩ = some (.string ⟨s.toArray⟩) := laid_texts hg2 hv2 Tryd.underlying266 Tryd.underlying9 (by kernel_rfl) hd2
  have old : ∀ {g j u}, W.cell? ⟨g, j, none⟩ = some u → Old W g := fun {g j u} h => by
    unfold Old
    simp only [World.cell?] at h
    by_cases hlt : g < W.heap.size
    · exact hlt
    · rw [Array.getElem?_eq_none (by omega)] at h; cases h
  intro g cells hg
  match g with
  | 0 =>
    rw [glob0] at hg
    cases hg
    refine ⟨old (e0 0 _ rfl), fun j d hd => ?_⟩
    rw [List.getElem?_map, Option.map_eq_some_iff] at hd
    obtain ⟨s, hs, rfl⟩ := hd
    exact ⟨_, e0 j s hs, .str _ (szK s (List.mem_of_getElem? hs))⟩
  | 1 =>
    rw [glob1] at hg
    cases hg
    refine ⟨old (e1 0 _ rfl), fun j d hd => ?_⟩
    rw [List.getElem?_map, Option.map_eq_some_iff] at hd
    obtain ⟨s, hs, rfl⟩ := hd
    exact ⟨_, e1 j s hs, .int _ _⟩
  | 2 =>
    rw [glob2] at hg
    cases hg
    refine ⟨old (e2 0 _ rfl), fun j d hd => ?_⟩
    rw [List.getElem?_map, Option.map_eq_some_iff] at hd
    obtain ⟨s, hs, rfl⟩ := hd
    exact ⟨_, e2 j s hs, .str _ (szV s (List.mem_of_getElem? hs))⟩
  | n + 3 => rw [globN] at hg; cases hg

section
variable {H : Type} {enc : TypeId × Value → H}

theorem returnsInHanded_of_cond_and {a : Assume} {C : Checked} {os : Os} {f : FuncId} {fn : Func} {s : OpenSpec} {k : (H : Type) → List (DataW H) → Bool} (hk : s.cond = some k) {F : Stop.Interp} {conds : List PathCond} {apart fresh handsOn again : Bool} {X : World → Array Value → Prop}
    (hX : ∀ (w w' : World) (args : Array Value), w.heap = w'.heap → X w args → X w' args)
    (own : ownKnob C.prog.godebug = none) (started : os.Started) (noInit : C.prog.inits.idxOf? f = none) (hfn : C.prog.funcs[f]? = some fn)
    (witness : ∃ (w : World) (tape : Tape) (i : Input), w.os = os ∧ (w.forCall tape i).Shaped C.prog ∧ i.vars = [] ∧ Input.okWide C.prog (w.forCall tape i) .any w.heap.size f i ∧
      ((s.pre enc C.prog fn conds apart (w.forCall tape i).memory i.args ∧ X (w.forCall tape i).memory i.args) ∧ sizedMet enc C.prog fn s apart (w.forCall tape i).memory i.args) ∧ a.holds C.prog (lone (Frame.enter C.prog f i.args .normal) [] (w.forCall tape i)))
    (contract : ∀ (W : World) (base : Nat) (args : Array Value) (ds gs : List (DataW H)) (before : List MemPlace),
      (∀ (j : Nat) t v, fn.params[j]? = some t → args[j]? = some v → Value.okWide C.prog W .any base t v) →
      DataW.Whole enc C.prog fn.params.toList s.vars apart W args.toList ds gs before →
      conds.all (PathCond.test C.prog ⟨fn.params.toList, ds, s.bare.plain.varTypes C.prog, gs⟩) = true → k H (ds ++ gs) = true →
      (DataW.weightsEach C.prog (fn.params.toList ++ s.bare.plain.varTypes C.prog) (ds ++ gs)).all (· ≤ reachBytes) = true → X W args →
      a.holds C.prog (lone (Frame.enter C.prog f args .normal) [] W) →
      Calls C.prog f args W fun e W' => ∃ v, e = .returned v ∧ (s.at F).post enc C.prog fn apart fresh handsOn again W args v W') :
    ReturnsInHanded a C os f .any (fun w args => (s.pre enc C.prog fn conds apart w args ∧ X w args) ∧ sizedMet enc C.prog fn s apart w args) ((s.at F).post enc C.prog fn apart fresh handsOn again) := by
  refine returnsInHanded_of_calls own started noInit witness ?_
  intro w tape i _ _ _ hok hpre hholds
  obtain ⟨_, _, _, fn', hfn', _, _, _, _, hval⟩ := hok
  have e : fn' = fn := Option.some.inj (hfn'.symm.trans hfn)
  subst e
  obtain ⟨⟨hp, hx⟩, hz⟩ := hpre
  obtain ⟨ds, gs, before, hw, hc, hkk⟩ := (OpenSpec.pre_some hk conds apart _ _).1 hp
  have hw' := DataW.Whole.of_heap (w' := w.forCall tape i) (by rfl) hw
  refine (contract (w.forCall tape i) w.heap.size i.args ds gs before hval hw' hc hkk (hz.weights hw) (hX _ _ _ (by rfl) hx) hholds).mono fun e W' ⟨v, he, hp⟩ => ?_
  subst he
  exact ChangeSpec.post_blind hp

/-- A witness for the law's row is one for the row with the condition, where what it reads is small. -/
theorem cond_witness {C : Checked} {os : Os} {f : FuncId} {fn : Func} {s : ChangeSpec} {s' : OpenSpec} {k : (H : Type) → List (DataW H) → Bool} {X : World → Array Value → Prop} {w0 : World} {args : Array Value} {fuel : Nat}
    (hk : s'.cond = some k ∧ s'.vars = s.vars ∧ s'.bare.plain.varTypes C.prog = s.plain.varTypes C.prog)
    (hb : ((DataW.whole enc C.prog (w0.forCall (fun _ _ => 0) ⟨#[], args, []⟩).memory fn.params.toList s.vars false args.toList fuel).map fun x => k H (x.1 ++ x.2.1)) = some true)
    (hos : w0.os = os) (hsh : (w0.forCall (fun _ _ => 0) ⟨#[], args, []⟩).Shaped C.prog)
    (hok : Input.okWideB C.prog (w0.forCall (fun _ _ => 0) ⟨#[], args, []⟩) f ⟨#[], args, []⟩ = true)
    (hsz : s'.bare.sizedB enc C.prog fn false (w0.forCall (fun _ _ => 0) ⟨#[], args, []⟩).memory args fuel = true)
    (hx : X (w0.forCall (fun _ _ => 0) ⟨#[], args, []⟩).memory args) :
    ∃ (w : World) (tape : Tape) (i : Input), w.os = os ∧ (w.forCall tape i).Shaped C.prog ∧ i.vars = [] ∧ Input.okWide C.prog (w.forCall tape i) .any w.heap.size f i ∧
      ((s'.pre enc C.prog fn [] false (w.forCall tape i).memory i.args ∧ X (w.forCall tape i).memory i.args) ∧ sizedMet enc C.prog fn s' false (w.forCall tape i).memory i.args) ∧ ({} : Assume).holds C.prog (lone (Frame.enter C.prog f i.args .normal) [] (w.forCall tape i)) := by
  obtain ⟨x, hx1, hx2⟩ := Option.map_eq_some_iff.1 hb
  refine ⟨w0, fun _ _ => 0, ⟨#[], args, []⟩, hos, hsh, (Input.okWide_of_okWideB (base := 0) hok).1, (Input.okWide_of_okWideB hok).2, ⟨⟨(OpenSpec.pre_some hk.1 _ _ _ _).2 ⟨x.1, x.2.1, x.2.2, ?_, rfl, hx2⟩, hx⟩, sizedMet_of_sizedB (s := s'.bare) hsz⟩, ?_⟩
  · rw [hk.2.1]; exact DataW.Whole_of_whole hx1
  · simp only [Assume.holds]
    exact ⟨by simp, by simp, fun _ => Modest.zero, by simp, by simp⟩
end

/-! ### The bulk of a slice -/
theorem bulk_pos {H : Type} : ∀ d : DataW H, 1 ≤ Rows.uptoBulk d
  | .lit (.string _) => by rw [Rows.uptoBulk]; omega
  | .lit l => by cases l <;> simp [Rows.uptoBulk]
  | .nil => by simp [Rows.uptoBulk]
  | .ptr d => by simp [Rows.uptoBulk]
  | .slice a b => by simp [Rows.uptoBulk]
  | .agg a => by simp [Rows.uptoBulk]
  | .iface _ d => by simp [Rows.uptoBulk]
  | .map a => by simp [Rows.uptoBulk]
  | .held _ => by simp [Rows.uptoBulk]
theorem bulk_all {H : Type} : ∀ l : List (DataW H), l.length ≤ Rows.uptoBulkAll l
  | [] => Nat.zero_le _
  | d :: l => by
    have h1 := bulk_pos d
    have h2 := bulk_all l
    rw [Rows.uptoBulkAll, List.length_cons]; omega
theorem bulk_len {H : Type} {enc : TypeId × Value → H} {P : Program} {t e : TypeId} (ht : P.underlying t = some (.slice e)) {W : World} {a : Option Addr} {n c : Nat} {d : DataW H} {ps : List MemPlace} (h : DataW.Trod enc P W 0 (fun _ => true) true t (.slice a n c) d ps) : n ≤ Rows.uptoBulk d := by
  obtain ⟨fuel, hf⟩ := h
  rcases DataW.trod_slice ht hf with ⟨h1, h2⟩ | ⟨a', len, cap, elems, rest, m, _, h1, h2, _, _, _, hl, _⟩
  · cases h1; exact Nat.zero_le _
  · cases h1
    cases h2
    have := bulk_all (elems.map (·.1))
    rw [List.length_map] at this
    rw [Rows.uptoBulk]; omega
theorem rep_len {F : Nat → Prop} {w : World} {c : K.U.Ty} {xs : List (K.U.El c)} {a : Option Addr} {n cp : Nat} (h : RepD K F w (.sl c xs) (.slice a n cp)) : xs.length = n := by
  cases h <;> rfl
end Go.Proofs.YtikcopbjconkfaaDoor.V
