/- LEMMAS: what functions answer, and what is true of it. Conditions: none. -/
import Derived.Test.YtikcopbjconkfaaDoorW1
import Derived.Test.YtikcopbjconkfaaDoorA32
import Derived.Test.YtikcopbjconkfaaDoorA33
import Derived.Test.YtikcopbjconkfaaDoorW3
set_option maxRecDepth 4000
set_option linter.unusedSectionVars false
namespace Go.Proofs.YtikcopbjconkfaaDoor.V
set_option linter.unusedVariables false
set_option linter.unusedSimpArgs false
open Go Go.Abs


theorem room_eq : room = 140737488355328 := rfl
theorem maxStr_eq : maxStr = 4611686018427387904 := rfl
theorem known_str {s : ByteArray} (h : C.Known K (.d (.str s) : C U)) : s.size ≤ 4611686018427387904 := h.d.str
theorem known_strs {l : List ByteArray} (h : C.Known K (.d (.sl (U := U) .str l))) : l.length * 16 ≤ 140737488355328 := h.d.sl.1
theorem known_ints {l : List Int} (h : C.Known K (.d (.sl (U := U) .int l))) : l.length * 8 ≤ 140737488355328 := h.d.sl.1
theorem known_atoms {l : List api_Atom} (h : C.Known K (.d (.sl (U := U) .api_Atom l))) : l.length * 40 ≤ 140737488355328 := h.d.sl.1
theorem known_cracks {l : List api_Crack} (h : C.Known K (.d (.sl (U := U) .api_Crack l))) : l.length * 32 ≤ 140737488355328 := h.d.sl.1

/-- A text among others. -/
def inB' (l : List ByteArray) (s : ByteArray) : Bool := l.any fun x => strEq x s

theorem gives35 (l : List ByteArray) (s : ByteArray) : Gives 35 [.d (.sl .str l), .d (.str s)] (.d (.bool (inB' l s))) := by
  refine Runs.known fun hk _ => ?_
  have hl := known_strs (hk _ (List.mem_cons_self ..))
  refine e35 l s _ ?_
  have loop : ∀ i, i ≤ l.length → At K 35 (fun c' H' => c' = (.d (.bool (inB' (l.drop i) s)) : C U) ∧ H' = []) t35_2 (s35_2 l s i) := by
    refine upto ?_ fun i hi ih => ?_
    · exact l35_2 _ _ _ _ (ite_f (lt_len_f (Nat.le_refl _)) ⟨by rw [List.drop_length]; rfl, rfl⟩)
    · refine l35_2 _ _ _ _ (ite_t (lt_len hi) (and_t (in_len hi) ?_))
      rw [rd_at hi]
      have e : inB' (l.drop i) s = (strEq l[i] s || inB' (l.drop (i + 1)) s) := drop_any hi
      rw [e]
      refine ite_w (fun h => ?_) (fun h => ?_)
      · rw [h]; exact ⟨rfl, rfl⟩
      · rw [h, add_one (by omega)]; exact ih
  exact loop 0 (Nat.zero_le _)

theorem gives136 (l : List ByteArray) (s : ByteArray) : ∃ n, Gives 136 [.d (.sl .str l), .d (.str s)] (.d (.int .i64 n)) ∧ (l.length * 16 ≤ 140737488355328 → leI 0 n = inB' l s) := by
  by_cases hl : l.length * 16 ≤ 140737488355328
  case neg => exact ⟨0, Runs.known fun hk _ => absurd (known_strs (hk _ (List.mem_cons_self ..))) hl, fun h => absurd h hl⟩
  have loop : ∀ i, i ≤ l.length → ∃ n, At K 136 (fun c' H' => c' = (.d (.int .i64 n) : C U) ∧ H' = []) t136_2 (s136_2 l s (intN (lenL l)) i) ∧ leI 0 n = inB' (l.drop i) s := by
    refine upto ?_ fun i hi ih => ?_
    · exact ⟨_, l136_2 _ _ _ _ _ (ite_f (lt_len_f (Nat.le_refl _)) ⟨rfl, rfl⟩), by simp [inB', leI]⟩
    · obtain ⟨n, h1, h2⟩ := ih
      have e : inB' (l.drop i) s = (strEq l[i] s || inB' (l.drop (i + 1)) s) := drop_any hi
      rw [e]
      cases hb : strEq l[i] s with
      | true => exact ⟨i, l136_2 _ _ _ _ _ (ite_t (lt_len hi) (and_t (in_len hi) (by rw [rd_at hi, strEq_comm]; exact ite_t hb ⟨rfl, rfl⟩))), by simp [leI]⟩
      | false => exact ⟨n, l136_2 _ _ _ _ _ (ite_t (lt_len hi) (and_t (in_len hi) (by rw [rd_at hi, strEq_comm, add_one (by omega)]; exact ite_f hb h1))), by simpa using h2⟩
  obtain ⟨n, h1, h2⟩ := loop 0 (Nat.zero_le _)
  exact ⟨n, e136 _ _ _ h1, fun _ => h2⟩

theorem gives98 (l : List ByteArray) (s : ByteArray) : Gives 98 [.d (.sl .str l), .d (.str s)] (.d (.bool (inB' l s))) := by
  refine Runs.known fun hk _ => ?_
  have hl := known_strs (hk _ (List.mem_cons_self ..))
  obtain ⟨n, h1, h2⟩ := gives136 l s
  exact e98 _ _ _ ⟨n, h1, by rw [h2 hl], rfl⟩

/-- The keywords; the words of failures of values. -/
def keyL : List ByteArray := [bs [99, 101, 108, 108], bs [97, 103, 97, 105, 110], bs [116, 114, 105, 101, 115], bs [98, 97, 115, 101], bs [102, 97, 99, 116, 111, 114], bs [99, 97, 112], bs [99, 108, 111, 115, 101], bs [102, 105, 110, 101], bs [102, 97, 105, 108], bs [112, 97, 110, 105, 99], bs [105, 102], bs [116, 104, 101, 110], bs [101, 108, 115, 101], bs [116, 114, 121], bs [119, 97, 105, 116], bs [108, 101, 116], bs [105, 110], bs [105, 116, 101, 109], bs [115, 105, 122, 101]]
def wordL : List ByteArray := [bs [108, 105, 115, 116], bs [97, 100, 100], bs [115, 117, 98], bs [109, 117, 108], bs [106, 111, 105, 110], bs [105, 116, 101, 109], bs [115, 105, 122, 101], bs [105, 102], bs [102, 97, 105, 108], bs [112, 97, 110, 105, 99]]

theorem gives86 (s : ByteArray) : Gives 86 [.d (.str s)] (.d (.bool (inB' keyL s))) := e86 _ _ ⟨_, gives98 keyL s, rfl, rfl⟩

def letB (c : Int) : Bool := leI 97 c && leI c 122
def digB (c : Int) : Bool := leI 48 c && leI c 57
def wcB (c : Int) : Bool := (letB c || digB c) || eqI c 95

theorem gives129 (c : Int) : Gives 129 [.d (.int .u8 c)] (.d (.bool (letB c))) := e129 _ _ (and_of (fun _ => rfl) ⟨rfl, rfl⟩)
theorem gives130 (c : Int) : Gives 130 [.d (.int .u8 c)] (.d (.bool (digB c))) := e130 _ _ (and_of (fun _ => rfl) ⟨rfl, rfl⟩)

/-- The bytes of a text, as numbers. -/
def byL (s : ByteArray) : List Int := s.data.toList.map fun b => (b.toNat : Int)
theorem byL_length (s : ByteArray) : (byL s).length = s.size := by simp [byL]
theorem byteAt_byL {s : ByteArray} {i : Nat} (h : i < s.size) : byteAt s (i : Int) = (byL s)[i]'(by rw [byL_length]; exact h) := by
  rw [byteAt_nat h]; simp [byL]

/-- A word: a letter ahead, then letters, digits, _. -/
def wordB (s : ByteArray) : Bool := (byL s).head?.any letB && (byL s).all wcB

theorem gives85 (s : ByteArray) : ∃ n, Gives 85 [.d (.str s), .d (.int .i64 0)] (.d (.int .i64 n)) ∧ (s.size ≤ 4611686018427387904 → s.size ≠ 0 → eqI n (intN (strLen s)) = wordB s) := by
  by_cases hs : s.size ≤ 4611686018427387904
  case neg => exact ⟨0, Runs.known fun hk _ => absurd (known_str (hk _ (List.mem_cons_self ..))) hs, fun h => absurd h hs⟩
  have hlen := byL_length s
  have loop : ∀ i, i ≤ s.size → ∃ n, At K 85 (fun c' H' => c' = (.d (.int .i64 n) : C U) ∧ H' = []) t85_3 (s85_3 s i) ∧ eqI n (intN (strLen s)) = ((byL s).drop i).all wcB := by
    refine upto ?_ fun i hi ih => ?_
    · refine ⟨_, l85_3 _ _ _ ⟨false, ite_f (lt_str_f (Nat.le_refl _)) rfl, rfl, rfl⟩, ?_⟩
      rw [List.drop_of_length_le (by omega)]; simp [eqI, intN, strLen]
    · obtain ⟨n, h1, h2⟩ := ih
      have hb : byteAt s (i : Int) = (byL s)[i]'(by omega) := byteAt_byL hi
      rw [drop_all (by omega)]
      have body : ∀ {k : Bool → Prop}, k (wcB (byL s)[i]) → ∃ v, iteP (ltI (i : Int) (intN (strLen s))) (andP (inB (i : Int) (strLen s)) (∃ x : Bool, (Gives 129 [.d (.int .u8 (byteAt s i))] (.d (.bool x))) ∧
          ∃ v_1 : Bool, iteP x (true = v_1) (andP (inB (i : Int) (strLen s)) (∃ x : Bool, (Gives 130 [.d (.int .u8 (byteAt s i))] (.d (.bool x))) ∧ x = v_1)) ∧
          ∃ v_2 : Bool, iteP v_1 (true = v_2) (andP (inB (i : Int) (strLen s)) (eqI (byteAt s i) 95 = v_2)) ∧ v_2 = v)) (false = v) ∧ k v := by
        intro k hk
        rw [hb]
        refine ⟨wcB (byL s)[i], ite_t (lt_str hi) (and_t (in_str hi) ⟨_, gives129 _, or_of (fun _ => and_t (in_str hi) ⟨_, gives130 _, rfl⟩) (or_of (fun _ => and_t (in_str hi) rfl) rfl)⟩), hk⟩
      cases hw : wcB (byL s)[i] with
      | true => refine ⟨n, l85_3 _ _ _ (body ?_), by simpa using h2⟩; rw [hw, add_one (by omega)]; exact h1
      | false =>
        refine ⟨i, l85_3 _ _ _ (body ?_), ?_⟩
        · rw [hw]; exact ⟨rfl, rfl⟩
        · simp [eqI, intN, strLen]; omega
  by_cases h0 : s.size = 0
  · refine ⟨0, e85 _ _ _ ⟨true, ite_t (by simp [leI, intN, strLen, h0]) rfl, rfl, rfl⟩, fun _ h => absurd h0 h⟩
  · have hpos : 0 < s.size := by omega
    have hhd : (byL s).head? = some ((byL s)[0]'(by omega)) := by rw [List.head?_eq_getElem?, List.getElem?_eq_getElem]
    have hb : byteAt s (0 : Int) = (byL s)[0]'(by omega) := byteAt_byL hpos
    have hnl : leI (intN (strLen s)) 0 = false := by
      show decide ((s.size : Int) ≤ 0) = false
      rw [decide_eq_false_iff_not]; omega
    cases hl : letB (byL s)[0] with
    | false =>
      refine ⟨0, e85 _ _ _ ⟨true, ite_f hnl (and_t (in_str (i := 0) hpos) ⟨_, gives129 _, by rw [hb, hl]; rfl⟩), rfl, rfl⟩, fun _ _ => ?_⟩
      simp only [wordB, hhd, Option.any_some, hl, Bool.false_and]
      simp [eqI, intN, strLen]; omega
    | true =>
      obtain ⟨n, h1, h2⟩ := loop 0 (Nat.zero_le _)
      refine ⟨n, e85 _ _ _ ⟨false, ite_f hnl (and_t (in_str (i := 0) hpos) ⟨_, gives129 _, by rw [hb, hl]; rfl⟩), h1⟩, fun _ _ => ?_⟩
      rw [h2]
      simp [wordB, hhd, hl]

/-- A name. -/
def nameB (s : ByteArray) : Bool := ((notB (strEq s (bs [])) && leI (intN (strLen s)) 24) && wordB s) && notB (inB' keyL s)

theorem strEq_nil {s : ByteArray} : strEq s (bs []) = true ↔ s.size = 0 := by
  rw [strEq_iff']
  constructor
  · rintro rfl; rfl
  · intro h
    have : s.data.toList = [] := List.eq_nil_of_length_eq_zero (by simpa using h)
    cases s with
    | mk d => simp only [bs, List.map_nil, ByteArray.mk.injEq]; exact Array.ext' this

theorem gives49 (s : ByteArray) : Gives 49 [.d (.str s)] (.d (.bool (nameB s))) := by
  obtain ⟨n, h1, h2⟩ := gives85 s
  refine Runs.known fun hk _ => ?_
  have hl := known_str (hk _ (List.mem_cons_self ..))
  refine e49 _ _ (and_of (fun _ => rfl) (and_of (b := wordB s) (fun h => ⟨n, h1, ?_⟩) (and_of (fun _ => ⟨_, gives86 s, rfl⟩) ⟨rfl, rfl⟩)))
  refine h2 hl fun h0 => ?_
  simp only [Bool.and_eq_true, notB_t] at h
  have := strEq_nil.2 h0
  rw [h.1] at this; cases this

theorem gives90 (s : ByteArray) : Gives 90 [.d (.str s)] (.d (.bool (wordB s))) := by
  refine Runs.known fun hk _ => ?_
  have hs := known_str (hk _ (List.mem_cons_self ..))
  have hlen := byL_length s
  by_cases h0 : s.size = 0
  · have hw : wordB s = false := by
      have : byL s = [] := List.eq_nil_of_length_eq_zero (by omega)
      simp [wordB, this]
    rw [hw]
    exact e90 _ _ ⟨true, ite_t (strEq_nil.2 h0) rfl, true, rfl, rfl, rfl⟩
  have hpos : 0 < s.size := by omega
  have hne : strEq s (bs []) = false := by rw [← Bool.not_eq_true, strEq_nil]; exact h0
  have hhd : (byL s).head? = some ((byL s)[0]'(by omega)) := by rw [List.head?_eq_getElem?, List.getElem?_eq_getElem]
  have hb : byteAt s (0 : Int) = (byL s)[0]'(by omega) := byteAt_byL hpos
  have hall : (byL s).all wcB = (wcB (byL s)[0] && ((byL s).drop 1).all wcB) := by
    have := drop_all (l := byL s) (p := wcB) (i := 0) (by omega)
    simpa using this
  have loop : ∀ i, i ≤ s.size → At K 90 (fun c' H' => c' = (.d (.bool (((byL s).drop i).all wcB)) : C U) ∧ H' = []) t90_4 (s90_4 s i) := by
    refine upto ?_ fun i hi ih => ?_
    · refine l90_4 _ _ _ (ite_f (lt_str_f (Nat.le_refl _)) ⟨?_, rfl⟩)
      rw [List.drop_of_length_le (by omega)]; rfl
    · have hb : byteAt s (i : Int) = (byL s)[i]'(by omega) := byteAt_byL hi
      refine l90_4 _ _ _ (ite_t (lt_str hi) (and_t (in_str hi) ?_))
      rw [hb, drop_all (by omega)]
      refine and_of (fun _ => rfl) (or_of (b := digB (byL s)[i]) (fun _ => and_of (fun _ => rfl) rfl) (or_of (fun _ => rfl) ?_))
      have e : ((leI 97 (byL s)[i] && leI (byL s)[i] 122 || digB (byL s)[i]) || eqI (byL s)[i] 95) = wcB (byL s)[i] := rfl
      rw [e]
      refine ite_w (fun h => ?_) (fun h => ?_)
      · rw [notB_t] at h; rw [h]; exact ⟨rfl, rfl⟩
      · rw [notB_f] at h; rw [h, Bool.true_and, add_one (by omega)]; exact ih
  refine e90 _ _ ?_
  rw [hne, hb]
  refine or_of (b := ltI (byL s)[0] 97) (fun _ => and_t (in_str (i := 0) hpos) rfl) (or_of (b := ltI 122 (byL s)[0]) (fun _ => and_t (in_str (i := 0) hpos) rfl) ?_)
  have hl : letB (byL s)[0] = !(ltI (byL s)[0] 97 || ltI 122 (byL s)[0]) := by
    simp only [letB, leI, ltI, Bool.not_or]
    rw [Bool.eq_iff_iff]; simp
  refine ite_w (fun h => ?_) (fun h => ?_)
  · have hl' : letB (byL s)[0] = false := by rw [Bool.false_or] at h; rw [hl, h]; rfl
    have : wordB s = false := by simp [wordB, hhd, hl']
    rw [this]; exact ⟨rfl, rfl⟩
  · have hl' : letB (byL s)[0] = true := by rw [Bool.false_or] at h; rw [hl, h]; rfl
    have hw : wcB (byL s)[0] = true := by simp [wcB, hl']
    have : wordB s = ((byL s).drop 1).all wcB := by simp [wordB, hhd, hl', hall, hw]
    rw [this]
    exact loop 1 hpos

theorem gives51 (s : ByteArray) : Gives 51 [.d (.str s)] (.d (.bool (nameB s))) := by
  refine e51 _ _ (and_of (fun _ => ⟨_, gives90 s, rfl⟩) (and_of (b := notB (inB' keyL s)) (fun _ => ⟨keyL, e91 _ ⟨rfl, rfl⟩, _, gives35 _ _, rfl⟩) ⟨?_, rfl⟩))
  show (C.d (.bool ((leI (intN (strLen s)) 24 && wordB s) && notB (inB' keyL s))) : C U) = C.d (.bool (nameB s))
  have : (leI (intN (strLen s)) 24 && wordB s) = ((notB (strEq s (bs [])) && leI (intN (strLen s)) 24) && wordB s) := by
    cases h : strEq s (bs []) with
    | false => simp [notB]
    | true =>
      have : byL s = [] := List.eq_nil_of_length_eq_zero (by rw [byL_length]; exact strEq_nil.1 h)
      simp [wordB, this]
  rw [this]; rfl

theorem nameB_len {s : ByteArray} (h : nameB s = true) : s.size ≤ 24 ∧ s.size ≠ 0 := by
  simp only [nameB, Bool.and_eq_true, notB_t] at h
  obtain ⟨⟨⟨h1, h2⟩, _⟩, _⟩ := h
  have h2 : (s.size : Int) ≤ 24 := of_decide_eq_true h2
  refine ⟨by omega, fun h0 => ?_⟩
  rw [strEq_nil.2 h0] at h1; cases h1


/-- Whole numbers from 0 on. -/
def Ns (l : List Nat) : List Int := l.map fun n : Nat => (n : Int)
theorem Ns_length (l : List Nat) : (Ns l).length = l.length := by simp [Ns]
theorem Ns_append (l m : List Nat) : Ns (l ++ m) = Ns l ++ Ns m := by simp [Ns]
theorem Ns_take (l : List Nat) (k : Nat) : (Ns l).take k = Ns (l.take k) := by simp [Ns, List.map_take]
theorem Ns_get {l : List Nat} {k n : Nat} (h : l[k]? = some n) : (Ns l)[k]? = some (n : Int) := by simp [Ns, h]
theorem Ns_one (n : Nat) : Ns [n] = [(n : Int)] := rfl

theorem natI_nat (n : Nat) : natI (n : Int) = n := rfl
theorem lenL_eq {α : Type} (l : List α) : lenL l = l.length := rfl
theorem intN_eq (n : Nat) : intN n = (n : Int) := rfl
theorem rd_get {α : Type} {d : α} {l : List α} {i : Nat} (h : i < l.length) : rd d l (i : Int) = l[i] := rd_at h
theorem rdN_some {α : Type} {d : α} {l : List α} {i : Nat} {x : α} (h : l[i]? = some x) : rdN d l i = x := by simp [rdN, List.getD_eq_getElem?_getD, h]
theorem roomB_t {n b : Nat} (h : n * b ≤ 140737488355328) : roomB n b = true := by rw [roomB_iff]; exact h

/-- Is an atom right by itself? -/
def atomB (a : api_Atom) : Bool :=
  if a.gKind = 1 then ((eqI a.gN 0 && strEq a.gText (bs [])) && leI (-9007199254740992) a.gInt) && leI a.gInt 9007199254740992
  else if a.gKind = 2 then (eqI a.gN 0 && eqI a.gInt 0) && leI (intN (strLen a.gText)) 4096
  else if a.gKind = 3 then (leI 0 a.gN && eqI a.gInt 0) && strEq a.gText (bs [])
  else false

theorem eqI_t {a b : Int} : eqI a b = true ↔ a = b := eqI_iff
theorem eqI_f {a b : Int} : eqI a b = false ↔ a ≠ b := by rw [← Bool.not_eq_true, eqI_iff]

theorem sw {k : Int} {n : Int} {p q : Prop} (hp : k = n → p) (hq : k ≠ n → q) : iteP (eqI k n) p q := ite_w (fun h => hp (eqI_t.1 h)) (fun h => hq (eqI_f.1 h))

/-- How an atom lies. -/
abbrev atomC (a : api_Atom) : C U := .agg [.d (.int .i64 a.gKind), .d (.int .i64 a.gN), .d (.int .i64 a.gInt), .d (.str a.gText)]

theorem atom_of {a : api_Atom} {post : C U → List (O U) → Prop} (h : post (.d (.bool (atomB a))) []) : iteP (eqI a.1 1) (∃ (v : Bool), iteP (eqI a.2 0) (strEq a.4 (bs []) = v) (false = v) ∧ ∃ (v_1 : Bool), iteP v (leI (Int.negSucc 9007199254740991) a.3 = v_1) (false = v_1) ∧ ∃ (v : Bool), iteP v_1 (leI a.3 9007199254740992 = v) (false = v) ∧ post (C.d (D.bool v)) [])
    (iteP (eqI a.1 2) (∃ (v : Bool), iteP (eqI a.2 0) (eqI a.3 0 = v) (false = v) ∧ ∃ (v_1 : Bool), iteP v (leI (intN (strLen a.4)) 4096 = v_1) (false = v_1) ∧ post (C.d (D.bool v_1)) [])
    (iteP (eqI a.1 3) (∃ (v : Bool), iteP (leI 0 a.2) (eqI a.3 0 = v) (false = v) ∧ ∃ (v_1 : Bool), iteP v (strEq a.4 (bs []) = v_1) (false = v_1) ∧ post (C.d (D.bool v_1)) []) (post (C.d (D.bool false)) []))) := by
  refine sw (fun h1 => ?_) (fun h1 => sw (fun h2 => ?_) (fun h2 => sw (fun h3 => ?_) (fun h3 => ?_)))
  · refine and_of (fun _ => rfl) (and_of (fun _ => rfl) (and_of (fun _ => rfl) ?_))
    simp only [atomB, if_pos h1] at h; exact h
  · refine and_of (fun _ => rfl) (and_of (fun _ => rfl) ?_)
    simp only [atomB, if_neg h1, if_pos h2] at h; exact h
  · refine and_of (fun _ => rfl) (and_of (fun _ => rfl) ?_)
    simp only [atomB, if_neg h1, if_neg h2, if_pos h3] at h; exact h
  · simp only [atomB, if_neg h1, if_neg h2, if_neg h3] at h; exact h

theorem gives163 (a : api_Atom) : Gives 163 [atomC a] (.d (.bool (atomB a))) := e163 a _ (atom_of (a := a) (post := fun c' H' => c' = (.d (.bool (atomB a)) : C U) ∧ H' = []) ⟨rfl, rfl⟩)
theorem gives164 (a : api_Atom) : Gives 164 [atomC a] (.d (.bool (atomB a))) := e164 a _ (atom_of (a := a) (post := fun c' H' => c' = (.d (.bool (atomB a)) : C U) ∧ H' = []) ⟨rfl, rfl⟩)

theorem atomB_pos {a : api_Atom} (h : atomB a = true) : 0 ≤ a.gN := by
  unfold atomB at h
  split at h
  · simp only [Bool.and_eq_true, eqI_t] at h; omega
  · split at h
    · simp only [Bool.and_eq_true, eqI_t] at h; omega
    · split at h
      · simp only [Bool.and_eq_true] at h
        have := of_decide_eq_true h.1.1
        exact this
      · cases h

/-- A value, read. -/
abbrev valT (v : List api_Atom) : Option (List (Tr api_Atom)) := Tr.read atomB (·.gN) [] v
/-- How deep a whole value is. -/
def valD (v : List api_Atom) : Option Nat := match valT v with
  | some [t] => some t.deep
  | _ => none
def valOk (v : List api_Atom) : Bool := match valD v with
  | some d => decide (d ≤ 32)
  | none => false

theorem maxI_nat (a b : Nat) : maxI (a : Int) (b : Int) = ((max a b : Nat) : Int) := by
  unfold maxI; split <;> omega

section
variable {α : Type} {ok : α → Bool} {ar : α → Int}

theorem starts_put {st : List (Tr α)} {a : α} {n : Nat} (hn : n ≤ st.length) : Tr.starts 0 (st.take (st.length - n) ++ [Tr.nd a (st.drop (st.length - n))]) = (Tr.starts 0 st).take (st.length - n) ++ [Tr.sizes (st.take (st.length - n))] := by
  rw [Tr.starts_append, Tr.starts_take]; simp [Tr.starts]
theorem deeps_put {st : List (Tr α)} {a : α} {n : Nat} (hn : n ≤ st.length) : (st.take (st.length - n) ++ [Tr.nd a (st.drop (st.length - n))]).map Tr.deep = (st.map Tr.deep).take (st.length - n) ++ [Tr.deeps (st.drop (st.length - n)) + 1] := by
  simp [List.map_take, Tr.deep]
theorem start_at {st : List (Tr α)} {k : Nat} (h : k < st.length) : (Tr.starts 0 st)[k]? = some (Tr.sizes (st.take k)) := by
  rw [Tr.starts_get h]; simp
end

theorem gives128 (v : List api_Atom) : ∃ (fr : List Int) (d : Int), Gives 128 [.d (.sl .api_Atom v)] (.tup [.d (.sl .int fr), .d (.int .i64 d), .d (.bool (valD v).isSome)]) ∧ (v.length * 40 ≤ 140737488355328 → ∀ k, valD v = some k → d = k) := by
  by_cases hl : v.length * 40 ≤ 140737488355328
  case neg => exact ⟨[], 0, Runs.known fun hk _ => absurd (known_atoms (hk _ (List.mem_cons_self ..))) hl, fun h => absurd h hl⟩
  let P : Nat → Prop := fun i => ∀ (st : List (Tr api_Atom)) (y5 : List Int), valT (v.take i) = some st → y5.length = i → ∃ (fr : List Int) (d : Int),
    At K 128 (fun c' H' => c' = (.tup [.d (.sl .int fr), .d (.int .i64 d), .d (.bool (valD v).isSome)] : C U) ∧ H' = []) t128_5 (s128_5 v i y5 (Ns (Tr.starts 0 st)) (Ns (st.map Tr.deep))) ∧ ∀ k, valD v = some k → d = k
  have loop : ∀ i, i ≤ v.length → P i := by
    refine upto ?_ fun i hi ih => ?_
    · intro st y5 hst hy
      rw [List.take_length] at hst
      have hlen : (Ns (Tr.starts 0 st)).length = st.length := by rw [Ns_length, Tr.starts_length]
      have hlen' : (Ns (st.map Tr.deep)).length = st.length := by rw [Ns_length, List.length_map]
      by_cases h1 : st.length = 1
      · obtain ⟨t, rfl⟩ := List.length_eq_one_iff.1 h1
        have hd : valD v = some t.deep := by simp only [valD, hst]
        rw [hd]
        refine ⟨y5, t.deep, l128_5 _ _ _ _ _ _ (ite_f (lt_len_f (Nat.le_refl _)) (ite_f (by rw [notB_f, eqI_t, intN_eq, lenL_eq, hlen, h1]; rfl) (and_t (in_len (i := 0) (by rw [hlen']; exact Nat.zero_lt_one)) (and_t (by show decide (0 < (Ns ([t].map Tr.deep)).length) = true; rw [decide_eq_true_eq, hlen']; exact Nat.zero_lt_one) ⟨rfl, rfl⟩)))), fun k hk => ?_⟩
        cases hk; rfl
      · have hd : valD v = none := by
          simp only [valD, hst]
          split
          · rename_i t e; cases e; simp at h1
          · rfl
        rw [hd]
        refine ⟨[], 0, l128_5 _ _ _ _ _ _ (ite_f (lt_len_f (Nat.le_refl _)) (ite_t ?_ ⟨rfl, rfl⟩)), fun k hk => by cases hk⟩
        rw [notB_t, eqI_f, intN_eq, lenL_eq, hlen]; omega
    · intro st y5 hst hy
      have hlen : (Ns (Tr.starts 0 st)).length = st.length := by rw [Ns_length, Tr.starts_length]
      have hlen' : (Ns (st.map Tr.deep)).length = st.length := by rw [Ns_length, List.length_map]
      have hsz : Tr.sizes st = i := by rw [Tr.read_sizes hst]; simp; omega
      have hle := Tr.length_le_sizes st
      have hsucc := Tr.read_take_succ (ok := atomB) (ar := (·.gN)) hi hst
      have hrd : rd (api_Atom.mk 0 0 0 (bs [])) v (i : Int) = v[i] := rd_at hi
      by_cases hok : atomB v[i] = true ∧ v[i].gN ≤ st.length
      · obtain ⟨ho, hN⟩ := hok
        have hp := atomB_pos ho
        obtain ⟨n, hn⟩ : ∃ n : Nat, v[i].gN = (n : Int) := ⟨v[i].gN.toNat, by omega⟩
        have hnl : n ≤ st.length := by omega
        rw [Tr.put_of ho hn hnl] at hsucc
        have hsub : subW .i64 (intN (lenL (Ns (Tr.starts 0 st)))) (n : Int) = ((st.length - n : Nat) : Int) := by
          rw [intN_eq, lenL_eq, hlen, subW_id (by omega) (by omega)]; omega
        have hsub' : subW .i64 (intN (lenL (Ns (st.map Tr.deep)))) (n : Int) = ((st.length - n : Nat) : Int) := by
          rw [intN_eq, lenL_eq, hlen', subW_id (by omega) (by omega)]; omega
        obtain ⟨fr, d, h1, h2⟩ := ih _ (y5 ++ [((Tr.sizes (st.take (st.length - n)) : Nat) : Int)]) hsucc (by simp [hy])
        rw [starts_put hnl, deeps_put hnl, Ns_append, Ns_append, ← Ns_take, ← Ns_take, Ns_one, Ns_one] at h1
        refine ⟨fr, d, l128_5 _ _ _ _ _ _ (ite_t (lt_len hi) (and_t (in_len hi) (and_t (in_len hi) ?_))), h2⟩
        rw [hrd]
        refine ⟨_, gives164 _, or_of (fun _ => rfl) (ite_f ?_ ?_)⟩
        · rw [ho, hn, intN_eq, lenL_eq, hlen]
          show (false || decide ((st.length : Int) < n)) = false
          rw [Bool.false_or, decide_eq_false_iff_not]; omega
        rw [hn]
        by_cases h0 : 0 < n
        · refine ite_t (by simp [ltI]; omega) ?_
          have hk : st.length - n < st.length := by omega
          have hg := Ns_get (start_at hk)
          have hroom : ∀ m, m ≤ v.length → (m + 1) * 8 ≤ 140737488355328 := fun m hm => by omega
          rw [hsub, natI_nat, rdN_some hg]
          refine and_t (in_len (by omega)) (and_t (by simp only [ltN, lenL_eq, hlen, decide_eq_true_eq]; exact hk) ?_)
          -- the parts' depths
          have inner : ∀ k, k ≤ n → At K 128 (fun c' H' => c' = (.tup [.d (.sl .int fr), .d (.int .i64 d), .d (.bool (valD v).isSome)] : C U) ∧ H' = []) t128_15
              (s128_15 v i n (Tr.sizes (st.take (st.length - n)) : Nat) (Tr.deeps (st.drop (st.length - k)) : Nat) k y5 (Ns (Tr.starts 0 st)) (Ns (st.map Tr.deep))) := by
            refine upto ?_ fun k hk ih => ?_
            · refine l128_15 _ _ _ _ _ _ _ _ _ _ (ite_f (by simp [ltI]) ?_)
              have c1 : ∀ L : List Int, L.length = st.length → (andB (leI 0 0) (andB (leI 0 (subW .i64 (intN (lenL L)) (n : Int))) (andB (leI (subW .i64 (intN (lenL L)) (n : Int)) (intN (lenL L))) true))) = true := by
                intro L hL
                rw [intN_eq, lenL_eq, hL, subW_id (by omega) (by omega)]
                simp [andB, leI]; omega
              have c2 : ∀ (L : List Int) (x : Int), L.length = st.length → (andB (leN (addN 0 (natI (subW .i64 (intN (lenL L)) (n : Int)))) (lenL L)) (roomB (addN (natI (subW .i64 (intN (lenL L)) (n : Int))) (lenL [x])) 8)) = true := by
                intro L x hL
                rw [intN_eq, lenL_eq, hL, subW_id (by omega) (by omega)]
                have e : ((st.length : Int) - n) = ((st.length - n : Nat) : Int) := by omega
                rw [e, natI_nat, andB_true]
                refine ⟨by simp [leN, addN], roomB_t ?_⟩
                simp only [addN, lenL_eq, List.length_singleton]
                exact hroom _ (by omega)
              refine and_t (c1 _ hlen) (and_t (c1 _ hlen') (and_t (c2 _ _ hlen) (and_t (c2 _ _ hlen') (and_t (roomB_t ?_) ?_))))
              · simp only [addN, lenL_eq, List.length_singleton, hy]; exact hroom _ (by omega)
              · rw [hsub, hsub', natI_nat, add_one (by omega), addW_small (by omega) ?_]
                · exact h1
                · have := Tr.deeps_drop_le st (st.length - n)
                  have h3 := Tr.deeps_le_sizes st
                  omega
            · refine l128_15 _ _ _ _ _ _ _ _ _ _ (ite_t (by simp [ltI]; omega) ?_)
              have e : subW .i64 (subW .i64 (intN (lenL (Ns (st.map Tr.deep)))) 1) (k : Int) = ((st.length - (k + 1) : Nat) : Int) := by
                have e1 : subW .i64 (st.length : Int) 1 = (st.length : Int) - 1 := subW_id (by omega) (by omega)
                rw [intN_eq, lenL_eq, hlen', e1, subW_id (by omega) (by omega)]; omega
              have hk' : st.length - (k + 1) < st.length := by omega
              rw [e, natI_nat]
              have hg' : (Ns (st.map Tr.deep))[st.length - (k + 1)]? = some ((st[st.length - (k + 1)].deep : Nat) : Int) := Ns_get (by simp [hk'])
              rw [rdN_some hg', maxI_nat, add_one (by omega)]
              refine and_t (in_len (by omega)) (and_t (by simp only [ltN, lenL_eq, hlen', decide_eq_true_eq]; exact hk') ?_)
              have e2 := Tr.deeps_drop hk'
              have e3 : st.length - (k + 1) + 1 = st.length - k := by omega
              rw [e3] at e2
              rw [Nat.max_comm, ← e2]; exact ih
          have := inner 0 (Nat.zero_le _)
          rw [Nat.sub_zero, List.drop_length, Tr.deeps_nil] at this
          exact this
        · have h00 : n = 0 := by omega
          subst h00
          refine ite_f (by simp [ltI]) ?_
          simp only [Nat.sub_zero, List.take_length, hsz] at h1
          rw [List.take_of_length_le (Nat.le_of_eq hlen), List.take_of_length_le (Nat.le_of_eq hlen'), List.drop_length, Tr.deeps_nil] at h1
          have hroom : ∀ m, m ≤ v.length → (m + 1) * 8 ≤ 140737488355328 := fun m hm => by omega
          refine and_t (roomB_t ?_) (and_t (roomB_t ?_) (and_t (roomB_t ?_) ?_))
          · simp only [addN, lenL_eq, List.length_singleton, hlen]; exact hroom _ (by omega)
          · simp only [addN, lenL_eq, List.length_singleton, hlen']; exact hroom _ (by omega)
          · simp only [addN, lenL_eq, List.length_singleton, hy]; exact hroom _ (by omega)
          · rw [add_one (by omega)]; exact h1
      · have hnone : valT v = none := by
          refine Tr.read_take_none (i := i + 1) ?_
          rw [hsucc]
          exact Tr.put_none fun h => hok ⟨h.1, h.2.2⟩
        have hd : valD v = none := by simp only [valD, hnone]
        rw [hd]
        refine ⟨[], 0, l128_5 _ _ _ _ _ _ (ite_t (lt_len hi) (and_t (in_len hi) (and_t (in_len hi) ?_))), fun k hk => by cases hk⟩
        rw [hrd]
        refine ⟨_, gives164 _, or_of (fun _ => rfl) (ite_t ?_ ⟨rfl, rfl⟩)⟩
        rw [intN_eq, lenL_eq, hlen]
        cases hb : atomB v[i] with
        | false => rfl
        | true =>
          have : ¬ v[i].gN ≤ st.length := fun h => hok ⟨hb, h⟩
          simp [notB, ltI]; omega
  obtain ⟨fr, d, h1, h2⟩ := loop 0 (Nat.zero_le _) [] [] rfl rfl
  exact ⟨fr, d, e128 _ _ h1, fun _ => h2⟩

/-- What is wrong with a value. -/
def valE (v : List api_Atom) : Int := if 1024 < v.length then 3 else if valOk v then 0 else 5

theorem gives81 (v : List api_Atom) : Gives 81 [.d (.sl .api_Atom v)] (.d (.int .i64 (valE v))) := by
  obtain ⟨fr, d, h1, h2⟩ := gives128 v
  refine e81 _ _ (ite_w (fun h => ?_) (fun h => ?_))
  · have h := of_decide_eq_true h
    simp only [intN_eq, lenL_eq] at h
    have e : valE v = 3 := if_pos (by omega)
    rw [e]; exact ⟨rfl, rfl⟩
  · have h := of_decide_eq_false h
    simp only [intN_eq, lenL_eq] at h
    have h2 := h2 (by omega)
    refine ⟨(fr, d, _), h1, or_of (fun _ => rfl) ?_⟩
    have e : valE v = if valOk v then 0 else 5 := if_neg (by omega)
    rw [e]
    cases hd : valD v with
    | none =>
      have : valOk v = false := by simp [valOk, hd]
      rw [this]
      exact ite_t rfl ⟨rfl, rfl⟩
    | some k =>
      have hk := h2 k hd
      have : valOk v = decide (k ≤ 32) := by simp [valOk, hd]
      rw [this]
      refine ite_w (fun h => ?_) (fun h => ?_)
      · have h : ltI 32 d = true := h
        have h := of_decide_eq_true h
        have : decide (k ≤ 32) = false := by rw [decide_eq_false_iff_not]; omega
        rw [this]; exact ⟨rfl, rfl⟩
      · have h : ltI 32 d = false := h
        have h := of_decide_eq_false h
        have : decide (k ≤ 32) = true := by rw [decide_eq_true_eq]; omega
        rw [this]; exact ⟨rfl, rfl⟩


/-- Of each of some trees where it begins, and how deep it is. -/
def whl (p : Nat) : List (Tr api_Atom) → List value_whole
  | [] => []
  | t :: l => ⟨(p : Nat), (t.deep : Nat)⟩ :: whl (p + t.size) l
theorem whl_length : ∀ (p : Nat) (l : List (Tr api_Atom)), (whl p l).length = l.length
  | _, [] => rfl
  | p, t :: l => by simp [whl, whl_length _ l]
theorem whl_append : ∀ (p : Nat) (l m : List (Tr api_Atom)), whl p (l ++ m) = whl p l ++ whl (p + Tr.sizes l) m
  | p, [], m => by simp [whl, Tr.sizes]
  | p, t :: l, m => by simp [whl, Tr.sizes, whl_append _ l m, Nat.add_assoc]
theorem whl_take : ∀ (p k : Nat) (l : List (Tr api_Atom)), (whl p l).take k = whl p (l.take k)
  | _, 0, _ => by simp [whl]
  | _, _ + 1, [] => by simp [whl]
  | p, k + 1, t :: l => by simp [whl, whl_take _ k l]
theorem whl_get : ∀ {p k : Nat} {l : List (Tr api_Atom)} (h : k < l.length), (whl p l)[k]? = some ⟨((p + Tr.sizes (l.take k) : Nat) : Int), ((l[k].deep : Nat) : Int)⟩
  | p, 0, t :: l, _ => by simp [whl, Tr.sizes]
  | p, k + 1, t :: l, h => by
    have := whl_get (p := p + t.size) (k := k) (l := l) (by simpa using h)
    simp [whl, Tr.sizes, this, Nat.add_assoc]

theorem slice_ok {n k : Nat} (h : k ≤ n) : (andB (leI 0 (k : Int)) (andB (leI (k : Int) (n : Int)) (andB (leI (n : Int) (n : Int)) true))) = true := by
  simp [andB, leI]; omega
theorem slice_ok' {n k : Nat} (h : k ≤ n) : (andB (leI 0 0) (andB (leI 0 (k : Int)) (andB (leI (k : Int) (n : Int)) true))) = true := by
  simp [andB, leI]; omega

theorem gives127 (v : List api_Atom) : ∃ ws, Gives 127 [.d (.sl .api_Atom v)] (.tup [.d (.sl .value_whole ws), .d (.bool (valOk v))]) := by
  by_cases hl : v.length * 40 ≤ 140737488355328
  case neg => exact ⟨[], Runs.known fun hk _ => absurd (known_atoms (hk _ (List.mem_cons_self ..))) hl⟩
  let P : Nat → Prop := fun i => ∀ (st : List (Tr api_Atom)) (y14 : List value_whole), valT (v.take i) = some st → Tr.deeps st ≤ 32 → y14.length = v.length → ∃ ws,
    At K 127 (fun c' H' => c' = (.tup [.d (.sl .value_whole ws), .d (.bool (valOk v))] : C U) ∧ H' = []) t127_3 (s127_3 v (intN (lenL v)) i (whl 0 st) y14)
  have bad : ∀ (i : Nat), valT (v.take (i + 1)) = none → valOk v = false := by
    intro i h
    have := Tr.read_take_none (ok := atomB) (ar := (·.gN)) h
    simp only [valOk, valD, this]
  have deepB : ∀ (i : Nat) st, valT (v.take i) = some st → 32 < Tr.deeps st → valOk v = false := by
    intro i st h h'
    cases hv : valT v with
    | none => simp only [valOk, valD, hv]
    | some q =>
      have := Tr.read_take_deeps h hv
      simp only [valOk, valD, hv]
      split
      · rename_i d hd
        split at hd
        · rename_i t e
          cases e; cases hd
          rw [Tr.deeps_one] at this
          rw [decide_eq_false_iff_not]; omega
        · cases hd
      · rfl
  have loop : ∀ i, i ≤ v.length → P i := by
    refine upto ?_ fun i hi ih => ?_
    · intro st y14 hst hd hy
      rw [List.take_length] at hst
      refine ⟨y14, l127_3 _ _ _ _ _ _ (ite_f (lt_len_f (Nat.le_refl _)) ⟨?_, rfl⟩)⟩
      have : valOk v = eqI (intN (lenL (whl 0 st))) 1 := by
        rw [intN_eq, lenL_eq, whl_length]
        by_cases h1 : st.length = 1
        · obtain ⟨t, rfl⟩ := List.length_eq_one_iff.1 h1
          rw [Tr.deeps_one] at hd
          simp only [valOk, valD, hst, hd]
          rfl
        · have hn : valD v = none := by
            simp only [valD, hst]
            split
            · rename_i t e; cases e; simp at h1
            · rfl
          simp only [valOk, hn]
          rw [eq_comm, eqI_f]; omega
      rw [this]
    · intro st y14 hst hd hy
      have hlen : (whl 0 st).length = st.length := whl_length _ _
      have hsz : Tr.sizes st = i := by rw [Tr.read_sizes hst]; simp; omega
      have hle := Tr.length_le_sizes st
      have hsucc := Tr.read_take_succ (ok := atomB) (ar := (·.gN)) hi hst
      have hrd : rd (api_Atom.mk 0 0 0 (bs [])) v (i : Int) = v[i] := rd_at hi
      by_cases hok : atomB v[i] = true ∧ v[i].gN ≤ st.length
      · obtain ⟨ho, hN⟩ := hok
        have hp := atomB_pos ho
        obtain ⟨n, hn⟩ : ∃ n : Nat, v[i].gN = (n : Int) := ⟨v[i].gN.toNat, by omega⟩
        have hnl : n ≤ st.length := by omega
        rw [Tr.put_of ho hn hnl] at hsucc
        have hsub : subW .i64 (intN (lenL (whl 0 st))) (n : Int) = ((st.length - n : Nat) : Int) := by
          rw [intN_eq, lenL_eq, hlen, subW_id (by omega) (by omega)]; omega
        -- what comes behind the parts
        have hw : whl 0 (st.take (st.length - n) ++ [Tr.nd v[i] (st.drop (st.length - n))]) = (whl 0 st).take (st.length - n) ++ [⟨((Tr.sizes (st.take (st.length - n)) : Nat) : Int), ((Tr.deeps (st.drop (st.length - n)) + 1 : Nat) : Int)⟩] := by
          rw [whl_append, whl_take]; simp [whl, Tr.deep]
        have hds : Tr.deeps (st.take (st.length - n) ++ [Tr.nd v[i] (st.drop (st.length - n))]) = max (Tr.deeps (st.take (st.length - n))) (Tr.deeps (st.drop (st.length - n)) + 1) := by
          rw [Tr.deeps_append, Tr.deeps_one]; simp only [Tr.deep]
        have htk := Tr.deeps_take_le st (st.length - n)
        have inner : ∃ ws, ∀ k, k ≤ n → At K 127 (fun c' H' => c' = (.tup [.d (.sl .value_whole ws), .d (.bool (valOk v))] : C U) ∧ H' = []) t127_10
            (s127_10 i ((st.length - n : Nat) : Int) v (intN (lenL v)) i (st.length - n) n (n : Int) k (whl 0 st) (if k = 0 then (i : Int) else ((Tr.sizes (st.take (st.length - n)) : Nat) : Int)) ((Tr.deeps ((st.drop (st.length - n)).take k) + 1 : Nat) : Int) y14) := by
          have last : ∃ ws, At K 127 (fun c' H' => c' = (.tup [.d (.sl .value_whole ws), .d (.bool (valOk v))] : C U) ∧ H' = []) t127_10
            (s127_10 i ((st.length - n : Nat) : Int) v (intN (lenL v)) i (st.length - n) n (n : Int) n (whl 0 st) (if n = 0 then (i : Int) else ((Tr.sizes (st.take (st.length - n)) : Nat) : Int)) ((Tr.deeps ((st.drop (st.length - n)).take n) + 1 : Nat) : Int) y14) := by
            have e1 : (st.drop (st.length - n)).take n = st.drop (st.length - n) := List.take_of_length_le (by simp; omega)
            have e2 : (if n = 0 then (i : Int) else ((Tr.sizes (st.take (st.length - n)) : Nat) : Int)) = ((Tr.sizes (st.take (st.length - n)) : Nat) : Int) := by
              split
              · rename_i h0; subst h0; simp [hsz]
              · rfl
            rw [e1, e2]
            by_cases hdd : Tr.deeps (st.drop (st.length - n)) + 1 ≤ 32
            · obtain ⟨ws, h1⟩ := ih _ (y14.set i ⟨((Tr.sizes (st.take (st.length - n)) : Nat) : Int), ((Tr.deeps (st.drop (st.length - n)) + 1 : Nat) : Int)⟩) hsucc (by rw [hds]; omega) (by simp [hy])
              rw [hw] at h1
              refine ⟨ws, l127_10 _ _ _ _ _ _ _ _ _ _ _ _ _ _ (ite_f (by simp [ltI]) (ite_f ?_ (and_t (in_len (by omega)) (and_t ?_ (and_t (by rw [intN_eq, lenL_eq, hlen]; exact slice_ok' (by omega)) (and_t ?_ ?_))))))⟩
              · show decide _ = false
                rw [decide_eq_false_iff_not]; omega
              · show decide _ = true
                rw [decide_eq_true_eq, natI_nat, lenL_eq]; omega
              · rw [natI_nat, andB_true]
                refine ⟨by simp [leN, addN, lenL_eq, hlen], roomB_t ?_⟩
                simp only [addN, lenL_eq, List.length_singleton]; omega
              · rw [natI_nat, natI_nat, add_one (by omega)]; exact h1
            · refine ⟨[], l127_10 _ _ _ _ _ _ _ _ _ _ _ _ _ _ (ite_f (by simp [ltI]) (ite_t ?_ ⟨?_, rfl⟩))⟩
              · show decide _ = true
                rw [decide_eq_true_eq]; omega
              · rw [deepB _ _ hsucc (by rw [hds]; omega)]; rfl
          obtain ⟨ws, h1⟩ := last
          refine ⟨ws, upto h1 fun k hk ih => ?_⟩
          refine l127_10 _ _ _ _ _ _ _ _ _ _ _ _ _ _ (ite_t (by simp [ltI]; omega) ?_)
          have hkk : st.length - n + k < st.length := by omega
          have hg := whl_get (p := 0) hkk
          have hb : (andB (inB (k : Int) n) (leN (addN (st.length - n) n) (lenL (whl 0 st)))) = true := by
            rw [andB_true, inB_iff]
            refine ⟨by omega, ?_⟩
            show decide _ = true
            rw [decide_eq_true_eq, lenL_eq, hlen]; simp only [addN]; omega
          have hb' : ltN (addN (st.length - n) (natI (k : Int))) (lenL (whl 0 st)) = true := by
            show decide _ = true
            rw [decide_eq_true_eq, lenL_eq, hlen, natI_nat]; exact hkk
          have e3 : rdN (value_whole.mk 0 0) (whl 0 st) (addN (st.length - n) (natI (k : Int))) = ⟨((0 + Tr.sizes (st.take (st.length - n + k)) : Nat) : Int), ((st[st.length - n + k].deep : Nat) : Int)⟩ := rdN_some hg
          have e4 : (st.drop (st.length - n)).take (k + 1) = (st.drop (st.length - n)).take k ++ [st[st.length - n + k]] := by
            rw [List.take_succ_eq_append_getElem (by simp; omega)]; simp
          have hdp : st[st.length - n + k].deep ≤ Tr.deeps st := Tr.le_deeps (List.getElem_mem _)
          have e5 : maxI ((Tr.deeps ((st.drop (st.length - n)).take k) + 1 : Nat) : Int) (addW .i64 ((st[st.length - n + k].deep : Nat) : Int) 1) = ((Tr.deeps ((st.drop (st.length - n)).take (k + 1)) + 1 : Nat) : Int) := by
            rw [add_one (by omega), maxI_nat, e4, Tr.deeps_append, Tr.deeps_one]
            congr 1; omega
          refine and_t hb (and_t hb' ?_)
          rw [e3]
          dsimp only
          rw [e5, add_one (by omega)]
          refine ite_w (fun h0 => ?_) (fun h0 => ?_)
          · have h0 : k = 0 := by have := eqI_t.1 h0; omega
            subst h0
            simpa using ih
          · have h0 : k ≠ 0 := fun e => by subst e; exact Bool.noConfusion (h0.symm.trans (by rfl : eqI 0 0 = true))
            rw [if_neg h0]
            rw [if_neg (by omega)] at ih
            exact ih
        obtain ⟨ws, h1⟩ := inner
        refine ⟨ws, l127_3 _ _ _ _ _ _ (ite_t (lt_len hi) (and_t (in_len hi) ?_))⟩
        rw [hrd]
        refine ⟨_, gives163 _, or_of (fun _ => rfl) (ite_f ?_ ?_)⟩
        · rw [ho, hn, intN_eq, lenL_eq, hlen]
          show (false || decide ((st.length : Int) < n)) = false
          rw [Bool.false_or, decide_eq_false_iff_not]; omega
        · rw [hn, hsub]
          refine and_t (by rw [intN_eq, lenL_eq, hlen]; exact slice_ok (by omega)) ?_
          have := h1 0 (Nat.zero_le _)
          simp only [List.take_zero, Tr.deeps_nil, if_true] at this
          have e1 : addN 0 (natI ((st.length - n : Nat) : Int)) = st.length - n := by simp [addN, natI]
          have e2 : subN (natI (intN (lenL (whl 0 st)))) (natI ((st.length - n : Nat) : Int)) = n := by
            simp only [intN_eq, lenL_eq, hlen, natI_nat, subN]; omega
          rw [e1, e2]
          exact this
      · have hf := bad i (hsucc.trans (Tr.put_none fun h => hok ⟨h.1, h.2.2⟩))
        rw [hf]
        refine ⟨[], l127_3 _ _ _ _ _ _ (ite_t (lt_len hi) (and_t (in_len hi) ?_))⟩
        rw [hrd]
        refine ⟨_, gives163 _, or_of (fun _ => rfl) (ite_t ?_ ⟨rfl, rfl⟩)⟩
        rw [intN_eq, lenL_eq, hlen]
        cases hb : atomB v[i] with
        | false => rfl
        | true =>
          have : ¬ v[i].gN ≤ st.length := fun h => hok ⟨hb, h⟩
          simp [notB, ltI]; omega
  obtain ⟨ws, h1⟩ := loop 0 (Nat.zero_le _) [] (replL (intN (lenL v)) (value_whole.mk 0 0)) rfl (by simp [Tr.deeps]) (by simp [replL, intN, lenL])
  refine ⟨ws, e127 _ _ (and_t ?_ h1)⟩
  rw [intN_eq, lenL_eq]
  rw [andB_true, andB_true]
  refine ⟨decide_eq_true (by omega), decide_eq_true (by omega), decide_eq_true ?_⟩
  rw [room_eq]; omega

theorem gives79 (v : List api_Atom) : Gives 79 [.d (.sl .api_Atom v)] (.d (.int .i64 (valE v))) := by
  obtain ⟨ws, h1⟩ := gives127 v
  refine e79 _ _ (ite_w (fun h => ?_) (fun h => ?_))
  · have h := of_decide_eq_true h
    simp only [intN_eq, lenL_eq] at h
    have e : valE v = 3 := if_pos (by omega)
    rw [e]; exact ⟨rfl, rfl⟩
  · have h := of_decide_eq_false h
    simp only [intN_eq, lenL_eq] at h
    have e : valE v = if valOk v then 0 else 5 := if_neg (by omega)
    rw [e]
    refine ⟨(ws, valOk v), h1, ite_w (fun h => ?_) (fun h => ?_)⟩
    · have h := notB_t.1 h
      dsimp only at h
      rw [h]; exact ⟨rfl, rfl⟩
    · have h := notB_f.1 h
      dsimp only at h
      rw [h]; exact ⟨rfl, rfl⟩


def sortN (k : Int) : Int := if (ltI k 0 || leI 12 k) = true then 0 else rd 0 [0, 1, 1, 1, 1, 1, 1, 1, 2, 3, 4, 1] k

theorem gives205 (k : Int) : Gives 205 [.d (.int .i64 k)] (.d (.int .i64 (sortN k))) := by
  refine e205 _ _ (or_of (fun _ => rfl) (ite_w (fun h => ?_) (fun h => ?_)))
  · have : sortN k = 0 := if_pos h
    rw [this]; exact ⟨rfl, rfl⟩
  · have e : sortN k = rd 0 [0, 1, 1, 1, 1, 1, 1, 1, 2, 3, 4, 1] k := if_neg (by rw [h]; simp)
    rw [e]
    rw [Bool.or_eq_false_iff] at h
    have h1 := of_decide_eq_false h.1
    have h2 := of_decide_eq_false h.2
    exact and_t (inB_iff.2 ⟨by omega, by omega⟩) ⟨rfl, rfl⟩

def fitB (k : Int) (t : ByteArray) : Bool :=
  if k = 1 ∨ k = 2 ∨ k = 8 then true else if k = 3 then inB' wordL t else if k = 4 ∨ k = 5 ∨ k = 9 then nameB t else strEq t (bs [])

/-- The kinds of failures. -/
theorem kinds (k : Int) : k = 1 ∨ k = 2 ∨ k = 3 ∨ k = 4 ∨ k = 5 ∨ k = 6 ∨ k = 7 ∨ k = 8 ∨ k = 9 ∨ k = 10 ∨ k = 11 ∨ (k ≠ 1 ∧ k ≠ 2 ∧ k ≠ 3 ∧ k ≠ 4 ∧ k ≠ 5 ∧ k ≠ 6 ∧ k ≠ 7 ∧ k ≠ 8 ∧ k ≠ 9 ∧ k ≠ 10 ∧ k ≠ 11) := by omega

theorem gives206 (k : Int) (t : ByteArray) : Gives 206 [.d (.int .i64 k), .d (.str t)] (.d (.bool (fitB k t))) := by
  refine e206 _ _ _ ?_
  rcases kinds k with rfl | rfl | rfl | rfl | rfl | rfl | rfl | rfl | rfl | rfl | rfl | ⟨h1, h2, h3, h4, h5, h6, h7, h8, h9, h10, h11⟩
  · simp only [eqI, Int.reduceBEq, iteP]; exact ⟨rfl, rfl⟩
  · simp only [eqI, Int.reduceBEq, iteP]; exact ⟨rfl, rfl⟩
  · simp only [eqI, Int.reduceBEq, iteP]; exact ⟨_, gives98 wordL t, rfl, rfl⟩
  · simp only [eqI, Int.reduceBEq, iteP]; exact ⟨_, gives49 t, rfl, rfl⟩
  · simp only [eqI, Int.reduceBEq, iteP]; exact ⟨_, gives49 t, rfl, rfl⟩
  · simp only [eqI, Int.reduceBEq, iteP]; exact ⟨rfl, rfl⟩
  · simp only [eqI, Int.reduceBEq, iteP]; exact ⟨rfl, rfl⟩
  · simp only [eqI, Int.reduceBEq, iteP]; exact ⟨rfl, rfl⟩
  · simp only [eqI, Int.reduceBEq, iteP]; exact ⟨_, gives49 t, rfl, rfl⟩
  · simp only [eqI, Int.reduceBEq, iteP]; exact ⟨rfl, rfl⟩
  · simp only [eqI, Int.reduceBEq, iteP]; exact ⟨rfl, rfl⟩
  · have e : fitB k t = strEq t (bs []) := by
      unfold fitB
      rw [if_neg (by omega), if_neg h3, if_neg (by omega)]
    rw [e]
    simp only [eqI_f.2 h1, eqI_f.2 h2, eqI_f.2 h3, eqI_f.2 h4, eqI_f.2 h5, eqI_f.2 h8, eqI_f.2 h9, iteP]
    exact ⟨rfl, rfl⟩

/-- Is a crack right by itself? -/
def crackB (c : api_Crack) : Bool :=
  if sortN c.gKind = 1 then (eqI c.gN 0 && leI (intN (strLen c.gText)) 4096) && fitB c.gKind c.gText
  else if sortN c.gKind = 2 then ((eqI c.gN 0 || eqI c.gN 1) && leI (intN (strLen c.gText)) 4096) && fitB c.gKind c.gText
  else if sortN c.gKind = 3 then (eqI c.gN 1 && leI (intN (strLen c.gText)) 4096) && fitB c.gKind c.gText
  else if sortN c.gKind = 4 then (leI 1 c.gN && leI (intN (strLen c.gText)) 4096) && fitB c.gKind c.gText
  else false

abbrev crackC (a : api_Crack) : C U := .agg [.d (.int .i64 a.gKind), .d (.int .i64 a.gN), .d (.str a.gText)]

theorem gives192 (c : api_Crack) : Gives 192 [crackC c] (.d (.bool (crackB c))) := by
  refine e192 _ _ ⟨_, gives205 _, sw (fun h1 => ?_) (fun h1 => sw (fun h2 => ?_) (fun h2 => sw (fun h3 => ?_) (fun h3 => sw (fun h4 => ?_) (fun h4 => ?_))))⟩
  · simp only [crackB, if_pos h1]
    exact and_of (fun _ => rfl) (and_of (fun _ => ⟨_, gives206 _ _, rfl⟩) ⟨rfl, rfl⟩)
  · simp only [crackB, if_neg h1, if_pos h2]
    exact or_of (fun _ => rfl) (and_of (fun _ => rfl) (and_of (fun _ => ⟨_, gives206 _ _, rfl⟩) ⟨rfl, rfl⟩))
  · simp only [crackB, if_neg h1, if_neg h2, if_pos h3]
    exact and_of (fun _ => rfl) (and_of (fun _ => ⟨_, gives206 _ _, rfl⟩) ⟨rfl, rfl⟩)
  · simp only [crackB, if_neg h1, if_neg h2, if_neg h3, if_pos h4]
    exact and_of (fun _ => rfl) (and_of (fun _ => ⟨_, gives206 _ _, rfl⟩) ⟨rfl, rfl⟩)
  · simp only [crackB, if_neg h1, if_neg h2, if_neg h3, if_neg h4]
    exact ⟨false, rfl, and_of (b := true) (fun h => by cases h) ⟨rfl, rfl⟩⟩

theorem word_len {t : ByteArray} (h : inB' wordL t = true) : leI (intN (strLen t)) 4096 = true := by
  obtain ⟨x, hx, e⟩ := List.any_eq_true.1 h
  rw [strEq_iff'] at e
  subst e
  simp only [wordL, List.mem_cons, List.not_mem_nil, or_false] at hx
  rcases hx with rfl | rfl | rfl | rfl | rfl | rfl | rfl | rfl | rfl | rfl <;> decide
theorem name_len {t : ByteArray} (h : nameB t = true) : leI (intN (strLen t)) 4096 = true := by
  have := (nameB_len h).1
  refine decide_eq_true ?_
  simp only [intN_eq, strLen]; omega
theorem nil_len {t : ByteArray} (h : strEq t (bs []) = true) : leI (intN (strLen t)) 4096 = true := by
  have := strEq_nil.1 h
  refine decide_eq_true ?_
  simp only [intN_eq, strLen]; omega
theorem and_mid {a b c : Bool} (h : c = true → b = true) : (a && c) = ((a && b) && c) := by cases a <;> cases b <;> cases c <;> simp_all

theorem gives204 (c : api_Crack) : Gives 204 [crackC c] (.d (.bool (crackB c))) := by
  obtain ⟨k, n, t⟩ := c
  refine e204 ⟨k, n, t⟩ _ ?_
  dsimp only
  rcases kinds k with rfl | rfl | rfl | rfl | rfl | rfl | rfl | rfl | rfl | rfl | rfl | ⟨h1, h2, h3, h4, h5, h6, h7, h8, h9, h10, h11⟩
  · have e : crackB ⟨1, n, t⟩ = (eqI n 0 && leI (intN (strLen t)) 4096) := Bool.and_true _
    rw [e]; exact and_of (fun _ => rfl) ⟨rfl, rfl⟩
  · have e : crackB ⟨2, n, t⟩ = (eqI n 0 && leI (intN (strLen t)) 4096) := Bool.and_true _
    rw [e]; exact and_of (fun _ => rfl) ⟨rfl, rfl⟩
  · have e : crackB ⟨3, n, t⟩ = (eqI n 0 && inB' wordL t) := (and_mid word_len).symm
    rw [e]
    refine ite_w (b := eqI n 0) (fun h => ?_) (fun h => ?_)
    · rw [h]; exact ⟨wordL, e215 _ ⟨rfl, rfl⟩, _, gives35 _ _, rfl, rfl⟩
    · rw [h]; exact ⟨rfl, rfl⟩
  · have e : crackB ⟨4, n, t⟩ = (eqI n 0 && nameB t) := (and_mid name_len).symm
    rw [e]; exact and_of (fun _ => ⟨_, gives51 t, rfl⟩) ⟨rfl, rfl⟩
  · have e : crackB ⟨5, n, t⟩ = (eqI n 0 && nameB t) := (and_mid name_len).symm
    rw [e]; exact and_of (fun _ => ⟨_, gives51 t, rfl⟩) ⟨rfl, rfl⟩
  · have e : crackB ⟨6, n, t⟩ = (eqI n 0 && strEq t (bs [])) := (and_mid nil_len).symm
    rw [e]; exact and_of (fun _ => rfl) ⟨rfl, rfl⟩
  · have e : crackB ⟨7, n, t⟩ = (eqI n 0 && strEq t (bs [])) := (and_mid nil_len).symm
    rw [e]; exact and_of (fun _ => rfl) ⟨rfl, rfl⟩
  · have e : crackB ⟨8, n, t⟩ = ((eqI n 0 || eqI n 1) && leI (intN (strLen t)) 4096) := Bool.and_true _
    rw [e]; exact or_of (fun _ => rfl) (and_of (fun _ => rfl) ⟨rfl, rfl⟩)
  · have e : crackB ⟨9, n, t⟩ = (eqI n 1 && nameB t) := (and_mid name_len).symm
    rw [e]; exact and_of (fun _ => ⟨_, gives51 t, rfl⟩) ⟨rfl, rfl⟩
  · have e : crackB ⟨10, n, t⟩ = (leI 1 n && strEq t (bs [])) := (and_mid nil_len).symm
    rw [e]; exact and_of (fun _ => rfl) ⟨rfl, rfl⟩
  · have e : crackB ⟨11, n, t⟩ = (eqI n 0 && strEq t (bs [])) := (and_mid nil_len).symm
    rw [e]; exact and_of (fun _ => rfl) ⟨rfl, rfl⟩
  · have e : crackB ⟨k, n, t⟩ = false := by
      have : sortN k = 0 := by
        unfold sortN
        split
        · rfl
        · rename_i h
          rw [Bool.or_eq_true, not_or] at h
          have a1 : ¬ k < 0 := fun h' => h.1 (decide_eq_true h')
          have a2 : ¬ 12 ≤ k := fun h' => h.2 (decide_eq_true h')
          have : k = 0 := by omega
          subst this; rfl
      simp only [crackB, this]
      rfl
    rw [e]
    simp only [eqI_f.2 h1, eqI_f.2 h2, eqI_f.2 h3, eqI_f.2 h4, eqI_f.2 h5, eqI_f.2 h6, eqI_f.2 h7, eqI_f.2 h8, eqI_f.2 h9, eqI_f.2 h10, eqI_f.2 h11, iteP]
    exact ⟨rfl, rfl⟩

theorem crackB_pos {a : api_Crack} (h : crackB a = true) : 0 ≤ a.gN := by
  unfold crackB at h
  split at h
  · simp only [Bool.and_eq_true, eqI_t] at h; omega
  · split at h
    · simp only [Bool.and_eq_true, Bool.or_eq_true, eqI_t] at h; omega
    · split at h
      · simp only [Bool.and_eq_true, eqI_t] at h; omega
      · split at h
        · simp only [Bool.and_eq_true] at h
          have := of_decide_eq_true h.1.1
          omega
        · cases h

/-- A failure, read. -/
abbrev failT (v : List api_Crack) : Option (List (Tr api_Crack)) := Tr.read crackB (·.gN) [] v
def failOk (v : List api_Crack) : Bool := match failT v with
  | some [_] => true
  | _ => false

theorem failOk_one {v : List api_Crack} {st : List (Tr api_Crack)} (h : failT v = some st) : failOk v = eqI (st.length : Int) 1 := by
  simp only [failOk, h]
  split
  · rename_i t e; cases e; rfl
  · rename_i hn
    rw [eq_comm, eqI_f]
    intro h1
    obtain ⟨t, rfl⟩ := List.length_eq_one_iff.1 (by omega : st.length = 1)
    exact hn t rfl
theorem failOk_none {v : List api_Crack} (h : failT v = none) : failOk v = false := by simp only [failOk, h]

theorem setL_get {α : Type} {d : α} {l : List α} {i : Nat} {x : α} (h : i < l.length) : rdN d (setL l i x) i = x := by
  refine rdN_some ?_
  simp [setL, h]
theorem setL_len {α : Type} (l : List α) (i : Nat) (x : α) : lenL (setL l i x) = l.length := by simp [lenL, setL]
theorem ltN_t {a b : Nat} (h : a < b) : ltN a b = true := decide_eq_true h
theorem leN_t {a b : Nat} (h : a ≤ b) : leN a b = true := decide_eq_true h

section
variable {v : List api_Crack} {i : Nat} {st : List (Tr api_Crack)}
theorem crack_bad (hi : i < v.length) (hst : failT (v.take i) = some st) (hok : ¬ (crackB v[i] = true ∧ v[i].gN ≤ st.length)) : failOk v = false ∧ (notB (crackB v[i]) || ltI (intN (lenL (Ns (Tr.starts 0 st)))) v[i].gN) = true := by
  refine ⟨failOk_none (Tr.read_take_none (i := i + 1) ((Tr.read_take_succ hi hst).trans (Tr.put_none fun h => hok ⟨h.1, h.2.2⟩))), ?_⟩
  rw [intN_eq, lenL_eq, Ns_length, Tr.starts_length]
  cases hb : crackB v[i] with
  | false => rfl
  | true =>
    have : ¬ v[i].gN ≤ st.length := fun h => hok ⟨hb, h⟩
    simp [notB, ltI]; omega
end


theorem gives191 (v : List api_Crack) : ∃ fr, Gives 191 [.d (.sl .api_Crack v)] (.tup [.d (.sl .int fr), .d (.bool (failOk v))]) := by
  by_cases hl : v.length * 32 ≤ 140737488355328
  case neg => exact ⟨[], Runs.known fun hk _ => absurd (known_cracks (hk _ (List.mem_cons_self ..))) hl⟩
  let P : Nat → Prop := fun i => ∀ (st : List (Tr api_Crack)) (y4 : List Int), failT (v.take i) = some st → y4.length = i → ∃ fr : List Int,
    At K 191 (fun c' H' => c' = (.tup [.d (.sl .int fr), .d (.bool (failOk v))] : C U) ∧ H' = []) t191_4 (s191_4 v i y4 (Ns (Tr.starts 0 st)))
  have loop : ∀ i, i ≤ v.length → P i := by
    refine upto ?_ fun i hi ih => ?_
    · intro st y4 hst hy
      rw [List.take_length] at hst
      refine ⟨y4, l191_4 _ _ _ _ _ (ite_f (lt_len_f (Nat.le_refl _)) ⟨?_, rfl⟩)⟩
      rw [failOk_one hst, intN_eq, lenL_eq, Ns_length, Tr.starts_length]
    · intro st y4 hst hy
      have hlen : (Ns (Tr.starts 0 st)).length = st.length := by rw [Ns_length, Tr.starts_length]
      have hsz : Tr.sizes st = i := by rw [Tr.read_sizes hst]; simp; omega
      have hle := Tr.length_le_sizes st
      have hrd : rd (api_Crack.mk 0 0 (bs [])) v (i : Int) = v[i] := rd_at hi
      have hroom : ∀ m, m ≤ v.length → (m + 1) * 8 ≤ 140737488355328 := fun m hm => by omega
      by_cases hok : crackB v[i] = true ∧ v[i].gN ≤ st.length
      · obtain ⟨ho, hN⟩ := hok
        have hp := crackB_pos ho
        obtain ⟨n, hn⟩ : ∃ n : Nat, v[i].gN = (n : Int) := ⟨v[i].gN.toNat, by omega⟩
        have hnl : n ≤ st.length := by omega
        have hsucc := (Tr.read_take_succ (ok := crackB) (ar := (·.gN)) hi hst).trans (Tr.put_of ho hn hnl)
        have hsub : subW .i64 (intN (lenL (Ns (Tr.starts 0 st)))) (n : Int) = ((st.length - n : Nat) : Int) := by
          rw [intN_eq, lenL_eq, hlen, subW_id (by omega) (by omega)]; omega
        obtain ⟨fr, h1⟩ := ih _ (y4 ++ [((Tr.sizes (st.take (st.length - n)) : Nat) : Int)]) hsucc (by simp [hy])
        rw [starts_put hnl, Ns_append, ← Ns_take, Ns_one] at h1
        refine ⟨fr, l191_4 _ _ _ _ _ (ite_t (lt_len hi) (and_t (in_len hi) ?_))⟩
        rw [hrd]
        refine ⟨_, gives204 _, or_of (fun _ => rfl) (ite_f ?_ ?_)⟩
        · rw [ho, hn, intN_eq, lenL_eq, hlen]
          show (false || decide ((st.length : Int) < n)) = false
          rw [Bool.false_or, decide_eq_false_iff_not]; omega
        rw [hn]
        by_cases h0 : 0 < n
        · refine ite_t (by simp [ltI]; omega) ?_
          have hk : st.length - n < st.length := by omega
          rw [hsub, natI_nat, rdN_some (Ns_get (start_at hk))]
          refine and_t (in_len (by omega)) (and_t (ltN_t (by rw [lenL_eq, hlen]; exact hk)) (and_t (by rw [intN_eq, lenL_eq, hlen]; exact slice_ok' (by omega)) (and_t ?_ (and_t (roomB_t ?_) ?_))))
          · rw [andB_true]
            refine ⟨leN_t (by simp only [addN, lenL_eq, hlen]; omega), roomB_t ?_⟩
            simp only [addN, lenL_eq, List.length_singleton]; exact hroom _ (by omega)
          · simp only [addN, lenL_eq, List.length_singleton, hy]; exact hroom _ (by omega)
          · rw [add_one (by omega)]; exact h1
        · have h00 : n = 0 := by omega
          subst h00
          refine ite_f (by simp [ltI]) ?_
          simp only [Nat.sub_zero, List.take_length, hsz] at h1
          rw [List.take_of_length_le (Nat.le_of_eq hlen)] at h1
          refine and_t (roomB_t ?_) (and_t (roomB_t ?_) ?_)
          · simp only [addN, lenL_eq, List.length_singleton, hlen]; exact hroom _ (by omega)
          · simp only [addN, lenL_eq, List.length_singleton, hy]; exact hroom _ (by omega)
          · rw [add_one (by omega)]; exact h1
      · obtain ⟨hf, hb⟩ := crack_bad hi hst hok
        rw [hf]
        refine ⟨[], l191_4 _ _ _ _ _ (ite_t (lt_len hi) (and_t (in_len hi) ?_))⟩
        rw [hrd]
        exact ⟨_, gives204 _, or_of (fun _ => rfl) (ite_t hb ⟨rfl, rfl⟩)⟩
  obtain ⟨fr, h1⟩ := loop 0 (Nat.zero_le _) [] [] rfl rfl
  exact ⟨fr, e191 _ _ h1⟩

theorem gives181 (v : List api_Crack) : ∃ fr, Gives 181 [.d (.sl .api_Crack v)] (.tup [.d (.sl .int fr), .d (.bool (failOk v))]) := by
  by_cases hl : v.length * 32 ≤ 140737488355328
  case neg => exact ⟨[], Runs.known fun hk _ => absurd (known_cracks (hk _ (List.mem_cons_self ..))) hl⟩
  let P : Nat → Prop := fun i => ∀ (st : List (Tr api_Crack)) (y10 : List Int), failT (v.take i) = some st → y10.length = v.length → ∃ fr : List Int,
    At K 181 (fun c' H' => c' = (.tup [.d (.sl .int fr), .d (.bool (failOk v))] : C U) ∧ H' = []) t181_3 (s181_3 v (intN (lenL v)) i (Ns (Tr.starts 0 st)) y10)
  have loop : ∀ i, i ≤ v.length → P i := by
    refine upto ?_ fun i hi ih => ?_
    · intro st y10 hst hy
      rw [List.take_length] at hst
      refine ⟨y10, l181_3 _ _ _ _ _ _ (ite_f (lt_len_f (Nat.le_refl _)) ⟨?_, rfl⟩)⟩
      rw [failOk_one hst, intN_eq, lenL_eq, Ns_length, Tr.starts_length]
    · intro st y10 hst hy
      have hlen : (Ns (Tr.starts 0 st)).length = st.length := by rw [Ns_length, Tr.starts_length]
      have hsz : Tr.sizes st = i := by rw [Tr.read_sizes hst]; simp; omega
      have hle := Tr.length_le_sizes st
      have hrd : rd (api_Crack.mk 0 0 (bs [])) v (i : Int) = v[i] := rd_at hi
      have hroom : ∀ m, m ≤ v.length → (m + 1) * 8 ≤ 140737488355328 := fun m hm => by omega
      by_cases hok : crackB v[i] = true ∧ v[i].gN ≤ st.length
      · obtain ⟨ho, hN⟩ := hok
        have hp := crackB_pos ho
        obtain ⟨n, hn⟩ : ∃ n : Nat, v[i].gN = (n : Int) := ⟨v[i].gN.toNat, by omega⟩
        have hnl : n ≤ st.length := by omega
        have hsucc := (Tr.read_take_succ (ok := crackB) (ar := (·.gN)) hi hst).trans (Tr.put_of ho hn hnl)
        have hsub : subW .i64 (intN (lenL (Ns (Tr.starts 0 st)))) (n : Int) = ((st.length - n : Nat) : Int) := by
          rw [intN_eq, lenL_eq, hlen, subW_id (by omega) (by omega)]; omega
        have in1 : ∀ L : List Int, lenL L = v.length → inB (i : Int) (lenL L) = true := fun L h => by rw [inB_iff, h]; omega
        have lt1 : ∀ L : List Int, lenL L = v.length → ltN (natI (i : Int)) (lenL L) = true := fun L h => ltN_t (by rw [h, natI_nat]; exact hi)
        have hgen : ∀ y : List Int, y.length = v.length → ∃ fr : List Int, At K 181 (fun c' H' => c' = (.tup [.d (.sl .int fr), .d (.bool (failOk v))] : C U) ∧ H' = []) t181_3
            (s181_3 v (intN (lenL v)) ((i + 1 : Nat) : Int) ((Ns (Tr.starts 0 st)).take (st.length - n) ++ [((Tr.sizes (st.take (st.length - n)) : Nat) : Int)]) y) := by
          intro y hy'
          obtain ⟨fr, h1⟩ := ih _ y hsucc hy'
          rw [starts_put hnl, Ns_append, ← Ns_take, Ns_one] at h1
          exact ⟨fr, h1⟩
        have hy1 : (setL y10 (natI (i : Int)) (i : Int)).length = v.length := by simp [setL, hy]
        have hin1 : natI (i : Int) < (setL y10 (natI (i : Int)) (i : Int)).length := by rw [hy1, natI_nat]; exact hi
        by_cases h0 : 0 < n
        · have hk : st.length - n < st.length := by omega
          obtain ⟨fr, h1⟩ := hgen (setL (setL y10 (natI (i : Int)) (i : Int)) (natI (i : Int)) ((Tr.sizes (st.take (st.length - n)) : Nat) : Int)) (by simp [setL, hy])
          refine ⟨fr, l181_3 _ _ _ _ _ _ (ite_t (lt_len hi) (and_t (in_len hi) ?_))⟩
          rw [hrd]
          refine ⟨_, gives192 _, or_of (fun _ => rfl) (ite_f ?_ ?_)⟩
          · rw [ho, hn, intN_eq, lenL_eq, hlen]
            show (false || decide ((st.length : Int) < n)) = false
            rw [Bool.false_or, decide_eq_false_iff_not]; omega
          rw [hn]
          refine and_t (in1 _ hy) (and_t (lt1 _ hy) (ite_t (by simp [ltI]; omega) ?_))
          rw [hsub, natI_nat (st.length - n), rdN_some (Ns_get (start_at hk)), setL_get hin1]
          refine and_t (in_len (by omega)) (and_t (ltN_t (by rw [lenL_eq, hlen]; exact hk)) (and_t (in1 _ (by simp [lenL, setL, hy])) (and_t (lt1 _ (by simp [lenL, setL, hy])) (and_t (by rw [intN_eq, lenL_eq, hlen]; exact slice_ok' (by omega)) (and_t (in1 _ (by simp [lenL, setL, hy])) (and_t (lt1 _ (by simp [lenL, setL, hy])) (and_t ?_ ?_)))))))
          · rw [andB_true]
            refine ⟨leN_t (by simp only [addN, lenL_eq, hlen]; omega), roomB_t ?_⟩
            simp only [addN, lenL_eq, List.length_singleton]; exact hroom _ (by omega)
          · rw [add_one (by omega)]; exact h1
        · have h00 : n = 0 := by omega
          subst h00
          obtain ⟨fr, h1⟩ := hgen (setL y10 (natI (i : Int)) (i : Int)) hy1
          refine ⟨fr, l181_3 _ _ _ _ _ _ (ite_t (lt_len hi) (and_t (in_len hi) ?_))⟩
          rw [hrd]
          refine ⟨_, gives192 _, or_of (fun _ => rfl) (ite_f ?_ ?_)⟩
          · rw [ho, hn, intN_eq, lenL_eq, hlen]
            show (false || decide ((st.length : Int) < (0 : Nat))) = false
            rw [Bool.false_or, decide_eq_false_iff_not]; omega
          rw [hn]
          refine and_t (in1 _ hy) (and_t (lt1 _ hy) (ite_f (by simp [ltI]) ?_))
          rw [hsub, natI_nat (st.length - 0), setL_get (by rw [hy, natI_nat]; exact hi)]
          refine and_t (by rw [intN_eq, lenL_eq, hlen]; exact slice_ok' (by omega)) (and_t (in1 _ (by simp [lenL, setL, hy])) (and_t (lt1 _ (by simp [lenL, setL, hy])) (and_t ?_ ?_)))
          · rw [andB_true]
            refine ⟨leN_t (by simp only [addN, lenL_eq, hlen]; omega), roomB_t ?_⟩
            simp only [addN, lenL_eq, List.length_singleton]; exact hroom _ (by omega)
          · rw [add_one (by omega)]
            simp only [Nat.sub_zero, List.take_length, hsz] at h1 ⊢
            exact h1
      · obtain ⟨hf, hb⟩ := crack_bad hi hst hok
        rw [hf]
        refine ⟨[], l181_3 _ _ _ _ _ _ (ite_t (lt_len hi) (and_t (in_len hi) ?_))⟩
        rw [hrd]
        exact ⟨_, gives192 _, or_of (fun _ => rfl) (ite_t hb ⟨rfl, rfl⟩)⟩
  obtain ⟨fr, h1⟩ := loop 0 (Nat.zero_le _) [] (replL (intN (lenL v)) 0) rfl (by simp [replL, intN, lenL])
  refine ⟨fr, e181 _ _ (and_t ?_ h1)⟩
  rw [intN_eq, lenL_eq, andB_true, andB_true]
  refine ⟨decide_eq_true (by omega), decide_eq_true (by omega), decide_eq_true ?_⟩
  rw [room_eq]; omega

/-- What is wrong with a failure. -/
def failE (v : List api_Crack) : Int := if 1024 < v.length then 3 else if failOk v then 0 else 5

theorem failE_small {v : List api_Crack} (h : failE v = 0) : failOk v = true := by
  unfold failE at h
  by_cases h1 : 1024 < v.length
  · rw [if_pos h1] at h; omega
  · rw [if_neg h1] at h
    cases hf : failOk v with
    | true => rfl
    | false => rw [hf] at h; simp at h
theorem failOk_pos {v : List api_Crack} (h : failOk v = true) : 0 < v.length := by
  cases v with
  | nil => rw [failOk_one (v := []) (st := []) rfl] at h; cases h
  | cons a r => simp

theorem gives156 (v : List api_Crack) : Gives 156 [.d (.sl .api_Crack v)] (.d (.int .i64 (failE v))) := by
  obtain ⟨ws, h1⟩ := gives181 v
  refine e156 _ _ (ite_w (fun h => ?_) (fun h => ?_))
  · have h := of_decide_eq_true h
    simp only [intN_eq, lenL_eq] at h
    have e : failE v = 3 := if_pos (by omega)
    rw [e]; exact ⟨rfl, rfl⟩
  · have h := of_decide_eq_false h
    simp only [intN_eq, lenL_eq] at h
    have e : failE v = if failOk v then 0 else 5 := if_neg (by omega)
    rw [e]
    refine ⟨(ws, failOk v), h1, ite_w (fun h => ?_) (fun h => ?_)⟩
    · have h := notB_t.1 h
      dsimp only at h
      rw [h]; exact ⟨rfl, rfl⟩
    · have h := notB_f.1 h
      dsimp only at h
      rw [h]; exact ⟨rfl, rfl⟩
theorem gives179 (v : List api_Crack) : Gives 179 [.d (.sl .api_Crack v)] (.d (.int .i64 (failE v))) := by
  obtain ⟨ws, h1⟩ := gives191 v
  refine e179 _ _ (ite_w (fun h => ?_) (fun h => ?_))
  · have h := of_decide_eq_true h
    simp only [intN_eq, lenL_eq] at h
    have e : failE v = 3 := if_pos (by omega)
    rw [e]; exact ⟨rfl, rfl⟩
  · have h := of_decide_eq_false h
    simp only [intN_eq, lenL_eq] at h
    have e : failE v = if failOk v then 0 else 5 := if_neg (by omega)
    rw [e]
    refine ⟨(ws, failOk v), h1, ite_w (fun h => ?_) (fun h => ?_)⟩
    · have h := notB_t.1 h
      dsimp only at h
      rw [h]; exact ⟨rfl, rfl⟩
    · have h := notB_f.1 h
      dsimp only at h
      rw [h]; exact ⟨rfl, rfl⟩

abbrev outC (o : api_Outcome) : C U := .agg [.d (.int .i64 o.gKind), .d (.sl .api_Atom o.gValue), .d (.sl .api_Crack o.gFail)]
abbrev markC (m : api_Mark) : C U := .agg [.d (.int .i64 m.gAt), .d (.int .i64 m.gKind), .d (.int .i64 m.gTask), .d (.int .i64 m.gScope), .d (.int .i64 m.gGen), .d (.str m.gName), .d (.int .i64 m.gOutcome.gKind), .d (.sl .api_Atom m.gOutcome.gValue), .d (.sl .api_Crack m.gOutcome.gFail)]

/-- The kind of the last one of a failure. -/
def lastK (v : List api_Crack) : Int := (rd (api_Crack.mk 0 0 (bs [])) v (subW .i64 (intN (lenL v)) 1)).gKind
theorem lastK_in {v : List api_Crack} (h : eqI (failE v) 0 = true) (hl : v.length < 4611686018427387904) : inB (subW .i64 (intN (lenL v)) 1) (lenL v) = true := by
  have := failOk_pos (failE_small (eqI_t.1 h))
  rw [intN_eq, lenL_eq, subW_id (by omega) (by omega)]
  have e : (v.length : Int) - 1 = ((v.length - 1 : Nat) : Int) := by omega
  rw [e]; exact in_len (by omega)

/-- Is the outcome right (and not none)? -/
def outR (o : api_Outcome) : Bool :=
  if eqI o.gKind 1 then eqI (intN (lenL o.gFail)) 0 && eqI (valE o.gValue) 0
  else if eqI o.gKind 2 then eqI (intN (lenL o.gValue)) 0 && eqI (failE o.gFail) 0
  else if eqI o.gKind 3 then (eqI (intN (lenL o.gValue)) 0 && eqI (failE o.gFail) 0) && eqI (lastK o.gFail) 2
  else false
/-- Is the outcome none, or right? -/
def outB (o : api_Outcome) : Bool := if eqI o.gKind 0 then eqI (intN (lenL o.gValue)) 0 && eqI (intN (lenL o.gFail)) 0 else outR o

theorem gives167 (o : api_Outcome) : Gives 167 [outC o] (.d (.bool (outB o))) := by
  refine Runs.known fun hk _ => ?_
  have hl : o.gFail.length * 32 ≤ 140737488355328 := (C.Known.agg (hk _ (List.mem_cons_self ..)) _ (List.mem_of_getElem? (i := 2) rfl)).d.sl.1
  unfold outB outR
  refine e167 _ _ (ite_w (fun h => ?_) (fun h => ite_w (fun h1 => ?_) (fun h1 => ite_w (fun h2 => ?_) (fun h2 => ite_w (fun h3 => ?_) (fun h3 => ?_)))))
  · simp only [h, if_true]
    exact and_of (fun _ => rfl) ⟨rfl, rfl⟩
  · simp only [h, h1, if_true, if_false]
    exact and_of (fun _ => ⟨_, gives79 _, rfl⟩) ⟨rfl, rfl⟩
  · simp only [h, h1, h2, if_true, if_false]
    exact and_of (fun _ => ⟨_, gives156 _, rfl⟩) ⟨rfl, rfl⟩
  · simp only [h, h1, h2, h3, if_true, if_false]
    refine and_of (fun _ => ⟨_, gives156 _, rfl⟩) (and_of (fun h => ?_) ⟨rfl, rfl⟩)
    simp only [Bool.and_eq_true] at h
    exact and_t (lastK_in h.2 (by omega)) rfl
  · simp only [h, h1, h2, h3, if_true, if_false]
    exact ⟨rfl, rfl⟩

theorem gives147 (o : api_Outcome) : Gives 147 [outC o] (.d (.bool (outR o))) := by
  refine Runs.known fun hk _ => ?_
  have hl : o.gFail.length * 32 ≤ 140737488355328 := (C.Known.agg (hk _ (List.mem_cons_self ..)) _ (List.mem_of_getElem? (i := 2) rfl)).d.sl.1
  have pos : ∀ {n : Nat}, ltI 0 (intN n) = notB (eqI (intN n) 0) := by
    intro n
    rw [Bool.eq_iff_iff, notB_t, eqI_f, intN_eq, ltI, decide_eq_true_eq]; omega
  unfold outR
  refine e147 _ _ (ite_w (fun h1 => ?_) (fun h1 => ite_w (fun h2 => ite_w (fun _ => ?_) (fun h => ?_)) (fun h2 => ite_w (fun h3 => ?_) (fun h3 => ?_))))
  · simp only [h1, if_true]
    refine ⟨_, gives81 _, and_of (fun _ => rfl) ?_⟩
    rw [Bool.and_comm]; exact ⟨rfl, rfl⟩
  · simp only [h1, h2, if_true, if_false]
    refine ⟨_, gives179 _, or_of (fun _ => rfl) (ite_w (fun h => ?_) (fun h => ?_))⟩
    · have e : (eqI (intN (lenL o.gValue)) 0 && eqI (failE o.gFail) 0) = false := by
        rw [pos] at h
        cases ha : eqI (intN (lenL o.gValue)) 0 <;> cases hb : eqI (failE o.gFail) 0 <;> simp_all [notB]
      simp only [e]; exact ⟨rfl, rfl⟩
    · have e : (eqI (intN (lenL o.gValue)) 0 && eqI (failE o.gFail) 0) = true := by
        rw [pos] at h
        cases ha : eqI (intN (lenL o.gValue)) 0 <;> cases hb : eqI (failE o.gFail) 0 <;> simp_all [notB]
      simp only [e]
      refine or_of (b := true) (fun h => ?_) ?_
      · cases h
      · rw [Bool.or_true]; exact ⟨rfl, rfl⟩
  · rw [h2] at h; cases h
  · simp only [h1, h2, h3, if_true, if_false]
    refine ⟨_, gives179 _, or_of (fun _ => rfl) (ite_w (fun h => ?_) (fun h => ?_))⟩
    · have e : (eqI (intN (lenL o.gValue)) 0 && eqI (failE o.gFail) 0) = false := by
        rw [pos] at h
        cases ha : eqI (intN (lenL o.gValue)) 0 <;> cases hb : eqI (failE o.gFail) 0 <;> simp_all [notB]
      simp only [e]; exact ⟨rfl, rfl⟩
    · have e : eqI (intN (lenL o.gValue)) 0 = true ∧ eqI (failE o.gFail) 0 = true := by
        rw [pos] at h
        cases ha : eqI (intN (lenL o.gValue)) 0 <;> cases hb : eqI (failE o.gFail) 0 <;> simp_all [notB]
      simp only [e.1, e.2]
      refine or_of (fun _ => and_t (lastK_in e.2 (by omega)) rfl) ?_
      exact ⟨rfl, rfl⟩
  · simp only [h1, h2, h3, if_false]
    exact ⟨rfl, rfl⟩

def numB (n : Int) : Bool := leI 0 n && leI n 9007199254740992
theorem gives166 (n : Int) : Gives 166 [.d (.int .i64 n)] (.d (.bool (numB n))) := e166 _ _ (and_of (fun _ => rfl) ⟨rfl, rfl⟩)
theorem gives146 (n : Int) : Gives 146 [.d (.int .i64 n)] (.d (.bool (numB n))) := e146 _ _ (and_of (fun _ => rfl) ⟨rfl, rfl⟩)

/-- Is the mark a step? -/
def stepB (m : api_Mark) : Bool := leI 1 m.gKind && leI m.gKind 13
theorem gives139 (m : api_Mark) : Gives 139 [markC m] (.d (.bool (stepB m))) := e139 _ _ (and_of (fun _ => rfl) ⟨rfl, rfl⟩)
theorem gives108 (m : api_Mark) : Gives 108 [markC m] (.d (.bool (stepB m))) := e108 _ _ (and_of (fun _ => rfl) ⟨rfl, rfl⟩)

def kindB (k : Int) : Bool := leI 1 k && leI k 15
/-- Is the mark right by itself? -/
def markB (m : api_Mark) : Bool := (((((((kindB m.gKind && leI 0 m.gAt) && leI m.gAt 1099511627776) && numB m.gTask) && numB m.gScope) && numB m.gGen) && (strEq m.gName (bs []) || nameB m.gName)) && outB m.gOutcome)

theorem kind_or {k : Int} : ((leI 1 k && leI k 14) || eqI k 15) = kindB k := by
  rw [Bool.eq_iff_iff]
  simp only [kindB, Bool.or_eq_true, Bool.and_eq_true, eqI_t, leI, decide_eq_true_eq]; omega

theorem gives138 (m : api_Mark) : Gives 138 [markC m] (.d (.bool (markB m))) := by
  refine e138 _ _ (and_of (fun _ => rfl) (or_of (fun _ => rfl) (and_of (fun _ => rfl) (and_of (fun _ => rfl) (and_of (fun _ => ⟨_, gives166 _, rfl⟩) (and_of (fun _ => ⟨_, gives166 _, rfl⟩) (and_of (fun _ => ⟨_, gives166 _, rfl⟩)
    (and_of (b := strEq m.gName (bs []) || nameB m.gName) (fun _ => or_of (fun _ => ⟨_, gives49 _, rfl⟩) rfl) (and_of (fun _ => ⟨_, gives167 m.gOutcome, rfl⟩) ?_)))))))))
  rw [kind_or]
  exact ⟨rfl, rfl⟩

theorem gives145 (k : Int) : ∃ s, Gives 145 [.d (.int .i64 k)] (.d (.str s)) ∧ strEq s (bs []) = notB (kindB k) := by
  by_cases h : kindB k = true
  · have hk : 1 ≤ k ∧ k ≤ 15 := by simpa [kindB, leI] using h
    have c : k = 1 ∨ k = 2 ∨ k = 3 ∨ k = 4 ∨ k = 5 ∨ k = 6 ∨ k = 7 ∨ k = 8 ∨ k = 9 ∨ k = 10 ∨ k = 11 ∨ k = 12 ∨ k = 13 ∨ k = 14 ∨ k = 15 := by omega
    rcases c with rfl | rfl | rfl | rfl | rfl | rfl | rfl | rfl | rfl | rfl | rfl | rfl | rfl | rfl | rfl <;>
      exact ⟨_, e145 _ _ (or_of (b := false) (fun _ => rfl) (ite_f rfl (and_t rfl (and_t rfl ⟨rfl, rfl⟩)))), Bool.eq_false_iff.2 fun h => absurd (strEq_nil.1 h) (by decide)⟩
  · have h := Bool.eq_false_iff.2 h
    refine ⟨bs [], e145 _ _ (or_of (fun _ => rfl) (ite_t ?_ ⟨rfl, rfl⟩)), by rw [h]; exact strEq_self _⟩
    simp only [kindB, Bool.and_eq_false_iff, leI, decide_eq_false_iff_not] at h
    simp only [Bool.or_eq_true, ltI, decide_eq_true_eq]
    have : intN (lenL [bs [98, 101, 103, 105, 110], bs [101, 110, 100], bs [119, 97, 105, 116], bs [116, 101, 108, 108], bs [99, 121, 99, 108, 101], bs [100, 101, 112, 116, 104], bs [110, 111, 110, 101], bs [99, 108, 111, 115, 101, 100], bs [115, 116, 111, 112], bs [112, 97, 115, 115], bs [100, 111, 110, 101], bs [108, 101, 102, 116], bs [115, 104, 117, 116], bs [97, 99, 116], bs [114, 101, 102, 117, 115, 101, 100]]) = 15 := rfl
    rw [this]; omega

theorem gives107 (m : api_Mark) : Gives 107 [markC m] (.d (.bool (markB m))) := by
  obtain ⟨s, h1, h2⟩ := gives145 m.gKind
  refine e107 _ _ ⟨s, h1, or_of (fun _ => rfl) (or_of (fun _ => rfl) (or_of (fun _ => ⟨_, gives146 _, rfl⟩) (or_of (fun _ => ⟨_, gives146 _, rfl⟩) (or_of (fun _ => ⟨_, gives146 _, rfl⟩) (ite_w (fun h => ?_) (fun h => ?_))))))⟩
  · have e : markB m = false := by
      rw [h2] at h
      unfold markB
      have e1 : ltI m.gAt 0 = notB (leI 0 m.gAt) := by rw [Bool.eq_iff_iff]; simp only [notB_t, ltI, leI, decide_eq_true_eq, decide_eq_false_iff_not]; omega
      have e2 : ltI 1099511627776 m.gAt = notB (leI m.gAt 1099511627776) := by rw [Bool.eq_iff_iff]; simp only [notB_t, ltI, leI, decide_eq_true_eq, decide_eq_false_iff_not]; omega
      rw [e1, e2] at h
      generalize kindB m.gKind = a, leI 0 m.gAt = b, leI m.gAt 1099511627776 = c, numB m.gTask = d, numB m.gScope = e, numB m.gGen = f at h ⊢
      revert h; cases a <;> cases b <;> cases c <;> cases d <;> cases e <;> cases f <;> simp [notB]
    rw [e]; exact ⟨rfl, rfl⟩
  · have e : markB m = ((strEq m.gName (bs []) || nameB m.gName) && outB m.gOutcome) := by
      rw [h2] at h
      unfold markB
      have e1 : ltI m.gAt 0 = notB (leI 0 m.gAt) := by rw [Bool.eq_iff_iff]; simp only [notB_t, ltI, leI, decide_eq_true_eq, decide_eq_false_iff_not]; omega
      have e2 : ltI 1099511627776 m.gAt = notB (leI m.gAt 1099511627776) := by rw [Bool.eq_iff_iff]; simp only [notB_t, ltI, leI, decide_eq_true_eq, decide_eq_false_iff_not]; omega
      rw [e1, e2] at h
      generalize kindB m.gKind = a, leI 0 m.gAt = b, leI m.gAt 1099511627776 = c, numB m.gTask = d, numB m.gScope = e, numB m.gGen = f at h ⊢
      revert h; cases a <;> cases b <;> cases c <;> cases d <;> cases e <;> cases f <;> simp [notB]
    rw [e]
    refine and_of (fun _ => ⟨_, gives51 _, rfl⟩) (ite_w (fun h => ?_) (fun h => ?_))
    · have e : (strEq m.gName (bs []) || nameB m.gName) = false := by
        revert h; cases strEq m.gName (bs []) <;> cases nameB m.gName <;> simp [notB]
      rw [e]; exact ⟨rfl, rfl⟩
    · have e : (strEq m.gName (bs []) || nameB m.gName) = true := by
        revert h; cases strEq m.gName (bs []) <;> cases nameB m.gName <;> simp [notB]
      rw [e, Bool.true_and]
      refine ite_w (fun h => ?_) (fun h => ?_)
      · have e : outB m.gOutcome = (eqI (intN (lenL m.gOutcome.gValue)) 0 && eqI (intN (lenL m.gOutcome.gFail)) 0) := by simp only [outB, h, if_true]
        rw [e]; exact and_of (fun _ => rfl) ⟨rfl, rfl⟩
      · have e : outB m.gOutcome = outR m.gOutcome := by simp only [outB, h, if_false]; rfl
        rw [e]; exact ⟨_, gives147 m.gOutcome, rfl, rfl⟩


abbrev Book := oncewebref26_Book
abbrev Cell := oncewebref26_Cell
abbrev Ended := oncewebref26_Ended
abbrev Task := oncewebref26_Task
abbrev Gen := oncewebref26_Gen

def G0 : Gen := ⟨0, bs [], 0⟩
def C0 : Cell := ⟨0, bs [], 0, false, 0, ⟨0, [], []⟩, false, []⟩
def T0 : Task := ⟨0, [], false, false, ⟨0, bs [], 0⟩, false, false, []⟩

abbrev bookC (b : Book) : C U := .agg [.d (.int .i64 b.gAt), .d (.int .i64 b.gActs), .d (.sl .oncewebref26_Cell b.gCells), .d (.sl .oncewebref26_Ended b.gEnds), .d (.sl .oncewebref26_Task b.gTasks)]
abbrev genC (g : Gen) : C U := .agg [.d (.int .i64 g.gScope), .d (.str g.gName), .d (.int .i64 g.gGen)]
abbrev taskC (t : Task) : C U := .agg [.d (.int .i64 t.gNumber), .d (.sl .oncewebref26_Gen t.gStack), .d (.bool t.gWaits), .d (.bool t.gStops), .d (.int .i64 t.gFor.gScope), .d (.str t.gFor.gName), .d (.int .i64 t.gFor.gGen), .d (.bool t.gLeft), .d (.bool t.gDone), .d (.sl .oncewebref26_Gen t.gShut)]
abbrev cellC (c : Cell) : C U := .agg [.d (.int .i64 c.gScope), .d (.str c.gName), .d (.int .i64 c.gGen), .d (.bool c.gRuns), .d (.int .i64 c.gTask), .d (.int .i64 c.gOut.gKind), .d (.sl .api_Atom c.gOut.gValue), .d (.sl .api_Crack c.gOut.gFail), .d (.bool c.gShut), .d (.sl .oncewebref26_Gen c.gUsed)]

/-- Is it this cell, task, generation? -/
def isC (s : Int) (n : ByteArray) (c : Cell) : Bool := eqI c.gScope s && strEq c.gName n
def isT (n : Int) (t : Task) : Bool := eqI t.gNumber n
def genB (x y : Gen) : Bool := andB (eqI x.gScope y.gScope) (andB (strEq x.gName y.gName) (andB (eqI x.gGen y.gGen) true))

theorem genB_iff {x y : Gen} : genB x y = true ↔ x = y := by
  obtain ⟨a, b, c⟩ := x
  obtain ⟨a', b', c'⟩ := y
  simp only [genB, andB_true, eqI_t, strEq_iff', and_true, oncewebref26_Gen.mk.injEq]
theorem isC_iff {s : Int} {n : ByteArray} {c : Cell} : isC s n c = true ↔ c.gScope = s ∧ c.gName = n := by
  simp only [isC, Bool.and_eq_true, eqI_t, strEq_iff']
theorem isT_iff {n : Int} {t : Task} : isT n t = true ↔ t.gNumber = n := eqI_t

/-- A place, as a number; -1: none. -/
def fi : Option Nat → Int
  | some i => (i : Int)
  | none => -1

section
variable {α : Type} {p : α → Bool} {l : List α}
theorem find_at {i : Nat} (hi : i < l.length) (hb : ∀ j (h : j < l.length), j < i → p l[j] = false) (hp : p l[i] = true) : l.findIdx? p = some i := by
  rw [List.findIdx?_eq_some_iff_getElem]
  exact ⟨hi, hp, fun j hj => by rw [hb j (by omega) hj]; simp⟩
theorem find_no (h : ∀ j (h : j < l.length), p l[j] = false) : l.findIdx? p = none := by
  rw [List.findIdx?_eq_none_iff]
  intro x hx
  obtain ⟨n, hn, rfl⟩ := List.getElem_of_mem hx
  exact h n hn
theorem find_get {i : Nat} (h : l.findIdx? p = some i) : ∃ hi : i < l.length, p l[i] = true ∧ l.find? p = some l[i] := by
  rw [List.findIdx?_eq_some_iff_getElem] at h
  obtain ⟨hi, hp, hb⟩ := h
  refine ⟨hi, hp, ?_⟩
  rw [List.find?_eq_some_iff_getElem]
  exact ⟨hp, i, hi, rfl, fun j hj => by have := hb j hj; simpa using this⟩
theorem find_none (h : l.findIdx? p = none) : l.find? p = none := by
  rw [List.findIdx?_eq_none_iff] at h
  rw [List.find?_eq_none]
  intro x hx
  simp [h x hx]
end

def cellI (b : Book) (s : Int) (n : ByteArray) : Option Nat := b.gCells.findIdx? (isC s n)
def taskI (b : Book) (n : Int) : Option Nat := b.gTasks.findIdx? (isT n)
/-- What the book says of a cell, a task. -/
def lk (b : Book) (s : Int) (n : ByteArray) : Option Cell := b.gCells.find? (isC s n)
def newT (n : Int) : Task := ⟨n, [], false, false, ⟨0, bs [], 0⟩, false, false, []⟩
def ofT (b : Book) (n : Int) : Task := (b.gTasks.find? (isT n)).getD (newT n)
def endO (b : Book) (g : Gen) : Option api_Outcome := (b.gEnds.find? fun e => genB e.gG g).map (·.gOut)

theorem known_slice {c : Ty} {xs : List (El c)} {k : Nat} {cs : List (C U)} (h : C.Known K (.agg cs)) (hx : cs[k]? = some (.d (.sl c xs))) : xs.length * bytesC c ≤ 140737488355328 :=
  (C.Known.agg h _ (List.mem_of_getElem? hx)).d.sl.1

theorem gives112 (b : Book) (s : Int) (n : ByteArray) : Gives 112 [bookC b, .d (.int .i64 s), .d (.str n)] (.d (.int .i64 (fi (cellI b s n)))) := by
  refine Runs.known fun hk _ => ?_
  have hl : b.gCells.length * 136 ≤ 140737488355328 := known_slice (k := 2) (hk _ (List.mem_cons_self ..)) rfl
  refine e112 _ _ _ _ ?_
  have loop : ∀ i, i ≤ b.gCells.length → (∀ j (h : j < b.gCells.length), j < i → isC s n b.gCells[j] = false) → At K 112 (fun c' H' => c' = (.d (.int .i64 (fi (cellI b s n))) : C U) ∧ H' = []) t112_2 (s112_2 s n i b.1 b.2 b.3 b.4 b.5) := by
    refine upto ?_ fun i hi ih => ?_
    · intro hb
      have e : cellI b s n = none := find_no fun j h => hb j h h
      rw [e]
      exact l112_2 _ _ _ _ _ _ _ _ _ (ite_f (lt_len_f (Nat.le_refl _)) ⟨rfl, rfl⟩)
    · intro hb
      refine l112_2 _ _ _ _ _ _ _ _ _ (ite_t (lt_len hi) (and_t (in_len hi) ?_))
      rw [rd_at hi]
      refine and_of (fun _ => and_t (in_len hi) rfl) (ite_w (fun h => ?_) (fun h => ?_))
      · have e : cellI b s n = some i := find_at hi hb h
        rw [e]; exact ⟨rfl, rfl⟩
      · rw [add_one (by omega)]
        refine ih fun j hj hji => ?_
        by_cases e : j = i
        · subst e; exact h
        · exact hb j hj (by omega)
  exact loop 0 (Nat.zero_le _) fun _ _ h => absurd h (Nat.not_lt_zero _)

theorem gives148 (b : Book) (n : Int) : Gives 148 [bookC b, .d (.int .i64 n)] (.d (.int .i64 (fi (taskI b n)))) := by
  refine Runs.known fun hk _ => ?_
  have hl : b.gTasks.length * 104 ≤ 140737488355328 := known_slice (k := 4) (hk _ (List.mem_cons_self ..)) rfl
  refine e148 _ _ _ ?_
  have loop : ∀ i, i ≤ b.gTasks.length → (∀ j (h : j < b.gTasks.length), j < i → isT n b.gTasks[j] = false) → At K 148 (fun c' H' => c' = (.d (.int .i64 (fi (taskI b n))) : C U) ∧ H' = []) t148_2 (s148_2 n i b.1 b.2 b.3 b.4 b.5) := by
    refine upto ?_ fun i hi ih => ?_
    · intro hb
      have e : taskI b n = none := find_no fun j h => hb j h h
      rw [e]
      exact l148_2 _ _ _ _ _ _ _ _ (ite_f (lt_len_f (Nat.le_refl _)) ⟨rfl, rfl⟩)
    · intro hb
      refine l148_2 _ _ _ _ _ _ _ _ (ite_t (lt_len hi) (and_t (in_len hi) ?_))
      rw [rd_at hi]
      refine ite_w (fun h => ?_) (fun h => ?_)
      · have e : taskI b n = some i := find_at hi hb h
        rw [e]; exact ⟨rfl, rfl⟩
      · rw [add_one (by omega)]
        refine ih fun j hj hji => ?_
        by_cases e : j = i
        · subst e; exact h
        · exact hb j hj (by omega)
  exact loop 0 (Nat.zero_le _) fun _ _ h => absurd h (Nat.not_lt_zero _)

theorem fi_neg {o : Option Nat} : ltI (fi o) 0 = true ↔ o = none := by
  cases o with
  | none => simp [fi, ltI]
  | some i => exact ⟨fun h => by have : (i : Int) < 0 := of_decide_eq_true h; omega, fun h => by cases h⟩
theorem fi_some (i : Nat) : ltI (fi (some i)) 0 = false := by
  have : ¬ ((i : Int) < 0) := by omega
  exact decide_eq_false this
theorem fi_some' (i : Nat) : leI 0 (fi (some i)) = true := by simp [fi, leI]
theorem fi_none' : leI 0 (fi none) = false := rfl

theorem gives109 (b : Book) (n : Int) : Gives 109 [bookC b, .d (.int .i64 n)] (taskC (ofT b n)) := by
  refine e109 _ _ _ ⟨_, gives148 b n, ?_⟩
  cases h : taskI b n with
  | none =>
    have e : ofT b n = newT n := by simp only [ofT, find_none h]; rfl
    rw [e]
    exact ite_t rfl ⟨rfl, rfl⟩
  | some i =>
    obtain ⟨hi, _, hf⟩ := find_get h
    have e : ofT b n = b.gTasks[i] := by simp only [ofT, hf]; rfl
    rw [e]
    refine ite_f (fi_some i) (and_t (in_len hi) ?_)
    have : ∀ d : Task, rd d b.gTasks (fi (some i)) = b.gTasks[i] := fun d => rd_at hi
    rw [this]; exact ⟨rfl, rfl⟩

/-- Is it the generation that runs? -/
def runsB (b : Book) (g : Gen) : Bool := match lk b g.gScope g.gName with
  | some c => c.gRuns && eqI c.gGen g.gGen
  | none => false

theorem gives149 (b : Book) (g : Gen) : Gives 149 [bookC b, genC g] (.d (.bool (runsB b g))) := by
  refine e149 _ _ _ ⟨_, gives112 b _ _, ?_⟩
  cases h : cellI b g.1 g.2 with
  | none =>
    have e : runsB b g = false := by simp only [runsB, lk, find_none h]
    rw [e]; exact ite_f rfl ⟨rfl, rfl⟩
  | some i =>
    obtain ⟨hi, _, hf⟩ := find_get h
    have e : runsB b g = (b.gCells[i].gRuns && eqI b.gCells[i].gGen g.gGen) := by simp only [runsB, lk, hf]
    rw [e]
    have hr : ∀ d : Cell, rd d b.gCells (fi (some i)) = b.gCells[i] := fun d => rd_at hi
    refine ite_t (fi_some' i) (and_t (in_len hi) ?_)
    rw [hr]
    refine ite_w (fun h => ?_) (fun h => ?_)
    · rw [h]; exact and_t (in_len hi) ⟨rfl, rfl⟩
    · rw [h]; exact ⟨rfl, rfl⟩

theorem gives151 (b : Book) (g : Gen) : Gives 151 [bookC b, genC g] (.tup [outC ((endO b g).getD ⟨0, [], []⟩), .d (.bool (endO b g).isSome)]) := by
  refine Runs.known fun hk _ => ?_
  have hl : b.gEnds.length * 88 ≤ 140737488355328 := known_slice (k := 3) (hk _ (List.mem_cons_self ..)) rfl
  refine e151 _ _ _ ?_
  have loop : ∀ i, i ≤ b.gEnds.length → (∀ j (h : j < b.gEnds.length), j < i → genB b.gEnds[j].gG g = false) →
      At K 151 (fun c' H' => c' = (.tup [outC ((endO b g).getD ⟨0, [], []⟩), .d (.bool (endO b g).isSome)] : C U) ∧ H' = []) t151_2 (s151_2 i b.1 b.2 b.3 b.4 b.5 g.1 g.2 g.3 0 [] []) := by
    refine upto ?_ fun i hi ih => ?_
    · intro hb
      have e : endO b g = none := by
        have := find_none (find_no (p := fun e : Ended => genB e.gG g) fun j h => hb j h h)
        simp only [endO, this]; rfl
      rw [e]
      exact l151_2 _ _ _ _ _ _ _ _ _ _ _ _ _ (ite_f (lt_len_f (Nat.le_refl _)) ⟨rfl, rfl⟩)
    · intro hb
      refine l151_2 _ _ _ _ _ _ _ _ _ _ _ _ _ (ite_t (lt_len hi) (and_t (in_len hi) ?_))
      rw [rd_at hi]
      refine ite_w (fun h => ?_) (fun h => ?_)
      · obtain ⟨_, _, hf⟩ := find_get (find_at (p := fun e : Ended => genB e.gG g) hi hb h)
        have e : endO b g = some b.gEnds[i].gOut := by simp only [endO, hf]; rfl
        rw [e]; exact and_t (in_len hi) ⟨rfl, rfl⟩
      · rw [add_one (by omega)]
        refine ih fun j hj hji => ?_
        by_cases e : j = i
        · subst e; exact h
        · exact hb j hj (by omega)
  exact loop 0 (Nat.zero_le _) fun _ _ h => absurd h (Nat.not_lt_zero _)

/-! ### What the book becomes -/
def putC (b : Book) (c : Cell) : Book := match cellI b c.gScope c.gName with
  | none => { b with gCells := b.gCells ++ [c] }
  | some i => { b with gCells := b.gCells.set i c }
def withT (b : Book) (t : Task) : Book := match taskI b t.gNumber with
  | none => { b with gTasks := b.gTasks ++ [t] }
  | some i => { b with gTasks := b.gTasks.set i t }

theorem gives111 (b : Book) (c : Cell) (hb : b.gCells.length < 1000000) : Gives 111 [bookC b, cellC c] (bookC (putC b c)) := by
  refine e111 _ _ _ (and_t (roomB_t (by simp only [addN, lenL_eq, List.length_nil]; omega)) ⟨_, gives112 b _ _, ?_⟩)
  cases h : cellI b c.1 c.2 with
  | none =>
    have e : putC b c = { b with gCells := b.gCells ++ [c] } := by simp only [putC, h]
    rw [e]
    exact ite_t rfl (and_t (roomB_t (by simp only [addN, lenL_eq, appL, List.nil_append, List.length_singleton]; omega)) ⟨rfl, rfl⟩)
  | some i =>
    obtain ⟨hi, _, _⟩ := find_get h
    have e : putC b c = { b with gCells := b.gCells.set i c } := by simp only [putC, h]
    rw [e]
    exact ite_f (fi_some i) (and_t (in_len (by simpa [appL] using hi)) (and_t (ltN_t (by simpa [appL, lenL, fi, natI] using hi)) ⟨rfl, rfl⟩))

theorem gives114 (b : Book) (t : Task) (hb : b.gTasks.length < 1000000) : Gives 114 [bookC b, taskC t] (bookC (withT b t)) := by
  refine e114 _ _ _ (and_t (roomB_t (by simp only [addN, lenL_eq, List.length_nil]; omega)) ⟨_, gives148 b _, ?_⟩)
  cases h : taskI b t.1 with
  | none =>
    have e : withT b t = { b with gTasks := b.gTasks ++ [t] } := by simp only [withT, h]
    rw [e]
    exact ite_t rfl (and_t (roomB_t (by simp only [addN, lenL_eq, appL, List.nil_append, List.length_singleton]; omega)) ⟨rfl, rfl⟩)
  | some i =>
    obtain ⟨hi, _, _⟩ := find_get h
    have e : withT b t = { b with gTasks := b.gTasks.set i t } := by simp only [withT, h]
    rw [e]
    exact ite_f (fi_some i) (and_t (in_len (by simpa [appL] using hi)) (and_t (ltN_t (by simpa [appL, lenL, fi, natI] using hi)) ⟨rfl, rfl⟩))

/-- The last one of a stack. -/
def topG (l : List Gen) : Gen := l.getLastD G0
theorem last_rd {l : List Gen} (h : 0 < l.length) (hl : l.length < 4611686018427387904) : rd G0 l (subW .i64 (intN (lenL l)) 1) = topG l ∧ inB (subW .i64 (intN (lenL l)) 1) (lenL l) = true := by
  have e : subW .i64 (intN (lenL l)) 1 = ((l.length - 1 : Nat) : Int) := by
    rw [intN_eq, lenL_eq, subW_id (by omega) (by omega)]; omega
  rw [e]
  refine ⟨?_, in_len (by omega)⟩
  rw [rd_at (by omega)]
  simp only [topG, List.getLastD_eq_getLast?, List.getLast?_eq_getElem?]
  rw [List.getElem?_eq_getElem (by omega)]
  rfl

def toldB (b : Book) (t : Task) (g : Gen) : Book :=
  if t.gStack = [] then b else match cellI b (topG t.gStack).gScope (topG t.gStack).gName with
  | none => b
  | some i => { b with gCells := b.gCells.set i { (b.gCells.getD i C0) with gUsed := (b.gCells.getD i C0).gUsed ++ [g] } }

theorem gives113 (b : Book) (t : Task) (g : Gen) (hb : b.gCells.length < 1000000) (hs : t.gStack ≠ [] → (lk b (topG t.gStack).gScope (topG t.gStack).gName).isSome)
    (hu : ∀ c ∈ b.gCells, c.gUsed.length < 1000000) (hn : t.gStack.length < 1000000) : Gives 113 [bookC b, taskC t, genC g] (bookC (toldB b t g)) := by
  refine e113 _ _ _ _ (ite_w (fun h => ?_) (fun h => ?_))
  · have h := eqI_t.1 h
    have : t.gStack = [] := List.eq_nil_of_length_eq_zero (by simp only [intN_eq, lenL_eq] at h; omega)
    simp only [toldB, if_pos this]
    exact ⟨rfl, rfl⟩
  · have h := eqI_f.1 h
    have hne : t.gStack ≠ [] := by intro e; rw [e] at h; exact h rfl
    have hpos : 0 < t.gStack.length := List.length_pos_iff.2 hne
    obtain ⟨h1, h2⟩ := last_rd hpos (by omega)
    have h1 : rd (oncewebref26_Gen.mk 0 (bs []) 0) t.2 (subW .i64 (intN (lenL t.2)) 1) = topG t.gStack := h1
    rw [h1]
    refine and_t h2 (and_t (roomB_t (by simp only [addN, lenL_eq, List.length_nil]; omega)) ⟨_, gives112 b _ _, ?_⟩)
    cases hc : cellI b (topG t.gStack).1 (topG t.gStack).2 with
    | none =>
      have := hs hne
      simp only [lk, find_none hc] at this
      cases this
    | some i =>
      obtain ⟨hi, _, _⟩ := find_get hc
      have hd : b.gCells.getD i C0 = b.gCells[i] := by simp [List.getD_eq_getElem?_getD, hi]
      have e : toldB b t g = { b with gCells := b.gCells.set i { (b.gCells[i]) with gUsed := (b.gCells[i]).gUsed ++ [g] } } := by
        simp only [toldB, if_neg hne, hc, hd]
      rw [e]
      have hr : ∀ d : Cell, rdN d (appL [] b.gCells) (natI (fi (some i))) = b.gCells[i] := fun d => rdN_some (by simp [appL, fi, natI, hi])
      have hin : inB (fi (some i)) (lenL (appL [] b.gCells)) = true := in_len (by simpa [appL] using hi)
      have hlt : ltN (natI (fi (some i))) (lenL (appL [] b.gCells)) = true := ltN_t (by simpa [appL, lenL, fi, natI] using hi)
      have hul := hu _ (List.getElem_mem hi)
      simp only [hr]
      refine and_t hin (and_t hlt (and_t (roomB_t (by simp only [addN, lenL_eq, List.length_nil]; omega)) (and_t (roomB_t (by simp only [addN, lenL_eq, appL, List.nil_append, List.length_singleton]; omega)) (and_t hin (and_t hlt ⟨rfl, rfl⟩)))))

/-- May a task shut a cell? -/
def shutsB (c : Cell) (t : Task) (g : Gen) : Bool :=
  !(((((c.gRuns || eqI c.gGen 0) || notB (eqI c.gGen g.gGen)) || notB (eqI c.gOut.gKind 1)) || c.gShut) || ltI 0 (intN (lenL t.gStack))) && !(c.gUsed.any fun u => t.gShut.any fun s => genB u s)

theorem gives152 (b : Book) (c : Cell) (t : Task) (g : Gen) (hu : c.gUsed.length < 1000000) (hs : t.gShut.length < 1000000) : Gives 152 [bookC b, cellC c, taskC t, genC g] (.d (.bool (shutsB c t g))) := by
  refine e152 _ _ _ _ _ (or_of (fun _ => rfl) (or_of (fun _ => rfl) (or_of (fun _ => rfl) (or_of (fun _ => rfl) (or_of (fun _ => rfl) (ite_w (fun h => ?_) (fun h => ?_)))))))
  · have e : shutsB c t g = false := by unfold shutsB; rw [h]; rfl
    rw [e]; exact ⟨rfl, rfl⟩
  · have e : shutsB c t g = !(c.gUsed.any fun u => t.gShut.any fun s => genB u s) := by unfold shutsB; rw [h]; simp
    have outer : ∀ i, i ≤ c.gUsed.length → At K 152 (fun c' H' => c' = (.d (.bool (!((c.gUsed.drop i).any fun u => t.gShut.any fun s => genB u s))) : C U) ∧ H' = []) t152_4
        (s152_4 i c.1 c.2 c.3 c.4 c.5 c.6.1 c.6.2 c.6.3 c.7 c.8 t.1 t.2 t.3 t.4 t.5.1 t.5.2 t.5.3 t.6 t.7 t.8) := by
      refine upto ?_ fun i hi ih => ?_
      · refine l152_4 _ _ _ _ _ _ _ _ _ _ _ _ _ _ _ _ _ _ _ _ _ _ (ite_f (lt_len_f (Nat.le_refl _)) ⟨by rw [List.drop_length]; rfl, rfl⟩)
      · refine l152_4 _ _ _ _ _ _ _ _ _ _ _ _ _ _ _ _ _ _ _ _ _ _ (ite_t (lt_len hi) ?_)
        have inner : ∀ k, k ≤ t.gShut.length → At K 152 (fun c' H' => c' = (.d (.bool (!(((t.gShut.drop k).any fun s => genB c.gUsed[i] s) || ((c.gUsed.drop (i + 1)).any fun u => t.gShut.any fun s => genB u s)))) : C U) ∧ H' = []) t152_7
            (s152_7 i k c.1 c.2 c.3 c.4 c.5 c.6.1 c.6.2 c.6.3 c.7 c.8 t.1 t.2 t.3 t.4 t.5.1 t.5.2 t.5.3 t.6 t.7 t.8) := by
          refine upto ?_ fun k hk ihk => ?_
          · refine l152_7 _ _ _ _ _ _ _ _ _ _ _ _ _ _ _ _ _ _ _ _ _ _ _ (ite_f (lt_len_f (Nat.le_refl _)) ?_)
            rw [List.drop_length, add_one (by omega)]
            exact ih
          · refine l152_7 _ _ _ _ _ _ _ _ _ _ _ _ _ _ _ _ _ _ _ _ _ _ _ (ite_t (lt_len hk) (and_t (in_len hi) (and_t (in_len hk) ?_)))
            rw [rd_at hi, rd_at hk, drop_any hk]
            refine ite_w (fun h => ?_) (fun h => ?_)
            · have h : genB c.gUsed[i] t.gShut[k] = true := h
              rw [h]; exact ⟨rfl, rfl⟩
            · have h : genB c.gUsed[i] t.gShut[k] = false := h
              rw [h, Bool.false_or, add_one (by omega)]; exact ihk
        rw [drop_any hi]
        exact inner 0 (Nat.zero_le _)
    rw [e]
    exact outer 0 (Nat.zero_le _)


/-- Are they one? -/
noncomputable def eqv {α : Type} (a b : α) : Bool := @decide (a = b) (Classical.propDecidable _)
theorem eqv_t {α : Type} {a b : α} : eqv a b = true ↔ a = b := by unfold eqv; exact @decide_eq_true_iff _ (Classical.propDecidable _)
theorem eqv_f {α : Type} {a b : α} : eqv a b = false ↔ a ≠ b := by rw [← Bool.not_eq_true, eqv_t]
theorem eqv_self {α : Type} (a : α) : eqv a a = true := eqv_t.2 rfl

theorem atomE_iff {x y : api_Atom} : (andB (eqI x.1 y.1) (andB (eqI x.2 y.2) (andB (eqI x.3 y.3) (andB (strEq x.4 y.4) true)))) = true ↔ x = y := by
  obtain ⟨a, b, c, d⟩ := x
  obtain ⟨a', b', c', d'⟩ := y
  simp only [andB_true, eqI_t, strEq_iff', and_true, api_Atom.mk.injEq]
theorem crackE_iff {x y : api_Crack} : (andB (eqI x.1 y.1) (andB (eqI x.2 y.2) (andB (strEq x.3 y.3) true))) = true ↔ x = y := by
  obtain ⟨a, b, c⟩ := x
  obtain ⟨a', b', c'⟩ := y
  simp only [andB_true, eqI_t, strEq_iff', and_true, api_Crack.mk.injEq]

theorem gives42 (a b : List api_Atom) : Gives 42 [.d (.sl .api_Atom a), .d (.sl .api_Atom b)] (.d (.bool (eqv a b))) := by
  refine Runs.known fun hk _ => ?_
  have hl := known_atoms (hk _ (List.mem_cons_self ..))
  refine e42 _ _ _ (ite_w (fun h => ?_) (fun h => ?_))
  · have h := eqI_f.1 (notB_t.1 h)
    have : a ≠ b := fun e => h (by rw [e])
    rw [eqv_f.2 this]; exact ⟨rfl, rfl⟩
  · have hn : a.length = b.length := by
      have h := eqI_t.1 (notB_f.1 h)
      simp only [intN_eq, lenL_eq] at h; omega
    have loop : ∀ i, i ≤ a.length → (∀ j (h : j < a.length), j < i → a[j] = b[j]'(hn ▸ h)) → At K 42 (fun c' H' => c' = (.d (.bool (eqv a b)) : C U) ∧ H' = []) t42_4 (s42_4 a b i) := by
      refine upto ?_ fun i hi ih => ?_
      · intro hb
        have : a = b := List.ext_getElem hn fun j h _ => hb j h h
        rw [eqv_t.2 this]
        exact l42_4 _ _ _ _ (ite_f (lt_len_f (Nat.le_refl _)) ⟨rfl, rfl⟩)
      · intro hb
        refine l42_4 _ _ _ _ (ite_t (lt_len hi) (and_t (in_len hi) (and_t (in_len (hn ▸ hi)) ?_)))
        rw [rd_at hi, rd_at (hn ▸ hi)]
        refine ite_w (fun h => ?_) (fun h => ?_)
        · have : a ≠ b := fun e => by
            subst e
            have := notB_t.1 h
            rw [atomE_iff.2 rfl] at this; cases this
          rw [eqv_f.2 this]; exact ⟨rfl, rfl⟩
        · have h := atomE_iff.1 (notB_f.1 h)
          rw [add_one (by omega)]
          refine ih fun j hj hji => ?_
          by_cases e : j = i
          · subst e; exact h
          · exact hb j hj (by omega)
    exact loop 0 (Nat.zero_le _) fun _ _ h => absurd h (Nat.not_lt_zero _)

theorem gives71 (a b : List api_Crack) : Gives 71 [.d (.sl .api_Crack a), .d (.sl .api_Crack b)] (.d (.bool (eqv a b))) := by
  refine Runs.known fun hk _ => ?_
  have hl := known_cracks (hk _ (List.mem_cons_self ..))
  refine e71 _ _ _ (ite_w (fun h => ?_) (fun h => ?_))
  · have h := eqI_f.1 (notB_t.1 h)
    have : a ≠ b := fun e => h (by rw [e])
    rw [eqv_f.2 this]; exact ⟨rfl, rfl⟩
  · have hn : a.length = b.length := by
      have h := eqI_t.1 (notB_f.1 h)
      simp only [intN_eq, lenL_eq] at h; omega
    have loop : ∀ i, i ≤ a.length → (∀ j (h : j < a.length), j < i → a[j] = b[j]'(hn ▸ h)) → At K 71 (fun c' H' => c' = (.d (.bool (eqv a b)) : C U) ∧ H' = []) t71_4 (s71_4 a b i) := by
      refine upto ?_ fun i hi ih => ?_
      · intro hb
        have : a = b := List.ext_getElem hn fun j h _ => hb j h h
        rw [eqv_t.2 this]
        exact l71_4 _ _ _ _ (ite_f (lt_len_f (Nat.le_refl _)) ⟨rfl, rfl⟩)
      · intro hb
        refine l71_4 _ _ _ _ (ite_t (lt_len hi) (and_t (in_len hi) (and_t (in_len (hn ▸ hi)) ?_)))
        rw [rd_at hi, rd_at (hn ▸ hi)]
        refine ite_w (fun h => ?_) (fun h => ?_)
        · have : a ≠ b := fun e => by
            subst e
            have := notB_t.1 h
            rw [crackE_iff.2 rfl] at this; cases this
          rw [eqv_f.2 this]; exact ⟨rfl, rfl⟩
        · have h := crackE_iff.1 (notB_f.1 h)
          rw [add_one (by omega)]
          refine ih fun j hj hji => ?_
          by_cases e : j = i
          · subst e; exact h
          · exact hb j hj (by omega)
    exact loop 0 (Nat.zero_le _) fun _ _ h => absurd h (Nat.not_lt_zero _)

theorem gives28 (a b : api_Outcome) : Gives 28 [outC a, outC b] (.d (.bool (eqv a b))) := by
  have e : eqv a b = ((eqI a.1 b.1 && eqv a.2 b.2) && eqv a.3 b.3) := by
    obtain ⟨x, y, z⟩ := a
    obtain ⟨x', y', z'⟩ := b
    rw [Bool.eq_iff_iff]
    simp only [Bool.and_eq_true, eqv_t, eqI_t, api_Outcome.mk.injEq, and_assoc]
  rw [e]
  exact e28 _ _ _ (and_of (fun _ => ⟨_, gives42 _ _, rfl⟩) (and_of (fun _ => ⟨_, gives71 _ _, rfl⟩) ⟨rfl, rfl⟩))

/-! ### What leads to a top -/
/-- Whom the last of a stack's generations of a cell waits for. -/
def nx (s : Int) (n : ByteArray) (w : Bool) (f : Gen) : List Gen → Option Gen → Option Gen
  | [], acc => acc
  | g :: r, acc => nx s n w f r (if eqI g.gScope s && strEq g.gName n then (match r with | h :: _ => some h | [] => if w then some f else acc) else acc)
def nextG (b : Book) (c : Cell) : Option Gen := nx c.gScope c.gName (ofT b c.gTask).gWaits (ofT b c.gTask).gFor (ofT b c.gTask).gStack none
def leadN (b : Book) (top : Gen) : Nat → Cell → Bool
  | 0, _ => false
  | k + 1, c => if c.gRuns then (if eqI c.gScope top.gScope && strEq c.gName top.gName then true else
      match nextG b c with
      | none => false
      | some g => match lk b g.gScope g.gName with
        | none => false
        | some c' => leadN b top k c') else false
def leadsB (b : Book) (c : Cell) (t : Task) : Bool := leadN b (topG t.gStack) (b.gCells.length + 1) c

theorem le_len {α : Type} {l : List α} {i : Nat} (h : i ≤ l.length) : leI (i : Int) (intN (lenL l)) = true := decide_eq_true (by rw [intN_eq, lenL_eq]; omega)
theorem le_len_f {α : Type} {l : List α} {i : Nat} (h : l.length < i) : leI (i : Int) (intN (lenL l)) = false := decide_eq_false (by rw [intN_eq, lenL_eq]; omega)
theorem nx_cons (s : Int) (n : ByteArray) (w : Bool) (f g : Gen) (r : List Gen) (acc : Option Gen) : nx s n w f (g :: r) acc = nx s n w f r (if eqI g.gScope s && strEq g.gName n then (match r with | h :: _ => some h | [] => if w then some f else acc) else acc) := rfl
theorem stack_ofT {b : Book} (hk : C.Known K (bookC b)) (n : Int) : (ofT b n).gStack.length * 32 ≤ 140737488355328 := by
  unfold ofT
  cases h : b.gTasks.find? (isT n) with
  | none => exact Nat.zero_le _
  | some u => exact ((C.Known.agg hk _ (List.mem_of_getElem? (i := 4) rfl)).d.sl.2 u (List.mem_of_find?_eq_some h) (.sl .oncewebref26_Gen u.gStack) (List.mem_of_getElem? (i := 1) rfl)).sl.1
theorem nx_other {s : Int} {n : ByteArray} {w : Bool} {f : Gen} {l : List Gen} {k : Nat} {acc : Option Gen} (hk : k < l.length) (h : (eqI l[k].gScope s && strEq l[k].gName n) = false) :
    nx s n w f (l.drop k) acc = nx s n w f (l.drop (k + 1)) acc := by
  rw [List.drop_eq_getElem_cons hk, nx_cons, h]; rfl
theorem nx_this {s : Int} {n : ByteArray} {w : Bool} {f : Gen} {l : List Gen} {k : Nat} {acc : Option Gen} (hk : k + 1 < l.length) (h : (eqI (l[k]'(by omega)).gScope s && strEq (l[k]'(by omega)).gName n) = true) :
    nx s n w f (l.drop k) acc = nx s n w f (l.drop (k + 1)) (some l[k + 1]) := by
  rw [List.drop_eq_getElem_cons (by omega : k < l.length), nx_cons, h, if_pos rfl]
  have : l.drop (k + 1) = l[k + 1] :: l.drop (k + 2) := List.drop_eq_getElem_cons hk
  rw [this]
theorem nx_last {s : Int} {n : ByteArray} {w : Bool} {f : Gen} {l : List Gen} {k : Nat} {acc : Option Gen} (hk : k < l.length) (hk' : l.length ≤ k + 1) (h : (eqI l[k].gScope s && strEq l[k].gName n) = true) :
    nx s n w f (l.drop k) acc = nx s n w f (l.drop (k + 1)) (if w then some f else acc) := by
  rw [List.drop_eq_getElem_cons hk, nx_cons, h, if_pos rfl, List.drop_eq_nil_of_le hk']

/-- Whom one waits for is a cell of the book. -/
def Linked (b : Book) : Prop := ∀ c g, c ∈ b.gCells → nextG b c = some g → (lk b g.gScope g.gName).isSome

theorem gives150 (b : Book) (i : Nat) (hi : i < b.gCells.length) (t : Task) (hs : 0 < t.gStack.length) (hL : Linked b) : Gives 150 [bookC b, .d (.int .i64 i), taskC t] (.d (.bool (leadsB b b.gCells[i] t))) := by
  refine Runs.known fun hk _ => ?_
  have hl : b.gCells.length * 136 ≤ 140737488355328 := known_slice (k := 2) (hk _ (List.mem_cons_self ..)) rfl
  have hl2 : t.gStack.length * 32 ≤ 140737488355328 := known_slice (k := 1) (hk (taskC t) (List.mem_cons_of_mem _ (List.mem_cons_of_mem _ (List.mem_cons_self ..)))) rfl
  obtain ⟨h1, h2⟩ := last_rd hs (by omega)
  have h1 : rd (oncewebref26_Gen.mk 0 (bs []) 0) t.2 (subW .i64 (intN (lenL t.2)) 1) = topG t.gStack := h1
  refine e150 _ _ _ _ (and_t h2 ?_)
  rw [h1]
  unfold leadsB
  generalize topG t.gStack = top
  have loop : ∀ q, q ≤ b.gCells.length + 1 → ∀ i (hi : i < b.gCells.length), At K 150 (fun c' H' => c' = (.d (.bool (leadN b top (b.gCells.length + 1 - q) b.gCells[i])) : C U) ∧ H' = []) t150_3 (s150_3 i q b.1 b.2 b.3 b.4 b.5 top.1 top.2 top.3) := by
    refine upto ?_ fun q hq ih => ?_
    · intro i hi
      rw [Nat.sub_self]
      refine l150_3 _ _ _ _ _ _ _ _ _ _ _ (ite_f (le_len_f (by omega)) ⟨rfl, rfl⟩)
    · intro i hi
      have eq : b.gCells.length + 1 - q = (b.gCells.length - q) + 1 := by omega
      rw [eq]
      refine l150_3 _ _ _ _ _ _ _ _ _ _ _ (ite_t (le_len (by omega)) (and_t (in_len hi) ?_))
      rw [rd_at hi]
      generalize hc : b.gCells[i] = c
      have hcm : c ∈ b.gCells := hc ▸ List.getElem_mem hi
      refine ite_w (fun h => ?_) (fun h => ?_)
      · have h : c.gRuns = false := notB_t.1 h
        have e : leadN b top (b.gCells.length - q + 1) c = false := by simp only [leadN, h]; rfl
        rw [e]; exact ⟨rfl, rfl⟩
      · have hr : c.gRuns = true := notB_f.1 h
        refine and_of (fun _ => rfl) (ite_w (fun h => ?_) (fun h => ?_))
        · have e : leadN b top (b.gCells.length - q + 1) c = true := by
            have h : (eqI c.gScope top.gScope && strEq c.gName top.gName) = true := h
            simp only [leadN, hr, h, if_true]
          rw [e]; exact ⟨rfl, rfl⟩
        · have h : (eqI c.gScope top.gScope && strEq c.gName top.gName) = false := h
          refine ⟨ofT b c.gTask, gives109 b c.gTask, ?_⟩
          have e : leadN b top (b.gCells.length - q + 1) c = match nextG b c with
            | none => false
            | some g => match lk b g.gScope g.gName with
              | none => false
              | some c' => leadN b top (b.gCells.length - q) c' := by
            simp only [leadN, hr, h, if_true]; rfl
          rw [e]
          generalize hu : ofT b c.gTask = u
          have inner : ∀ k, k ≤ u.gStack.length → ∀ acc, nextG b c = nx c.gScope c.gName u.gWaits u.gFor (u.gStack.drop k) acc →
              At K 150 (fun c' H' => c' = (.d (.bool (match nextG b c with
                | none => false
                | some g => match lk b g.gScope g.gName with
                  | none => false
                  | some c' => leadN b top (b.gCells.length - q) c')) : C U) ∧ H' = []) t150_14
                (s150_14 q acc.isSome k b.1 b.2 b.3 b.4 b.5 top.1 top.2 top.3 c.1 c.2 c.3 c.4 c.5 c.6.1 c.6.2 c.6.3 c.7 c.8 u.1 u.2 u.3 u.4 u.5.1 u.5.2 u.5.3 u.6 u.7 u.8 (acc.getD G0).1 (acc.getD G0).2 (acc.getD G0).3) := by
            have hul : u.gStack.length * 32 ≤ 140737488355328 := hu ▸ stack_ofT (hk _ (List.mem_cons_self ..)) c.gTask
            refine upto ?_ fun k hk ihk => ?_
            · intro acc hn
              rw [List.drop_length] at hn
              have hn : nextG b c = acc := hn
              refine l150_14 _ _ _ _ _ _ _ _ _ _ _ _ _ _ _ _ _ _ _ _ _ _ _ _ _ _ _ _ _ _ _ _ _ _ _ (ite_f (lt_len_f (Nat.le_refl _)) ?_)
              cases acc with
              | none => rw [hn]; exact ite_t rfl ⟨rfl, rfl⟩
              | some g =>
                rw [hn]
                refine ite_f rfl ⟨_, gives112 b g.1 g.2, ?_⟩
                have hs := hL c g hcm hn
                cases hci : cellI b g.1 g.2 with
                | none => simp only [lk, find_none hci] at hs; cases hs
                | some i' =>
                  obtain ⟨hi', _, hf⟩ := find_get hci
                  have e : lk b g.gScope g.gName = some b.gCells[i'] := hf
                  simp only [e]
                  rw [add_one (by omega)]
                  have := ih i' hi'
                  rw [show b.gCells.length + 1 - (q + 1) = b.gCells.length - q by omega] at this
                  exact this
            · intro acc hn
              refine l150_14 _ _ _ _ _ _ _ _ _ _ _ _ _ _ _ _ _ _ _ _ _ _ _ _ _ _ _ _ _ _ _ _ _ _ _ (ite_t (lt_len hk) (and_t (in_len hk) ?_))
              rw [rd_at hk, add_one (by omega)]
              refine ite_w (fun h => ?_) (fun h => and_t (in_len hk) (ite_w (fun h' => ?_) (fun h' => ?_)))
              · have h := notB_t.1 h
                exact ihk acc (by rw [hn, nx_other hk (by rw [h]; rfl)])
              · have h' := notB_t.1 h'
                exact ihk acc (by rw [hn, nx_other hk (by rw [h', Bool.and_false])])
              · have hh : (eqI u.gStack[k].gScope c.gScope && strEq u.gStack[k].gName c.gName) = true := by
                  rw [Bool.and_eq_true]; exact ⟨notB_f.1 h, notB_f.1 h'⟩
                refine ite_w (fun h3 => ?_) (fun h3 => ?_)
                · have h3 := of_decide_eq_true h3
                  rw [intN_eq, lenL_eq] at h3
                  have h3 : k + 1 < u.gStack.length := by omega
                  refine and_t (in_len h3) ?_
                  rw [rd_at h3]
                  exact ihk (some u.gStack[k + 1]) (by rw [hn, nx_this h3 hh])
                · have h3 := of_decide_eq_false h3
                  rw [intN_eq, lenL_eq] at h3
                  have h3 : u.gStack.length ≤ k + 1 := by omega
                  have e : nx c.gScope c.gName u.gWaits u.gFor (u.gStack.drop k) acc = nx c.gScope c.gName u.gWaits u.gFor (u.gStack.drop (k + 1)) (if u.gWaits then some u.gFor else acc) := nx_last hk h3 hh
                  refine ite_w (fun h4 => ?_) (fun h4 => ?_)
                  · have h4 : u.gWaits = true := h4
                    exact ihk (some u.gFor) (by rw [hn, e, if_pos h4])
                  · have h4 : u.gWaits = false := h4
                    exact ihk acc (by rw [hn, e, if_neg (by rw [h4]; simp)])
          exact inner 0 (Nat.zero_le _) none (by rw [nextG, hu]; rfl)
  exact loop 0 (Nat.zero_le _) i hi


def O0 : api_Outcome := ⟨0, [], []⟩
/-- 4 to 11. -/
noncomputable def ruleR (b : Book) (m : api_Mark) (t : Task) (g : Gen) : Int :=
  let c := (lk b m.gScope m.gName).getD C0
  let n := intN (lenL t.gStack)
  if eqI m.gKind 1 then (if ((c.gRuns || c.gShut) || notB (eqI m.gGen (addW .i64 c.gGen 1))) || leI 48 n then 4 else 0)
  else if eqI m.gKind 2 then (if (eqI n 0 || notB (genB (topG t.gStack) g)) || eqI m.gOutcome.gKind 0 then 5 else 0)
  else if eqI m.gKind 3 then (if notB (runsB b g) then 6 else 0)
  else if eqI m.gKind 5 then (if (eqI n 0 || notB c.gRuns) || notB (leadsB b c t) then 6 else 0)
  else if eqI m.gKind 4 then (if (notB (endO b g).isSome || notB (eqv ((endO b g).getD O0) m.gOutcome)) || (notB t.gWaits && ((c.gRuns || notB (eqI c.gGen m.gGen)) || c.gShut)) then 7 else 0)
  else if eqI m.gKind 6 then (if notB (eqI n 48) then 8 else 0)
  else if eqI m.gKind 9 then (if eqI n 0 || strEq m.gName (bs []) then 9 else 0)
  else if eqI m.gKind 10 then (if eqI n 0 || strEq m.gName (bs []) then 9 else 0)
  else if eqI m.gKind 11 then (if ltI 0 n then 10 else 0)
  else if eqI m.gKind 12 then (if t.gLeft || notB (eqI m.gOutcome.gKind 2) then 10 else 0)
  else if eqI m.gKind 13 then (if notB (shutsB c t g) then 11 else 0)
  else 0

theorem pos_of {l : List Gen} (h : eqI (intN (lenL l)) 0 = false) : 0 < l.length := by
  have h := eqI_f.1 h
  rw [intN_eq, lenL_eq] at h; omega
theorem leafI {v : Bool} {x y : Int} : iteP v ((fun (c' : C U) (H' : List (O U)) => c' = (.d (.int .i64 (if v = true then x else y)) : C U) ∧ H' = []) (.d (.int .i64 x)) []) ((fun (c' : C U) (H' : List (O U)) => c' = (.d (.int .i64 (if v = true then x else y)) : C U) ∧ H' = []) (.d (.int .i64 y)) []) := by
  cases v
  · exact ⟨rfl, rfl⟩
  · exact ⟨rfl, rfl⟩

theorem kinds13 (k : Int) : k = 1 ∨ k = 2 ∨ k = 3 ∨ k = 4 ∨ k = 5 ∨ k = 6 ∨ k = 9 ∨ k = 10 ∨ k = 11 ∨ k = 12 ∨ k = 13 ∨ (k ≠ 1 ∧ k ≠ 2 ∧ k ≠ 3 ∧ k ≠ 4 ∧ k ≠ 5 ∧ k ≠ 6 ∧ k ≠ 9 ∧ k ≠ 10 ∧ k ≠ 11 ∧ k ≠ 12 ∧ k ≠ 13) := by omega

theorem gives110 (b : Book) (m : api_Mark) (t : Task) (g : Gen) (hL : Linked b) (hu : ∀ c ∈ b.gCells, c.gUsed.length < 1000000) (hs : t.gShut.length < 1000000) (hg : g = ⟨m.gScope, m.gName, m.gGen⟩) :
    Gives 110 [bookC b, markC m, taskC t, genC g] (.d (.int .i64 (ruleR b m t g))) := by
  refine Runs.known fun hk _ => ?_
  have hl2 : t.gStack.length * 32 ≤ 140737488355328 := known_slice (k := 1) (hk (taskC t) (List.mem_cons_of_mem _ (List.mem_cons_of_mem _ (List.mem_cons_self ..)))) rfl
  clear hk
  obtain ⟨at', k, tn, sc, gn, nm, oc⟩ := m
  refine e110 _ _ _ _ _ ⟨_, gives112 b sc nm, ?_⟩
  unfold ruleR
  dsimp only
  cases h : cellI b sc nm with
  | some i =>
    obtain ⟨hi, _, hf⟩ := find_get h
    have hc : (lk b sc nm).getD C0 = b.gCells[i] := by simp only [lk, hf]; rfl
    have hr : ∀ d : Cell, rd d b.gCells (fi (some i)) = b.gCells[i] := fun d => rd_at hi
    refine ite_t (fi_some' i) (and_t (in_len hi) ?_)
    simp only [hr]
    rw [hc]
    rcases kinds13 k with rfl | rfl | rfl | rfl | rfl | rfl | rfl | rfl | rfl | rfl | rfl | ho
    · rw [if_pos (show eqI 1 1 = true by decide)]
      refine (ite_t rfl ?_)
      exact or_of (fun _ => rfl) (or_of (fun _ => rfl) (or_of (fun _ => rfl) leafI))
    · rw [if_neg (show ¬ (eqI 2 1 = true) by decide), if_pos (show eqI 2 2 = true by decide)]
      refine (ite_f rfl (ite_t rfl ?_))
      refine ite_w (fun h1 => ?_) (fun h1 => ?_)
      · show _ = C.d (.int .i64 (if (eqI (intN (lenL t.gStack)) 0 || _) || _ then 5 else 0)) ∧ _
        rw [h1]; exact ⟨rfl, rfl⟩
      · obtain ⟨e1, e2⟩ := last_rd (l := t.gStack) (pos_of h1) (by omega)
        have e1 : rd (oncewebref26_Gen.mk 0 (bs []) 0) t.2 (subW .i64 (intN (lenL t.2)) 1) = topG t.gStack := e1
        refine and_t e2 ?_
        rw [e1]
        have h1 : eqI (intN (lenL t.gStack)) 0 = false := h1
        refine ite_w (fun h2 => ?_) (fun h2 => ?_)
        · have h2 : notB (genB (topG t.gStack) g) = true := h2
          simp only [h1, h2]; exact ⟨rfl, rfl⟩
        · have h2 : notB (genB (topG t.gStack) g) = false := h2
          simp only [h1, h2]; exact leafI
    · rw [if_neg (show ¬ (eqI 3 1 = true) by decide), if_neg (show ¬ (eqI 3 2 = true) by decide), if_pos (show eqI 3 3 = true by decide)]
      refine (ite_f rfl (ite_f rfl (ite_t rfl ?_)))
      exact ⟨_, gives149 b g, leafI⟩
    · rw [if_neg (show ¬ (eqI 4 1 = true) by decide), if_neg (show ¬ (eqI 4 2 = true) by decide), if_neg (show ¬ (eqI 4 3 = true) by decide), if_neg (show ¬ (eqI 4 5 = true) by decide), if_pos (show eqI 4 4 = true by decide)]
      refine (ite_f rfl (ite_f rfl (ite_f rfl (ite_f rfl (ite_t rfl ?_)))))
      refine ⟨((endO b g).getD O0, (endO b g).isSome), gives151 b g, or_of (fun _ => ⟨_, gives28 _ oc, rfl⟩) (or_of (fun _ => ?_) leafI)⟩
      refine and_of (b := ((b.gCells[i].gRuns || notB (eqI b.gCells[i].gGen gn)) || b.gCells[i].gShut)) (fun _ => ?_) rfl
      exact or_of (fun _ => rfl) (or_of (fun _ => rfl) rfl)
    · rw [if_neg (show ¬ (eqI 5 1 = true) by decide), if_neg (show ¬ (eqI 5 2 = true) by decide), if_neg (show ¬ (eqI 5 3 = true) by decide), if_pos (show eqI 5 5 = true by decide)]
      refine (ite_f rfl (ite_f rfl (ite_f rfl (ite_t rfl ?_))))
      refine or_of (fun _ => rfl) (or_of (X := fun v => ∃ x, Runs K 150 _ [] _ ∧ notB x = v) (fun h1 => ?_) leafI)
      simp only [Bool.or_eq_false_iff] at h1
      exact ⟨_, gives150 b i hi t (pos_of h1.1) hL, rfl⟩
    · rw [if_neg (show ¬ (eqI 6 1 = true) by decide), if_neg (show ¬ (eqI 6 2 = true) by decide), if_neg (show ¬ (eqI 6 3 = true) by decide), if_neg (show ¬ (eqI 6 5 = true) by decide), if_neg (show ¬ (eqI 6 4 = true) by decide), if_pos (show eqI 6 6 = true by decide)]
      refine (ite_f rfl (ite_f rfl (ite_f rfl (ite_f rfl (ite_f rfl (ite_t rfl ?_))))))
      exact leafI
    · rw [if_neg (show ¬ (eqI 9 1 = true) by decide), if_neg (show ¬ (eqI 9 2 = true) by decide), if_neg (show ¬ (eqI 9 3 = true) by decide), if_neg (show ¬ (eqI 9 5 = true) by decide), if_neg (show ¬ (eqI 9 4 = true) by decide), if_neg (show ¬ (eqI 9 6 = true) by decide), if_pos (show eqI 9 9 = true by decide)]
      refine (ite_f rfl (ite_f rfl (ite_f rfl (ite_f rfl (ite_f rfl (ite_f rfl (ite_t rfl (ite_t rfl ?_))))))))
      exact or_of (fun _ => rfl) leafI
    · rw [if_neg (show ¬ (eqI 10 1 = true) by decide), if_neg (show ¬ (eqI 10 2 = true) by decide), if_neg (show ¬ (eqI 10 3 = true) by decide), if_neg (show ¬ (eqI 10 5 = true) by decide), if_neg (show ¬ (eqI 10 4 = true) by decide), if_neg (show ¬ (eqI 10 6 = true) by decide), if_neg (show ¬ (eqI 10 9 = true) by decide), if_pos (show eqI 10 10 = true by decide)]
      refine (ite_f rfl (ite_f rfl (ite_f rfl (ite_f rfl (ite_f rfl (ite_f rfl (ite_f rfl (ite_t rfl ?_))))))))
      exact or_of (fun _ => rfl) leafI
    · rw [if_neg (show ¬ (eqI 11 1 = true) by decide), if_neg (show ¬ (eqI 11 2 = true) by decide), if_neg (show ¬ (eqI 11 3 = true) by decide), if_neg (show ¬ (eqI 11 5 = true) by decide), if_neg (show ¬ (eqI 11 4 = true) by decide), if_neg (show ¬ (eqI 11 6 = true) by decide), if_neg (show ¬ (eqI 11 9 = true) by decide), if_neg (show ¬ (eqI 11 10 = true) by decide), if_pos (show eqI 11 11 = true by decide)]
      refine (ite_f rfl (ite_f rfl (ite_f rfl (ite_f rfl (ite_f rfl (ite_f rfl (ite_f rfl (ite_f rfl (ite_t rfl ?_)))))))))
      exact leafI
    · rw [if_neg (show ¬ (eqI 12 1 = true) by decide), if_neg (show ¬ (eqI 12 2 = true) by decide), if_neg (show ¬ (eqI 12 3 = true) by decide), if_neg (show ¬ (eqI 12 5 = true) by decide), if_neg (show ¬ (eqI 12 4 = true) by decide), if_neg (show ¬ (eqI 12 6 = true) by decide), if_neg (show ¬ (eqI 12 9 = true) by decide), if_neg (show ¬ (eqI 12 10 = true) by decide), if_neg (show ¬ (eqI 12 11 = true) by decide), if_pos (show eqI 12 12 = true by decide)]
      refine (ite_f rfl (ite_f rfl (ite_f rfl (ite_f rfl (ite_f rfl (ite_f rfl (ite_f rfl (ite_f rfl (ite_f rfl (ite_t rfl ?_))))))))))
      exact or_of (fun _ => rfl) leafI
    · rw [if_neg (show ¬ (eqI 13 1 = true) by decide), if_neg (show ¬ (eqI 13 2 = true) by decide), if_neg (show ¬ (eqI 13 3 = true) by decide), if_neg (show ¬ (eqI 13 5 = true) by decide), if_neg (show ¬ (eqI 13 4 = true) by decide), if_neg (show ¬ (eqI 13 6 = true) by decide), if_neg (show ¬ (eqI 13 9 = true) by decide), if_neg (show ¬ (eqI 13 10 = true) by decide), if_neg (show ¬ (eqI 13 11 = true) by decide), if_neg (show ¬ (eqI 13 12 = true) by decide), if_pos (show eqI 13 13 = true by decide)]
      refine (ite_f rfl (ite_f rfl (ite_f rfl (ite_f rfl (ite_f rfl (ite_f rfl (ite_f rfl (ite_f rfl (ite_f rfl (ite_f rfl (ite_t rfl ?_)))))))))))
      exact ⟨_, gives152 b b.gCells[i] t g (hu _ (List.getElem_mem hi)) hs, leafI⟩
    · obtain ⟨n1, n2, n3, n4, n5, n6, n9, n10, n11, n12, n13⟩ := ho
      have f : ∀ x, k ≠ x → eqI k x = false := fun x h => eqI_f.2 h
      rw [if_neg (show ¬ (eqI k 1 = true) by rw [f _ n1]; simp), if_neg (show ¬ (eqI k 2 = true) by rw [f _ n2]; simp), if_neg (show ¬ (eqI k 3 = true) by rw [f _ n3]; simp), if_neg (show ¬ (eqI k 5 = true) by rw [f _ n5]; simp), if_neg (show ¬ (eqI k 4 = true) by rw [f _ n4]; simp), if_neg (show ¬ (eqI k 6 = true) by rw [f _ n6]; simp), if_neg (show ¬ (eqI k 9 = true) by rw [f _ n9]; simp), if_neg (show ¬ (eqI k 10 = true) by rw [f _ n10]; simp), if_neg (show ¬ (eqI k 11 = true) by rw [f _ n11]; simp), if_neg (show ¬ (eqI k 12 = true) by rw [f _ n12]; simp), if_neg (show ¬ (eqI k 13 = true) by rw [f _ n13]; simp)]
      exact ite_f (f _ n1) (ite_f (f _ n2) (ite_f (f _ n3) (ite_f (f _ n5) (ite_f (f _ n4) (ite_f (f _ n6) (ite_f (f _ n9) (ite_f (f _ n10) (ite_f (f _ n11) (ite_f (f _ n12) (ite_f (f _ n13) ⟨rfl, rfl⟩))))))))))
  | none =>
    have hc : (lk b sc nm).getD C0 = C0 := by simp only [lk, find_none h]; rfl
    refine ite_f rfl ?_
    rw [hc]
    rcases kinds13 k with rfl | rfl | rfl | rfl | rfl | rfl | rfl | rfl | rfl | rfl | rfl | ho
    · rw [if_pos (show eqI 1 1 = true by decide)]
      refine (ite_t rfl ?_)
      exact ⟨_, rfl, or_of (a := false) (fun _ => rfl) (or_of (fun _ => rfl) leafI)⟩
    · rw [if_neg (show ¬ (eqI 2 1 = true) by decide), if_pos (show eqI 2 2 = true by decide)]
      refine (ite_f rfl (ite_t rfl ?_))
      refine ite_w (fun h1 => ?_) (fun h1 => ?_)
      · show _ = C.d (.int .i64 (if (eqI (intN (lenL t.gStack)) 0 || _) || _ then 5 else 0)) ∧ _
        rw [h1]; exact ⟨rfl, rfl⟩
      · obtain ⟨e1, e2⟩ := last_rd (l := t.gStack) (pos_of h1) (by omega)
        have e1 : rd (oncewebref26_Gen.mk 0 (bs []) 0) t.2 (subW .i64 (intN (lenL t.2)) 1) = topG t.gStack := e1
        refine and_t e2 ?_
        rw [e1]
        have h1 : eqI (intN (lenL t.gStack)) 0 = false := h1
        refine ite_w (fun h2 => ?_) (fun h2 => ?_)
        · have h2 : notB (genB (topG t.gStack) g) = true := h2
          simp only [h1, h2]; exact ⟨rfl, rfl⟩
        · have h2 : notB (genB (topG t.gStack) g) = false := h2
          simp only [h1, h2]; exact leafI
    · rw [if_neg (show ¬ (eqI 3 1 = true) by decide), if_neg (show ¬ (eqI 3 2 = true) by decide), if_pos (show eqI 3 3 = true by decide)]
      refine (ite_f rfl (ite_f rfl (ite_t rfl ?_)))
      exact ⟨_, gives149 b g, leafI⟩
    · rw [if_neg (show ¬ (eqI 4 1 = true) by decide), if_neg (show ¬ (eqI 4 2 = true) by decide), if_neg (show ¬ (eqI 4 3 = true) by decide), if_neg (show ¬ (eqI 4 5 = true) by decide), if_pos (show eqI 4 4 = true by decide)]
      refine (ite_f rfl (ite_f rfl (ite_f rfl (ite_f rfl (ite_t rfl ?_)))))
      refine ⟨((endO b g).getD O0, (endO b g).isSome), gives151 b g, or_of (fun _ => ⟨_, gives28 _ oc, rfl⟩) (or_of (fun _ => ?_) leafI)⟩
      refine and_of (b := ((C0.gRuns || notB (eqI C0.gGen gn)) || C0.gShut)) (fun _ => ?_) rfl
      exact ⟨_, rfl, or_of (fun _ => rfl) rfl⟩
    · rw [if_neg (show ¬ (eqI 5 1 = true) by decide), if_neg (show ¬ (eqI 5 2 = true) by decide), if_neg (show ¬ (eqI 5 3 = true) by decide), if_pos (show eqI 5 5 = true by decide)]
      refine (ite_f rfl (ite_f rfl (ite_f rfl (ite_t rfl ?_))))
      refine ⟨true, ?_, or_of (a := true) (b := false) (fun h => by cases h) ?_⟩
      · cases eqI (intN (lenL t.gStack)) 0 <;> rfl
      · have e : (eqI (intN (lenL t.gStack)) 0 || notB C0.gRuns) = true := by rw [show notB C0.gRuns = true from rfl, Bool.or_true]
        rw [e]; exact leafI
    · rw [if_neg (show ¬ (eqI 6 1 = true) by decide), if_neg (show ¬ (eqI 6 2 = true) by decide), if_neg (show ¬ (eqI 6 3 = true) by decide), if_neg (show ¬ (eqI 6 5 = true) by decide), if_neg (show ¬ (eqI 6 4 = true) by decide), if_pos (show eqI 6 6 = true by decide)]
      refine (ite_f rfl (ite_f rfl (ite_f rfl (ite_f rfl (ite_f rfl (ite_t rfl ?_))))))
      exact leafI
    · rw [if_neg (show ¬ (eqI 9 1 = true) by decide), if_neg (show ¬ (eqI 9 2 = true) by decide), if_neg (show ¬ (eqI 9 3 = true) by decide), if_neg (show ¬ (eqI 9 5 = true) by decide), if_neg (show ¬ (eqI 9 4 = true) by decide), if_neg (show ¬ (eqI 9 6 = true) by decide), if_pos (show eqI 9 9 = true by decide)]
      refine (ite_f rfl (ite_f rfl (ite_f rfl (ite_f rfl (ite_f rfl (ite_f rfl (ite_t rfl (ite_t rfl ?_))))))))
      exact or_of (fun _ => rfl) leafI
    · rw [if_neg (show ¬ (eqI 10 1 = true) by decide), if_neg (show ¬ (eqI 10 2 = true) by decide), if_neg (show ¬ (eqI 10 3 = true) by decide), if_neg (show ¬ (eqI 10 5 = true) by decide), if_neg (show ¬ (eqI 10 4 = true) by decide), if_neg (show ¬ (eqI 10 6 = true) by decide), if_neg (show ¬ (eqI 10 9 = true) by decide), if_pos (show eqI 10 10 = true by decide)]
      refine (ite_f rfl (ite_f rfl (ite_f rfl (ite_f rfl (ite_f rfl (ite_f rfl (ite_f rfl (ite_t rfl ?_))))))))
      exact or_of (fun _ => rfl) leafI
    · rw [if_neg (show ¬ (eqI 11 1 = true) by decide), if_neg (show ¬ (eqI 11 2 = true) by decide), if_neg (show ¬ (eqI 11 3 = true) by decide), if_neg (show ¬ (eqI 11 5 = true) by decide), if_neg (show ¬ (eqI 11 4 = true) by decide), if_neg (show ¬ (eqI 11 6 = true) by decide), if_neg (show ¬ (eqI 11 9 = true) by decide), if_neg (show ¬ (eqI 11 10 = true) by decide), if_pos (show eqI 11 11 = true by decide)]
      refine (ite_f rfl (ite_f rfl (ite_f rfl (ite_f rfl (ite_f rfl (ite_f rfl (ite_f rfl (ite_f rfl (ite_t rfl ?_)))))))))
      exact leafI
    · rw [if_neg (show ¬ (eqI 12 1 = true) by decide), if_neg (show ¬ (eqI 12 2 = true) by decide), if_neg (show ¬ (eqI 12 3 = true) by decide), if_neg (show ¬ (eqI 12 5 = true) by decide), if_neg (show ¬ (eqI 12 4 = true) by decide), if_neg (show ¬ (eqI 12 6 = true) by decide), if_neg (show ¬ (eqI 12 9 = true) by decide), if_neg (show ¬ (eqI 12 10 = true) by decide), if_neg (show ¬ (eqI 12 11 = true) by decide), if_pos (show eqI 12 12 = true by decide)]
      refine (ite_f rfl (ite_f rfl (ite_f rfl (ite_f rfl (ite_f rfl (ite_f rfl (ite_f rfl (ite_f rfl (ite_f rfl (ite_t rfl ?_))))))))))
      exact or_of (fun _ => rfl) leafI
    · rw [if_neg (show ¬ (eqI 13 1 = true) by decide), if_neg (show ¬ (eqI 13 2 = true) by decide), if_neg (show ¬ (eqI 13 3 = true) by decide), if_neg (show ¬ (eqI 13 5 = true) by decide), if_neg (show ¬ (eqI 13 4 = true) by decide), if_neg (show ¬ (eqI 13 6 = true) by decide), if_neg (show ¬ (eqI 13 9 = true) by decide), if_neg (show ¬ (eqI 13 10 = true) by decide), if_neg (show ¬ (eqI 13 11 = true) by decide), if_neg (show ¬ (eqI 13 12 = true) by decide), if_pos (show eqI 13 13 = true by decide)]
      refine (ite_f rfl (ite_f rfl (ite_f rfl (ite_f rfl (ite_f rfl (ite_f rfl (ite_f rfl (ite_f rfl (ite_f rfl (ite_f rfl (ite_t rfl ?_)))))))))))
      exact ⟨_, gives152 b C0 t g (by decide) hs, leafI⟩
    · obtain ⟨n1, n2, n3, n4, n5, n6, n9, n10, n11, n12, n13⟩ := ho
      have f : ∀ x, k ≠ x → eqI k x = false := fun x h => eqI_f.2 h
      rw [if_neg (show ¬ (eqI k 1 = true) by rw [f _ n1]; simp), if_neg (show ¬ (eqI k 2 = true) by rw [f _ n2]; simp), if_neg (show ¬ (eqI k 3 = true) by rw [f _ n3]; simp), if_neg (show ¬ (eqI k 5 = true) by rw [f _ n5]; simp), if_neg (show ¬ (eqI k 4 = true) by rw [f _ n4]; simp), if_neg (show ¬ (eqI k 6 = true) by rw [f _ n6]; simp), if_neg (show ¬ (eqI k 9 = true) by rw [f _ n9]; simp), if_neg (show ¬ (eqI k 10 = true) by rw [f _ n10]; simp), if_neg (show ¬ (eqI k 11 = true) by rw [f _ n11]; simp), if_neg (show ¬ (eqI k 12 = true) by rw [f _ n12]; simp), if_neg (show ¬ (eqI k 13 = true) by rw [f _ n13]; simp)]
      exact ite_f (f _ n1) (ite_f (f _ n2) (ite_f (f _ n3) (ite_f (f _ n5) (ite_f (f _ n4) (ite_f (f _ n6) (ite_f (f _ n9) (ite_f (f _ n10) (ite_f (f _ n11) (ite_f (f _ n12) (ite_f (f _ n13) ⟨rfl, rfl⟩))))))))))


def genM (m : api_Mark) : Gen := ⟨m.gScope, m.gName, m.gGen⟩
/-- May the task not do it? -/
def haltB (t : Task) (m : api_Mark) : Bool :=
  (t.gDone || ((t.gWaits && notB (eqI m.gKind 12)) && (notB (eqI m.gKind 4) || notB (genB (genM m) t.gFor)))) || ((t.gStops && notB (eqI m.gKind 12)) && ((notB (eqI m.gKind 10) && notB (eqI m.gKind 9)) || notB (strEq m.gName t.gFor.gName)))
/-- The least rule that a mark breaks. -/
noncomputable def brk (b : Book) (m : api_Mark) : Int :=
  if notB (markB m) || ltI m.gAt b.gAt then 1
  else if notB (stepB m) then (if notB (eqI m.gGen b.gActs) then 2 else 0)
  else if haltB (ofT b m.gTask) m then 3 else ruleR b m (ofT b m.gTask) (genM m)

theorem gives68 (b : Book) (m : api_Mark) (hL : Linked b) (hu : ∀ c ∈ b.gCells, c.gUsed.length < 1000000) (hs : ∀ n, (ofT b n).gShut.length < 1000000) : Gives 68 [bookC b, markC m] (.d (.int .i64 (brk b m))) := by
  unfold brk
  refine e68 _ _ _ ⟨_, gives107 m, or_of (fun _ => rfl) (ite_w (fun h => ?_) (fun h => ⟨_, gives108 m, ite_w (fun h2 => ?_) (fun h2 => ⟨ofT b m.gTask, gives109 b m.gTask, ?_⟩)⟩))⟩
  · rw [h]; exact ⟨rfl, rfl⟩
  · rw [h, h2]; exact leafI
  · rw [h, h2]
    refine or_of (b := (((ofT b m.gTask).gWaits && notB (eqI m.gKind 12)) && (notB (eqI m.gKind 4) || notB (genB (genM m) (ofT b m.gTask).gFor)))) (fun _ => ?_) (or_of (b := (((ofT b m.gTask).gStops && notB (eqI m.gKind 12)) && ((notB (eqI m.gKind 10) && notB (eqI m.gKind 9)) || notB (strEq m.gName (ofT b m.gTask).gFor.gName)))) (fun _ => ?_) (ite_w (fun h3 => ?_) (fun h3 => ?_)))
    · exact and_of (fun _ => rfl) (and_of (b := (notB (eqI m.gKind 4) || notB (genB (genM m) (ofT b m.gTask).gFor))) (fun _ => or_of (fun _ => rfl) rfl) rfl)
    · exact and_of (fun _ => rfl) (and_of (b := ((notB (eqI m.gKind 10) && notB (eqI m.gKind 9)) || notB (strEq m.gName (ofT b m.gTask).gFor.gName))) (fun _ => and_of (fun _ => rfl) (or_of (fun _ => rfl) rfl)) rfl)
    · have h3 : haltB (ofT b m.gTask) m = true := h3
      rw [h3]; exact ⟨rfl, rfl⟩
    · have h3 : haltB (ofT b m.gTask) m = false := h3
      rw [h3]
      exact ⟨_, gives110 b m (ofT b m.gTask) (genM m) hL hu (hs _) rfl, rfl, rfl⟩

/-! ### Looking up behind changes -/
section
variable {α : Type} {p q : α → Bool}
theorem find_set : ∀ {l : List α} {i : Nat} {x : α} (hi : i < l.length), q l[i] = false → q x = false → (l.set i x).find? q = l.find? q
  | a :: r, 0, x, _, h1, h2 => by
    have h1 : q a = false := h1
    simp [List.set, List.find?, h1, h2]
  | a :: r, i + 1, x, hi, h1, h2 => by
    simp only [List.set, List.find?]
    rw [find_set (l := r) (by simpa using hi) (by simpa using h1) h2]
theorem find_set_this : ∀ {l : List α} {i : Nat} {x : α}, l.findIdx? p = some i → p x = true → (l.set i x).find? p = some x
  | [], i, x, h, _ => by simp at h
  | a :: r, i, x, h, hx => by
    rw [List.findIdx?_cons] at h
    by_cases ha : p a = true
    · rw [if_pos ha] at h
      cases h
      simp [List.set, List.find?, hx]
    · rw [if_neg ha] at h
      cases hr : r.findIdx? p with
      | none => rw [hr] at h; cases h
      | some k =>
        rw [hr] at h
        cases h
        simp only [List.set, List.find?, Bool.eq_false_iff.2 ha]
        exact find_set_this hr hx
theorem find_app_this {l : List α} {x : α} (h : l.findIdx? p = none) (hx : p x = true) : (l ++ [x]).find? p = some x := by
  rw [List.find?_append, find_none h]; simp [hx]
theorem find_app {l : List α} {x : α} (hx : q x = false) : (l ++ [x]).find? q = l.find? q := by
  rw [List.find?_append]; simp [hx]
end

theorem isC_self (c : Cell) : isC c.gScope c.gName c = true := isC_iff.2 ⟨rfl, rfl⟩
theorem isC_other {s s' : Int} {n n' : ByteArray} {c : Cell} (h : isC s n c = true) (hne : ¬ (s = s' ∧ n = n')) : isC s' n' c = false := by
  rw [Bool.eq_false_iff]
  intro h'
  have := isC_iff.1 h
  have h' := isC_iff.1 h'
  exact hne ⟨this.1.symm.trans h'.1, this.2.symm.trans h'.2⟩

theorem lk_putC (b : Book) (c : Cell) (s : Int) (n : ByteArray) [Decidable (c.gScope = s ∧ c.gName = n)] : lk (putC b c) s n = if c.gScope = s ∧ c.gName = n then some c else lk b s n := by
  unfold putC
  cases h : cellI b c.gScope c.gName with
  | none =>
    by_cases e : c.gScope = s ∧ c.gName = n
    · rw [if_pos e]; obtain ⟨rfl, rfl⟩ := e
      exact find_app_this h (isC_self c)
    · rw [if_neg e]
      exact find_app (isC_other (isC_self c) e)
  | some i =>
    obtain ⟨hi, hp, _⟩ := find_get h
    by_cases e : c.gScope = s ∧ c.gName = n
    · rw [if_pos e]; obtain ⟨rfl, rfl⟩ := e
      exact find_set_this h (isC_self c)
    · rw [if_neg e]
      exact find_set hi (isC_other hp e) (isC_other (isC_self c) e)

theorem isT_self (t : Task) : isT t.gNumber t = true := isT_iff.2 rfl
theorem isT_other {n n' : Int} {t : Task} (h : isT n t = true) (hne : n ≠ n') : isT n' t = false := by
  rw [Bool.eq_false_iff]
  intro h'
  exact hne ((isT_iff.1 h).symm.trans (isT_iff.1 h'))
theorem ofT_withT (b : Book) (t : Task) (n : Int) [Decidable (t.gNumber = n)] : ofT (withT b t) n = if t.gNumber = n then t else ofT b n := by
  unfold withT
  cases h : taskI b t.gNumber with
  | none =>
    by_cases e : t.gNumber = n
    · rw [if_pos e]; subst e
      simp only [ofT, find_app_this h (isT_self t)]; rfl
    · rw [if_neg e]
      simp only [ofT, find_app (isT_other (isT_self t) e)]
  | some i =>
    obtain ⟨hi, hp, _⟩ := find_get h
    by_cases e : t.gNumber = n
    · rw [if_pos e]; subst e
      simp only [ofT, find_set_this h (isT_self t)]; rfl
    · rw [if_neg e]
      simp only [ofT, find_set hi (isT_other hp e) (isT_other (isT_self t) e)]

theorem lk_key {b : Book} {s : Int} {n : ByteArray} {c : Cell} (h : lk b s n = some c) : c.gScope = s ∧ c.gName = n := isC_iff.1 (List.find?_some h)
theorem ofT_number (b : Book) (n : Int) : (ofT b n).gNumber = n := by
  unfold ofT
  cases h : b.gTasks.find? (isT n) with
  | none => rfl
  | some t => exact isT_iff.1 (List.find?_some h)

theorem withT_cells (b : Book) (t : Task) : (withT b t).gCells = b.gCells ∧ (withT b t).gEnds = b.gEnds ∧ (withT b t).gAt = b.gAt ∧ (withT b t).gActs = b.gActs := by
  unfold withT; cases taskI b t.gNumber <;> exact ⟨rfl, rfl, rfl, rfl⟩
theorem putC_tasks (b : Book) (c : Cell) : (putC b c).gTasks = b.gTasks ∧ (putC b c).gEnds = b.gEnds ∧ (putC b c).gAt = b.gAt ∧ (putC b c).gActs = b.gActs := by
  unfold putC; cases cellI b c.gScope c.gName <;> exact ⟨rfl, rfl, rfl, rfl⟩
theorem toldB_tasks (b : Book) (t : Task) (g : Gen) : (toldB b t g).gTasks = b.gTasks ∧ (toldB b t g).gEnds = b.gEnds ∧ (toldB b t g).gAt = b.gAt ∧ (toldB b t g).gActs = b.gActs := by
  unfold toldB; split; exact ⟨rfl, rfl, rfl, rfl⟩; split <;> exact ⟨rfl, rfl, rfl, rfl⟩
/-- Telling is putting. -/
theorem toldB_put {b : Book} {t : Task} {g : Gen} {c : Cell} (hs : t.gStack ≠ []) (h : lk b (topG t.gStack).gScope (topG t.gStack).gName = some c) : toldB b t g = putC b { c with gUsed := c.gUsed ++ [g] } := by
  have hk := lk_key h
  unfold toldB putC
  rw [if_neg hs]
  dsimp only
  rw [hk.1, hk.2]
  cases hc : cellI b (topG t.gStack).gScope (topG t.gStack).gName with
  | none => simp only [lk, find_none hc] at h; cases h
  | some i =>
    obtain ⟨hi, _, hf⟩ := find_get hc
    have : some b.gCells[i] = some c := hf.symm.trans h
    cases this
    have hd : b.gCells.getD i C0 = b.gCells[i] := by simp [List.getD_eq_getElem?_getD, hi]
    simp only [hd, hk.1, hk.2]
theorem toldB_nil {b : Book} {t : Task} {g : Gen} (hs : t.gStack = []) : toldB b t g = b := by unfold toldB; rw [if_pos hs]


/-- The book behind a mark that breaks no rule. -/
def bhd (b0 : Book) (m : api_Mark) : Book :=
  let b : Book := { b0 with gAt := m.gAt }
  let t := ofT b m.gTask
  let g := genM m
  let c := (lk b m.gScope m.gName).getD C0
  if notB (stepB m) then { b with gActs := addW .i64 b.gActs 1 }
  else if eqI m.gKind 1 then withT (putC b ⟨m.gScope, m.gName, m.gGen, true, m.gTask, ⟨0, [], []⟩, false, []⟩) { t with gStack := t.gStack ++ [g] }
  else if eqI m.gKind 2 then withT (toldB { putC b { c with gRuns := false, gOut := m.gOutcome } with gEnds := b.gEnds ++ [⟨g, m.gOutcome⟩] } { t with gStack := t.gStack.dropLast } g) { t with gStack := t.gStack.dropLast }
  else if eqI m.gKind 3 then withT b { t with gWaits := true, gFor := g }
  else if eqI m.gKind 4 then withT (toldB b { t with gWaits := false, gFor := G0 } g) { t with gWaits := false, gFor := G0 }
  else if eqI m.gKind 9 then withT b { t with gStops := true, gFor := ⟨0, m.gName, 0⟩ }
  else if eqI m.gKind 10 then withT b { t with gStops := false, gFor := G0 }
  else if eqI m.gKind 11 then withT b { t with gDone := true }
  else if eqI m.gKind 12 then withT b { t with gLeft := true, gDone := eqI (intN (lenL t.gStack)) 0 }
  else if eqI m.gKind 13 then withT (putC b { c with gShut := true }) { t with gShut := t.gShut ++ [g] }
  else withT b t

/-- What is true of each book that is read. -/
structure Inv (b : Book) : Prop where
  stk : ∀ n g, g ∈ (ofT b n).gStack → ∃ c, lk b g.gScope g.gName = some c ∧ c.gRuns = true ∧ c.gGen = g.gGen ∧ c.gTask = n
  nod : ∀ n, ((ofT b n).gStack.map fun g => (g.gScope, g.gName)).Nodup
  wt : ∀ n, (ofT b n).gWaits = true → (lk b (ofT b n).gFor.gScope (ofT b n).gFor.gName).isSome
  ws : ∀ n, (ofT b n).gWaits = true → (ofT b n).gStops = false

/-- No more than k of anything. -/
structure Small (b : Book) (k : Nat) : Prop where
  cells : b.gCells.length ≤ k
  ends : b.gEnds.length ≤ k
  tasks : b.gTasks.length ≤ k
  used : ∀ c ∈ b.gCells, c.gUsed.length ≤ k
  stack : ∀ n, (ofT b n).gStack.length ≤ k
  shut : ∀ n, (ofT b n).gShut.length ≤ k

theorem nx_in {s : Int} {n : ByteArray} {w : Bool} {f : Gen} : ∀ {l : List Gen} {acc : Option Gen} {g : Gen}, nx s n w f l acc = some g → acc = some g ∨ g ∈ l ∨ (w = true ∧ g = f)
  | [], acc, g, h => Or.inl h
  | a :: r, acc, g, h => by
    rw [nx_cons] at h
    rcases nx_in h with h1 | h1 | h1
    · split at h1
      · cases r with
        | nil =>
          cases w with
          | true => simp only [if_true] at h1; cases h1; exact Or.inr (Or.inr ⟨rfl, rfl⟩)
          | false => exact Or.inl (by simpa using h1)
        | cons h' r' => cases h1; exact Or.inr (Or.inl (by simp))
      · exact Or.inl h1
    · exact Or.inr (Or.inl (List.mem_cons_of_mem _ h1))
    · exact Or.inr (Or.inr h1)
theorem Inv.linked {b : Book} (hI : Inv b) : Linked b := by
  intro c g _ h
  rcases nx_in h with h1 | h1 | ⟨h1, rfl⟩
  · cases h1
  · obtain ⟨c', h2, _⟩ := hI.stk _ _ h1
    rw [h2]; rfl
  · exact hI.wt _ h1

theorem Inv.with {b bb : Book} {t : Task} (hI : Inv b) (hT : bb.gTasks = b.gTasks)
    (hc : ∀ n g, n ≠ t.gNumber → g ∈ (ofT b n).gStack → ∃ c, lk bb g.gScope g.gName = some c ∧ c.gRuns = true ∧ c.gGen = g.gGen ∧ c.gTask = n)
    (ht : ∀ g, g ∈ t.gStack → ∃ c, lk bb g.gScope g.gName = some c ∧ c.gRuns = true ∧ c.gGen = g.gGen ∧ c.gTask = t.gNumber)
    (hn : (t.gStack.map fun g => (g.gScope, g.gName)).Nodup) (hw : t.gWaits = true → (lk bb t.gFor.gScope t.gFor.gName).isSome) (hs : t.gWaits = true → t.gStops = false)
    (hm : ∀ s n, (lk b s n).isSome → (lk bb s n).isSome) : Inv (withT bb t) := by
  have hlk : ∀ s n, lk (withT bb t) s n = lk bb s n := fun s n => by unfold lk; rw [(withT_cells bb t).1]
  have hof : ∀ n, ofT (withT bb t) n = if t.gNumber = n then t else ofT b n := fun n => by
    rw [ofT_withT]; unfold ofT; rw [hT]
  constructor
  · intro n g hg
    rw [hlk]
    rw [hof] at hg
    by_cases e : t.gNumber = n
    · rw [if_pos e] at hg; subst e; exact ht g hg
    · rw [if_neg e] at hg; exact hc n g (fun h => e h.symm) hg
  · intro n
    rw [hof]
    by_cases e : t.gNumber = n
    · rw [if_pos e]; exact hn
    · rw [if_neg e]; exact hI.nod n
  · intro n
    rw [hof]
    by_cases e : t.gNumber = n
    · rw [if_pos e, hlk]; exact hw
    · rw [if_neg e, hlk]; exact fun h => hm _ _ (hI.wt n h)
  · intro n
    rw [hof]
    by_cases e : t.gNumber = n
    · rw [if_pos e]; exact hs
    · rw [if_neg e]; exact hI.ws n

theorem Inv.same {b : Book} {t : Task} (hI : Inv b) (n : Int) (ht : t.gNumber = n) (hs : t.gStack = (ofT b n).gStack) (hw : t.gWaits = true → (lk b t.gFor.gScope t.gFor.gName).isSome) (hws : t.gWaits = true → t.gStops = false) : Inv (withT b t) := by
  refine hI.with rfl (fun n g _ hg => hI.stk n g hg) (fun g hg => ?_) (by rw [hs]; exact hI.nod n) hw hws (fun _ _ h => h)
  rw [ht]; exact hI.stk n g (hs ▸ hg)

/-- A book that says the same of who runs. -/
def Sim (b bb : Book) : Prop := ∀ s n c, lk b s n = some c → ∃ c', lk bb s n = some c' ∧ c'.gRuns = c.gRuns ∧ c'.gGen = c.gGen ∧ c'.gTask = c.gTask
theorem Sim.refl (b : Book) : Sim b b := fun _ _ c h => ⟨c, h, rfl, rfl, rfl⟩
theorem Sim.put {b : Book} {c c' : Cell} (h : lk b c'.gScope c'.gName = some c) (h1 : c'.gRuns = c.gRuns) (h2 : c'.gGen = c.gGen) (h3 : c'.gTask = c.gTask) : Sim b (putC b c') := by
  intro s n d hd
  by_cases e : c'.gScope = s ∧ c'.gName = n
  · rw [lk_putC, if_pos e]
    obtain ⟨rfl, rfl⟩ := e
    rw [h] at hd; cases hd
    exact ⟨c', rfl, h1, h2, h3⟩
  · rw [lk_putC, if_neg e]; exact ⟨d, hd, rfl, rfl, rfl⟩
theorem Sim.told (b : Book) (t : Task) (g : Gen) : Sim b (toldB b t g) := by
  by_cases hs : t.gStack = []
  · rw [toldB_nil hs]; exact Sim.refl b
  · cases h : lk b (topG t.gStack).gScope (topG t.gStack).gName with
    | none =>
      have : toldB b t g = b := by
        unfold toldB; rw [if_neg hs]
        cases hc : cellI b (topG t.gStack).gScope (topG t.gStack).gName with
        | none => rfl
        | some i => obtain ⟨_, _, hf⟩ := find_get hc; unfold lk at h; rw [hf] at h; cases h
      rw [this]; exact Sim.refl b
    | some c =>
      rw [toldB_put hs h]
      have hk := lk_key h
      exact Sim.put (c := c) (by dsimp only; rw [hk.1, hk.2]; exact h) rfl rfl rfl
theorem Sim.some {b bb : Book} (h : Sim b bb) {s : Int} {n : ByteArray} (h1 : (lk b s n).isSome) : (lk bb s n).isSome := by
  obtain ⟨c, hc⟩ := Option.isSome_iff_exists.1 h1
  obtain ⟨c', hc', _⟩ := h s n c hc
  rw [hc']; rfl
theorem Sim.run {b bb : Book} (h : Sim b bb) {s : Int} {n : ByteArray} {k : Int} {g : Int} (h1 : ∃ c, lk b s n = Option.some c ∧ c.gRuns = true ∧ c.gGen = g ∧ c.gTask = k) : ∃ c, lk bb s n = Option.some c ∧ c.gRuns = true ∧ c.gGen = g ∧ c.gTask = k := by
  obtain ⟨c, hc, h2, h3, h4⟩ := h1
  obtain ⟨c', hc', h2', h3', h4'⟩ := h s n c hc
  exact ⟨c', hc', h2'.trans h2, h3'.trans h3, h4'.trans h4⟩

/-! ### What a mark that breaks none tells -/
theorem pick0 {v : Bool} {x : Int} (hx : x ≠ 0) (h : (if v = true then x else 0) = 0) : v = false := by
  cases v
  · rfl
  · exact absurd h hx
theorem brk_none {b : Book} {m : api_Mark} (h : brk b m = 0) : markB m = true ∧ (stepB m = true → haltB (ofT b m.gTask) m = false ∧ ruleR b m (ofT b m.gTask) (genM m) = 0) := by
  unfold brk at h
  by_cases h1 : (notB (markB m) || ltI m.gAt b.gAt) = true
  · rw [if_pos h1] at h; omega
  · rw [if_neg h1] at h
    have h1 := Bool.eq_false_iff.2 h1
    rw [Bool.or_eq_false_iff] at h1
    refine ⟨notB_f.1 h1.1, fun hs => ?_⟩
    rw [if_neg (by rw [hs]; simp [notB])] at h
    by_cases h2 : haltB (ofT b m.gTask) m = true
    · rw [if_pos h2] at h; omega
    · rw [if_neg h2] at h; exact ⟨Bool.eq_false_iff.2 h2, h⟩
theorem halt_waits {t : Task} {m : api_Mark} (h : haltB t m = false) (h1 : m.gKind ≠ 12) (h2 : m.gKind ≠ 4) : t.gWaits = false := by
  simp only [haltB, Bool.or_eq_false_iff, Bool.and_eq_false_iff, notB_f, eqI_t] at h
  rcases h.1.2 with (h3 | h3) | h3
  · exact h3
  · exact absurd h3 h1
  · exact absurd h3.1 h2
theorem halt_stops {t : Task} {m : api_Mark} (h : haltB t m = false) (h1 : m.gKind ≠ 12) (h2 : m.gKind ≠ 9) (h3 : m.gKind ≠ 10) : t.gStops = false := by
  simp only [haltB, Bool.or_eq_false_iff, Bool.and_eq_false_iff, notB_f, eqI_t] at h
  rcases h.2 with (h4 | h4) | h4
  · exact h4
  · exact absurd h4 h1
  · rcases h4.1 with h5 | h5
    · exact absurd h5 h3
    · exact absurd h5 h2

section
variable {b : Book} {m : api_Mark} {t : Task} {g : Gen} (h : ruleR b m t g = 0)
include h
theorem rule1 (hk : m.gKind = 1) : ((((lk b m.gScope m.gName).getD C0).gRuns || ((lk b m.gScope m.gName).getD C0).gShut) || notB (eqI m.gGen (addW .i64 ((lk b m.gScope m.gName).getD C0).gGen 1))) = false ∧ leI 48 (intN (lenL t.gStack)) = false := by
  unfold ruleR at h; rw [hk] at h
  exact Bool.or_eq_false_iff.1 (pick0 (by decide) h)
theorem rule2 (hk : m.gKind = 2) : 0 < t.gStack.length ∧ topG t.gStack = g ∧ m.gOutcome.gKind ≠ 0 := by
  unfold ruleR at h; rw [hk] at h
  have h := Bool.or_eq_false_iff.1 (pick0 (by decide) h)
  have h1 := Bool.or_eq_false_iff.1 h.1
  exact ⟨pos_of h1.1, genB_iff.1 (notB_f.1 h1.2), eqI_f.1 h.2⟩
theorem rule3 (hk : m.gKind = 3) : runsB b g = true := by
  unfold ruleR at h; rw [hk] at h
  exact notB_f.1 (pick0 (by decide) h)
theorem rule4 (hk : m.gKind = 4) : (endO b g).isSome = true ∧ (endO b g).getD O0 = m.gOutcome := by
  unfold ruleR at h; rw [hk] at h
  have h := Bool.or_eq_false_iff.1 (pick0 (by decide) h)
  have h1 := Bool.or_eq_false_iff.1 h.1
  exact ⟨notB_f.1 h1.1, eqv_t.1 (notB_f.1 h1.2)⟩
theorem rule13 (hk : m.gKind = 13) : shutsB ((lk b m.gScope m.gName).getD C0) t g = true := by
  unfold ruleR at h; rw [hk] at h
  exact notB_f.1 (pick0 (by decide) h)
end


abbrev atB (b : Book) (m : api_Mark) : Book := { b with gAt := m.gAt }
abbrev tk (b : Book) (m : api_Mark) : Task := ofT b m.gTask
abbrev cm (b : Book) (m : api_Mark) : Cell := (lk b m.gScope m.gName).getD C0

theorem bhd_not {b : Book} {m : api_Mark} (h : stepB m = false) : bhd b m = { b with gAt := m.gAt, gActs := addW .i64 b.gActs 1 } := by
  unfold bhd; simp only [h]; rfl
section
variable (b : Book) (m : api_Mark)
theorem bhd1 (hk : m.gKind = 1) : bhd b m = withT (putC (atB b m) ⟨m.gScope, m.gName, m.gGen, true, m.gTask, ⟨0, [], []⟩, false, []⟩) { tk b m with gStack := (tk b m).gStack ++ [genM m] } := by
  obtain ⟨_, _, _, _, _, _, _⟩ := m; cases hk; rfl
theorem bhd2 (hk : m.gKind = 2) : bhd b m = withT (toldB { putC (atB b m) { cm b m with gRuns := false, gOut := m.gOutcome } with gEnds := b.gEnds ++ [⟨genM m, m.gOutcome⟩] } { tk b m with gStack := (tk b m).gStack.dropLast } (genM m)) { tk b m with gStack := (tk b m).gStack.dropLast } := by
  obtain ⟨_, _, _, _, _, _, _⟩ := m; cases hk; rfl
theorem bhd3 (hk : m.gKind = 3) : bhd b m = withT (atB b m) { tk b m with gWaits := true, gFor := genM m } := by
  obtain ⟨_, _, _, _, _, _, _⟩ := m; cases hk; rfl
theorem bhd4 (hk : m.gKind = 4) : bhd b m = withT (toldB (atB b m) { tk b m with gWaits := false, gFor := G0 } (genM m)) { tk b m with gWaits := false, gFor := G0 } := by
  obtain ⟨_, _, _, _, _, _, _⟩ := m; cases hk; rfl
theorem bhd9 (hk : m.gKind = 9) : bhd b m = withT (atB b m) { tk b m with gStops := true, gFor := ⟨0, m.gName, 0⟩ } := by
  obtain ⟨_, _, _, _, _, _, _⟩ := m; cases hk; rfl
theorem bhd10 (hk : m.gKind = 10) : bhd b m = withT (atB b m) { tk b m with gStops := false, gFor := G0 } := by
  obtain ⟨_, _, _, _, _, _, _⟩ := m; cases hk; rfl
theorem bhd11 (hk : m.gKind = 11) : bhd b m = withT (atB b m) { tk b m with gDone := true } := by
  obtain ⟨_, _, _, _, _, _, _⟩ := m; cases hk; rfl
theorem bhd12 (hk : m.gKind = 12) : bhd b m = withT (atB b m) { tk b m with gLeft := true, gDone := eqI (intN (lenL (tk b m).gStack)) 0 } := by
  obtain ⟨_, _, _, _, _, _, _⟩ := m; cases hk; rfl
theorem bhd13 (hk : m.gKind = 13) : bhd b m = withT (putC (atB b m) { cm b m with gShut := true }) { tk b m with gShut := (tk b m).gShut ++ [genM m] } := by
  obtain ⟨_, _, _, _, _, _, _⟩ := m; cases hk; rfl
theorem bhd_other (hk : m.gKind = 5 ∨ m.gKind = 6 ∨ m.gKind = 7 ∨ m.gKind = 8) : bhd b m = withT (atB b m) (tk b m) := by
  obtain ⟨_, _, _, _, _, _, _⟩ := m; rcases hk with hk | hk | hk | hk <;> cases hk <;> rfl
end
section
variable {b : Book} {m : api_Mark}
theorem step_of {k : Int} (hk : m.gKind = k) (h1 : 1 ≤ k) (h2 : k ≤ 13) : stepB m = true := by
  unfold stepB; rw [hk, Bool.and_eq_true]; exact ⟨decide_eq_true h1, decide_eq_true h2⟩
theorem step_kind (h : stepB m = true) : m.gKind = 1 ∨ m.gKind = 2 ∨ m.gKind = 3 ∨ m.gKind = 4 ∨ m.gKind = 9 ∨ m.gKind = 10 ∨ m.gKind = 11 ∨ m.gKind = 12 ∨ m.gKind = 13 ∨ (m.gKind = 5 ∨ m.gKind = 6 ∨ m.gKind = 7 ∨ m.gKind = 8) := by
  unfold stepB at h; rw [Bool.and_eq_true] at h
  have h1 := of_decide_eq_true h.1
  have h2 := of_decide_eq_true h.2
  omega
end

theorem top_mem {l : List Gen} (h : 0 < l.length) : topG l ∈ l := by
  have hne : l ≠ [] := List.length_pos_iff.1 h
  rw [topG, List.getLastD_eq_getLast?, List.getLast?_eq_some_getLast hne]
  exact List.getLast_mem hne
theorem top_cat {l : List Gen} (h : 0 < l.length) : l.dropLast ++ [topG l] = l := by
  have hne : l ≠ [] := List.length_pos_iff.1 h
  have : topG l = l.getLast hne := by rw [topG, List.getLastD_eq_getLast?, List.getLast?_eq_some_getLast hne]; rfl
  rw [this]; exact List.dropLast_concat_getLast hne

theorem inv_at {b : Book} (hI : Inv b) (m : api_Mark) : Inv (atB b m) := ⟨hI.stk, hI.nod, hI.wt, hI.ws⟩

section
variable {b : Book} {m : api_Mark} (hI : Inv b) (hh : haltB (tk b m) m = false) (hr : ruleR b m (tk b m) (genM m) = 0)
include hI hh hr
theorem next1 (hk : m.gKind = 1) : Inv (bhd b m) := by
  rw [bhd1 b m hk]
  have hn := ofT_number b m.gTask
  have r := rule1 hr hk
  simp only [Bool.or_eq_false_iff] at r
  have fresh : ∀ n g, g ∈ (ofT b n).gStack → ¬ (m.gScope = g.gScope ∧ m.gName = g.gName) := by
    intro n g hg hx
    obtain ⟨c, hc, hr', _⟩ := hI.stk n g hg
    rw [hx.1, hx.2, hc] at r
    have := r.1.1.1
    simp only [Option.getD_some] at this
    rw [hr'] at this; cases this
  refine (inv_at hI m).with (putC_tasks _ _).1 ?_ ?_ ?_ ?_ ?_ ?_
  · intro n g hne hg
    rw [lk_putC, if_neg (fresh n g hg)]
    exact hI.stk n g hg
  · intro g hg
    rcases List.mem_append.1 hg with hg | hg
    · rw [lk_putC, if_neg (fresh m.gTask g hg)]
      dsimp only
      rw [hn]
      exact hI.stk m.gTask g hg
    · have := List.mem_singleton.1 hg
      subst this
      rw [lk_putC, if_pos ⟨rfl, rfl⟩]
      exact ⟨_, rfl, rfl, rfl, hn.symm⟩
  · dsimp only
    rw [List.map_append, List.nodup_append]
    refine ⟨hI.nod m.gTask, by simp, ?_⟩
    intro a ha a' ha' e
    simp only [List.map_cons, List.map_nil, List.mem_singleton] at ha'
    obtain ⟨g, hg, rfl⟩ := List.mem_map.1 ha
    rw [ha'] at e
    exact fresh m.gTask g hg ⟨(congrArg Prod.fst e).symm, (congrArg Prod.snd e).symm⟩
  · intro hw
    rw [lk_putC]
    split
    · rfl
    · exact hI.wt m.gTask hw
  · exact hI.ws m.gTask
  · intro s n hx
    rw [lk_putC]
    split
    · rfl
    · exact hx

theorem next2 (hk : m.gKind = 2) : Inv (bhd b m) := by
  rw [bhd2 b m hk]
  have hn := ofT_number b m.gTask
  obtain ⟨hp, htop, _⟩ := rule2 hr hk
  have htm := top_mem hp
  rw [htop] at htm
  obtain ⟨c, hc, hcr, hcg, hct⟩ := hI.stk m.gTask (genM m) htm
  have hc : lk b m.gScope m.gName = some c := hc
  have hcm : cm b m = c := by unfold cm; rw [hc]; rfl
  rw [hcm]
  have hck := lk_key hc
  have hcat := top_cat hp
  rw [htop] at hcat
  have hnod := hI.nod m.gTask
  rw [← hcat, List.map_append, List.nodup_append] at hnod
  have old : ∀ n g, (n ≠ m.gTask ∧ g ∈ (ofT b n).gStack) ∨ (n = m.gTask ∧ g ∈ (tk b m).gStack.dropLast) → ∃ d, lk (putC (atB b m) { c with gRuns := false, gOut := m.gOutcome }) g.gScope g.gName = some d ∧ d.gRuns = true ∧ d.gGen = g.gGen ∧ d.gTask = n := by
    intro n g hg
    have hgs : g ∈ (ofT b n).gStack := by
      rcases hg with hg | ⟨rfl, hg⟩
      · exact hg.2
      · exact List.dropLast_subset _ hg
    obtain ⟨d, hd, h1, h2, h3⟩ := hI.stk n g hgs
    have hne : ¬ (c.gScope = g.gScope ∧ c.gName = g.gName) := by
      rintro ⟨e1, e2⟩
      rcases hg with hg | ⟨rfl, hg⟩
      · rw [← e1, ← e2, hck.1, hck.2, hc] at hd
        cases hd
        exact hg.1 (h3.symm.trans hct)
      · refine hnod.2.2 _ (List.mem_map.2 ⟨g, hg, rfl⟩) (m.gScope, m.gName) (by simp [genM]) ?_
        rw [← e1, ← e2, hck.1, hck.2]
    rw [lk_putC, if_neg hne]
    exact ⟨d, hd, h1, h2, h3⟩
  have hm : ∀ s n, (lk b s n).isSome → (lk (putC (atB b m) { c with gRuns := false, gOut := m.gOutcome }) s n).isSome := by
    intro s n hx
    rw [lk_putC]
    split
    · rfl
    · exact hx
  refine (inv_at hI m).with ((toldB_tasks _ _ _).1.trans (putC_tasks _ _).1) ?_ ?_ ?_ ?_ ?_ ?_
  · intro n g hne hg
    exact (Sim.told _ _ _).run (old n g (Or.inl ⟨fun e => hne (e.trans hn.symm), hg⟩))
  · intro g hg
    dsimp only
    rw [hn]
    exact (Sim.told _ _ _).run (old m.gTask g (Or.inr ⟨rfl, hg⟩))
  · exact hnod.1
  · exact fun hw => (Sim.told _ _ _).some (hm _ _ (hI.wt m.gTask hw))
  · exact hI.ws m.gTask
  · exact fun s n hx => (Sim.told _ _ _).some (hm s n hx)

theorem next3 (hk : m.gKind = 3) : Inv (bhd b m) := by
  rw [bhd3 b m hk]
  have hw := halt_stops hh (by omega) (by omega) (by omega)
  refine (inv_at hI m).same m.gTask (ofT_number b m.gTask) rfl (fun _ => ?_) (fun _ => hw)
  have := rule3 hr hk
  unfold runsB at this
  show (lk b (genM m).gScope (genM m).gName).isSome
  cases h : lk b (genM m).gScope (genM m).gName with
  | none => rw [h] at this; cases this
  | some _ => rfl
theorem next4 (hk : m.gKind = 4) : Inv (bhd b m) := by
  rw [bhd4 b m hk]
  have hn := ofT_number b m.gTask
  refine (inv_at hI m).with (toldB_tasks _ _ _).1 ?_ ?_ (hI.nod m.gTask) (fun h => by cases h) (fun h => by cases h) (fun s n hx => (Sim.told _ _ _).some hx)
  · intro n g _ hg
    exact (Sim.told _ _ _).run (hI.stk n g hg)
  · intro g hg
    dsimp only
    rw [hn]
    exact (Sim.told _ _ _).run (hI.stk m.gTask g hg)
theorem next9 (hk : m.gKind = 9) : Inv (bhd b m) := by
  rw [bhd9 b m hk]
  have hw := halt_waits hh (by omega) (by omega)
  exact (inv_at hI m).same m.gTask (ofT_number b m.gTask) rfl (fun h => by rw [hw] at h; cases h) (fun h => by rw [hw] at h; cases h)
theorem next10 (hk : m.gKind = 10) : Inv (bhd b m) := by
  rw [bhd10 b m hk]
  have hw := halt_waits hh (by omega) (by omega)
  exact (inv_at hI m).same m.gTask (ofT_number b m.gTask) rfl (fun h => by rw [hw] at h; cases h) (fun _ => rfl)
theorem next11 (hk : m.gKind = 11) : Inv (bhd b m) := by
  rw [bhd11 b m hk]
  exact (inv_at hI m).same m.gTask (ofT_number b m.gTask) rfl (hI.wt m.gTask) (hI.ws m.gTask)
theorem next12 (hk : m.gKind = 12) : Inv (bhd b m) := by
  rw [bhd12 b m hk]
  exact (inv_at hI m).same m.gTask (ofT_number b m.gTask) rfl (hI.wt m.gTask) (hI.ws m.gTask)
theorem shuts_some (hk : m.gKind = 13) : ∃ c, lk b m.gScope m.gName = some c := by
  have := rule13 hr hk
  cases h : lk b m.gScope m.gName with
  | some c => exact ⟨c, rfl⟩
  | none =>
    rw [h] at this
    unfold shutsB at this
    rw [Bool.and_eq_true] at this
    have := this.1
    simp [C0, eqI] at this
theorem next13 (hk : m.gKind = 13) : Inv (bhd b m) := by
  rw [bhd13 b m hk]
  obtain ⟨c, hc⟩ := shuts_some hI hh hr hk
  have hcm : cm b m = c := by unfold cm; rw [hc]; rfl
  rw [hcm]
  have hck := lk_key hc
  have hS : Sim (atB b m) (putC (atB b m) { c with gShut := true }) := Sim.put (c := c) (by dsimp only; rw [hck.1, hck.2]; exact hc) rfl rfl rfl
  have hn := ofT_number b m.gTask
  refine (inv_at hI m).with (putC_tasks _ _).1 ?_ ?_ (hI.nod m.gTask) (fun h => hS.some (hI.wt m.gTask h)) (hI.ws m.gTask) (fun s n hx => hS.some hx)
  · intro n g _ hg
    exact hS.run (hI.stk n g hg)
  · intro g hg
    dsimp only
    rw [hn]
    exact hS.run (hI.stk m.gTask g hg)
end

/-- Behind any mark that breaks none the book is right. -/
theorem Inv.next {b : Book} {m : api_Mark} (hI : Inv b) (h : brk b m = 0) : Inv (bhd b m) := by
  obtain ⟨hg, hstep⟩ := brk_none h
  by_cases hs : stepB m = true
  · obtain ⟨hh, hr⟩ := hstep hs
    rcases step_kind hs with hk | hk | hk | hk | hk | hk | hk | hk | hk | hk
    · exact next1 hI hh hr hk
    · exact next2 hI hh hr hk
    · exact next3 hI hh hr hk
    · exact next4 hI hh hr hk
    · exact next9 hI hh hr hk
    · exact next10 hI hh hr hk
    · exact next11 hI hh hr hk
    · exact next12 hI hh hr hk
    · exact next13 hI hh hr hk
    · rw [bhd_other b m hk]
      exact (inv_at hI m).same m.gTask (ofT_number b m.gTask) rfl (hI.wt m.gTask) (hI.ws m.gTask)
  · rw [bhd_not (Bool.eq_false_iff.2 hs)]
    exact ⟨hI.stk, hI.nod, hI.wt, hI.ws⟩


theorem Small.with {b bb : Book} {t : Task} {k : Nat} (hS : Small b k) (hT : bb.gTasks = b.gTasks) (h1 : bb.gCells.length ≤ k + 1) (h2 : bb.gEnds.length ≤ k + 1) (h3 : ∀ c ∈ bb.gCells, c.gUsed.length ≤ k + 1)
    (h4 : t.gStack.length ≤ k + 1) (h5 : t.gShut.length ≤ k + 1) : Small (withT bb t) (k + 1) := by
  have hof : ∀ n, ofT (withT bb t) n = if t.gNumber = n then t else ofT b n := fun n => by
    rw [ofT_withT]; unfold ofT; rw [hT]
  refine ⟨by rw [(withT_cells bb t).1]; exact h1, by rw [(withT_cells bb t).2.1]; exact h2, ?_, by rw [(withT_cells bb t).1]; exact h3, ?_, ?_⟩
  · unfold withT
    have := hS.tasks
    cases taskI bb t.gNumber with
    | none => simp only [List.length_append, List.length_singleton, hT]; omega
    | some i => simp only [List.length_set, hT]; omega
  · intro n; rw [hof]; split
    · exact h4
    · exact Nat.le_succ_of_le (hS.stack n)
  · intro n; rw [hof]; split
    · exact h5
    · exact Nat.le_succ_of_le (hS.shut n)
theorem putC_small {b : Book} {c : Cell} {k : Nat} (h1 : b.gCells.length ≤ k) (h2 : ∀ c ∈ b.gCells, c.gUsed.length ≤ k) (h3 : c.gUsed.length ≤ k + 1) : (putC b c).gCells.length ≤ k + 1 ∧ ∀ c' ∈ (putC b c).gCells, c'.gUsed.length ≤ k + 1 := by
  unfold putC
  cases cellI b c.gScope c.gName with
  | none =>
    refine ⟨by simp only [List.length_append, List.length_singleton]; omega, fun c' hc' => ?_⟩
    rcases List.mem_append.1 hc' with h | h
    · exact Nat.le_succ_of_le (h2 c' h)
    · rw [List.mem_singleton.1 h]; exact h3
  | some i =>
    refine ⟨by simp only [List.length_set]; omega, fun c' hc' => ?_⟩
    rcases List.mem_or_eq_of_mem_set hc' with h | h
    · exact Nat.le_succ_of_le (h2 c' h)
    · rw [h]; exact h3
/-- Where a cell is there: as many cells as ahead. -/
theorem putC_len {b : Book} {c : Cell} (h : (lk b c.gScope c.gName).isSome) : (putC b c).gCells.length = b.gCells.length := by
  unfold putC
  cases hc : cellI b c.gScope c.gName with
  | none => simp only [lk, find_none hc] at h; cases h
  | some i => simp only [List.length_set]
theorem cell_small {b : Book} {k : Nat} (h2 : ∀ c ∈ b.gCells, c.gUsed.length ≤ k) (s : Int) (n : ByteArray) : ((lk b s n).getD C0).gUsed.length ≤ k := by
  cases h : lk b s n with
  | none => exact Nat.zero_le _
  | some c => exact h2 c (List.mem_of_find?_eq_some h)
theorem toldB_small {b : Book} {t : Task} {g : Gen} {k : Nat} (h1 : b.gCells.length ≤ k) (h2 : ∀ c ∈ b.gCells, c.gUsed.length ≤ k) : (toldB b t g).gCells.length ≤ k ∧ ∀ c' ∈ (toldB b t g).gCells, c'.gUsed.length ≤ k + 1 := by
  by_cases hs : t.gStack = []
  · rw [toldB_nil hs]; exact ⟨h1, fun c hc => Nat.le_succ_of_le (h2 c hc)⟩
  · unfold toldB
    rw [if_neg hs]
    cases hc : cellI b (topG t.gStack).gScope (topG t.gStack).gName with
    | none => exact ⟨h1, fun c hc => Nat.le_succ_of_le (h2 c hc)⟩
    | some i =>
      obtain ⟨hi, _, _⟩ := find_get hc
      refine ⟨by simp only [List.length_set]; omega, fun c' hc' => ?_⟩
      rcases List.mem_or_eq_of_mem_set hc' with h | h
      · exact Nat.le_succ_of_le (h2 c' h)
      · rw [h]
        have hd : b.gCells.getD i C0 = b.gCells[i] := by simp [List.getD_eq_getElem?_getD, hi]
        simp only [hd, List.length_append, List.length_singleton]
        have := h2 _ (List.getElem_mem hi)
        omega

theorem Small.next {b : Book} {m : api_Mark} {k : Nat} (hI : Inv b) (hS : Small b k) (h : brk b m = 0) : Small (bhd b m) (k + 1) := by
  have up : ∀ {x : Nat}, x ≤ k → x ≤ k + 1 := fun h => Nat.le_succ_of_le h
  have usedS : ∀ c ∈ b.gCells, c.gUsed.length ≤ k + 1 := fun c hc => up (hS.used c hc)
  obtain ⟨hg, hstep⟩ := brk_none h
  by_cases hs : stepB m = true
  · obtain ⟨hh, hr⟩ := hstep hs
    have h4 : (tk b m).gStack.length ≤ k := hS.stack m.gTask
    have h5 : (tk b m).gShut.length ≤ k := hS.shut m.gTask
    have hS' : Small (atB b m) k := ⟨hS.cells, hS.ends, hS.tasks, hS.used, hS.stack, hS.shut⟩
    rcases step_kind hs with hk | hk | hk | hk | hk | hk | hk | hk | hk | hk
    · rw [bhd1 b m hk]
      obtain ⟨p1, p2⟩ := putC_small (b := atB b m) (c := ⟨m.gScope, m.gName, m.gGen, true, m.gTask, ⟨0, [], []⟩, false, []⟩) hS.cells hS.used (Nat.zero_le _)
      exact hS'.with (putC_tasks _ _).1 p1 (by rw [(putC_tasks _ _).2.1]; exact up hS.ends) p2 (by simp only [List.length_append, List.length_singleton]; omega) (up h5)
    · rw [bhd2 b m hk]
      obtain ⟨hp, htop, _⟩ := rule2 hr hk
      have htm := top_mem hp
      rw [htop] at htm
      obtain ⟨c, hc, hcr, hcg, hct⟩ := hI.stk m.gTask (genM m) htm
      have hc : lk b m.gScope m.gName = some c := hc
      have hcm : cm b m = c := by unfold cm; rw [hc]; rfl
      have hck := lk_key hc
      rw [hcm]
      have hcu : c.gUsed.length ≤ k := hS.used c (List.mem_of_find?_eq_some hc)
      have hp2 : ∀ c' ∈ (putC (atB b m) { c with gRuns := false, gOut := m.gOutcome }).gCells, c'.gUsed.length ≤ k := by
        unfold putC
        cases hci : cellI (atB b m) c.gScope c.gName with
        | none =>
          have : lk b c.gScope c.gName = none := find_none hci
          rw [hck.1, hck.2, hc] at this; cases this
        | some i =>
          intro c' hc'
          rcases List.mem_or_eq_of_mem_set hc' with h | h
          · exact hS.used c' h
          · rw [h]; exact hcu
      have hp1 : (putC (atB b m) { c with gRuns := false, gOut := m.gOutcome }).gCells.length ≤ k := by
        rw [putC_len (by dsimp only; rw [hck.1, hck.2]; show (lk b m.gScope m.gName).isSome; rw [hc]; rfl)]; exact hS.cells
      obtain ⟨t1, t2⟩ := toldB_small (b := { putC (atB b m) { c with gRuns := false, gOut := m.gOutcome } with gEnds := b.gEnds ++ [⟨genM m, m.gOutcome⟩] }) (t := { tk b m with gStack := (tk b m).gStack.dropLast }) (g := genM m) hp1 hp2
      refine hS'.with ((toldB_tasks _ _ _).1.trans (putC_tasks _ _).1) (up t1) ?_ t2 ?_ (up h5)
      · rw [(toldB_tasks _ _ _).2.1]
        simp only [List.length_append, List.length_singleton]
        have := hS.ends; omega
      · simp only [List.length_dropLast]
        have h4 : (tk b m).gStack.length ≤ k := h4
        omega
    · rw [bhd3 b m hk]; exact hS'.with rfl (up hS.cells) (up hS.ends) usedS (up h4) (up h5)
    · rw [bhd4 b m hk]
      obtain ⟨t1, t2⟩ := toldB_small (b := atB b m) (t := { tk b m with gWaits := false, gFor := G0 }) (g := genM m) hS.cells hS.used
      exact hS'.with (toldB_tasks _ _ _).1 (up t1) (by rw [(toldB_tasks _ _ _).2.1]; exact up hS.ends) t2 (up h4) (up h5)
    · rw [bhd9 b m hk]; exact hS'.with rfl (up hS.cells) (up hS.ends) usedS (up h4) (up h5)
    · rw [bhd10 b m hk]; exact hS'.with rfl (up hS.cells) (up hS.ends) usedS (up h4) (up h5)
    · rw [bhd11 b m hk]; exact hS'.with rfl (up hS.cells) (up hS.ends) usedS (up h4) (up h5)
    · rw [bhd12 b m hk]; exact hS'.with rfl (up hS.cells) (up hS.ends) usedS (up h4) (up h5)
    · rw [bhd13 b m hk]
      obtain ⟨p1, p2⟩ := putC_small (b := atB b m) (c := { cm b m with gShut := true }) hS.cells hS.used (up (cell_small hS.used _ _))
      refine hS'.with (putC_tasks _ _).1 p1 (by rw [(putC_tasks _ _).2.1]; exact up hS.ends) p2 (up h4) ?_
      simp only [List.length_append, List.length_singleton]
      have h5 : (tk b m).gShut.length ≤ k := h5
      omega
    · rw [bhd_other b m hk]; exact hS'.with rfl (up hS.cells) (up hS.ends) usedS (up h4) (up h5)
  · rw [bhd_not (Bool.eq_false_iff.2 hs)]
    exact ⟨up hS.cells, up hS.ends, up hS.tasks, usedS, fun n => up (hS.stack n), fun n => up (hS.shut n)⟩

theorem stepN {m : api_Mark} : notB (stepB m) = true ↔ stepB m = false := notB_t

theorem gives69 (b : Book) (m : api_Mark) {k : Nat} (hI : Inv b) (hS : Small b k) (hk : k < 100000) (h : brk b m = 0) : Gives 69 [bookC b, markC m] (bookC (bhd b m)) := by
  obtain ⟨hg, hstep⟩ := brk_none h
  by_cases hs : stepB m = true
  rotate_left
  · rw [bhd_not (Bool.eq_false_iff.2 hs)]
    exact e69 _ _ _ ⟨_, gives108 m, ite_t (notB_t.2 (Bool.eq_false_iff.2 hs)) ⟨rfl, rfl⟩⟩
  obtain ⟨hh, hr⟩ := hstep hs
  refine e69 _ _ _ ⟨_, gives108 m, ite_f (notB_f.2 hs) ⟨tk b m, gives109 (atB b m) m.gTask, ?_⟩⟩
  have hc1 := hS.cells
  have ht1 := hS.tasks
  have h4 : (tk b m).gStack.length ≤ k := hS.stack m.gTask
  have h5 : (tk b m).gShut.length ≤ k := hS.shut m.gTask
  have len : ∀ (x : Book) t, x.gTasks = b.gTasks → Gives 114 [bookC x, taskC t] (bookC (withT x t)) := fun x t e => gives114 x t (by rw [e]; omega)
  have room : ∀ {c : Nat} {n : Nat}, n ≤ k + 1 → c ≤ 1000 → roomB n c = true := fun h1 h2 => roomB_t (Nat.le_trans (Nat.mul_le_mul h1 h2) (by omega))
  rcases step_kind hs with hk | hk | hk | hk | hk | hk | hk | hk | hk | hk
  · rw [bhd1 b m hk]
    refine ite_t (eqI_t.2 hk) ⟨_, gives111 (atB b m) ⟨m.gScope, m.gName, m.gGen, true, m.gTask, ⟨0, [], []⟩, false, []⟩ (by show b.gCells.length < _; omega), and_t (room ?_ (by omega)) (and_t (room ?_ (by omega)) ⟨_, len _ { tk b m with gStack := (tk b m).gStack ++ [genM m] } (putC_tasks _ _).1, rfl, rfl⟩)⟩
    · simp only [addN, lenL_eq, List.length_nil]; omega
    · simp only [addN, lenL_eq, appL, List.nil_append, List.length_singleton]; omega
  · rw [bhd2 b m hk]
    obtain ⟨hp, htop, _⟩ := rule2 hr hk
    have hp : 0 < (tk b m).gStack.length := hp
    have htm := top_mem hp
    rw [htop] at htm
    obtain ⟨c, hc, hcr, hcg, hct⟩ := hI.stk m.gTask (genM m) htm
    have hc : lk b m.gScope m.gName = some c := hc
    have hcm : cm b m = c := by unfold cm; rw [hc]; rfl
    have hck := lk_key hc
    rw [hcm]
    cases hci : cellI b m.gScope m.gName with
    | none => have : lk b m.gScope m.gName = none := find_none hci
              rw [this] at hc; cases hc
    | some i =>
    obtain ⟨hi, _, hf⟩ := find_get hci
    have hcc : b.gCells[i] = c := by have : some b.gCells[i] = some c := hf.symm.trans hc
                                     cases this; rfl
    have hrd : ∀ d : Cell, rd d b.gCells (fi (some i)) = c := fun d => (rd_at hi).trans hcc
    have g112 := gives112 (atB b m) m.gScope m.gName
    rw [show cellI (atB b m) m.gScope m.gName = some i from hci] at g112
    have hcu : c.gUsed.length ≤ k := hS.used c (List.mem_of_find?_eq_some hc)
    have hlen : (putC (atB b m) { c with gRuns := false, gOut := m.gOutcome }).gCells.length = b.gCells.length :=
      putC_len (by dsimp only; rw [hck.1, hck.2]; show (lk b m.gScope m.gName).isSome; rw [hc]; rfl)
    have hp2 : ∀ c' ∈ (putC (atB b m) { c with gRuns := false, gOut := m.gOutcome }).gCells, c'.gUsed.length ≤ k + 1 := (putC_small (b := atB b m) (c := { c with gRuns := false, gOut := m.gOutcome }) hS.cells hS.used (Nat.le_succ_of_le hcu)).2
    have hends := hS.ends
    have hpe : (putC (atB b m) { c with gRuns := false, gOut := m.gOutcome }).gEnds = b.gEnds := (putC_tasks _ _).2.1
    have hdrop : dropL (natI 0) (takeL (natI (subW .i64 (intN (lenL (tk b m).gStack)) 1)) (tk b m).gStack) = (tk b m).gStack.dropLast := by
      have h4 : (tk b m).gStack.length ≤ k := h4
      rw [intN_eq, lenL_eq, subW_id (by omega) (by omega)]
      have e : ((tk b m).gStack.length : Int) - 1 = (((tk b m).gStack.length - 1 : Nat) : Int) := by omega
      rw [e, natI_nat, List.dropLast_eq_take]; rfl
    have hmono : ∀ s n, (lk b s n).isSome → (lk (putC (atB b m) { c with gRuns := false, gOut := m.gOutcome }) s n).isSome := by
      intro s n hx
      rw [lk_putC]
      split
      · rfl
      · exact hx
    refine (ite_f (eqI_f.2 (by omega)) (ite_t (eqI_t.2 hk) ⟨_, g112, and_t (in_len hi) ?_⟩))
    rw [hrd]
    refine ⟨_, gives111 (atB b m) { c with gRuns := false, gOut := m.gOutcome } (by show b.gCells.length < _; omega), and_t (room ?_ (by omega)) (and_t (room ?_ (by omega)) (and_t ?_ ?_))⟩
    · simp only [addN, lenL_eq, List.length_nil]; rw [hpe]; omega
    · simp only [addN, lenL_eq, appL, List.nil_append, List.length_singleton]; rw [hpe]; omega
    · have h4 : (tk b m).gStack.length ≤ k := h4
      rw [intN_eq, lenL_eq, subW_id (by omega) (by omega), andB_true, andB_true, andB_true]
      exact ⟨eqI_t.2 rfl, decide_eq_true (by omega), decide_eq_true (by omega), decide_eq_true (by omega)⟩
    ·
      have e : { putC (atB b m) { c with gRuns := false, gOut := m.gOutcome } with gEnds := b.gEnds ++ [⟨genM m, m.gOutcome⟩] } = ({ putC (atB b m) { c with gRuns := false, gOut := m.gOutcome } with gEnds := (putC (atB b m) { c with gRuns := false, gOut := m.gOutcome }).gEnds ++ [⟨genM m, m.gOutcome⟩] } : Book) := by rw [hpe]
      rw [e]
      rw [← hdrop]
      refine ⟨_, gives113 { putC (atB b m) { c with gRuns := false, gOut := m.gOutcome } with gEnds := (putC (atB b m) { c with gRuns := false, gOut := m.gOutcome }).gEnds ++ [⟨genM m, m.gOutcome⟩] } { tk b m with gStack := (dropL (natI 0) (takeL (natI (subW .i64 (intN (lenL (tk b m).gStack)) 1)) (tk b m).gStack)) } (genM m) ?_ ?_ ?_ ?_, _, len _ { tk b m with gStack := (dropL (natI 0) (takeL (natI (subW .i64 (intN (lenL (tk b m).gStack)) 1)) (tk b m).gStack)) } ((toldB_tasks _ _ _).1.trans (putC_tasks _ _).1), rfl, rfl⟩
      · show (putC _ _).gCells.length < _; rw [hlen]; omega
      · rw [hdrop]
        intro hne
        have hmem : topG (tk b m).gStack.dropLast ∈ (tk b m).gStack := List.dropLast_subset _ (top_mem (List.length_pos_iff.2 hne))
        obtain ⟨d, hd, _⟩ := hI.stk m.gTask _ hmem
        exact hmono _ _ (by rw [hd]; rfl)
      · intro c' hc'; have := hp2 c' hc'; omega
      · rw [hdrop]; simp only [List.length_dropLast]; have h4 : (tk b m).gStack.length ≤ k := h4; omega
  · rw [bhd3 b m hk]
    exact (ite_f (eqI_f.2 (by omega)) (ite_f (eqI_f.2 (by omega)) (ite_t (eqI_t.2 hk) ⟨_, len (atB b m) { tk b m with gWaits := true, gFor := genM m } rfl, rfl, rfl⟩)))
  · rw [bhd4 b m hk]
    refine (ite_f (eqI_f.2 (by omega)) (ite_f (eqI_f.2 (by omega)) (ite_f (eqI_f.2 (by omega)) (ite_t (eqI_t.2 hk) ⟨_, gives113 (atB b m) { tk b m with gWaits := false, gFor := G0 } (genM m) ?_ ?_ ?_ ?_, _, len _ { tk b m with gWaits := false, gFor := G0 } (toldB_tasks _ _ _).1, rfl, rfl⟩))))
    · show b.gCells.length < _; omega
    · intro hne
      obtain ⟨d, hd, _⟩ := hI.stk m.gTask _ (top_mem (List.length_pos_iff.2 hne))
      show (lk b _ _).isSome
      rw [hd]; rfl
    · intro c' hc'; have := hS.used c' hc'; omega
    · show (tk b m).gStack.length < _; omega
  · rw [bhd9 b m hk]
    exact (ite_f (eqI_f.2 (by omega)) (ite_f (eqI_f.2 (by omega)) (ite_f (eqI_f.2 (by omega)) (ite_f (eqI_f.2 (by omega)) (ite_t (eqI_t.2 hk) ⟨_, len (atB b m) { tk b m with gStops := true, gFor := ⟨0, m.gName, 0⟩ } rfl, rfl, rfl⟩)))))
  · rw [bhd10 b m hk]
    exact (ite_f (eqI_f.2 (by omega)) (ite_f (eqI_f.2 (by omega)) (ite_f (eqI_f.2 (by omega)) (ite_f (eqI_f.2 (by omega)) (ite_f (eqI_f.2 (by omega)) (ite_t (eqI_t.2 hk) ⟨_, len (atB b m) { tk b m with gStops := false, gFor := G0 } rfl, rfl, rfl⟩))))))
  · rw [bhd11 b m hk]
    exact (ite_f (eqI_f.2 (by omega)) (ite_f (eqI_f.2 (by omega)) (ite_f (eqI_f.2 (by omega)) (ite_f (eqI_f.2 (by omega)) (ite_f (eqI_f.2 (by omega)) (ite_f (eqI_f.2 (by omega)) (ite_t (eqI_t.2 hk) ⟨_, len (atB b m) { tk b m with gDone := true } rfl, rfl, rfl⟩)))))))
  · rw [bhd12 b m hk]
    exact (ite_f (eqI_f.2 (by omega)) (ite_f (eqI_f.2 (by omega)) (ite_f (eqI_f.2 (by omega)) (ite_f (eqI_f.2 (by omega)) (ite_f (eqI_f.2 (by omega)) (ite_f (eqI_f.2 (by omega)) (ite_f (eqI_f.2 (by omega)) (ite_t (eqI_t.2 hk) ⟨_, len (atB b m) { tk b m with gLeft := true, gDone := eqI (intN (lenL (tk b m).gStack)) 0 } rfl, rfl, rfl⟩))))))))
  · rw [bhd13 b m hk]
    obtain ⟨c, hc⟩ := shuts_some hI hh hr hk
    have hcm : cm b m = c := by unfold cm; rw [hc]; rfl
    rw [hcm]
    cases hci : cellI b m.gScope m.gName with
    | none => have : lk b m.gScope m.gName = none := find_none hci
              rw [this] at hc; cases hc
    | some i =>
    obtain ⟨hi, _, hf⟩ := find_get hci
    have hcc : b.gCells[i] = c := by have : some b.gCells[i] = some c := hf.symm.trans hc
                                     cases this; rfl
    have hrd : ∀ d : Cell, rd d b.gCells (fi (some i)) = c := fun d => (rd_at hi).trans hcc
    have g112 := gives112 (atB b m) m.gScope m.gName
    rw [show cellI (atB b m) m.gScope m.gName = some i from hci] at g112
    refine (ite_f (eqI_f.2 (by omega)) (ite_f (eqI_f.2 (by omega)) (ite_f (eqI_f.2 (by omega)) (ite_f (eqI_f.2 (by omega)) (ite_f (eqI_f.2 (by omega)) (ite_f (eqI_f.2 (by omega)) (ite_f (eqI_f.2 (by omega)) (ite_f (eqI_f.2 (by omega)) (ite_t (eqI_t.2 hk) ⟨_, g112, and_t (in_len hi) ?_⟩)))))))))
    rw [hrd]
    refine ⟨_, gives111 (atB b m) { c with gShut := true } (by show b.gCells.length < _; omega), and_t (room ?_ (by omega)) (and_t (room ?_ (by omega)) ⟨_, len _ { tk b m with gShut := (tk b m).gShut ++ [genM m] } (putC_tasks _ _).1, rfl, rfl⟩)⟩
    · simp only [addN, lenL_eq, List.length_nil]; omega
    · simp only [addN, lenL_eq, appL, List.nil_append, List.length_singleton]; omega
  · rw [bhd_other b m hk]
    exact (ite_f (eqI_f.2 (by omega)) (ite_f (eqI_f.2 (by omega)) (ite_f (eqI_f.2 (by omega)) (ite_f (eqI_f.2 (by omega)) (ite_f (eqI_f.2 (by omega)) (ite_f (eqI_f.2 (by omega)) (ite_f (eqI_f.2 (by omega)) (ite_f (eqI_f.2 (by omega)) (ite_f (eqI_f.2 (by omega)) ⟨_, len (atB b m) (tk b m) rfl, rfl, rfl⟩)))))))))


def B0 : Book := ⟨0, 0, [], [], []⟩
/-- The first mark that breaks a rule, and which; the book ahead of it. -/
noncomputable def readL : Book → Nat → List api_Mark → api_Verdict × Book
  | b, _, [] => (⟨0, 0⟩, b)
  | b, i, m :: r => if ltI 0 (brk b m) then (⟨brk b m, i⟩, b) else readL (bhd b m) (i + 1) r
noncomputable def chkV (l : List api_Mark) : api_Verdict := if 16384 < l.length then ⟨0, 0⟩ else (readL B0 0 l).1
def chkE (l : List api_Mark) : Int := if 16384 < l.length then 3 else 0

theorem inv0 : Inv B0 := ⟨fun _ _ h => absurd h (List.not_mem_nil), fun _ => List.nodup_nil, fun _ h => (Bool.false_ne_true h).elim, fun _ h => (Bool.false_ne_true h).elim⟩
theorem small0 : Small B0 0 := ⟨Nat.le_refl _, Nat.le_refl _, Nat.le_refl _, fun _ h => absurd h (List.not_mem_nil), fun _ => Nat.le_refl _, fun _ => Nat.le_refl _⟩
theorem ite_nn {p : Prop} [Decidable p] {x y : Int} (hx : 0 ≤ x) (hy : 0 ≤ y) : 0 ≤ (if p then x else y) := by split <;> assumption
theorem brk_nn (b : Book) (m : api_Mark) : 0 ≤ brk b m := by
  unfold brk
  refine ite_nn (by decide) (ite_nn (ite_nn (by decide) (by decide)) (ite_nn (by decide) ?_))
  unfold ruleR
  dsimp only
  repeat' first | exact Int.le_refl 0 | (refine ite_nn ?_ ?_) | decide
theorem brk_f {b : Book} {m : api_Mark} (h : ltI 0 (brk b m) = false) : brk b m = 0 := by
  have := of_decide_eq_false h
  have := brk_nn b m
  omega

theorem gives24 (l : List api_Mark) : ∃ bk : Book, Gives 24 [.d (.sl .api_Mark l)] (.tup [.agg [.d (.int .i64 (chkV l).gRule), .d (.int .i64 (chkV l).gAt)], bookC bk, .d (.int .i64 (chkE l))]) := by
  by_cases hn : 16384 < l.length
  · refine ⟨B0, e24 _ _ (ite_t (decide_eq_true (by rw [intN_eq, lenL_eq]; omega)) ?_)⟩
    rw [chkV, chkE, if_pos hn, if_pos hn]
    exact ⟨rfl, rfl⟩
  have loop : ∀ i, i ≤ l.length → ∀ b, Inv b → Small b i → ∃ bk : Book, At K 24 (fun c' H' => c' = (.tup [.agg [.d (.int .i64 (readL b i (l.drop i)).1.gRule), .d (.int .i64 (readL b i (l.drop i)).1.gAt)], bookC bk, .d (.int .i64 0)] : C U) ∧ H' = []) t24_5
      (s24_5 l i 0 0 0 0 [] [] [] b.1 b.2 b.3 b.4 b.5) := by
    refine upto ?_ fun i hi ih => ?_
    · intro b _ _
      rw [List.drop_length]
      exact ⟨b, l24_5 _ _ _ _ _ _ _ _ _ _ _ _ _ _ _ (ite_f (lt_len_f (Nat.le_refl _)) ⟨rfl, rfl⟩)⟩
    · intro b hI hS
      have g68 := gives68 b l[i] hI.linked (fun c hc => by have := hS.used c hc; omega) (fun n => by have := hS.shut n; omega)
      rw [List.drop_eq_getElem_cons hi, readL]
      cases hb : ltI 0 (brk b l[i]) with
      | true =>
        refine ⟨b, l24_5 _ _ _ _ _ _ _ _ _ _ _ _ _ _ _ (ite_t (lt_len hi) (and_t (in_len hi) ?_))⟩
        rw [rd_at hi]
        exact ⟨_, g68, ite_t hb ⟨rfl, rfl⟩⟩
      | false =>
        have h0 := brk_f hb
        obtain ⟨bk, hbk⟩ := ih (bhd b l[i]) (hI.next h0) (hS.next hI h0)
        refine ⟨bk, l24_5 _ _ _ _ _ _ _ _ _ _ _ _ _ _ _ (ite_t (lt_len hi) (and_t (in_len hi) ?_))⟩
        rw [rd_at hi]
        refine ⟨_, g68, ite_f hb (and_t (in_len hi) ⟨_, gives69 b l[i] hI hS (by omega) h0, ?_⟩)⟩
        rw [add_one (by omega)]
        exact hbk
  obtain ⟨bk, hbk⟩ := loop 0 (Nat.zero_le _) B0 inv0 small0
  refine ⟨bk, e24 _ _ (ite_f (decide_eq_false (by rw [intN_eq, lenL_eq]; omega)) ?_)⟩
  rw [chkV, chkE, if_neg hn, if_neg hn]
  exact hbk


theorem gives38 (a : List api_Atom) : Gives 38 [.d (.sl .api_Atom a)] (.d (.sl .api_Atom a)) := by
  refine Runs.known fun hk _ => ?_
  have hl := known_atoms (hk _ (List.mem_cons_self ..))
  exact e38 _ _ (and_t (roomB_t (by simp only [addN, lenL_eq, List.length_nil]; omega)) ⟨rfl, rfl⟩)
theorem gives72 (a : List api_Crack) : Gives 72 [.d (.sl .api_Crack a)] (.d (.sl .api_Crack a)) := by
  refine Runs.known fun hk _ => ?_
  have hl := known_cracks (hk _ (List.mem_cons_self ..))
  exact e72 _ _ (and_t (roomB_t (by simp only [addN, lenL_eq, List.length_nil]; omega)) ⟨rfl, rfl⟩)
theorem gives29 (a : api_Outcome) : Gives 29 [outC a] (outC a) := e29 _ _ ⟨_, gives38 _, _, gives72 _, rfl, rfl⟩

theorem known_marks {l : List api_Mark} (h : C.Known K (.d (.sl (U := U) .api_Mark l))) : l.length * 112 ≤ 140737488355328 := h.d.sl.1

theorem gives22 (l : List api_Mark) : Gives 22 [.d (.sl .api_Mark l)] (.osl .api_Mark l) := by
  refine Runs.known fun hk _ => ?_
  have hl := known_marks (hk _ (List.mem_cons_self ..))
  have loop : ∀ i, i ≤ l.length → At K 22 (fun c' H' => c' = (.osl .api_Mark l : C U) ∧ H' = []) t22_3 (s22_3 l i (l.take i)) := by
    refine upto ?_ fun i hi ih => ?_
    · rw [List.take_length]
      exact l22_3 _ _ _ _ (ite_f (lt_len_f (Nat.le_refl _)) ⟨rfl, rfl⟩)
    · refine l22_3 _ _ _ _ (ite_t (lt_len hi) (and_t (in_len hi) ?_))
      rw [rd_at hi]
      refine ⟨l[i].gOutcome, gives29 _, and_t (roomB_t ?_) ?_⟩
      · simp only [addN, lenL_eq, List.length_take, List.length_singleton]; omega
      · rw [add_one (by omega)]
        have e : l.take (i + 1) = appL (l.take i) [l[i]] := by rw [List.take_succ_eq_append_getElem hi]; rfl
        rw [e] at ih
        exact ih
  exact e22 _ _ (loop 0 (Nat.zero_le _))

theorem gives70 (a b : api_Mark) : Gives 70 [markC a, markC b] (.d (.bool (eqv a b))) := by
  have e : eqv a b = ((((((eqI a.1 b.1 && eqI a.2 b.2) && eqI a.3 b.3) && eqI a.4 b.4) && eqI a.5 b.5) && strEq a.6 b.6) && eqv a.7 b.7) := by
    obtain ⟨x1, x2, x3, x4, x5, x6, x7⟩ := a
    obtain ⟨y1, y2, y3, y4, y5, y6, y7⟩ := b
    rw [Bool.eq_iff_iff]
    simp only [Bool.and_eq_true, eqv_t, eqI_t, strEq_iff', api_Mark.mk.injEq, and_assoc]
  rw [e]
  exact e70 _ _ _ (and_of (fun _ => rfl) (and_of (fun _ => rfl) (and_of (fun _ => rfl) (and_of (fun _ => rfl) (and_of (fun _ => rfl) (and_of (fun _ => ⟨_, gives28 _ _, rfl⟩) ⟨rfl, rfl⟩))))))

theorem gives25 (a b : List api_Mark) : Gives 25 [.d (.sl .api_Mark a), .d (.sl .api_Mark b)] (.d (.bool (eqv a b))) := by
  refine Runs.known fun hk _ => ?_
  have hl := known_marks (hk _ (List.mem_cons_self ..))
  refine e25 _ _ _ (ite_w (fun h => ?_) (fun h => ?_))
  · have h := eqI_f.1 (notB_t.1 h)
    have : a ≠ b := fun e => h (by rw [e])
    rw [eqv_f.2 this]; exact ⟨rfl, rfl⟩
  · have hn : a.length = b.length := by
      have h := eqI_t.1 (notB_f.1 h)
      simp only [intN_eq, lenL_eq] at h; omega
    have loop : ∀ i, i ≤ a.length → (∀ j (h : j < a.length), j < i → a[j] = b[j]'(hn ▸ h)) → At K 25 (fun c' H' => c' = (.d (.bool (eqv a b)) : C U) ∧ H' = []) t25_4 (s25_4 a b i) := by
      refine upto ?_ fun i hi ih => ?_
      · intro hb
        have : a = b := List.ext_getElem hn fun j h _ => hb j h h
        rw [eqv_t.2 this]
        exact l25_4 _ _ _ _ (ite_f (lt_len_f (Nat.le_refl _)) ⟨rfl, rfl⟩)
      · intro hb
        refine l25_4 _ _ _ _ (ite_t (lt_len hi) (and_t (in_len hi) (and_t (in_len (hn ▸ hi)) ?_)))
        rw [rd_at hi, rd_at (hn ▸ hi)]
        refine ⟨_, gives70 _ _, ite_w (fun h => ?_) (fun h => ?_)⟩
        · have : a ≠ b := fun e => by
            subst e
            have := notB_t.1 h
            rw [eqv_self] at this; cases this
          rw [eqv_f.2 this]; exact ⟨rfl, rfl⟩
        · have h := eqv_t.1 (notB_f.1 h)
          rw [add_one (by omega)]
          refine ih fun j hj hji => ?_
          by_cases e : j = i
          · subst e; exact h
          · exact hb j hj (by omega)
    exact loop 0 (Nat.zero_le _) fun _ _ h => absurd h (Nat.not_lt_zero _)


structure Inv2 (b : Book) : Prop where
  rng : ∀ s n c, lk b s n = some c → 0 ≤ c.gGen ∧ c.gGen ≤ 9007199254740992
  fin : ∀ g, (endO b g).isSome → ∃ c, lk b g.gScope g.gName = some c ∧ (g.gGen < c.gGen ∨ (g.gGen = c.gGen ∧ c.gRuns = false))
theorem inv20 : Inv2 B0 := ⟨fun _ _ _ h => (by cases h), fun _ h => (by cases h)⟩

def SimB (b bb : Book) : Prop := ∀ s n c', lk bb s n = some c' → ∃ c, lk b s n = some c ∧ c'.gGen = c.gGen
theorem SimB.refl (b : Book) : SimB b b := fun _ _ c h => ⟨c, h, rfl⟩
theorem SimB.put {b : Book} {c c' : Cell} (h : lk b c'.gScope c'.gName = some c) (h2 : c'.gGen = c.gGen) : SimB b (putC b c') := by
  intro s n d hd
  by_cases e : c'.gScope = s ∧ c'.gName = n
  · rw [lk_putC, if_pos e] at hd
    obtain ⟨rfl, rfl⟩ := e
    cases hd
    exact ⟨c, h, h2⟩
  · rw [lk_putC, if_neg e] at hd; exact ⟨d, hd, rfl⟩
theorem SimB.told (b : Book) (t : Task) (g : Gen) : SimB b (toldB b t g) := by
  by_cases hs : t.gStack = []
  · rw [toldB_nil hs]; exact SimB.refl b
  · cases h : lk b (topG t.gStack).gScope (topG t.gStack).gName with
    | none =>
      have : toldB b t g = b := by
        unfold toldB; rw [if_neg hs]
        cases hc : cellI b (topG t.gStack).gScope (topG t.gStack).gName with
        | none => rfl
        | some i => obtain ⟨_, _, hf⟩ := find_get hc; unfold lk at h; rw [hf] at h; cases h
      rw [this]; exact SimB.refl b
    | some c =>
      rw [toldB_put hs h]
      have hk := lk_key h
      exact SimB.put (c := c) (by dsimp only; rw [hk.1, hk.2]; exact h) rfl

theorem Inv2.sim {b bb : Book} (h : Inv2 b) (hS : Sim b bb) (hB : SimB b bb) (he : bb.gEnds = b.gEnds) : Inv2 bb := by
  refine ⟨fun s n c hc => ?_, fun g hg => ?_⟩
  · obtain ⟨c', h1, h2⟩ := hB s n c hc
    rw [h2]; exact h.rng s n c' h1
  · have hg : (endO b g).isSome := by unfold endO at hg ⊢; rw [he] at hg; exact hg
    obtain ⟨c, h1, h2⟩ := h.fin g hg
    obtain ⟨c', k1, k2, k3, _⟩ := hS _ _ c h1
    exact ⟨c', k1, by rw [k2, k3]; exact h2⟩
theorem Inv2.with {b : Book} (h : Inv2 b) (t : Task) : Inv2 (withT b t) := by
  have e : ∀ s n, lk (withT b t) s n = lk b s n := fun s n => by unfold lk; rw [(withT_cells b t).1]
  refine ⟨fun s n c hc => h.rng s n c (by rw [← e]; exact hc), fun g hg => ?_⟩
  have hg : (endO b g).isSome := by unfold endO at hg ⊢; rw [(withT_cells b t).2.1] at hg; exact hg
  obtain ⟨c, h1, h2⟩ := h.fin g hg
  exact ⟨c, by rw [e]; exact h1, h2⟩

theorem endO_app (b : Book) (e : Ended) (g : Gen) : endO { b with gEnds := b.gEnds ++ [e] } g = match endO b g with
    | some o => some o
    | none => if genB e.gG g = true then some e.gOut else none := by
  unfold endO
  rw [List.find?_append]
  cases b.gEnds.find? fun e => genB e.gG g with
  | some a => rfl
  | none =>
    simp only [Option.none_or, Option.map_none, List.find?_singleton]
    split <;> rfl

/-- Whom a task has on top: no end of it is known yet. -/
theorem end_none {b : Book} (h : Inv2 b) {g : Gen} {c : Cell} (hc : lk b g.gScope g.gName = some c) (hr : c.gRuns = true) (hg : c.gGen = g.gGen) : endO b g = none := by
  cases he : endO b g with
  | none => rfl
  | some o =>
    obtain ⟨c', h1, h2⟩ := h.fin g (by rw [he]; rfl)
    rw [hc] at h1; cases h1
    rcases h2 with h2 | ⟨_, h2⟩
    · omega
    · rw [hr] at h2; cases h2

theorem mark_gen {m : api_Mark} (h : markB m = true) : 0 ≤ m.gGen ∧ m.gGen ≤ 9007199254740992 := by
  simp only [markB, numB, Bool.and_eq_true, leI, decide_eq_true_eq] at h
  exact h.1.1.2

theorem Inv2.next {b : Book} {m : api_Mark} (hI : Inv b) (h2 : Inv2 b) (h : brk b m = 0) : Inv2 (bhd b m) := by
  obtain ⟨hg, hstep⟩ := brk_none h
  have hat : Inv2 (atB b m) := ⟨h2.rng, h2.fin⟩
  by_cases hs : stepB m = true
  rotate_left
  · rw [bhd_not (Bool.eq_false_iff.2 hs)]; exact ⟨h2.rng, h2.fin⟩
  obtain ⟨hh, hr⟩ := hstep hs
  rcases step_kind hs with hk | hk | hk | hk | hk | hk | hk | hk | hk | hk
  · rw [bhd1 b m hk]
    refine Inv2.with ?_ _
    have r := rule1 hr hk
    simp only [Bool.or_eq_false_iff] at r
    have hgen := eqI_t.1 (notB_f.1 r.1.2)
    refine ⟨fun s n c hc => ?_, fun g hg' => ?_⟩
    · rw [lk_putC] at hc
      split at hc
      · cases hc; exact mark_gen hg
      · exact h2.rng s n c hc
    · have hg' : (endO b g).isSome := by unfold endO at hg' ⊢; rw [(putC_tasks _ _).2.1] at hg'; exact hg'
      obtain ⟨c, h3, h4⟩ := h2.fin g hg'
      rw [lk_putC]
      split
      · rename_i e
        refine ⟨_, rfl, Or.inl ?_⟩
        have e1 : m.gScope = g.gScope := e.1
        have e2 : m.gName = g.gName := e.2
        have hc : lk b m.gScope m.gName = some c := by rw [e1, e2]; exact h3
        rw [hc, Option.getD_some] at hgen
        have hb := h2.rng _ _ c h3
        rw [addW_id (by omega) (by omega)] at hgen
        dsimp only
        omega
      · exact ⟨c, h3, h4⟩
  · rw [bhd2 b m hk]
    refine Inv2.with ?_ _
    obtain ⟨hp, htop, _⟩ := rule2 hr hk
    have htm := top_mem hp
    rw [htop] at htm
    obtain ⟨c, hc, hcr, hcg, hct⟩ := hI.stk m.gTask (genM m) htm
    have hc : lk b m.gScope m.gName = some c := hc
    have hcm : cm b m = c := by unfold cm; rw [hc]; rfl
    have hck := lk_key hc
    rw [hcm]
    refine Inv2.sim ?_ (Sim.told _ _ _) (SimB.told _ _ _) (toldB_tasks _ _ _).2.1
    have hB : SimB (atB b m) (putC (atB b m) { c with gRuns := false, gOut := m.gOutcome }) := SimB.put (c := c) (by dsimp only; rw [hck.1, hck.2]; exact hc) rfl
    refine ⟨fun s n d hd => ?_, fun g hg' => ?_⟩
    · obtain ⟨d', h3, h4⟩ := hB s n d hd
      rw [h4]; exact h2.rng s n d' h3
    · have hl : ∀ s n, lk { putC (atB b m) { c with gRuns := false, gOut := m.gOutcome } with gEnds := b.gEnds ++ [⟨genM m, m.gOutcome⟩] } s n = lk (putC (atB b m) { c with gRuns := false, gOut := m.gOutcome }) s n := fun _ _ => rfl
      have he : endO { putC (atB b m) { c with gRuns := false, gOut := m.gOutcome } with gEnds := b.gEnds ++ [⟨genM m, m.gOutcome⟩] } g = endO { b with gEnds := b.gEnds ++ [⟨genM m, m.gOutcome⟩] } g := rfl
      rw [he, endO_app] at hg'
      rw [hl, lk_putC]
      have hcase : (endO b g).isSome ∨ g = genM m := by
        cases ho : endO b g with
        | some o => exact Or.inl rfl
        | none =>
          rw [ho] at hg'
          by_cases e : genB (genM m) g = true
          · exact Or.inr (genB_iff.1 e).symm
          · simp only [if_neg e] at hg'; cases hg'
      rcases hcase with ho | rfl
      · obtain ⟨d, h3, h4⟩ := h2.fin g ho
        split
        · rename_i e
          rw [← e.1, ← e.2] at h3
          have h3 : lk b c.gScope c.gName = some d := h3
          rw [hck.1, hck.2, hc] at h3
          cases h3
          refine ⟨_, rfl, ?_⟩
          rcases h4 with h4 | ⟨_, h4⟩
          · exact Or.inl h4
          · rw [hcr] at h4; cases h4
        · exact ⟨d, h3, h4⟩
      · rw [if_pos ⟨hck.1, hck.2⟩]
        exact ⟨_, rfl, Or.inr ⟨hcg.symm, rfl⟩⟩
  · rw [bhd3 b m hk]; exact hat.with _
  · rw [bhd4 b m hk]; exact (hat.sim (Sim.told _ _ _) (SimB.told _ _ _) (toldB_tasks _ _ _).2.1).with _
  · rw [bhd9 b m hk]; exact hat.with _
  · rw [bhd10 b m hk]; exact hat.with _
  · rw [bhd11 b m hk]; exact hat.with _
  · rw [bhd12 b m hk]; exact hat.with _
  · rw [bhd13 b m hk]
    obtain ⟨c, hc⟩ := shuts_some hI hh hr hk
    have hcm : cm b m = c := by unfold cm; rw [hc]; rfl
    rw [hcm]
    have hck := lk_key hc
    have hx : lk (atB b m) ({ c with gShut := true } : Cell).gScope ({ c with gShut := true } : Cell).gName = some c := by
      dsimp only; rw [hck.1, hck.2]; exact hc
    exact (hat.sim (bb := putC (atB b m) { c with gShut := true }) (Sim.put (c := c) hx rfl rfl rfl) (SimB.put (c := c) hx rfl) (putC_tasks _ _).2.1).with _
  · rw [bhd_other b m hk]; exact hat.with _


/-- None breaks a rule. -/
def okL : Book → List api_Mark → Prop
  | _, [] => True
  | b, m :: r => brk b m = 0 ∧ okL (bhd b m) r
/-- The book behind all. -/
noncomputable def bhdL : Book → List api_Mark → Book
  | b, [] => b
  | b, m :: r => bhdL (bhd b m) r

theorem okL_app : ∀ {l1 l2 : List api_Mark} {b : Book}, okL b (l1 ++ l2) ↔ okL b l1 ∧ okL (bhdL b l1) l2
  | [], l2, b => by simp [okL, bhdL]
  | m :: r, l2, b => by
    show (brk b m = 0 ∧ okL (bhd b m) (r ++ l2)) ↔ (brk b m = 0 ∧ okL (bhd b m) r) ∧ okL (bhdL (bhd b m) r) l2
    rw [okL_app (l1 := r), and_assoc]
theorem bhdL_app : ∀ {l1 l2 : List api_Mark} {b : Book}, bhdL b (l1 ++ l2) = bhdL (bhdL b l1) l2
  | [], _, _ => rfl
  | _ :: r, l2, _ => bhdL_app (l1 := r) (l2 := l2)
theorem invs_of : ∀ {l : List api_Mark} {b : Book}, okL b l → Inv b → Inv2 b → Inv (bhdL b l) ∧ Inv2 (bhdL b l)
  | [], _, _, h1, h2 => ⟨h1, h2⟩
  | _ :: r, _, h, h1, h2 => invs_of (l := r) h.2 (h1.next h.1) (Inv2.next h1 h2 h.1)

theorem brk_pos {b : Book} {m : api_Mark} (h : brk b m ≠ 0) : 0 < brk b m := by
  have := brk_nn b m
  omega
theorem readL_ok : ∀ {l r : List api_Mark} {b : Book} {i : Nat}, okL b l → readL b i (l ++ r) = readL (bhdL b l) (i + l.length) r
  | [], _, _, _, _ => rfl
  | m :: l, r, b, i, h => by
    have e : ltI 0 (brk b m) = false := by rw [h.1]; rfl
    show (if ltI 0 (brk b m) then _ else readL (bhd b m) (i + 1) (l ++ r)) = _
    rw [e, if_neg (by decide), readL_ok h.2, List.length_cons, show i + 1 + l.length = i + (l.length + 1) by omega]; rfl
theorem readL_bad : ∀ {l : List api_Mark} {b : Book} {i : Nat}, ¬ okL b l → ∃ (r : Int) (j : Nat), 0 < r ∧ i ≤ j ∧ j < i + l.length ∧ ∀ l2, (readL b i (l ++ l2)).1 = ⟨r, j⟩
  | [], _, _, h => absurd trivial h
  | m :: l, b, i, h => by
    by_cases h0 : brk b m = 0
    · have h' : ¬ okL (bhd b m) l := fun x => h ⟨h0, x⟩
      obtain ⟨r, j, h1, h2, h3, h4⟩ := readL_bad (i := i + 1) h'
      refine ⟨r, j, h1, by omega, by rw [List.length_cons]; omega, fun l2 => ?_⟩
      have e : ltI 0 (brk b m) = false := by rw [h0]; rfl
      show (if ltI 0 (brk b m) then _ else readL (bhd b m) (i + 1) (l ++ l2)).1 = _
      rw [e, if_neg (by decide), h4]
    · refine ⟨brk b m, i, brk_pos h0, Nat.le_refl _, by rw [List.length_cons]; omega, fun l2 => ?_⟩
      have e : ltI 0 (brk b m) = true := decide_eq_true (brk_pos h0)
      show (if ltI 0 (brk b m) then ((⟨brk b m, i⟩ : api_Verdict), b) else readL (bhd b m) (i + 1) (l ++ l2)).1 = _
      rw [e, if_pos rfl]
theorem readL_nil {l : List api_Mark} {b : Book} {i : Nat} (h : okL b l) : (readL b i l).1 = ⟨0, 0⟩ := by
  have := readL_ok (r := []) (i := i) h
  rw [List.append_nil] at this
  rw [this]; rfl
theorem readL_zero {l : List api_Mark} {b : Book} {i : Nat} (h : (readL b i l).1.gRule = 0) : okL b l := by
  apply Classical.byContradiction
  intro hx
  obtain ⟨r, j, h1, _, _, h4⟩ := readL_bad (i := i) hx
  have := h4 []
  rw [List.append_nil] at this
  rw [this] at h
  have h : r = 0 := h
  omega
theorem chkV_small {l : List api_Mark} (h : l.length ≤ 16384) : chkV l = (readL B0 0 l).1 := if_neg (by omega)
theorem chk_ok {l : List api_Mark} (hn : l.length ≤ 16384) (h : (chkV l).gRule = 0) : okL B0 l := by
  unfold chkV at h; rw [if_neg (by omega)] at h
  exact readL_zero h

/-! ### A beginning -/
theorem chk_front {l : List api_Mark} (hn : l.length ≤ 16384) (k : Nat) : chkV (l.take k) = if (chkV l).gRule = 0 ∨ (k : Int) ≤ (chkV l).gAt then ⟨0, 0⟩ else chkV l := by
  by_cases hk : l.length ≤ k
  · rw [List.take_of_length_le hk]
    rw [chkV_small hn]
    by_cases h : okL B0 l
    · rw [readL_nil h]; rfl
    · obtain ⟨r, j, h1, _, h3, h4⟩ := readL_bad (i := 0) h
      have := h4 []
      rw [List.append_nil] at this
      rw [this, if_neg]
      rintro (e | e)
      · have e : r = 0 := e
        omega
      · have e : (k : Int) ≤ (j : Int) := e
        omega
  · have hl : (l.take k).length = k := by rw [List.length_take]; omega
    rw [chkV_small (l := l.take k) (by omega), chkV_small hn]
    by_cases h : okL B0 (l.take k)
    · rw [readL_nil h]
      have e : readL B0 0 l = readL (bhdL B0 (l.take k)) k (l.drop k) := by
        have := readL_ok (r := l.drop k) (i := 0) h
        rw [List.take_append_drop, hl, Nat.zero_add] at this; exact this
      rw [e, if_pos]
      by_cases h' : okL (bhdL B0 (l.take k)) (l.drop k)
      · left; rw [readL_nil h']
      · obtain ⟨r, j, h1, h2, h3, h4⟩ := readL_bad (i := k) h'
        have := h4 []
        rw [List.append_nil] at this
        right; rw [this]
        show (k : Int) ≤ (j : Int)
        omega
    · obtain ⟨r, j, h1, _, h3, h4⟩ := readL_bad (i := 0) h
      have e1 := h4 []
      have e2 := h4 (l.drop k)
      rw [List.append_nil] at e1
      rw [List.take_append_drop] at e2
      rw [e1, e2, if_neg]
      rintro (e | e)
      · have e : r = 0 := e
        omega
      · have e : (k : Int) ≤ (j : Int) := e
        omega

/-! ### What stands there twice -/
theorem at_bhd1 (b : Book) (m : api_Mark) (hk : m.gKind = 1) : (bhd b m).gAt = m.gAt := by
  rw [bhd1 b m hk, (withT_cells _ _).2.2.1, (putC_tasks _ _).2.2.1]
theorem lk_with (bb : Book) (t : Task) (s : Int) (n : ByteArray) : lk (withT bb t) s n = lk bb s n := by unfold lk; rw [(withT_cells bb t).1]
theorem lk_bhd1 (b : Book) (m : api_Mark) (hk : m.gKind = 1) : lk (bhd b m) m.gScope m.gName = some ⟨m.gScope, m.gName, m.gGen, true, m.gTask, ⟨0, [], []⟩, false, []⟩ := by
  rw [bhd1 b m hk, lk_with]
  have := lk_putC (atB b m) ⟨m.gScope, m.gName, m.gGen, true, m.gTask, ⟨0, [], []⟩, false, []⟩ m.gScope m.gName
  rw [if_pos ⟨rfl, rfl⟩] at this; exact this
theorem brk_twice {b : Book} {m : api_Mark} (h : brk b m = 0) (hk : m.gKind = 1) : brk (bhd b m) m = 4 := by
  obtain ⟨hg, hstep⟩ := brk_none h
  have hs : stepB m = true := step_of hk (by decide) (by decide)
  obtain ⟨hh, hr⟩ := hstep hs
  have ht : ofT (bhd b m) m.gTask = { tk b m with gStack := (tk b m).gStack ++ [genM m] } := by
    rw [bhd1 b m hk, ofT_withT, if_pos (ofT_number b m.gTask)]
  have hh' : haltB (ofT (bhd b m) m.gTask) m = false := by rw [ht]; exact hh
  unfold brk
  rw [hg, at_bhd1 b m hk, hs, hh', show ltI m.gAt m.gAt = false from decide_eq_false (by omega)]
  show ruleR (bhd b m) m (ofT (bhd b m) m.gTask) (genM m) = 4
  unfold ruleR
  rw [lk_bhd1 b m hk, hk]; rfl
theorem chk_twice {l : List api_Mark} (hn : l.length < 16384) (h : okL B0 l) {k : Nat} (hk : k < l.length) (h1 : l[k].gKind = 1) : chkV (l.take (k + 1) ++ l.drop k) = ⟨4, ((k + 1 : Nat) : Int)⟩ := by
  have hl : (l.take (k + 1)).length = k + 1 := by rw [List.length_take]; omega
  have h' := h
  rw [← List.take_append_drop (k + 1) l] at h'
  have h2 := okL_app.1 h'
  have h3 := h2.1
  rw [List.take_succ_eq_append_getElem hk] at h3
  have h4 := okL_app.1 h3
  have e : bhdL B0 (l.take (k + 1)) = bhd (bhdL B0 (l.take k)) l[k] := by rw [List.take_succ_eq_append_getElem hk, bhdL_app]; rfl
  have h5 := brk_twice h4.2.1 h1
  rw [chkV_small (by rw [List.length_append, hl, List.length_drop]; omega), readL_ok h2.1, hl, Nat.zero_add, List.drop_eq_getElem_cons hk, e, readL, h5]; rfl

/-! ### Another answer -/
theorem brk_other {b : Book} {m : api_Mark} {o : api_Outcome} (h : brk b m = 0) (hk : m.gKind = 4) (ho : o ≠ m.gOutcome) : brk b { m with gOutcome := o } = 1 ∨ brk b { m with gOutcome := o } = 7 := by
  obtain ⟨hg, hstep⟩ := brk_none h
  have hs : stepB m = true := step_of hk (by decide) (by decide)
  obtain ⟨hh, hr⟩ := hstep hs
  have hs' : stepB { m with gOutcome := o } = true := hs
  have hh' : haltB (ofT b m.gTask) { m with gOutcome := o } = false := hh
  obtain ⟨h4, h5⟩ := rule4 hr hk
  unfold brk
  by_cases hx : (notB (markB { m with gOutcome := o }) || ltI ({ m with gOutcome := o } : api_Mark).gAt b.gAt) = true
  · left; rw [if_pos hx]
  · right
    rw [if_neg hx, hs', if_neg (by decide)]
    show (if haltB (ofT b m.gTask) { m with gOutcome := o } = true then 3 else ruleR b { m with gOutcome := o } (ofT b m.gTask) (genM m)) = 7
    rw [hh', if_neg (by decide)]
    unfold ruleR
    have hk' : ({ m with gOutcome := o } : api_Mark).gKind = 4 := hk
    rw [hk', h4, h5, eqv_f.2 (fun e => ho e.symm)]; rfl
theorem chk_other {l : List api_Mark} (hn : l.length ≤ 16384) (h : okL B0 l) {k : Nat} (hk : k < l.length) (h1 : l[k].gKind = 4) {o : api_Outcome} (ho : o ≠ l[k].gOutcome) :
    chkV (l.set k { l[k] with gOutcome := o }) = ⟨1, (k : Int)⟩ ∨ chkV (l.set k { l[k] with gOutcome := o }) = ⟨7, (k : Int)⟩ := by
  have hl : (l.take k).length = k := by rw [List.length_take]; omega
  have h' := h
  rw [← List.take_append_drop k l, List.drop_eq_getElem_cons hk] at h'
  have h2 := okL_app.1 h'
  have e : l.set k { l[k] with gOutcome := o } = l.take k ++ { l[k] with gOutcome := o } :: l.drop (k + 1) := by
    rw [List.set_eq_take_append_cons_drop, if_pos hk]
  rw [chkV_small (by rw [List.length_set]; omega), e, readL_ok h2.1, hl, Nat.zero_add, readL]
  rcases brk_other h2.2.1 h1 ho with hb | hb
  · left; rw [hb]; rfl
  · right; rw [hb]; rfl

/-! ### What has no begin -/
theorem ofT_tasks {b bb : Book} (h : bb.gTasks = b.gTasks) (n : Int) : ofT bb n = ofT b n := by unfold ofT; rw [h]
theorem stk_with {b bb : Book} {m : api_Mark} {t : Task} {n : Int} {g : Gen} {P : Prop} (h : g ∈ (ofT (withT bb t) n).gStack) (hT : bb.gTasks = b.gTasks) (hn : t.gNumber = m.gTask) (ht : g ∈ t.gStack → g ∈ (tk b m).gStack ∨ P) : g ∈ (ofT b n).gStack ∨ P := by
  rw [ofT_withT] at h
  split at h
  · rename_i e
    have e : m.gTask = n := hn.symm.trans e
    subst e; exact ht h
  · rw [ofT_tasks hT] at h; exact Or.inl h
theorem stk_next {b : Book} {m : api_Mark} {n : Int} {g : Gen} (h : g ∈ (ofT (bhd b m) n).gStack) : g ∈ (ofT b n).gStack ∨ (m.gKind = 1 ∧ genM m = g) := by
  by_cases hs : stepB m = true
  rotate_left
  · rw [bhd_not (Bool.eq_false_iff.2 hs)] at h; exact Or.inl h
  have hn := ofT_number b m.gTask
  rcases step_kind hs with hk | hk | hk | hk | hk | hk | hk | hk | hk | hk
  · rw [bhd1 b m hk] at h
    refine stk_with (m := m) h (putC_tasks _ _).1 hn (fun hg => ?_)
    rcases List.mem_append.1 hg with hg | hg
    · exact Or.inl hg
    · exact Or.inr ⟨hk, (List.mem_singleton.1 hg).symm⟩
  · rw [bhd2 b m hk] at h
    exact stk_with (m := m) h ((toldB_tasks _ _ _).1.trans (putC_tasks _ _).1) hn (fun hg => Or.inl (List.dropLast_subset _ hg))
  · rw [bhd3 b m hk] at h; exact stk_with (m := m) h rfl hn Or.inl
  · rw [bhd4 b m hk] at h; exact stk_with (m := m) h (toldB_tasks _ _ _).1 hn Or.inl
  · rw [bhd9 b m hk] at h; exact stk_with (m := m) h rfl hn Or.inl
  · rw [bhd10 b m hk] at h; exact stk_with (m := m) h rfl hn Or.inl
  · rw [bhd11 b m hk] at h; exact stk_with (m := m) h rfl hn Or.inl
  · rw [bhd12 b m hk] at h; exact stk_with (m := m) h rfl hn Or.inl
  · rw [bhd13 b m hk] at h; exact stk_with (m := m) h (putC_tasks _ _).1 hn Or.inl
  · rw [bhd_other b m hk] at h; exact stk_with (m := m) h rfl hn Or.inl
theorem stk_begun : ∀ {l : List api_Mark} {b : Book} {n : Int} {g : Gen}, g ∈ (ofT (bhdL b l) n).gStack → g ∈ (ofT b n).gStack ∨ ∃ m ∈ l, m.gKind = 1 ∧ genM m = g
  | [], _, _, _, h => Or.inl h
  | m :: l, b, n, g, h => by
    rcases stk_begun (l := l) h with h | ⟨m', hm, h⟩
    · rcases stk_next h with h | h
      · exact Or.inl h
      · exact Or.inr ⟨m, List.mem_cons_self .., h⟩
    · exact Or.inr ⟨m', List.mem_cons_of_mem _ hm, h⟩

/-- No generation is less. -/
def SimG (b bb : Book) : Prop := ∀ s n c, lk b s n = some c → ∃ c', lk bb s n = some c' ∧ c.gGen ≤ c'.gGen
theorem SimG.refl (b : Book) : SimG b b := fun _ _ c h => ⟨c, h, Int.le_refl _⟩
theorem SimG.trans {a b c : Book} (h1 : SimG a b) (h2 : SimG b c) : SimG a c := fun s n x hx => by
  obtain ⟨y, hy, e1⟩ := h1 s n x hx
  obtain ⟨z, hz, e2⟩ := h2 s n y hy
  exact ⟨z, hz, Int.le_trans e1 e2⟩
theorem SimG.of {b bb : Book} (h : Sim b bb) : SimG b bb := fun s n c hc => by
  obtain ⟨c', h1, _, h2, _⟩ := h s n c hc
  exact ⟨c', h1, by rw [h2]; exact Int.le_refl _⟩
theorem SimG.put {b : Book} {c' : Cell} (h : ∀ c, lk b c'.gScope c'.gName = some c → c.gGen ≤ c'.gGen) : SimG b (putC b c') := by
  intro s n d hd
  rw [lk_putC]
  split
  · rename_i e
    rw [← e.1, ← e.2] at hd
    exact ⟨c', rfl, h d hd⟩
  · exact ⟨d, hd, Int.le_refl _⟩
theorem SimG.with {b bb : Book} (h : SimG b bb) (t : Task) : SimG b (withT bb t) := fun s n c hc => by rw [lk_with]; exact h s n c hc
theorem SimG.next {b : Book} {m : api_Mark} (hI : Inv b) (h2 : Inv2 b) (h : brk b m = 0) : SimG b (bhd b m) := by
  obtain ⟨hg, hstep⟩ := brk_none h
  by_cases hs : stepB m = true
  rotate_left
  · rw [bhd_not (Bool.eq_false_iff.2 hs)]; exact SimG.refl b
  obtain ⟨hh, hr⟩ := hstep hs
  rcases step_kind hs with hk | hk | hk | hk | hk | hk | hk | hk | hk | hk
  · rw [bhd1 b m hk]
    refine SimG.with (SimG.put (b := atB b m) fun c hc => ?_) _
    have hc : lk b m.gScope m.gName = some c := hc
    have r := rule1 hr hk
    simp only [Bool.or_eq_false_iff] at r
    have hgen := eqI_t.1 (notB_f.1 r.1.2)
    rw [hc, Option.getD_some] at hgen
    have hb := h2.rng _ _ c hc
    rw [addW_id (by omega) (by omega)] at hgen
    show c.gGen ≤ m.gGen
    omega
  · rw [bhd2 b m hk]
    obtain ⟨hp, htop, _⟩ := rule2 hr hk
    have htm := top_mem hp
    rw [htop] at htm
    obtain ⟨c, hc, hcr, hcg, hct⟩ := hI.stk m.gTask (genM m) htm
    have hc : lk b m.gScope m.gName = some c := hc
    have hcm : cm b m = c := by unfold cm; rw [hc]; rfl
    have hck := lk_key hc
    rw [hcm]
    refine SimG.with (SimG.trans (b := { putC (atB b m) { c with gRuns := false, gOut := m.gOutcome } with gEnds := b.gEnds ++ [⟨genM m, m.gOutcome⟩] }) ?_ (SimG.of (Sim.told _ _ _))) _
    refine SimG.put (b := atB b m) (c' := { c with gRuns := false, gOut := m.gOutcome }) fun d hd => ?_
    have hd : lk b c.gScope c.gName = some d := hd
    rw [hck.1, hck.2, hc] at hd
    cases hd; exact Int.le_refl _
  · rw [bhd3 b m hk]; exact SimG.with (bb := atB b m) (SimG.refl b) _
  · rw [bhd4 b m hk]; exact (SimG.of (Sim.told (atB b m) _ _)).with _
  · rw [bhd9 b m hk]; exact SimG.with (bb := atB b m) (SimG.refl b) _
  · rw [bhd10 b m hk]; exact SimG.with (bb := atB b m) (SimG.refl b) _
  · rw [bhd11 b m hk]; exact SimG.with (bb := atB b m) (SimG.refl b) _
  · rw [bhd12 b m hk]; exact SimG.with (bb := atB b m) (SimG.refl b) _
  · rw [bhd13 b m hk]
    obtain ⟨c, hc⟩ := shuts_some hI hh hr hk
    have hcm : cm b m = c := by unfold cm; rw [hc]; rfl
    rw [hcm]
    have hck := lk_key hc
    refine SimG.with (SimG.put (b := atB b m) fun d hd => ?_) _
    have hd : lk b c.gScope c.gName = some d := hd
    rw [hck.1, hck.2, hc] at hd
    cases hd; exact Int.le_refl _
  · rw [bhd_other b m hk]; exact SimG.with (bb := atB b m) (SimG.refl b) _
theorem SimG.list : ∀ {l : List api_Mark} {b : Book}, okL b l → Inv b → Inv2 b → SimG b (bhdL b l)
  | [], b, _, _, _ => SimG.refl b
  | _ :: l, _, h, h1, h2 => (SimG.next h1 h2 h.1).trans (SimG.list (l := l) h.2 (h1.next h.1) (Inv2.next h1 h2 h.1))

theorem begin_once {A M R : List api_Mark} {x y : api_Mark} (h : okL B0 (A ++ x :: (M ++ y :: R))) (hx : x.gKind = 1) (hy : y.gKind = 1) (he : genM x = genM y) : False := by
  obtain ⟨hA, h1, h2⟩ := okL_app.1 h
  obtain ⟨hM, h3, _⟩ := okL_app.1 h2
  obtain ⟨i1, i2⟩ := invs_of hA inv0 inv20
  have j1 := i1.next h1
  have j2 := Inv2.next i1 i2 h1
  obtain ⟨k1, k2⟩ := invs_of hM j1 j2
  obtain ⟨c, hc, hle⟩ := SimG.list hM j1 j2 _ _ _ (lk_bhd1 _ x hx)
  have hle : x.gGen ≤ c.gGen := hle
  obtain ⟨_, hstep⟩ := brk_none h3
  obtain ⟨_, hr⟩ := hstep (step_of hy (by decide) (by decide))
  have r := rule1 hr hy
  simp only [Bool.or_eq_false_iff] at r
  have hgen := eqI_t.1 (notB_f.1 r.1.2)
  injection he with e1 e2 e3
  rw [← e1, ← e2, hc, Option.getD_some] at hgen
  have hb := k2.rng _ _ c hc
  rw [addW_id (by omega) (by omega)] at hgen
  omega
theorem end_begun {A : List api_Mark} {y : api_Mark} (h : okL B0 (A ++ [y])) (hy : y.gKind = 2) : ∃ m ∈ A, m.gKind = 1 ∧ genM m = genM y := by
  obtain ⟨hA, h1, _⟩ := okL_app.1 h
  obtain ⟨_, hstep⟩ := brk_none h1
  obtain ⟨_, hr⟩ := hstep (step_of hy (by decide) (by decide))
  obtain ⟨hp, htop, _⟩ := rule2 hr hy
  have htm := top_mem hp
  rw [htop] at htm
  rcases stk_begun htm with h | h
  · exact absurd h List.not_mem_nil
  · exact h
theorem chk_lacks {l : List api_Mark} (hn : l.length ≤ 16384) (h : okL B0 l) {k e : Nat} (hk : k < l.length) (he : e < l.length) (h1 : l[k].gKind = 1) (h2 : l[e].gKind = 2) (hg : genM l[e] = genM l[k]) :
    ∃ (r : Int) (j : Nat), 0 < r ∧ j < e ∧ chkV (l.take k ++ l.drop (k + 1)) = ⟨r, j⟩ := by
  have hl : l = l.take k ++ l[k] :: l.drop (k + 1) := by rw [← List.drop_eq_getElem_cons hk, List.take_append_drop]
  have hke : k < e := by
    rcases Nat.lt_trichotomy k e with h' | h' | h'
    · exact h'
    · subst h'; rw [h1] at h2; exact absurd h2 (by decide)
    · exfalso
      have ha : okL B0 (l.take e ++ [l[e]]) := by
        rw [← List.take_succ_eq_append_getElem he]
        have := h
        rw [← List.take_append_drop (e + 1) l] at this
        exact (okL_app.1 this).1
      obtain ⟨m, hm, m1, m2⟩ := end_begun ha h2
      have hm : m ∈ l.take k := List.mem_of_mem_take (i := e) (by rw [List.take_take, Nat.min_eq_left (by omega)]; exact hm)
      obtain ⟨s, t, hst⟩ := List.append_of_mem hm
      rw [hl, hst, List.append_assoc, List.cons_append] at h
      exact begin_once h m1 h1 (m2.trans hg)
  have hd : (l.drop (k + 1))[e - k - 1]? = some l[e] := by
    rw [List.getElem?_drop, show k + 1 + (e - k - 1) = e by omega]
    exact List.getElem?_eq_getElem he
  have hT : l.drop (k + 1) = (l.drop (k + 1)).take (e - k - 1) ++ l[e] :: l.drop (e + 1) := by
    have hlt : e - k - 1 < (l.drop (k + 1)).length := by rw [List.length_drop]; omega
    have e1 : (l.drop (k + 1))[e - k - 1] = l[e] := by
      rw [List.getElem?_eq_getElem hlt] at hd
      exact Option.some.inj hd
    have e2 : l.drop (e + 1) = (l.drop (k + 1)).drop (e - k - 1 + 1) := by rw [List.drop_drop]; congr 1; omega
    rw [e2, ← e1, ← List.drop_eq_getElem_cons hlt, List.take_append_drop]
  have hnew : l.take k ++ l.drop (k + 1) = ((l.take k ++ (l.drop (k + 1)).take (e - k - 1)) ++ [l[e]]) ++ l.drop (e + 1) := by
    rw [List.append_assoc, List.append_assoc]
    exact congrArg (l.take k ++ ·) hT
  have hlen : ((l.take k ++ (l.drop (k + 1)).take (e - k - 1)) ++ [l[e]]).length = e := by
    simp only [List.length_append, List.length_take, List.length_drop, List.length_singleton]; omega
  rw [chkV_small (by simp only [List.length_append, List.length_take, List.length_drop]; omega), hnew]
  by_cases ho : okL B0 ((l.take k ++ (l.drop (k + 1)).take (e - k - 1)) ++ [l[e]])
  · exfalso
    obtain ⟨m, hm, m1, m2⟩ := end_begun ho h2
    rcases List.mem_append.1 hm with hm | hm
    · obtain ⟨s, t, hst⟩ := List.append_of_mem hm
      rw [hl, hst, List.append_assoc, List.cons_append] at h
      exact begin_once h m1 h1 (m2.trans hg)
    · obtain ⟨s, t, hst⟩ := List.append_of_mem hm
      rw [hl, hT, hst, List.append_assoc, List.cons_append] at h
      exact begin_once h h1 m1 (m2.trans hg).symm
  · obtain ⟨r, j, r1, _, r3, r4⟩ := readL_bad (i := 0) ho
    rw [hlen] at r3
    exact ⟨r, j, r1, by omega, r4 _⟩
end Go.Proofs.YtikcopbjconkfaaDoor.V
