/- LEMMAS: what functions answer, and what is true of it. Conditions: none. -/
import Derived.Test.YtikcopbjconkfaaDoorL1
import Derived.Test.YtikcopbjconkfaaDoorW2
import Derived.Test.YtikcopbjconkfaaDoorA34
import Derived.Test.YtikcopbjconkfaaDoorRows
import Derived.LaidMore
set_option maxRecDepth 4000
set_option linter.unusedSectionVars false
namespace Go.Proofs.YtikcopbjconkfaaDoor.V
set_option linter.unusedVariables false
set_option linter.unusedSimpArgs false
open Go Go.Abs

/-- A place out of a map is a place. -/
theorem Runs.opt {f : FuncId} {args : List (C U)} {H : List (O U)} {post post' : C U → List (O U) → Prop} (h : Runs K f args H post)
    (hp : ∀ c H', post c H' → post' c H' ∨ ∃ n, c = .optr (some n) ∧ post' (.ptr (.g n) 0) H') : Runs K f args H post' := fun w F pl vs ho hm hr =>
  (h w F pl vs ho hm hr).mono fun _ _ ⟨v, he, c, H', F', pl', own, hq, hf⟩ => by
    refine ⟨v, he, ?_⟩
    rcases hp c H' hq with h1 | ⟨n, rfl, h1⟩
    · exact ⟨c, H', F', pl', own, h1, hf⟩
    · exact ⟨_, H', F', pl', own, h1, ⟨hf.rep, hf.mem, hf.fr, hf.nodup, hf.hok, hf.mine⟩⟩

abbrev kC : audit_cell → audit_cell → Bool := fun x y => andB (eqI x.1 y.1) (andB (strEq x.2 y.2) true)
abbrev kG : audit_generation → audit_generation → Bool := fun x y => andB (eqI x.1.1 y.1.1) (andB (strEq x.1.2 y.1.2) (andB (eqI x.2 y.2) true))
abbrev kI : Int → Int → Bool := fun x y => andB (eqI x y) true
def gG (g : Gen) : audit_generation := ⟨⟨g.gScope, g.gName⟩, g.gGen⟩
abbrev bookO (x : BookS) : O U := .cells [.d (.int .i64 x.at'), .d (.int .i64 x.acts), .mp (.g x.cells), .mp (.g x.ends), .mp (.g x.tasks)]
abbrev stateO (x : StateS) : O U := .cells [.d (.int .i64 x.gen), .d (.bool x.runs), .d (.int .i64 x.task), .d (.int .i64 x.out.gKind), .d (.sl .api_Atom x.out.gValue), .d (.sl .api_Crack x.out.gFail), .d (.bool x.shut), .asl (.g x.used) x.usedG x.usedS false, .d (.int .i64 x.put)]
abbrev stateC (x : StateS) : C U := .agg [.d (.int .i64 x.gen), .d (.bool x.runs), .d (.int .i64 x.task), .d (.int .i64 x.out.gKind), .d (.sl .api_Atom x.out.gValue), .d (.sl .api_Crack x.out.gFail), .d (.bool x.shut), .asl (.g x.used) x.usedG x.usedS false, .d (.int .i64 x.put)]
abbrev taskO (x : TaskS) : O U := .cells [.asl (.g x.stack) x.stackG x.stackS false, .d (.bool x.waits), .d (.bool x.stops), .d (.int .i64 x.on.gCell.gScope), .d (.str x.on.gCell.gName), .d (.int .i64 x.on.gGen), .d (.bool x.left), .d (.bool x.done), .mp (.g x.shut)]
abbrev mapC (es : List (audit_cell × Option Nat)) : O U := .map (true, false) .audit_cell .ptr es
abbrev mapE (es : List (audit_generation × api_Outcome)) : O U := .map (true, true) .audit_generation (.pure .api_Outcome) es
abbrev mapT (es : List (Int × Option Nat)) : O U := .map (false, false) .int .ptr es
abbrev mapS (es : List (audit_generation × Int)) : O U := .map (true, false) .audit_generation (.pure .int) es
abbrev arrG (n : Nat) (xs : List audit_generation) : O U := .arr n (.pure .audit_generation) xs

theorem kC_iff {x y : audit_cell} : kC x y = true ↔ x = y := by
  obtain ⟨a, b⟩ := x
  obtain ⟨a', b'⟩ := y
  simp only [kC, andB_true, eqI_t, strEq_iff', and_true, audit_cell.mk.injEq]
theorem kG_iff {x y : audit_generation} : kG x y = true ↔ x = y := by
  obtain ⟨⟨a, b⟩, c⟩ := x
  obtain ⟨⟨a', b'⟩, c'⟩ := y
  simp only [kG, andB_true, eqI_t, strEq_iff', and_true, audit_generation.mk.injEq, audit_cell.mk.injEq, and_assoc]
theorem kI_iff {x y : Int} : kI x y = true ↔ x = y := by simp only [kI, andB_true, eqI_t, and_true]
theorem gG_inj {x y : Gen} : gG x = gG y ↔ x = y := by
  obtain ⟨a, b, c⟩ := x
  obtain ⟨a', b', c'⟩ := y
  simp only [gG, audit_generation.mk.injEq, audit_cell.mk.injEq, oncewebref26_Gen.mk.injEq, and_assoc]
theorem kG_gG {x y : Gen} : kG (gG x) (gG y) = genB x y := rfl

/-! ### Maps -/
section
variable {κ α : Type} {eq : κ → κ → Bool} (he : ∀ x y, eq x y = true ↔ x = y)
include he
theorem eq_f {x y : κ} (h : x ≠ y) : eq x y = false := by
  rw [Bool.eq_false_iff]; exact fun e => h ((he x y).1 e)
theorem findK_upd {k : κ} {x : α} : ∀ (es : List (κ × α)), findK eq k (updK eq k x es) = some x
  | [] => by simp [findK, updK, (he k k).2 rfl]
  | e :: es => by
    by_cases h : eq k e.1 = true
    · simp [findK, updK, h, (he k k).2 rfl]
    · have ih := findK_upd (k := k) (x := x) es
      have h := Bool.eq_false_iff.2 h
      simp only [findK, updK, h] at ih ⊢
      simpa [h] using ih
theorem findK_upd_ne {k k' : κ} {x : α} (hne : k' ≠ k) : ∀ (es : List (κ × α)), findK eq k' (updK eq k x es) = findK eq k' es
  | [] => by simp [findK, updK, eq_f he hne]
  | e :: es => by
    have ih := findK_upd_ne (x := x) hne es
    by_cases h : eq k e.1 = true
    · have := (he _ _).1 h
      subst this
      simp [findK, updK, h, eq_f he hne]
    · have h := Bool.eq_false_iff.2 h
      simp only [findK, updK, h] at ih ⊢
      by_cases h' : eq k' e.1 = true
      · simp [h']
      · have h' := Bool.eq_false_iff.2 h'
        simpa [h'] using ih
omit he in
theorem updK_len_none {k : κ} {x : α} : ∀ {es : List (κ × α)}, findK eq k es = none → (updK eq k x es).length = es.length + 1
  | [], _ => rfl
  | e :: es, h => by
    have h1 : eq k e.1 = false := by
      cases hb : eq k e.1 with
      | false => rfl
      | true => simp [findK, hb] at h
    have h2 : findK eq k es = none := by simpa [findK, h1] using h
    simp [updK, h1, updK_len_none h2]
omit he in
theorem updK_len_some {k : κ} {x : α} : ∀ {es : List (κ × α)}, (findK eq k es).isSome → (updK eq k x es).length = es.length
  | [], h => by simp [findK] at h
  | e :: es, h => by
    cases hb : eq k e.1 with
    | true => simp [updK, hb]
    | false =>
      have h2 : (findK eq k es).isSome := by simpa [findK, hb] using h
      simp [updK, hb, updK_len_some h2]
end

/-! ### Memory -/
def Ext (H H' : List (O U)) : Prop := ∀ n o, obj H n = some o → obj H' n = some o
theorem Ext.refl (H : List (O U)) : Ext H H := fun _ _ h => h
theorem Ext.trans {H H' H'' : List (O U)} (h : Ext H H') (h' : Ext H' H'') : Ext H H'' := fun n o x => h' n o (h n o x)
/-- Objects of one's own that a book has nothing of: two cells at most. -/
def big : O U → Bool
  | .cells cs => decide (2 < cs.length)
  | _ => true
def ExtB (H H' : List (O U)) : Prop := ∀ n o, big o = true → obj H n = some o → obj H' n = some o
theorem Ext.big {H H' : List (O U)} (h : Ext H H') : ExtB H H' := fun n o _ x => h n o x
theorem ExtB.refl (H : List (O U)) : ExtB H H := fun _ _ _ h => h
theorem ExtB.trans {H H' H'' : List (O U)} (h : ExtB H H') (h' : ExtB H' H'') : ExtB H H'' := fun n o b x => h' n o b (h n o b x)
theorem obj_push_lt {H : List (O U)} {o : O U} {n : Nat} (h : n < lenO H) : obj (pushO H o) n = obj H n := by
  unfold obj pushO; exact List.getElem?_append_left h
theorem obj_push {H : List (O U)} {o : O U} : obj (pushO H o) (lenO H) = some o := by
  unfold obj pushO lenO; simp
theorem obj_len {H : List (O U)} {n : Nat} {o : O U} (h : obj H n = some o) : n < lenO H := (List.getElem?_eq_some_iff.1 h).1
theorem Ext.push (H : List (O U)) (o : O U) : Ext H (pushO H o) := fun n x h => by rw [obj_push_lt (obj_len h)]; exact h
theorem obj_upd {H : List (O U)} {n : Nat} {o o' : O U} (h : obj H n = some o') : obj (updO H n o) n = some o := by
  unfold obj updO
  have := obj_len h
  unfold lenO at this
  simp [this]
theorem obj_upd_ne {H : List (O U)} {n m : Nat} {o : O U} (h : m ≠ n) : obj (updO H n o) m = obj H m := by
  unfold obj updO
  rw [List.getElem?_set_ne (fun e => h e.symm)]

theorem ExtB.upd {H : List (O U)} {n : Nat} {o o' : O U} (h : obj H n = some o) (hb : big o = false) : ExtB H (updO H n o') := fun m x hx h' => by
  have : m ≠ n := fun e => by subst e; rw [h] at h'; cases h'; rw [hb] at hx; cases hx
  rw [obj_upd_ne this]; exact h'

/-- What a slice of memory says. -/
structure RowsR (sub : Option (Nat × Nat)) (xs : List audit_generation) (l : List Gen) : Prop where
  off : subOff sub = 0
  fit : subFit sub xs.length = true
  rows : subRows sub xs = l.map gG
theorem RowsR.len {sub : Option (Nat × Nat)} {xs : List audit_generation} {l : List Gen} (h : RowsR sub xs l) : subLen sub xs.length = l.length := by
  obtain ⟨h1, h2, h3⟩ := h
  have h3 := congrArg List.length h3
  rw [List.length_map] at h3
  rw [← h3]
  cases sub with
  | none => rfl
  | some x =>
    obtain ⟨o, n⟩ := x
    have : o = 0 := h1
    subst this
    have : 0 + n ≤ xs.length := of_decide_eq_true h2
    show n = (List.take n xs).length
    rw [List.length_take]; omega
theorem RowsR.at {sub : Option (Nat × Nat)} {xs : List audit_generation} {l : List Gen} (h : RowsR sub xs l) {i : Nat} (hi : i < l.length) : ltN (addN (subOff sub) i) (lenL xs) = true ∧ ∀ d, rdN d xs (addN (subOff sub) i) = gG l[i] := by
  have hx : xs[i]? = some (gG l[i]) := by
    obtain ⟨h1, h2, h3⟩ := h
    have e : (l.map gG)[i]? = some (gG l[i]) := by simp [hi]
    rw [← h3] at e
    cases sub with
    | none => exact e
    | some x =>
      obtain ⟨o, n⟩ := x
      have e : (xs.take n)[i]? = some (gG l[i]) := e
      rw [List.getElem?_take] at e
      split at e
      · exact e
      · cases e
  have ho : addN (subOff sub) i = i := by rw [h.off]; simp [addN]
  rw [ho]
  exact ⟨ltN_t (List.getElem?_eq_some_iff.1 hx).1, fun d => rdN_some hx⟩
theorem RowsR.nil : RowsR none [] [] := ⟨rfl, rfl, rfl⟩
theorem RowsR.push {sub : Option (Nat × Nat)} {xs : List audit_generation} {l : List Gen} (h : RowsR sub xs l) (g : Gen) : RowsR none (appL (subRows sub xs) [gG g]) (l ++ [g]) := by
  refine ⟨rfl, rfl, ?_⟩
  rw [h.rows, List.map_append]; rfl

structure StR (H : List (O U)) (x : StateS) (c : Cell) : Prop where
  arr : ∃ xs, obj H x.used = some (arrG x.usedG xs) ∧ RowsR x.usedS xs c.gUsed
  gen : x.gen = c.gGen
  runs : x.runs = c.gRuns
  task : x.task = c.gTask
  out : x.out = c.gOut
  shut : x.shut = c.gShut
structure ShutR (sm : List (audit_generation × Int)) (l : List Gen) : Prop where
  any : ∀ g, ltI 0 (getO' (0 : Int) (findK kG (gG g) sm)) = l.any fun s => genB g s
  le : ∀ k v, findK kG k sm = some v → 0 ≤ v ∧ v ≤ l.length
structure TkR (H : List (O U)) (x : TaskS) (t : Task) : Prop where
  arr : ∃ xs, obj H x.stack = some (arrG x.stackG xs) ∧ RowsR x.stackS xs t.gStack
  waits : x.waits = t.gWaits
  stops : x.stops = t.gStops
  on : x.on = gG t.gFor
  left : x.left = t.gLeft
  done : x.done = t.gDone
  shut : ∃ sm, obj H x.shut = some (mapS sm) ∧ ShutR sm t.gShut
theorem StR.ext {H H' : List (O U)} {x : StateS} {c : Cell} (h : StR H x c) (e : ExtB H H') : StR H' x c :=
  ⟨let ⟨xs, h1, h2⟩ := h.arr; ⟨xs, e _ _ rfl h1, h2⟩, h.gen, h.runs, h.task, h.out, h.shut⟩
theorem TkR.ext {H H' : List (O U)} {x : TaskS} {t : Task} (h : TkR H x t) (e : ExtB H H') : TkR H' x t :=
  ⟨let ⟨xs, h1, h2⟩ := h.arr; ⟨xs, e _ _ rfl h1, h2⟩, h.waits, h.stops, h.on, h.left, h.done, let ⟨xs, h1, h2⟩ := h.shut; ⟨xs, e _ _ rfl h1, h2⟩⟩

abbrev Key := Sum (Int × ByteArray) Int
/-- The book stands in memory. -/
structure Rp (own : Nat → Option Key) (H : List (O U)) (p : Nat) (b : Book) (x : BookS) (es : List (audit_cell × Option Nat)) (ee : List (audit_generation × api_Outcome)) (et : List (Int × Option Nat)) : Prop where
  book : obj H p = some (bookO x)
  at' : x.at' = b.gAt
  acts : x.acts = b.gActs
  mc : obj H x.cells = some (mapC es)
  me : obj H x.ends = some (mapE ee)
  mt : obj H x.tasks = some (mapT et)
  len : es.length = b.gCells.length
  cellN : ∀ s n, lk b s n = none → findK kC ⟨s, n⟩ es = none
  cellS : ∀ s n c, lk b s n = some c → ∃ q y, findK kC ⟨s, n⟩ es = some (some q) ∧ obj H q = some (stateO y) ∧ StR H y c ∧ own q = some (.inl (s, n)) ∧ own y.used = some (.inl (s, n))
  ends : ∀ g, findK kG (gG g) ee = endO b g
  oB : own p = none
  oC : own x.cells = none
  oE : own x.ends = none
  oT : own x.tasks = none
  taskN : ∀ n, b.gTasks.find? (isT n) = none → findK kI n et = none
  taskS : ∀ n t, b.gTasks.find? (isT n) = some t → ∃ q y, findK kI n et = some (some q) ∧ obj H q = some (taskO y) ∧ TkR H y t ∧ own q = some (.inr n) ∧ own y.stack = some (.inr n) ∧ own y.shut = some (.inr n)
theorem Rp.ext {own : Nat → Option Key} {H H' : List (O U)} {p : Nat} {b : Book} {x : BookS} {es : List (audit_cell × Option Nat)} {ee : List (audit_generation × api_Outcome)} {et : List (Int × Option Nat)} (h : Rp own H p b x es ee et) (e : ExtB H H') : Rp own H' p b x es ee et :=
  ⟨e _ _ rfl h.book, h.at', h.acts, e _ _ rfl h.mc, e _ _ rfl h.me, e _ _ rfl h.mt, h.len, h.cellN,
    fun s n c hc => let ⟨q, y, h1, h2, h3, h4, h5⟩ := h.cellS s n c hc; ⟨q, y, h1, e _ _ rfl h2, h3.ext e, h4, h5⟩, h.ends, h.oB, h.oC, h.oE, h.oT, h.taskN,
    fun n t ht => let ⟨q, y, h1, h2, h3, h4⟩ := h.taskS n t ht; ⟨q, y, h1, e _ _ rfl h2, h3.ext e, h4⟩⟩


theorem gives143 (m : api_Mark) : Gives 143 [markC m] (.agg [.d (.int .i64 m.gScope), .d (.str m.gName), .d (.int .i64 m.gGen)]) := e143 _ _ ⟨rfl, rfl⟩

section
variable {own : Nat → Option Key} {H : List (O U)} {p : Nat} {b : Book} {x : BookS} {es : List (audit_cell × Option Nat)} {ee : List (audit_generation × api_Outcome)} {et : List (Int × Option Nat)} (hR : Rp own H p b x es ee et)
include hR
theorem gives140 (n : Int) : ∃ q H1 y, GivesM 140 [.ptr (.g p) 0, .d (.int .i64 n)] H (.ptr (.g q) 0) H1 ∧ Ext H H1 ∧ obj H1 q = some (taskO y) ∧ TkR H1 y (ofT b n) ∧
    ((∃ t, b.gTasks.find? (isT n) = some t ∧ findK kI n et = some (some q) ∧ H1 = H ∧ own q = some (.inr n) ∧ own y.stack = some (.inr n) ∧ own y.shut = some (.inr n)) ∨
      (b.gTasks.find? (isT n) = none ∧ findK kI n et = none ∧ q = lenO H + 2 ∧ y.stack = lenO H + 1 ∧ y.shut = lenO H)) := by
  cases h : b.gTasks.find? (isT n) with
  | some t =>
    obtain ⟨q, y, h1, h2, h3, h4, h5, h6⟩ := hR.taskS n t h
    refine ⟨q, H, y, Runs.opt (post := fun c' H' => c' = (.optr (some q) : C U) ∧ H' = H) (e140 _ _ _ _ ⟨x, hR.book, et, hR.mt, ?_⟩) (fun c H' hc => Or.inr ⟨q, hc.1, rfl, hc.2⟩), Ext.refl H, h2, ?_, Or.inl ⟨t, rfl, h1, rfl, h4, h5, h6⟩⟩
    · rw [show findK (fun (x y : Int) => andB (eqI x y) true) n et = some (some q) from h1]
      exact ⟨rfl, rfl⟩
    · have : ofT b n = t := by unfold ofT; rw [h]; rfl
      rw [this]; exact h3
  | none =>
    have h1 := hR.taskN n h
    let H1 := pushO (pushO H (mapS [])) (arrG 0 [])
    let y : TaskS := ⟨lenO H + 1, 0, none, false, false, ⟨⟨0, bs []⟩, 0⟩, false, false, lenO H⟩
    have e1 : lenO (pushO H (mapS [])) = lenO H + 1 := by simp [lenO, pushO]
    have e2 : lenO H1 = lenO H + 2 := by simp [H1, lenO, pushO]
    have x1 : Ext H (pushO H (mapS [])) := Ext.push _ _
    have x2 : Ext (pushO H (mapS [])) H1 := Ext.push _ _
    have x3 : Ext H1 (pushO H1 (taskO y)) := Ext.push _ _
    refine ⟨lenO H + 2, pushO H1 (taskO y), y, e140 _ _ _ _ ⟨x, hR.book, et, hR.mt, ?_⟩, (x1.trans x2).trans x3, ?_, ?_, Or.inr ⟨rfl, h1, rfl, rfl, rfl⟩⟩
    · rw [show findK (fun (x y : Int) => andB (eqI x y) true) n et = none from h1]
      refine ⟨?_, ?_⟩
      · show (C.ptr (Rf.g (lenO H1)) 0 : C U) = _
        rw [e2]
      · show pushO H1 (.cells [.asl (.g (lenO (pushO H (mapS [])))) 0 none false, _, _, _, _, _, _, _, _]) = _
        rw [e1]
    · rw [← e2]; exact obj_push
    · have : ofT b n = newT n := by unfold ofT; rw [h]; rfl
      rw [this]
      refine ⟨⟨[], x3 _ _ ?_, RowsR.nil⟩, rfl, rfl, rfl, rfl, rfl, ⟨[], x3 _ _ (x2 _ _ obj_push), ⟨fun g => rfl, fun g v h => by cases h⟩⟩⟩
      show obj (pushO (pushO H (mapS [])) (arrG 0 [])) (lenO H + 1) = _
      rw [← e1]; exact obj_push

theorem gives185 (s : Int) (n : ByteArray) : ∃ H1 y, GivesM 185 [.ptr (.g p) 0, .agg [.d (.int .i64 s), .d (.str n)]] H (stateC y) H1 ∧ Ext H H1 ∧ StR H1 y ((lk b s n).getD C0) := by
  cases h : lk b s n with
  | some c =>
    obtain ⟨q, y, h1, h2, h3, _⟩ := hR.cellS s n c h
    refine ⟨H, y, e185 p ⟨s, n⟩ H _ ⟨x, hR.book, es, hR.mc, ?_⟩, Ext.refl H, h3⟩
    rw [show findK (fun (x y : audit_cell) => andB (eqI x.1 y.1) (andB (strEq x.2 y.2) true)) (audit_cell.mk s n) es = some (some q) from h1]
    exact and_t rfl ⟨y, h2, rfl, rfl⟩
  | none =>
    have h1 := hR.cellN s n h
    let y : StateS := ⟨0, false, 0, ⟨0, [], []⟩, false, lenO H, 0, none, 0⟩
    refine ⟨pushO H (arrG 0 []), y, e185 p ⟨s, n⟩ H _ ⟨x, hR.book, es, hR.mc, ?_⟩, Ext.push _ _, ⟨[], obj_push, RowsR.nil⟩, rfl, rfl, rfl, rfl, rfl⟩
    rw [show findK (fun (x y : audit_cell) => andB (eqI x.1 y.1) (andB (strEq x.2 y.2) true)) (audit_cell.mk s n) es = none from h1]
    exact ⟨rfl, rfl⟩
end


theorem gives202 (a b : List api_Atom) : Gives 202 [.d (.sl .api_Atom a), .d (.sl .api_Atom b)] (.d (.bool (eqv a b))) := by
  refine Runs.known fun hk _ => ?_
  have hl := known_atoms (hk _ (List.mem_cons_self ..))
  refine e202 _ _ _ (ite_w (fun h => ?_) (fun h => ?_))
  · have h := eqI_f.1 (notB_t.1 h)
    have : a ≠ b := fun e => h (by rw [e])
    rw [eqv_f.2 this]; exact ⟨rfl, rfl⟩
  · have hn : a.length = b.length := by
      have h := eqI_t.1 (notB_f.1 h)
      simp only [intN_eq, lenL_eq] at h; omega
    have loop : ∀ i, i ≤ a.length → (∀ j (h : j < a.length), j < i → a[j] = b[j]'(hn ▸ h)) → At K 202 (fun c' H' => c' = (.d (.bool (eqv a b)) : C U) ∧ H' = []) t202_4 (s202_4 a b (intN (lenL a)) i) := by
      refine upto ?_ fun i hi ih => ?_
      · intro hb
        have : a = b := List.ext_getElem hn fun j h _ => hb j h h
        rw [eqv_t.2 this]
        exact l202_4 _ _ _ _ _ (ite_f (lt_len_f (Nat.le_refl _)) ⟨rfl, rfl⟩)
      · intro hb
        refine l202_4 _ _ _ _ _ (ite_t (lt_len hi) (and_t (in_len hi) (and_t (in_len (hn ▸ hi)) ?_)))
        rw [rd_at hi, rd_at (hn ▸ hi)]
        refine ite_w (fun h => ?_) (fun h => ?_)
        · have : a ≠ b := fun e => by
            subst e
            have := notB_t.1 h
            rw [atomE_iff.2 rfl] at this; cases this
          rw [eqv_f.2 this]; exact ⟨rfl, rfl⟩
        · have h := atomE_iff.1 (notB_f.1 h)
          rw [add_one (by omega)]
          refine ih fun j hj hji => ?_
          by_cases e : j = i
          · subst e; exact h
          · exact hb j hj (by omega)
    exact loop 0 (Nat.zero_le _) fun _ _ h => absurd h (Nat.not_lt_zero _)
theorem gives203 (a b : List api_Crack) : Gives 203 [.d (.sl .api_Crack a), .d (.sl .api_Crack b)] (.d (.bool (eqv a b))) := by
  refine Runs.known fun hk _ => ?_
  have hl := known_cracks (hk _ (List.mem_cons_self ..))
  refine e203 _ _ _ (ite_w (fun h => ?_) (fun h => ?_))
  · have h := eqI_f.1 (notB_t.1 h)
    have : a ≠ b := fun e => h (by rw [e])
    rw [eqv_f.2 this]; exact ⟨rfl, rfl⟩
  · have hn : a.length = b.length := by
      have h := eqI_t.1 (notB_f.1 h)
      simp only [intN_eq, lenL_eq] at h; omega
    have loop : ∀ i, i ≤ a.length → (∀ j (h : j < a.length), j < i → a[j] = b[j]'(hn ▸ h)) → At K 203 (fun c' H' => c' = (.d (.bool (eqv a b)) : C U) ∧ H' = []) t203_4 (s203_4 a b (intN (lenL a)) i) := by
      refine upto ?_ fun i hi ih => ?_
      · intro hb
        have : a = b := List.ext_getElem hn fun j h _ => hb j h h
        rw [eqv_t.2 this]
        exact l203_4 _ _ _ _ _ (ite_f (lt_len_f (Nat.le_refl _)) ⟨rfl, rfl⟩)
      · intro hb
        refine l203_4 _ _ _ _ _ (ite_t (lt_len hi) (and_t (in_len hi) (and_t (in_len (hn ▸ hi)) ?_)))
        rw [rd_at hi, rd_at (hn ▸ hi)]
        refine ite_w (fun h => ?_) (fun h => ?_)
        · have : a ≠ b := fun e => by
            subst e
            have := notB_t.1 h
            rw [crackE_iff.2 rfl] at this; cases this
          rw [eqv_f.2 this]; exact ⟨rfl, rfl⟩
        · have h := crackE_iff.1 (notB_f.1 h)
          rw [add_one (by omega)]
          refine ih fun j hj hji => ?_
          by_cases e : j = i
          · subst e; exact h
          · exact hb j hj (by omega)
    exact loop 0 (Nat.zero_le _) fun _ _ h => absurd h (Nat.not_lt_zero _)
theorem gives188 (a b : api_Outcome) : Gives 188 [outC a, outC b] (.d (.bool (eqv a b))) := by
  have e : eqv a b = ((eqI a.1 b.1 && eqv a.2 b.2) && eqv a.3 b.3) := by
    obtain ⟨x, y, z⟩ := a
    obtain ⟨x', y', z'⟩ := b
    rw [Bool.eq_iff_iff]
    simp only [Bool.and_eq_true, eqv_t, eqI_t, api_Outcome.mk.injEq, and_assoc]
  rw [e]
  exact e188 _ _ _ (and_of (fun _ => ⟨_, gives202 _ _, rfl⟩) (and_of (fun _ => ⟨_, gives203 _ _, rfl⟩) ⟨rfl, rfl⟩))

/-- May a task that waits do it? -/
def mayB (t : Task) (m : api_Mark) : Bool :=
  if t.gWaits then (if eqI m.gKind 4 then genB (genM m) t.gFor else false)
  else if t.gStops then (if eqI m.gKind 10 then strEq m.gName t.gFor.gName else if eqI m.gKind 9 then strEq m.gName t.gFor.gName else false) else true

theorem may_halt {t : Task} {m : api_Mark} (hw : t.gWaits = true → t.gStops = false) : haltB t m = (t.gDone || (notB (eqI m.gKind 12) && notB (mayB t m))) := by
  unfold haltB mayB
  have h49 : eqI m.gKind 4 = true → eqI m.gKind 12 = false := fun h => by rw [eqI_t.1 h]; rfl
  cases h1 : t.gDone <;> cases h2 : t.gWaits <;> cases h3 : t.gStops <;> cases h4 : eqI m.gKind 4 <;> cases h5 : eqI m.gKind 12 <;> cases h6 : eqI m.gKind 10 <;> cases h7 : eqI m.gKind 9 <;>
    cases h8 : genB (genM m) t.gFor <;> cases h9 : strEq m.gName t.gFor.gName <;> simp_all [notB]

section
variable {H : List (O U)} {q : Nat} {y : TaskS} {t : Task} (hq : obj H q = some (taskO y)) (hT : TkR H y t)
include hq hT
theorem gives141 (m : api_Mark) : GivesM 141 [.ptr (.g q) 0, markC m] H (.d (.bool (mayB t m))) H := by
  have hon := hT.on
  unfold mayB
  refine e141 _ _ _ _ ⟨y, hq, ?_⟩
  rw [hT.waits]
  refine ite_w (fun h => ite_w (fun h4 => ?_) (fun h4 => ?_)) (fun h => ⟨y, hq, ?_⟩)
  · simp only [h, h4, if_true]
    refine ⟨gG (genM m), gives143 m, y, hq, ?_⟩
    rw [hon]; exact ⟨rfl, rfl⟩
  · simp only [h, h4, if_true]; exact ⟨rfl, rfl⟩
  · rw [hT.stops]
    simp only [h]
    refine ite_w (fun h1 => ite_w (fun h2 => ⟨y, hq, ?_⟩) (fun h2 => ite_w (fun h3 => ⟨y, hq, ?_⟩) (fun h3 => ?_))) (fun h1 => ?_)
    · rw [hon]; simp only [h1, h2]; exact ⟨rfl, rfl⟩
    · rw [hon]; simp only [h1, h2, h3]; exact ⟨rfl, rfl⟩
    · simp only [h1, h2, h3]; exact ⟨rfl, rfl⟩
    · simp only [h1]; exact ⟨rfl, rfl⟩

/-- How long the stack is. -/
theorem stack_len : ∃ xs, obj H y.stack = some (arrG y.stackG xs) ∧ RowsR y.stackS xs t.gStack ∧ intN (subLen y.stackS (lenL xs)) = intN (lenL t.gStack) := by
  obtain ⟨xs, h1, h2⟩ := hT.arr
  refine ⟨xs, h1, h2, ?_⟩
  rw [lenL_eq, h2.len, lenL_eq]
end

section
variable {own : Nat → Option Key} {H : List (O U)} {p : Nat} {b : Book} {x : BookS} {es : List (audit_cell × Option Nat)} {ee : List (audit_generation × api_Outcome)} {et : List (Int × Option Nat)} (hR : Rp own H p b x es ee et)
variable {q : Nat} {y : TaskS} {t : Task} (hq : obj H q = some (taskO y)) (hT : TkR H y t) (m : api_Mark)
include hR hq hT

theorem gives168 : ∃ H1, GivesM 168 [.ptr (.g p) 0, markC m, .ptr (.g q) 0] H (.d (.bool (((notB (cm b m).gRuns && notB (cm b m).gShut) && eqI m.gGen (addW .i64 (cm b m).gGen 1)) && ltI (intN (lenL t.gStack)) 48))) H1 ∧ Ext H H1 := by
  obtain ⟨H1, z, h1, h2, h3⟩ := gives185 hR m.gScope m.gName
  refine ⟨H1, e168 _ _ _ _ _ ⟨gG (genM m), gives143 m, z, H1, h1, ?_⟩, h2⟩
  rw [h3.runs, h3.shut, h3.gen]
  refine and_of (fun _ => rfl) (and_of (fun _ => rfl) (and_of (fun _ => ?_) ⟨rfl, rfl⟩))
  obtain ⟨xs, i1, _, i2⟩ := stack_len hq hT
  exact ⟨y, h2 _ _ hq, xs, h2 _ _ i1, by rw [i2]⟩
theorem gives170 : ∃ H1, GivesM 170 [.ptr (.g p) 0, markC m, .ptr (.g q) 0] H (.d (.bool ((cm b m).gRuns && eqI (cm b m).gGen m.gGen))) H1 ∧ Ext H H1 := by
  obtain ⟨H1, z, h1, h2, h3⟩ := gives185 hR m.gScope m.gName
  refine ⟨H1, e170 _ _ _ _ _ ⟨gG (genM m), gives143 m, z, H1, h1, ?_⟩, h2⟩
  rw [h3.runs, h3.gen]
  exact and_of (fun _ => rfl) ⟨rfl, rfl⟩
theorem gives172 : ∃ H1, GivesM 172 [.ptr (.g p) 0, markC m, .ptr (.g q) 0] H (.d (.bool (((endO b (genM m)).isSome && eqv ((endO b (genM m)).getD O0) m.gOutcome) && (t.gWaits || ((notB (cm b m).gRuns && eqI (cm b m).gGen m.gGen) && notB (cm b m).gShut))))) H1 ∧ Ext H H1 := by
  obtain ⟨H1, z, h1, h2, h3⟩ := gives185 hR m.gScope m.gName
  refine ⟨H1, e172 _ _ _ _ _ ⟨x, hR.book, gG (genM m), gives143 m, ee, hR.me, gG (genM m), gives143 m, z, H1, h1, ?_⟩, h2⟩
  have he : findK kG (audit_generation.mk (audit_cell.mk (gG (genM m)).1.1 (gG (genM m)).1.2) (gG (genM m)).2) ee = endO b (genM m) := hR.ends (genM m)
  rw [he, h3.runs, h3.gen, h3.shut]
  refine and_of (a := (endO b (genM m)).isSome) (fun _ => ⟨_, gives188 ((endO b (genM m)).getD O0) m.gOutcome, rfl⟩) (and_of (b := (t.gWaits || ((notB (cm b m).gRuns && eqI (cm b m).gGen m.gGen) && notB (cm b m).gShut))) (fun _ => ⟨y, h2 _ _ hq, ?_⟩) ⟨rfl, rfl⟩)
  rw [hT.waits]
  exact or_of (b := ((notB (cm b m).gRuns && eqI (cm b m).gGen m.gGen) && notB (cm b m).gShut)) (fun _ => and_of (fun _ => rfl) (and_of (fun _ => rfl) rfl)) rfl
omit hR
theorem gives169 (hl : t.gStack.length < 1000000) : GivesM 169 [.ptr (.g p) 0, markC m, .ptr (.g q) 0] H (.d (.bool ((notB (eqI (intN (lenL t.gStack)) 0) && genB (topG t.gStack) (genM m)) && notB (eqI m.gOutcome.gKind 0)))) H := by
  obtain ⟨xs, i1, i3, i2⟩ := stack_len hq hT
  refine e169 _ _ _ _ _ ⟨y, hq, xs, i1, ?_⟩
  rw [i2]
  refine ite_w (fun h => ?_) (fun h => ?_)
  · have h := of_decide_eq_true h
    rw [intN_eq, lenL_eq] at h
    have hp : 0 < t.gStack.length := by omega
    have e1 : subW .i64 (intN (lenL t.gStack)) 1 = ((t.gStack.length - 1 : Nat) : Int) := by
      rw [intN_eq, lenL_eq, subW_id (by omega) (by omega)]; omega
    have e0 : notB (eqI (intN (lenL t.gStack)) 0) = true := notB_t.2 (eqI_f.2 (by rw [intN_eq, lenL_eq]; omega))
    have et : topG t.gStack = t.gStack[t.gStack.length - 1] := by
      rw [topG, List.getLastD_eq_getLast?, List.getLast?_eq_getElem?, List.getElem?_eq_getElem (by omega)]; rfl
    obtain ⟨j1, j2⟩ := i3.at (i := t.gStack.length - 1) (by omega)
    rw [e1, e0, et]
    refine ⟨y, hq, xs, i1, and_t ?_ (and_t i3.fit ⟨xs, i1, and_t j1 ?_⟩)⟩
    · have : subLen y.stackS (lenL xs) = lenL t.gStack := i3.len
      rw [this]; exact in_len (by omega)
    · rw [natI_nat, j2]
      refine ⟨gG (genM m), gives143 m, ite_w (fun h => ?_) (fun h => ?_)⟩
      · have h : genB t.gStack[t.gStack.length - 1] (genM m) = true := h
        rw [h]; exact ⟨rfl, rfl⟩
      · have h : genB t.gStack[t.gStack.length - 1] (genM m) = false := h
        rw [h]; exact ⟨rfl, rfl⟩
  · have h := of_decide_eq_false h
    have e0 : notB (eqI (intN (lenL t.gStack)) 0) = false := notB_f.2 (eqI_t.2 (by rw [intN_eq, lenL_eq] at h ⊢; omega))
    rw [e0]; exact ⟨rfl, rfl⟩
theorem gives173 : GivesM 173 [.ptr (.g p) 0, markC m, .ptr (.g q) 0] H (.d (.bool (eqI (intN (lenL t.gStack)) 48))) H := by
  obtain ⟨xs, i1, i3, i2⟩ := stack_len hq hT
  exact e173 _ _ _ _ _ ⟨y, hq, xs, i1, by rw [i2]; exact ⟨rfl, rfl⟩⟩
theorem gives174 : GivesM 174 [.ptr (.g p) 0, markC m, .ptr (.g q) 0] H (.d (.bool (ltI 0 (intN (lenL t.gStack)) && notB (strEq m.gName (bs []))))) H := by
  obtain ⟨xs, i1, i3, i2⟩ := stack_len hq hT
  exact e174 _ _ _ _ _ ⟨y, hq, xs, i1, by rw [i2]; exact and_of (fun _ => rfl) ⟨rfl, rfl⟩⟩
theorem gives175 : GivesM 175 [.ptr (.g p) 0, markC m, .ptr (.g q) 0] H (.d (.bool (eqI (intN (lenL t.gStack)) 0))) H := by
  obtain ⟨xs, i1, i3, i2⟩ := stack_len hq hT
  exact e175 _ _ _ _ _ ⟨y, hq, xs, i1, by rw [i2]; exact ⟨rfl, rfl⟩⟩
theorem gives176 : GivesM 176 [.ptr (.g p) 0, markC m, .ptr (.g q) 0] H (.d (.bool (notB t.gLeft && eqI m.gOutcome.gKind 2))) H :=
  e176 _ _ _ _ _ ⟨y, hq, by rw [hT.left]; exact and_of (fun _ => rfl) ⟨rfl, rfl⟩⟩
omit hq hT
theorem gives178 : GivesM 178 [.ptr (.g p) 0, markC m, .ptr (.g q) 0] H (.d (.bool true)) H := e178 _ _ _ _ _ ⟨rfl, rfl⟩
end


section
variable {H : List (O U)} {r gn : Nat} {sub : Option (Nat × Nat)} {xs : List audit_generation} {l : List Gen} (ho : obj H r = some (arrG gn xs)) (hx : RowsR sub xs l) (hl : l.length < 1000000)
variable {f : Nat} {caps : List (C U)} {P : Gen → Bool} (hf : ∀ g, GivesM f (genC g :: caps) H (.d (.bool (P g))) H)
include ho hx hl hf
theorem gives186 : GivesM 186 [.asl (.g r) gn sub false, .fp f [] caps] H (.d (.int .i64 (fi (l.findIdx? P)))) H := by
  refine e186 _ _ _ _ _ _ _ _ ⟨xs, ho, ?_⟩
  have hlen : subLen sub (lenL xs) = lenL l := hx.len
  rw [hlen]
  have loop : ∀ i, i ≤ l.length → (∀ j (h : j < l.length), j < i → P l[j] = false) → At K 186 (fun c' H' => c' = (.d (.int .i64 (fi (l.findIdx? P))) : C U) ∧ H' = H) t186_2 (s186_2 r gn sub f [] caps (intN (lenL l)) i H) := by
    refine upto ?_ fun i hi ih => ?_
    · intro hb
      rw [find_no fun j h => hb j h h]
      exact l186_2 _ _ _ _ _ _ _ _ _ _ (ite_f (lt_len_f (Nat.le_refl _)) ⟨rfl, rfl⟩)
    · intro hb
      obtain ⟨j1, j2⟩ := hx.at hi
      refine l186_2 _ _ _ _ _ _ _ _ _ _ (ite_t (lt_len hi) ⟨xs, ho, and_t (by rw [hlen]; exact in_len hi) (and_t hx.fit ⟨xs, ho, and_t j1 ?_⟩)⟩)
      rw [natI_nat, j2]
      refine ⟨P l[i], H, hf l[i], ite_w (fun h => ?_) (fun h => ?_)⟩
      · rw [find_at hi hb h]; exact ⟨rfl, rfl⟩
      · rw [add_one (by omega)]
        refine ih fun j hj hji => ?_
        by_cases e : j = i
        · subst e; exact h
        · exact hb j hj (by omega)
  exact loop 0 (Nat.zero_le _) fun _ _ h => absurd h (Nat.not_lt_zero _)
theorem gives189 : GivesM 189 [.asl (.g r) gn sub false, .fp f [] caps] H (.d (.bool (l.any P))) H := by
  refine e189 _ _ _ _ _ _ _ _ ⟨_, H, gives186 ho hx hl hf, ?_⟩
  have : leI 0 (fi (l.findIdx? P)) = l.any P := by
    cases h : l.findIdx? P with
    | none =>
      rw [List.findIdx?_eq_none_iff] at h
      rw [fi_none', eq_comm, List.any_eq_false]
      exact fun x hx => by rw [h x hx]; simp
    | some i =>
      obtain ⟨hi, hp, _⟩ := find_get h
      rw [fi_some', eq_comm, List.any_eq_true]
      exact ⟨_, List.getElem_mem hi, hp⟩
  rw [this]; exact ⟨rfl, rfl⟩
end

abbrev cellO (s : Int) (n : ByteArray) : O U := .cells [.d (.int .i64 s), .d (.str n)]
theorem gives187 {H : List (O U)} {r : Nat} {s : Int} {n : ByteArray} (h : obj H r = some (cellO s n)) (g : Gen) : GivesM 187 [genC g, .ptr (.g r) 0] H (.d (.bool (eqI g.gScope s && strEq g.gName n))) H :=
  e187 (gG g) r H _ ⟨⟨s, n⟩, h, by
    have : andB (eqI (gG g).1.1 s) (andB (strEq (gG g).1.2 n) true) = (eqI g.gScope s && strEq g.gName n) := by simp only [gG, andB, Bool.and_true]
    show C.d (D.bool (andB (eqI (gG g).1.1 s) (andB (strEq (gG g).1.2 n) true))) = _ ∧ _
    rw [this]; exact ⟨rfl, rfl⟩⟩
theorem gives190 {H : List (O U)} {r q : Nat} {y : TaskS} {t : Task} (h : obj H r = some (.cells [.ptr (.g q) 0])) (hq : obj H q = some (taskO y)) (hT : TkR H y t) (g : Gen) :
    GivesM 190 [genC g, .ptr (.g r) 0] H (.d (.bool (t.gShut.any fun s => genB g s))) H := by
  obtain ⟨sm, h1, h2⟩ := hT.shut
  refine e190 (gG g) r H _ ⟨q, h, y, hq, sm, h1, ?_⟩
  have := h2.any g
  rw [← this]; exact ⟨rfl, rfl⟩

section
variable {own : Nat → Option Key} {H : List (O U)} {p : Nat} {b : Book} {x : BookS} {es : List (audit_cell × Option Nat)} {ee : List (audit_generation × api_Outcome)} {et : List (Int × Option Nat)} (hR : Rp own H p b x es ee et)
variable {q : Nat} {y : TaskS} {t : Task} (hq : obj H q = some (taskO y)) (hT : TkR H y t) (m : api_Mark)
include hR hq hT

theorem gives177 (hu : (cm b m).gUsed.length < 1000000) : ∃ H1, GivesM 177 [.ptr (.g p) 0, markC m, .ptr (.g q) 0] H (.d (.bool (shutsB (cm b m) t (genM m)))) H1 ∧ ExtB H H1 := by
  have e0 : Ext H (pushO H (.cells [.ptr (.g q) 0])) := Ext.push _ _
  obtain ⟨H1, z, h1, h2, h3⟩ := gives185 (hR.ext e0.big) m.gScope m.gName
  refine ⟨H1, e177 _ _ _ _ _ ⟨gG (genM m), gives143 m, z, H1, h1, ?_⟩, (e0.trans h2).big⟩
  rw [h3.runs, h3.shut, h3.gen, h3.out]
  have hq1 := h2 _ _ (e0 _ _ hq)
  have hT1 := hT.ext (e0.trans h2).big
  obtain ⟨xs, i1, i3, i2⟩ := stack_len hq1 hT1
  have hcap := h2 _ _ (obj_push (H := H) (o := .cells [.ptr (.g q) 0]))
  refine or_of (fun _ => rfl) (or_of (fun _ => rfl) (or_of (fun _ => rfl) (or_of (fun _ => rfl) (or_of (b := ltI 0 (intN (lenL t.gStack))) (fun _ => ⟨q, hcap, y, hq1, xs, i1, by rw [i2]⟩) (ite_w (fun h => ?_) (fun h => ?_))))))
  · have e : shutsB (cm b m) t (genM m) = false := by
      unfold shutsB
      have : ((((((cm b m).gRuns || eqI (cm b m).gGen 0) || notB (eqI (cm b m).gGen (genM m).gGen)) || notB (eqI (cm b m).gOut.gKind 1)) || (cm b m).gShut) || ltI 0 (intN (lenL t.gStack))) = true := h
      rw [this]; rfl
    rw [e]; exact ⟨rfl, rfl⟩
  · obtain ⟨us, k1, k2⟩ := h3.arr
    have e : shutsB (cm b m) t (genM m) = notB ((cm b m).gUsed.any fun u => t.gShut.any fun s => genB u s) := by
      unfold shutsB
      have : ((((((cm b m).gRuns || eqI (cm b m).gGen 0) || notB (eqI (cm b m).gGen (genM m).gGen)) || notB (eqI (cm b m).gOut.gKind 1)) || (cm b m).gShut) || ltI 0 (intN (lenL t.gStack))) = false := h
      rw [this]; simp [notB]
    rw [e]
    exact ⟨_, H1, gives189 k1 k2 hu (fun g => gives190 hcap hq1 hT1 g), rfl, rfl⟩
end


def isG (s : Int) (n : ByteArray) (g : Gen) : Bool := eqI g.gScope s && strEq g.gName n
theorem isG_iff {s : Int} {n : ByteArray} {g : Gen} : isG s n g = true ↔ g.gScope = s ∧ g.gName = n := by
  simp only [isG, Bool.and_eq_true, eqI_t, strEq_iff']
theorem nx_no {s : Int} {n : ByteArray} {w : Bool} {f : Gen} : ∀ {l : List Gen} {acc : Option Gen}, (∀ g ∈ l, isG s n g = false) → nx s n w f l acc = acc
  | [], _, _ => rfl
  | a :: r, acc, h => by
    have h1 : (eqI a.gScope s && strEq a.gName n) = false := h a (List.mem_cons_self ..)
    rw [nx_cons, h1]
    exact nx_no fun g hg => h g (List.mem_cons_of_mem _ hg)
theorem nx_idx {s : Int} {n : ByteArray} {w : Bool} {f : Gen} : ∀ {l : List Gen}, (l.map fun g => (g.gScope, g.gName)).Nodup → nx s n w f l none = match l.findIdx? (isG s n) with
    | none => none
    | some i => if h : i + 1 < l.length then some l[i + 1] else if w then some f else none
  | [], _ => rfl
  | a :: r, h => by
    rw [List.map_cons, List.nodup_cons] at h
    rw [nx_cons, List.findIdx?_cons]
    by_cases ha : isG s n a = true
    · have ha' : (eqI a.gScope s && strEq a.gName n) = true := ha
      rw [if_pos ha, ha', if_pos rfl]
      rw [nx_no fun g hg => by
        rw [Bool.eq_false_iff]
        intro hg'
        have e1 := isG_iff.1 ha
        have e2 := isG_iff.1 hg'
        exact h.1 (List.mem_map.2 ⟨g, hg, by rw [e1.1, e1.2, e2.1, e2.2]⟩)]
      cases r with
      | nil => simp
      | cons c d => simp
    · have ha' : (eqI a.gScope s && strEq a.gName n) = false := Bool.eq_false_iff.2 ha
      rw [if_neg ha, ha']
      have ih := nx_idx (s := s) (n := n) (w := w) (f := f) h.2
      simp only [Bool.false_eq_true, if_false]
      rw [ih]
      cases r.findIdx? (isG s n) with
      | none => rfl
      | some i => simp

theorem leadN_C0 (b : Book) (top : Gen) (k : Nat) : leadN b top k C0 = false := by cases k <;> rfl
theorem lead_get (b : Book) (top : Gen) (k : Nat) (o : Option Cell) : (match o with
    | none => false
    | some c => leadN b top k c) = leadN b top k (o.getD C0) := by
  cases o with
  | none => rw [Option.getD_none, leadN_C0]
  | some c => rfl

section
variable {own : Nat → Option Key} {p : Nat} {b : Book} {x : BookS} {es : List (audit_cell × Option Nat)} {ee : List (audit_generation × api_Outcome)} {et : List (Int × Option Nat)}
theorem circ_loop (hI : Inv b) (hst : ∀ n, (ofT b n).gStack.length < 1000000) (hl : es.length < 1000000) (v8 : Nat) (top : Gen) : ∀ j, j ≤ es.length + 1 → ∀ (H : List (O U)) (s : Int) (n : ByteArray), Rp own H p b x es ee et → obj H v8 = some (cellO s n) →
    ∃ H1, At K 171 (fun c' H' => c' = (.d (.bool (leadN b top (es.length + 1 - j) ((lk b s n).getD C0))) : C U) ∧ H' = H1) t171_6 (s171_6 p v8 ((es.length + 1 : Nat) : Int) j top.1 top.2 H) ∧ ExtB H H1 := by
  refine upto ?_ fun j hj ih => ?_
  · intro H s n _ _
    rw [Nat.sub_self]
    exact ⟨H, l171_6 _ _ _ _ _ _ _ _ (ite_f (decide_eq_false (by omega)) ⟨rfl, rfl⟩), ExtB.refl H⟩
  · intro H s n hR h8
    have hlt : ltI (j : Int) ((es.length + 1 : Nat) : Int) = true := decide_eq_true (by omega)
    rw [show es.length + 1 - j = (es.length - j) + 1 by omega]
    obtain ⟨H1, z, h1, h2, h3⟩ := gives185 hR s n
    have h81 := h2 _ _ h8
    cases hc : lk b s n with
    | none =>
      rw [hc] at h3
      refine ⟨H1, l171_6 _ _ _ _ _ _ _ _ (ite_t hlt ⟨⟨s, n⟩, h8, z, H1, h1, ?_⟩), h2.big⟩
      rw [h3.runs]
      exact ite_t rfl ⟨rfl, rfl⟩
    | some c =>
    rw [hc, Option.getD_some] at h3
    rw [Option.getD_some]
    have hk := lk_key hc
    cases hr : c.gRuns with
    | false =>
      refine ⟨H1, l171_6 _ _ _ _ _ _ _ _ (ite_t hlt ⟨⟨s, n⟩, h8, z, H1, h1, ?_⟩), h2.big⟩
      rw [h3.runs, hr]
      have e : leadN b top (es.length - j + 1) c = false := by simp only [leadN, hr]; rfl
      rw [e]; exact ite_t rfl ⟨rfl, rfl⟩
    | true =>
    have ez : z.runs = true := h3.runs.trans hr
    cases htop : (eqI s top.gScope && strEq n top.gName) with
    | true =>
      have e : leadN b top (es.length - j + 1) c = true := by
        simp only [leadN, hr, hk.1, hk.2, htop, if_true]
      refine ⟨H1, l171_6 _ _ _ _ _ _ _ _ (ite_t hlt ⟨⟨s, n⟩, h8, z, H1, h1, ite_f (by rw [ez]; rfl) ⟨⟨s, n⟩, h81, ite_t ?_ ?_⟩⟩), h2.big⟩
      · simp only [andB, Bool.and_true]; exact htop
      · rw [e]; exact ⟨rfl, rfl⟩
    | false =>
    have hR1 := hR.ext h2.big
    obtain ⟨q1, H2, u, g1, g2, g3, g4, _⟩ := gives140 hR1 c.gTask
    have h82 := g2 _ _ h81
    have hR2 := hR1.ext g2.big
    obtain ⟨xs, i1, i3⟩ := g4.arr
    have e : leadN b top (es.length - j + 1) c = match nextG b c with
        | none => false
        | some g => leadN b top (es.length - j) ((lk b g.gScope g.gName).getD C0) := by
      simp only [leadN, hr, hk.1, hk.2, htop, if_true]
      cases nextG b c with
      | none => rfl
      | some g => exact lead_get b top _ _
    have hnx : nextG b c = _ := nx_idx (hI.nod c.gTask)
    rw [hk.1, hk.2] at hnx
    rw [hnx] at e
    have g186 := gives186 i1 i3 (hst c.gTask) (fun g => gives187 h82 g)
    have hP : (fun g : Gen => eqI g.gScope s && strEq g.gName n) = isG s n := rfl
    rw [hP] at g186
    have start : ∀ H9, At K 171 (fun c' H' => c' = (.d (.bool (leadN b top (es.length - j + 1) c)) : C U) ∧ H' = H9) t171_6 (s171_6 p v8 ((es.length + 1 : Nat) : Int) j top.1 top.2 H) ↔ At K 171 (fun c' H' => c' = (.d (.bool (leadN b top (es.length - j + 1) c)) : C U) ∧ H' = H9) t171_6 (s171_6 p v8 ((es.length + 1 : Nat) : Int) j top.1 top.2 H) := fun _ => Iff.rfl
    cases hix : (ofT b c.gTask).gStack.findIdx? (isG s n) with
    | none =>
      rw [hix] at g186 e
      have e : leadN b top (es.length - j + 1) c = false := e
      refine ⟨H2, l171_6 _ _ _ _ _ _ _ _ (ite_t hlt ⟨⟨s, n⟩, h8, z, H1, h1, ite_f (by rw [ez]; rfl) ⟨⟨s, n⟩, h81, ite_f (by simp only [andB, Bool.and_true]; exact htop) ⟨q1, H2, by rw [h3.task]; exact g1, u, g3, _, H2, g186, ?_⟩⟩⟩), h2.big.trans g2.big⟩
      rw [e]
      exact ⟨false, ite_f rfl rfl, ite_f rfl ⟨false, ite_f rfl rfl, ite_f rfl ⟨rfl, rfl⟩⟩⟩
    | some i =>
    obtain ⟨hi, _, _⟩ := find_get hix
    rw [hix] at g186 e
    have hsl := hst c.gTask
    have ea : addW .i64 (fi (some i)) 1 = ((i + 1 : Nat) : Int) := add_one (by omega)
    have elen : subLen u.stackS (lenL xs) = lenL (ofT b c.gTask).gStack := i3.len
    by_cases hi1 : i + 1 < (ofT b c.gTask).gStack.length
    · have e : leadN b top (es.length - j + 1) c = leadN b top (es.length - j) ((lk b (ofT b c.gTask).gStack[i + 1].gScope (ofT b c.gTask).gStack[i + 1].gName).getD C0) := by
        rw [e]; simp only [dif_pos hi1]
      obtain ⟨k1, k2⟩ := i3.at hi1
      have hR3 := hR2.ext (ExtB.upd (o' := cellO (ofT b c.gTask).gStack[i + 1].gScope (ofT b c.gTask).gStack[i + 1].gName) h82 rfl)
      obtain ⟨H9, n1, n2⟩ := ih _ _ _ hR3 (obj_upd h82)
      rw [show es.length + 1 - (j + 1) = es.length - j by omega] at n1
      refine ⟨H9, l171_6 _ _ _ _ _ _ _ _ (ite_t hlt ⟨⟨s, n⟩, h8, z, H1, h1, ite_f (by rw [ez]; rfl) ⟨⟨s, n⟩, h81, ite_f (by simp only [andB, Bool.and_true]; exact htop) ⟨q1, H2, by rw [h3.task]; exact g1, u, g3, _, H2, g186, ?_⟩⟩⟩), ((h2.big.trans g2.big).trans (ExtB.upd h82 rfl)).trans n2⟩
      rw [e, ea]
      refine ⟨true, ite_t (fi_some' i) ⟨u, g3, xs, i1, by rw [elen]; exact lt_len hi1⟩, ite_t rfl ⟨u, g3, xs, i1, and_t (by rw [elen]; exact in_len hi1) (and_t i3.fit ⟨xs, i1, and_t k1 ⟨⟨s, n⟩, h82, ?_⟩⟩)⟩⟩
      rw [natI_nat, k2, add_one (by omega)]
      exact n1
    · cases hw : (ofT b c.gTask).gWaits with
      | true =>
        have e : leadN b top (es.length - j + 1) c = leadN b top (es.length - j) ((lk b (ofT b c.gTask).gFor.gScope (ofT b c.gTask).gFor.gName).getD C0) := by
          rw [e]; simp only [dif_neg hi1, hw, if_true]
        have hR3 := hR2.ext (ExtB.upd (o' := cellO (ofT b c.gTask).gFor.gScope (ofT b c.gTask).gFor.gName) h82 rfl)
        obtain ⟨H9, n1, n2⟩ := ih _ _ _ hR3 (obj_upd h82)
        rw [show es.length + 1 - (j + 1) = es.length - j by omega] at n1
        refine ⟨H9, l171_6 _ _ _ _ _ _ _ _ (ite_t hlt ⟨⟨s, n⟩, h8, z, H1, h1, ite_f (by rw [ez]; rfl) ⟨⟨s, n⟩, h81, ite_f (by simp only [andB, Bool.and_true]; exact htop) ⟨q1, H2, by rw [h3.task]; exact g1, u, g3, _, H2, g186, ?_⟩⟩⟩), ((h2.big.trans g2.big).trans (ExtB.upd h82 rfl)).trans n2⟩
        rw [e, ea]
        refine ⟨false, ite_t (fi_some' i) ⟨u, g3, xs, i1, by rw [elen]; exact lt_len_f (by omega)⟩, ite_f rfl ⟨true, ite_t (fi_some' i) ⟨u, g3, g4.waits.trans hw⟩, ite_t rfl ⟨u, g3, ⟨s, n⟩, h82, ?_⟩⟩⟩
        rw [g4.on, add_one (by omega)]
        exact n1
      | false =>
        have e : leadN b top (es.length - j + 1) c = false := by
          rw [e]; simp only [dif_neg hi1, hw]; rfl
        refine ⟨H2, l171_6 _ _ _ _ _ _ _ _ (ite_t hlt ⟨⟨s, n⟩, h8, z, H1, h1, ite_f (by rw [ez]; rfl) ⟨⟨s, n⟩, h81, ite_f (by simp only [andB, Bool.and_true]; exact htop) ⟨q1, H2, by rw [h3.task]; exact g1, u, g3, _, H2, g186, ?_⟩⟩⟩), h2.big.trans g2.big⟩
        rw [e, ea]
        exact ⟨false, ite_t (fi_some' i) ⟨u, g3, xs, i1, by rw [elen]; exact lt_len_f (by omega)⟩, ite_f rfl ⟨false, ite_t (fi_some' i) ⟨u, g3, g4.waits.trans hw⟩, ite_f rfl ⟨rfl, rfl⟩⟩⟩
end

section
variable {own : Nat → Option Key} {H : List (O U)} {p : Nat} {b : Book} {x : BookS} {es : List (audit_cell × Option Nat)} {ee : List (audit_generation × api_Outcome)} {et : List (Int × Option Nat)} (hR : Rp own H p b x es ee et)
variable {q : Nat} {y : TaskS} {t : Task} (hq : obj H q = some (taskO y)) (hT : TkR H y t) (m : api_Mark)
include hR hq hT
theorem gives171 (hI : Inv b) (hst : ∀ n, (ofT b n).gStack.length < 1000000) (hl : es.length < 1000000) (hlt : t.gStack.length < 1000000) :
    ∃ H1, GivesM 171 [.ptr (.g p) 0, markC m, .ptr (.g q) 0] H (.d (.bool (notB (eqI (intN (lenL t.gStack)) 0) && leadsB b (cm b m) t))) H1 ∧ ExtB H H1 := by
  obtain ⟨xs, i1, i3, i2⟩ := stack_len hq hT
  cases hn : eqI (intN (lenL t.gStack)) 0 with
  | true =>
    refine ⟨H, e171 _ _ _ _ _ ⟨y, hq, xs, i1, ?_⟩, ExtB.refl H⟩
    rw [i2, hn]; exact ⟨rfl, rfl⟩
  | false =>
    have hp := pos_of hn
    have e1 : subW .i64 (intN (lenL t.gStack)) 1 = ((t.gStack.length - 1 : Nat) : Int) := by
      rw [intN_eq, lenL_eq, subW_id (by omega) (by omega)]; omega
    have etop : topG t.gStack = t.gStack[t.gStack.length - 1] := by
      rw [topG, List.getLastD_eq_getLast?, List.getLast?_eq_getElem?, List.getElem?_eq_getElem (by omega)]; rfl
    obtain ⟨j1, j2⟩ := i3.at (i := t.gStack.length - 1) (by omega)
    have hlen : subLen y.stackS (lenL xs) = lenL t.gStack := i3.len
    have x1 : Ext H (pushO H (cellO 0 (bs []))) := Ext.push _ _
    have h8 : obj (pushO H (cellO 0 (bs []))) (lenO H) = some (cellO 0 (bs [])) := obj_push
    have x2 : ExtB (pushO H (cellO 0 (bs []))) (updO (pushO H (cellO 0 (bs []))) (lenO H) (cellO m.gScope m.gName)) := ExtB.upd h8 rfl
    have hR1 := (hR.ext x1.big).ext x2
    obtain ⟨H9, n1, n2⟩ := circ_loop hI hst hl (lenO H) (topG t.gStack) 0 (Nat.zero_le _) _ m.gScope m.gName hR1 (obj_upd h8)
    refine ⟨H9, e171 _ _ _ _ _ ⟨y, hq, xs, i1, ?_⟩, (x1.big.trans x2).trans n2⟩
    rw [i2, hn]
    refine ⟨y, hq, y, hq, xs, i1, xs, i1, ?_⟩
    rw [i2, e1, hlen]
    refine and_t (in_len (by omega)) (and_t i3.fit ⟨xs, i1, and_t j1 ⟨gG (genM m), gives143 m, ⟨0, bs []⟩, h8, x, hR1.book, es, hR1.mc, ?_⟩⟩)
    rw [natI_nat, j2, ← etop]
    have ee : addW .i64 (intN (lenL es)) 1 = ((es.length + 1 : Nat) : Int) := add_one (i := es.length) (by omega)
    rw [ee]
    have el : leadsB b (cm b m) t = leadN b (topG t.gStack) (es.length + 1 - 0) ((lk b m.gScope m.gName).getD C0) := by
      unfold leadsB; rw [hR.len]; rfl
    rw [el, show notB false = true from rfl, Bool.true_and]
    exact n1
end


theorem hold {v w : Bool} {r : Int} (h : w = notB v) : (if v = true then (0 : Int) else r) = (if w = true then r else 0) := by
  subst h; cases v <;> rfl
theorem lt_le (n : Int) : leI 48 n = notB (ltI n 48) := by
  rw [Bool.eq_iff_iff, notB_t]; simp only [leI, ltI, decide_eq_true_eq, decide_eq_false_iff_not]; omega
theorem lt_eq (l : List Gen) : ltI 0 (intN (lenL l)) = notB (eqI (intN (lenL l)) 0) := by
  rw [Bool.eq_iff_iff, notB_t, eqI_f, intN_eq, ltI, decide_eq_true_eq]; omega

section
variable {own : Nat → Option Key} {H : List (O U)} {p : Nat} {b : Book} {x : BookS} {es : List (audit_cell × Option Nat)} {ee : List (audit_generation × api_Outcome)} {et : List (Int × Option Nat)} (hR : Rp own H p b x es ee et)
variable {q : Nat} {y : TaskS} {t : Task} (hq : obj H q = some (taskO y)) (hT : TkR H y t)
include hR hq hT
theorem gives_rule (m : api_Mark) (hI : Inv b) (hst : ∀ n, (ofT b n).gStack.length < 1000000) (hl : es.length < 1000000) (hlt : t.gStack.length < 1000000) (hu : (cm b m).gUsed.length < 1000000) :
    ∃ r f v H1, GivesM 142 [.d (.int .i64 m.gKind)] H (.agg [.d (.int .i64 r), .fp f [] []]) H ∧ GivesM f [.ptr (.g p) 0, markC m, .ptr (.g q) 0] H (.d (.bool v)) H1 ∧ ExtB H H1 ∧ (if v = true then 0 else r) = ruleR b m t (genM m) := by
  rcases kinds13 m.gKind with hk | hk | hk | hk | hk | hk | hk | hk | hk | hk | hk | ho
  · obtain ⟨H1, g1, g2⟩ := gives168 hR hq hT m
    refine ⟨4, 168, _, H1, ?_, g1, g2.big, ?_⟩
    · rw [hk]; exact e142 _ _ _ (ite_t rfl ⟨rfl, rfl⟩)
    · unfold ruleR
      dsimp only
      rw [hk]
      rw [if_pos (show eqI 1 1 = true by decide)]
      refine hold ?_
      show _ = notB (((notB (cm b m).gRuns && notB (cm b m).gShut) && eqI m.gGen (addW .i64 (cm b m).gGen 1)) && ltI (intN (lenL t.gStack)) 48)
      rw [lt_le]
      show ((((cm b m).gRuns || (cm b m).gShut) || notB (eqI m.gGen (addW .i64 (cm b m).gGen 1))) || _) = _
      generalize (cm b m).gRuns = a, (cm b m).gShut = c, eqI m.gGen (addW .i64 (cm b m).gGen 1) = d, ltI (intN (lenL t.gStack)) 48 = e
      cases a <;> cases c <;> cases d <;> cases e <;> rfl
  · have g1 := gives169 (p := p) hq hT m hlt
    refine ⟨5, 169, _, H, ?_, g1, ExtB.refl H, ?_⟩
    · rw [hk]; exact e142 _ _ _ (ite_f rfl (ite_t rfl ⟨rfl, rfl⟩))
    · unfold ruleR
      dsimp only
      rw [hk]
      rw [if_neg (show ¬ (eqI 2 1 = true) by decide), if_pos (show eqI 2 2 = true by decide)]
      refine hold ?_
      generalize eqI (intN (lenL t.gStack)) 0 = a, genB (topG t.gStack) (genM m) = c, eqI m.gOutcome.gKind 0 = d
      cases a <;> cases c <;> cases d <;> rfl
  · obtain ⟨H1, g1, g2⟩ := gives170 hR hq hT m
    refine ⟨6, 170, _, H1, ?_, g1, g2.big, ?_⟩
    · rw [hk]; exact e142 _ _ _ (ite_f rfl (ite_f rfl (ite_t rfl ⟨rfl, rfl⟩)))
    · unfold ruleR
      dsimp only
      rw [hk]
      rw [if_neg (show ¬ (eqI 3 1 = true) by decide), if_neg (show ¬ (eqI 3 2 = true) by decide), if_pos (show eqI 3 3 = true by decide)]
      refine hold ?_
      congr 1
      unfold runsB cm
      show (match lk b m.gScope m.gName with | some c => c.gRuns && eqI c.gGen m.gGen | none => false) = _
      cases lk b m.gScope m.gName <;> rfl
  · obtain ⟨H1, g1, g2⟩ := gives172 hR hq hT m
    refine ⟨7, 172, _, H1, ?_, g1, g2.big, ?_⟩
    · rw [hk]; exact e142 _ _ _ (ite_f rfl (ite_f rfl (ite_f rfl (ite_f rfl (ite_t rfl ⟨rfl, rfl⟩)))))
    · unfold ruleR
      dsimp only
      rw [hk]
      rw [if_neg (show ¬ (eqI 4 1 = true) by decide), if_neg (show ¬ (eqI 4 2 = true) by decide), if_neg (show ¬ (eqI 4 3 = true) by decide), if_neg (show ¬ (eqI 4 5 = true) by decide), if_pos (show eqI 4 4 = true by decide)]
      refine hold ?_
      show ((notB (endO b (genM m)).isSome || notB (eqv ((endO b (genM m)).getD O0) m.gOutcome)) || (notB t.gWaits && (((cm b m).gRuns || notB (eqI (cm b m).gGen m.gGen)) || (cm b m).gShut))) = _
      generalize (endO b (genM m)).isSome = a, eqv ((endO b (genM m)).getD O0) m.gOutcome = c, t.gWaits = d, (cm b m).gRuns = e, eqI (cm b m).gGen m.gGen = f, (cm b m).gShut = g
      cases a <;> cases c <;> cases d <;> cases e <;> cases f <;> cases g <;> rfl
  · obtain ⟨H1, g1, g2⟩ := gives171 hR hq hT m hI hst hl hlt
    refine ⟨6, 171, _, H1, ?_, g1, g2, ?_⟩
    · rw [hk]; exact e142 _ _ _ (ite_f rfl (ite_f rfl (ite_f rfl (ite_t rfl ⟨rfl, rfl⟩))))
    · unfold ruleR
      dsimp only
      rw [hk]
      rw [if_neg (show ¬ (eqI 5 1 = true) by decide), if_neg (show ¬ (eqI 5 2 = true) by decide), if_neg (show ¬ (eqI 5 3 = true) by decide), if_pos (show eqI 5 5 = true by decide)]
      refine hold ?_
      show ((eqI (intN (lenL t.gStack)) 0 || notB (cm b m).gRuns) || notB (leadsB b (cm b m) t)) = notB (notB (eqI (intN (lenL t.gStack)) 0) && leadsB b (cm b m) t)
      have : (cm b m).gRuns = false → leadsB b (cm b m) t = false := fun h => by unfold leadsB; simp only [leadN, h]; rfl
      revert this
      generalize eqI (intN (lenL t.gStack)) 0 = a, leadsB b (cm b m) t = c, (cm b m).gRuns = d
      cases a <;> cases c <;> cases d <;> simp [notB]
  · have g1 := gives173 (p := p) hq hT m
    refine ⟨8, 173, _, H, ?_, g1, ExtB.refl H, ?_⟩
    · rw [hk]; exact e142 _ _ _ (ite_f rfl (ite_f rfl (ite_f rfl (ite_f rfl (ite_f rfl (ite_t rfl ⟨rfl, rfl⟩))))))
    · unfold ruleR
      dsimp only
      rw [hk]
      rw [if_neg (show ¬ (eqI 6 1 = true) by decide), if_neg (show ¬ (eqI 6 2 = true) by decide), if_neg (show ¬ (eqI 6 3 = true) by decide), if_neg (show ¬ (eqI 6 5 = true) by decide), if_neg (show ¬ (eqI 6 4 = true) by decide), if_pos (show eqI 6 6 = true by decide)]
      refine hold ?_
      rfl
  · have g1 := gives174 (p := p) hq hT m
    refine ⟨9, 174, _, H, ?_, g1, ExtB.refl H, ?_⟩
    · rw [hk]; exact e142 _ _ _ (ite_f rfl (ite_f rfl (ite_f rfl (ite_f rfl (ite_f rfl (ite_f rfl (ite_t rfl (ite_t rfl ⟨rfl, rfl⟩))))))))
    · unfold ruleR
      dsimp only
      rw [hk]
      rw [if_neg (show ¬ (eqI 9 1 = true) by decide), if_neg (show ¬ (eqI 9 2 = true) by decide), if_neg (show ¬ (eqI 9 3 = true) by decide), if_neg (show ¬ (eqI 9 5 = true) by decide), if_neg (show ¬ (eqI 9 4 = true) by decide), if_neg (show ¬ (eqI 9 6 = true) by decide), if_pos (show eqI 9 9 = true by decide)]
      refine hold ?_
      rw [lt_eq]
      generalize eqI (intN (lenL t.gStack)) 0 = a, strEq m.gName (bs []) = c
      cases a <;> cases c <;> rfl
  · have g1 := gives174 (p := p) hq hT m
    refine ⟨9, 174, _, H, ?_, g1, ExtB.refl H, ?_⟩
    · rw [hk]; exact e142 _ _ _ (ite_f rfl (ite_f rfl (ite_f rfl (ite_f rfl (ite_f rfl (ite_f rfl (ite_f rfl (ite_t rfl ⟨rfl, rfl⟩))))))))
    · unfold ruleR
      dsimp only
      rw [hk]
      rw [if_neg (show ¬ (eqI 10 1 = true) by decide), if_neg (show ¬ (eqI 10 2 = true) by decide), if_neg (show ¬ (eqI 10 3 = true) by decide), if_neg (show ¬ (eqI 10 5 = true) by decide), if_neg (show ¬ (eqI 10 4 = true) by decide), if_neg (show ¬ (eqI 10 6 = true) by decide), if_neg (show ¬ (eqI 10 9 = true) by decide), if_pos (show eqI 10 10 = true by decide)]
      refine hold ?_
      rw [lt_eq]
      generalize eqI (intN (lenL t.gStack)) 0 = a, strEq m.gName (bs []) = c
      cases a <;> cases c <;> rfl
  · have g1 := gives175 (p := p) hq hT m
    refine ⟨10, 175, _, H, ?_, g1, ExtB.refl H, ?_⟩
    · rw [hk]; exact e142 _ _ _ (ite_f rfl (ite_f rfl (ite_f rfl (ite_f rfl (ite_f rfl (ite_f rfl (ite_f rfl (ite_f rfl (ite_t rfl ⟨rfl, rfl⟩)))))))))
    · unfold ruleR
      dsimp only
      rw [hk]
      rw [if_neg (show ¬ (eqI 11 1 = true) by decide), if_neg (show ¬ (eqI 11 2 = true) by decide), if_neg (show ¬ (eqI 11 3 = true) by decide), if_neg (show ¬ (eqI 11 5 = true) by decide), if_neg (show ¬ (eqI 11 4 = true) by decide), if_neg (show ¬ (eqI 11 6 = true) by decide), if_neg (show ¬ (eqI 11 9 = true) by decide), if_neg (show ¬ (eqI 11 10 = true) by decide), if_pos (show eqI 11 11 = true by decide)]
      refine hold ?_
      exact lt_eq _
  · have g1 := gives176 (p := p) hq hT m
    refine ⟨10, 176, _, H, ?_, g1, ExtB.refl H, ?_⟩
    · rw [hk]; exact e142 _ _ _ (ite_f rfl (ite_f rfl (ite_f rfl (ite_f rfl (ite_f rfl (ite_f rfl (ite_f rfl (ite_f rfl (ite_f rfl (ite_t rfl ⟨rfl, rfl⟩))))))))))
    · unfold ruleR
      dsimp only
      rw [hk]
      rw [if_neg (show ¬ (eqI 12 1 = true) by decide), if_neg (show ¬ (eqI 12 2 = true) by decide), if_neg (show ¬ (eqI 12 3 = true) by decide), if_neg (show ¬ (eqI 12 5 = true) by decide), if_neg (show ¬ (eqI 12 4 = true) by decide), if_neg (show ¬ (eqI 12 6 = true) by decide), if_neg (show ¬ (eqI 12 9 = true) by decide), if_neg (show ¬ (eqI 12 10 = true) by decide), if_neg (show ¬ (eqI 12 11 = true) by decide), if_pos (show eqI 12 12 = true by decide)]
      refine hold ?_
      generalize t.gLeft = a, eqI m.gOutcome.gKind 2 = c
      cases a <;> cases c <;> rfl
  · obtain ⟨H1, g1, g2⟩ := gives177 hR hq hT m hu
    refine ⟨11, 177, _, H1, ?_, g1, g2, ?_⟩
    · rw [hk]; exact e142 _ _ _ (ite_f rfl (ite_f rfl (ite_f rfl (ite_f rfl (ite_f rfl (ite_f rfl (ite_f rfl (ite_f rfl (ite_f rfl (ite_f rfl (ite_t rfl ⟨rfl, rfl⟩)))))))))))
    · unfold ruleR
      dsimp only
      rw [hk]
      rw [if_neg (show ¬ (eqI 13 1 = true) by decide), if_neg (show ¬ (eqI 13 2 = true) by decide), if_neg (show ¬ (eqI 13 3 = true) by decide), if_neg (show ¬ (eqI 13 5 = true) by decide), if_neg (show ¬ (eqI 13 4 = true) by decide), if_neg (show ¬ (eqI 13 6 = true) by decide), if_neg (show ¬ (eqI 13 9 = true) by decide), if_neg (show ¬ (eqI 13 10 = true) by decide), if_neg (show ¬ (eqI 13 11 = true) by decide), if_neg (show ¬ (eqI 13 12 = true) by decide), if_pos (show eqI 13 13 = true by decide)]
      refine hold ?_
      rfl
  · obtain ⟨n1, n2, n3, n4, n5, n6, n9, n10, n11, n12, n13⟩ := ho
    have f : ∀ x, m.gKind ≠ x → eqI m.gKind x = false := fun x h => eqI_f.2 h
    refine ⟨0, 178, true, H, ?_, gives178 m, ExtB.refl H, ?_⟩
    · exact e142 _ _ _ (ite_f (f _ n1) (ite_f (f _ n2) (ite_f (f _ n3) (ite_f (f _ n5) (ite_f (f _ n4) (ite_f (f _ n6) (ite_f (f _ n9) (ite_f (f _ n10) (ite_f (f _ n11) (ite_f (f _ n12) (ite_f (f _ n13) ⟨rfl, rfl⟩)))))))))))
    · unfold ruleR
      dsimp only
      rw [if_neg (show ¬ (eqI m.gKind 1 = true) by rw [f _ n1]; simp), if_neg (show ¬ (eqI m.gKind 2 = true) by rw [f _ n2]; simp), if_neg (show ¬ (eqI m.gKind 3 = true) by rw [f _ n3]; simp), if_neg (show ¬ (eqI m.gKind 5 = true) by rw [f _ n5]; simp), if_neg (show ¬ (eqI m.gKind 4 = true) by rw [f _ n4]; simp), if_neg (show ¬ (eqI m.gKind 6 = true) by rw [f _ n6]; simp), if_neg (show ¬ (eqI m.gKind 9 = true) by rw [f _ n9]; simp), if_neg (show ¬ (eqI m.gKind 10 = true) by rw [f _ n10]; simp), if_neg (show ¬ (eqI m.gKind 11 = true) by rw [f _ n11]; simp), if_neg (show ¬ (eqI m.gKind 12 = true) by rw [f _ n12]; simp), if_neg (show ¬ (eqI m.gKind 13 = true) by rw [f _ n13]; simp)]
      rfl
end


theorem leafI' (H : List (O U)) {v : Bool} {x y : Int} : iteP v ((fun (c' : C U) (H' : List (O U)) => c' = (.d (.int .i64 (if v = true then x else y)) : C U) ∧ H' = H) (.d (.int .i64 x)) H) ((fun (c' : C U) (H' : List (O U)) => c' = (.d (.int .i64 (if v = true then x else y)) : C U) ∧ H' = H) (.d (.int .i64 y)) H) := by
  cases v
  · exact ⟨rfl, rfl⟩
  · exact ⟨rfl, rfl⟩

section
variable {own : Nat → Option Key} {H : List (O U)} {p : Nat} {b : Book} {x : BookS} {es : List (audit_cell × Option Nat)} {ee : List (audit_generation × api_Outcome)} {et : List (Int × Option Nat)} (hR : Rp own H p b x es ee et)
include hR
theorem gives105 (m : api_Mark) {k : Nat} (hI : Inv b) (hS : Small b k) (hk : k < 100000) : ∃ H1, GivesM 105 [.ptr (.g p) 0, markC m] H (.d (.int .i64 (brk b m))) H1 ∧ ExtB H H1 := by
  unfold brk
  cases h1 : markB m with
  | false =>
    refine ⟨H, e105 _ _ _ _ ⟨false, h1 ▸ gives138 m, ite_t rfl ?_⟩, ExtB.refl H⟩
    exact ⟨rfl, rfl⟩
  | true =>
  cases h2 : ltI m.gAt b.gAt with
  | true =>
    refine ⟨H, e105 _ _ _ _ ⟨true, h1 ▸ gives138 m, ite_f rfl ⟨x, hR.book, ite_t (by rw [hR.at']; exact h2) ?_⟩⟩, ExtB.refl H⟩
    exact ⟨rfl, rfl⟩
  | false =>
  cases h3 : stepB m with
  | false =>
    refine ⟨H, e105 _ _ _ _ ⟨true, h1 ▸ gives138 m, ite_f rfl ⟨x, hR.book, ite_f (by rw [hR.at']; exact h2) ⟨false, h3 ▸ gives139 m, ite_t rfl ⟨x, hR.book, ?_⟩⟩⟩⟩, ExtB.refl H⟩
    rw [hR.acts]
    exact leafI' H
  | true =>
  obtain ⟨q, H1, y, g1, g2, g3, g4, _⟩ := gives140 hR m.gTask
  have hd := g4.done
  have hst : ∀ n, (ofT b n).gStack.length < 1000000 := fun n => by have := hS.stack n; omega
  have hl : es.length < 1000000 := by have := hR.len; have := hS.cells; omega
  have hu : (cm b m).gUsed.length < 1000000 := by have := cell_small hS.used m.gScope m.gName; show ((lk b m.gScope m.gName).getD C0).gUsed.length < _; omega
  obtain ⟨r, f, v, H2, r1, r2, r3, r4⟩ := gives_rule (hR.ext g2.big) g3 g4 m hI hst hl (hst m.gTask) hu
  have hm := may_halt (m := m) (hI.ws m.gTask)
  have hmay := gives141 g3 g4 m
  simp only [show notB true = false from rfl, Bool.false_or]
  cases h5 : (ofT b m.gTask).gDone with
  | true =>
    refine ⟨H1, e105 _ _ _ _ ⟨true, h1 ▸ gives138 m, ite_f rfl ⟨x, hR.book, ite_f (by rw [hR.at']; exact h2) ⟨true, h3 ▸ gives139 m, ite_f rfl ⟨q, H1, g1, y, g3, ite_t (hd.trans h5) ?_⟩⟩⟩⟩, g2.big⟩
    rw [hm, h5]; exact ⟨rfl, rfl⟩
  | false =>
  cases h6 : notB (eqI m.gKind 12) with
  | true =>
    cases h7 : mayB (ofT b m.gTask) m with
    | false =>
      refine ⟨H1, e105 _ _ _ _ ⟨true, h1 ▸ gives138 m, ite_f rfl ⟨x, hR.book, ite_f (by rw [hR.at']; exact h2) ⟨true, h3 ▸ gives139 m, ite_f rfl ⟨q, H1, g1, y, g3, ite_f (hd.trans h5) (ite_t h6 ⟨false, H1, h7 ▸ hmay, ite_t rfl ?_⟩)⟩⟩⟩⟩, g2.big⟩
      rw [hm, h5, h6, h7]; exact ⟨rfl, rfl⟩
    | true =>
      refine ⟨H2, e105 _ _ _ _ ⟨true, h1 ▸ gives138 m, ite_f rfl ⟨x, hR.book, ite_f (by rw [hR.at']; exact h2) ⟨true, h3 ▸ gives139 m, ite_f rfl ⟨q, H1, g1, y, g3, ite_f (hd.trans h5) (ite_t h6 ⟨true, H1, h7 ▸ hmay, ite_f rfl ⟨(r, f), H1, r1, v, H2, r2, ?_⟩⟩)⟩⟩⟩⟩, g2.big.trans r3⟩
      rw [hm, h5, h6, h7, ← r4]
      cases v <;> exact ⟨rfl, rfl⟩
  | false =>
    refine ⟨H2, e105 _ _ _ _ ⟨true, h1 ▸ gives138 m, ite_f rfl ⟨x, hR.book, ite_f (by rw [hR.at']; exact h2) ⟨true, h3 ▸ gives139 m, ite_f rfl ⟨q, H1, g1, y, g3, ite_f (hd.trans h5) (ite_f h6 ⟨(r, f), H1, r1, v, H2, r2, ?_⟩)⟩⟩⟩⟩, g2.big.trans r3⟩
    rw [hm, h5, h6, ← r4]
    cases v <;> exact ⟨rfl, rfl⟩
end


abbrev tkF (b : Book) (n : Int) : Option Task := b.gTasks.find? (isT n)
theorem tkF_withT (b : Book) (t : Task) (n : Int) [Decidable (t.gNumber = n)] : tkF (withT b t) n = if t.gNumber = n then some t else tkF b n := by
  unfold withT
  cases h : taskI b t.gNumber with
  | none =>
    by_cases e : t.gNumber = n
    · rw [if_pos e]; subst e; exact find_app_this h (isT_self t)
    · rw [if_neg e]; exact find_app (isT_other (isT_self t) e)
  | some i =>
    obtain ⟨hi, hp, _⟩ := find_get h
    by_cases e : t.gNumber = n
    · rw [if_pos e]; subst e; exact find_set_this h (isT_self t)
    · rw [if_neg e]; exact find_set hi (isT_other hp e) (isT_other (isT_self t) e)
theorem lk_withT (b : Book) (t : Task) (s : Int) (n : ByteArray) : lk (withT b t) s n = lk b s n := by unfold lk; rw [(withT_cells b t).1]
theorem endO_withT (b : Book) (t : Task) (g : Gen) : endO (withT b t) g = endO b g := by unfold endO; rw [(withT_cells b t).2.1]

/-- Two books that say the same. -/
structure Alike (b b' : Book) : Prop where
  at' : b.gAt = b'.gAt
  acts : b.gActs = b'.gActs
  len : b.gCells.length = b'.gCells.length
  cells : ∀ s n, lk b s n = lk b' s n
  ends : ∀ g, endO b g = endO b' g
  tasks : ∀ n, tkF b n = tkF b' n
def oLen : O U → Nat
  | .cells cs => cs.length
  | _ => 0
theorem obj_ne {H : List (O U)} {n m : Nat} {o o' : O U} (h : obj H n = some o) (h' : obj H m = some o') (hne : o ≠ o') : n ≠ m := fun e => by
  subst e; rw [h] at h'; cases h'; exact hne rfl

section
variable {own : Nat → Option Key} {H : List (O U)} {p : Nat} {b : Book} {x : BookS} {es : List (audit_cell × Option Nat)} {ee : List (audit_generation × api_Outcome)} {et : List (Int × Option Nat)} (hR : Rp own H p b x es ee et)
include hR
theorem Rp.alike {b' : Book} (h : Alike b b') : Rp own H p b' x es ee et :=
  ⟨hR.book, hR.at'.trans h.at', hR.acts.trans h.acts, hR.mc, hR.me, hR.mt, hR.len.trans h.len, fun s n e => hR.cellN s n ((h.cells s n).trans e),
    fun s n c e => hR.cellS s n c ((h.cells s n).trans e), fun g => (hR.ends g).trans (h.ends g), hR.oB, hR.oC, hR.oE, hR.oT, fun n e => hR.taskN n ((h.tasks n).trans e), fun n t e => hR.taskS n t ((h.tasks n).trans e)⟩
theorem Rp.owns {own' : Nat → Option Key} (h : ∀ n, n < lenO H → own' n = own n) : Rp own' H p b x es ee et :=
  ⟨hR.book, hR.at', hR.acts, hR.mc, hR.me, hR.mt, hR.len, hR.cellN,
    fun s n c e => by
      obtain ⟨q, y, h1, h2, h3, h4, h5⟩ := hR.cellS s n c e
      obtain ⟨xs, k1, _⟩ := h3.arr
      exact ⟨q, y, h1, h2, h3, (h _ (obj_len h2)).trans h4, (h _ (obj_len k1)).trans h5⟩,
    hR.ends, (h _ (obj_len hR.book)).trans hR.oB, (h _ (obj_len hR.mc)).trans hR.oC, (h _ (obj_len hR.me)).trans hR.oE, (h _ (obj_len hR.mt)).trans hR.oT, hR.taskN,
    fun n t e => by
      obtain ⟨q, y, h1, h2, h3, h4, h5, h6⟩ := hR.taskS n t e
      obtain ⟨xs, k1, _⟩ := h3.arr
      obtain ⟨sm, k2, _⟩ := h3.shut
      exact ⟨q, y, h1, h2, h3, (h _ (obj_len h2)).trans h4, (h _ (obj_len k1)).trans h5, (h _ (obj_len k2)).trans h6⟩⟩

/-- The book's own cells. -/
theorem Rp.head (a k : Int) : Rp own (updO H p (bookO { x with at' := a, acts := k })) p { b with gAt := a, gActs := k } { x with at' := a, acts := k } es ee et := by
  have f : ∀ {n o}, obj H n = some o → (∀ z : BookS, o ≠ bookO z) → obj (updO H p (bookO { x with at' := a, acts := k })) n = some o := fun h hne => by
    rw [obj_upd_ne (obj_ne h hR.book (hne x))]; exact h
  refine ⟨obj_upd hR.book, rfl, rfl, f hR.mc (fun _ h => by cases h), f hR.me (fun _ h => by cases h), f hR.mt (fun _ h => by cases h), hR.len, hR.cellN, ?_, hR.ends, hR.oB, hR.oC, hR.oE, hR.oT, hR.taskN, ?_⟩
  · intro s n c hc
    obtain ⟨q, y, h1, h2, h3, h4⟩ := hR.cellS s n c hc
    obtain ⟨xs, k1, k2⟩ := h3.arr
    exact ⟨q, y, h1, f h2 (fun _ h => by have := congrArg oLen h; cases this), ⟨⟨xs, f k1 (fun _ h => by cases h), k2⟩, h3.gen, h3.runs, h3.task, h3.out, h3.shut⟩, h4⟩
  · intro n t ht
    obtain ⟨q, y, h1, h2, h3, h4⟩ := hR.taskS n t ht
    obtain ⟨xs, k1, k2⟩ := h3.arr
    obtain ⟨sm, k3, k4⟩ := h3.shut
    exact ⟨q, y, h1, f h2 (fun _ h => by have := congrArg oLen h; cases this), ⟨⟨xs, f k1 (fun _ h => by cases h), k2⟩, h3.waits, h3.stops, h3.on, h3.left, h3.done, ⟨sm, f k3 (fun _ h => by cases h), k4⟩⟩, h4⟩

/-- A task is written. -/
theorem Rp.task {n : Int} {q : Nat} {y' : TaskS} {t' : Task} {H' : List (O U)} (he : findK kI n et = some (some q)) (ho : own q = some (.inr n))
    (hF : ∀ m o, own m ≠ some (.inr n) → obj H m = some o → obj H' m = some o) (h1 : obj H' q = some (taskO y')) (hT : TkR H' y' t') (h2 : own y'.stack = some (.inr n)) (h3 : own y'.shut = some (.inr n)) (hn : t'.gNumber = n) :
    Rp own H' p (withT b t') x es ee et := by
  have hw := withT_cells b t'
  refine ⟨hF _ _ (by rw [hR.oB]; simp) hR.book, hR.at'.trans hw.2.2.1.symm, hR.acts.trans hw.2.2.2.symm, hF _ _ (by rw [hR.oC]; simp) hR.mc, hF _ _ (by rw [hR.oE]; simp) hR.me, hF _ _ (by rw [hR.oT]; simp) hR.mt,
    hR.len.trans (by rw [hw.1]), fun s k e => hR.cellN s k (by rw [lk_withT] at e; exact e), ?_, fun g => by rw [endO_withT]; exact hR.ends g, hR.oB, hR.oC, hR.oE, hR.oT, ?_, ?_⟩
  · intro s k c hc
    rw [lk_withT] at hc
    obtain ⟨q, y, i1, i2, i3, i4, i5⟩ := hR.cellS s k c hc
    obtain ⟨xs, k1, k2⟩ := i3.arr
    exact ⟨q, y, i1, hF _ _ (by rw [i4]; simp) i2, ⟨⟨xs, hF _ _ (by rw [i5]; simp) k1, k2⟩, i3.gen, i3.runs, i3.task, i3.out, i3.shut⟩, i4, i5⟩
  · intro k hk
    have hk : tkF (withT b t') k = none := hk
    rw [tkF_withT] at hk
    split at hk
    · cases hk
    · exact hR.taskN k hk
  · intro k t ht
    have ht : tkF (withT b t') k = some t := ht
    rw [tkF_withT] at ht
    split at ht
    · rename_i e
      cases ht
      rw [hn] at e; subst e
      exact ⟨q, y', he, h1, hT, ho, h2, h3⟩
    · rename_i e
      have hne : k ≠ n := fun h => e (hn.trans h.symm)
      obtain ⟨q, y, i1, i2, i3, i4, i5, i6⟩ := hR.taskS k t ht
      obtain ⟨xs, k1, k2⟩ := i3.arr
      obtain ⟨sm, k3, k4⟩ := i3.shut
      have d : (some (Sum.inr k) : Option Key) ≠ some (.inr n) := fun h => hne (by cases h; rfl)
      exact ⟨q, y, i1, hF _ _ (by rw [i4]; exact d) i2, ⟨⟨xs, hF _ _ (by rw [i5]; exact d) k1, k2⟩, i3.waits, i3.stops, i3.on, i3.left, i3.done, ⟨sm, hF _ _ (by rw [i6]; exact d) k3, k4⟩⟩, i4, i5, i6⟩

/-- A cell is written. -/
theorem Rp.cell {q : Nat} {y' : StateS} {c' : Cell} {H' : List (O U)} (hs : (lk b c'.gScope c'.gName).isSome) (he : findK kC ⟨c'.gScope, c'.gName⟩ es = some (some q)) (ho : own q = some (.inl (c'.gScope, c'.gName)))
    (hF : ∀ m o, own m ≠ some (.inl (c'.gScope, c'.gName)) → obj H m = some o → obj H' m = some o) (h1 : obj H' q = some (stateO y')) (hT : StR H' y' c') (h2 : own y'.used = some (.inl (c'.gScope, c'.gName))) :
    Rp own H' p (putC b c') x es ee et := by
  have hw := putC_tasks b c'
  have lkp : ∀ s k, lk (putC b c') s k = if c'.gScope = s ∧ c'.gName = k then some c' else lk b s k := fun s k => lk_putC b c' s k
  have tkp : ∀ n, tkF (putC b c') n = tkF b n := fun n => by unfold tkF; rw [hw.1]
  refine ⟨hF _ _ (by rw [hR.oB]; simp) hR.book, hR.at'.trans hw.2.2.1.symm, hR.acts.trans hw.2.2.2.symm, hF _ _ (by rw [hR.oC]; simp) hR.mc, hF _ _ (by rw [hR.oE]; simp) hR.me, hF _ _ (by rw [hR.oT]; simp) hR.mt,
    hR.len.trans (putC_len hs).symm, ?_, ?_, fun g => by rw [show endO (putC b c') g = endO b g by unfold endO; rw [hw.2.1]]; exact hR.ends g, hR.oB, hR.oC, hR.oE, hR.oT, fun n e => hR.taskN n ((tkp n).symm.trans e), ?_⟩
  · intro s k e
    rw [lkp] at e
    split at e
    · cases e
    · exact hR.cellN s k e
  · intro s k c hc
    rw [lkp] at hc
    split at hc
    · rename_i e
      cases hc
      obtain ⟨rfl, rfl⟩ := e
      exact ⟨q, y', he, h1, hT, ho, h2⟩
    · rename_i e
      obtain ⟨q, y, i1, i2, i3, i4, i5⟩ := hR.cellS s k c hc
      obtain ⟨xs, k1, k2⟩ := i3.arr
      have d : (some (Sum.inl (s, k)) : Option Key) ≠ some (.inl (c'.gScope, c'.gName)) := fun h => e (by cases h; exact ⟨rfl, rfl⟩)
      exact ⟨q, y, i1, hF _ _ (by rw [i4]; exact d) i2, ⟨⟨xs, hF _ _ (by rw [i5]; exact d) k1, k2⟩, i3.gen, i3.runs, i3.task, i3.out, i3.shut⟩, i4, i5⟩
  · intro n t ht
    obtain ⟨q, y, i1, i2, i3, i4, i5, i6⟩ := hR.taskS n t ((tkp n).symm.trans ht)
    obtain ⟨xs, k1, k2⟩ := i3.arr
    obtain ⟨sm, k3, k4⟩ := i3.shut
    exact ⟨q, y, i1, hF _ _ (by rw [i4]; simp) i2, ⟨⟨xs, hF _ _ (by rw [i5]; simp) k1, k2⟩, i3.waits, i3.stops, i3.on, i3.left, i3.done, ⟨sm, hF _ _ (by rw [i6]; simp) k3, k4⟩⟩, i4, i5, i6⟩

/-- An end is kept. -/
theorem Rp.end (g : Gen) (o : api_Outcome) (hn : endO b g = none) : Rp own (updO H x.ends (mapE (updK kG (gG g) o ee))) p { b with gEnds := b.gEnds ++ [⟨g, o⟩] } x es (updK kG (gG g) o ee) et := by
  have f : ∀ {n o'}, obj H n = some o' → (∀ z, o' ≠ mapE z) → obj (updO H x.ends (mapE (updK kG (gG g) o ee))) n = some o' := fun h hne => by
    rw [obj_upd_ne (obj_ne h hR.me (hne ee))]; exact h
  refine ⟨f hR.book (fun _ h => by cases h), hR.at', hR.acts, f hR.mc (fun _ h => by cases h), obj_upd hR.me, f hR.mt (fun _ h => by cases h), hR.len, hR.cellN, ?_, ?_, hR.oB, hR.oC, hR.oE, hR.oT, hR.taskN, ?_⟩
  · intro s n c hc
    obtain ⟨q, y, h1, h2, h3, h4⟩ := hR.cellS s n c hc
    obtain ⟨xs, k1, k2⟩ := h3.arr
    exact ⟨q, y, h1, f h2 (fun _ h => by cases h), ⟨⟨xs, f k1 (fun _ h => by cases h), k2⟩, h3.gen, h3.runs, h3.task, h3.out, h3.shut⟩, h4⟩
  · intro g'
    rw [endO_app]
    by_cases e : g' = g
    · subst e
      rw [hn, findK_upd (fun x y => kG_iff), if_pos (genB_iff.2 rfl)]
    · rw [findK_upd_ne (fun x y => kG_iff) (fun h => e (gG_inj.1 h)), hR.ends]
      cases endO b g' with
      | some _ => rfl
      | none => simp only [if_neg (fun h => e (genB_iff.1 h).symm)]
  · intro n t ht
    obtain ⟨q, y, h1, h2, h3, h4⟩ := hR.taskS n t ht
    obtain ⟨xs, k1, k2⟩ := h3.arr
    obtain ⟨sm, k3, k4⟩ := h3.shut
    exact ⟨q, y, h1, f h2 (fun _ h => by cases h), ⟨⟨xs, f k1 (fun _ h => by cases h), k2⟩, h3.waits, h3.stops, h3.on, h3.left, h3.done, ⟨sm, f k3 (fun _ h => by cases h), k4⟩⟩, h4⟩

/-- A cell is begun: it is told by a new object. -/
theorem Rp.begin (c' : Cell) (hu : c'.gUsed = []) (put : Int) :
    Rp (fun n => if n = lenO H ∨ n = lenO H + 1 then some (.inl (c'.gScope, c'.gName)) else own n)
      (updO (pushO (pushO H (arrG 0 [])) (stateO ⟨c'.gGen, c'.gRuns, c'.gTask, c'.gOut, c'.gShut, lenO H, 0, none, put⟩)) x.cells (mapC (updK kC ⟨c'.gScope, c'.gName⟩ (some (lenO H + 1)) es)))
      p (putC b c') x (updK kC ⟨c'.gScope, c'.gName⟩ (some (lenO H + 1)) es) ee et := by
  generalize hst : (⟨c'.gGen, c'.gRuns, c'.gTask, c'.gOut, c'.gShut, lenO H, 0, none, put⟩ : StateS) = st
  have e1 : lenO (pushO H (arrG 0 [])) = lenO H + 1 := by simp [lenO, pushO]
  have x1 : Ext H (pushO H (arrG 0 [])) := Ext.push _ _
  have x2 : Ext (pushO H (arrG 0 [])) (pushO (pushO H (arrG 0 [])) (stateO st)) := Ext.push _ _
  have ha : obj (pushO (pushO H (arrG 0 [])) (stateO st)) (lenO H) = some (arrG 0 []) := x2 _ _ obj_push
  have hs : obj (pushO (pushO H (arrG 0 [])) (stateO st)) (lenO H + 1) = some (stateO st) := by rw [← e1]; exact obj_push
  have hR1 := (hR.owns (own' := fun n => if n = lenO H ∨ n = lenO H + 1 then some (.inl (c'.gScope, c'.gName)) else own n) (fun n hn => if_neg (by omega))).ext (x1.trans x2).big
  have f : ∀ {n o'}, obj (pushO (pushO H (arrG 0 [])) (stateO st)) n = some o' → (∀ z, o' ≠ mapC z) → obj (updO (pushO (pushO H (arrG 0 [])) (stateO st)) x.cells (mapC (updK kC ⟨c'.gScope, c'.gName⟩ (some (lenO H + 1)) es))) n = some o' := fun h hne => by
    rw [obj_upd_ne (obj_ne h hR1.mc (hne es))]; exact h
  have hw := putC_tasks b c'
  have lkp : ∀ s k, lk (putC b c') s k = if c'.gScope = s ∧ c'.gName = k then some c' else lk b s k := fun s k => lk_putC b c' s k
  have kne : ∀ {s k}, ¬ (c'.gScope = s ∧ c'.gName = k) → (⟨s, k⟩ : audit_cell) ≠ ⟨c'.gScope, c'.gName⟩ := fun h e => h (by cases e; exact ⟨rfl, rfl⟩)
  refine ⟨f hR1.book (fun _ h => by cases h), hR.at'.trans hw.2.2.1.symm, hR.acts.trans hw.2.2.2.symm, obj_upd hR1.mc, f hR1.me (fun _ h => by cases h), f hR1.mt (fun _ h => by cases h), ?_, ?_, ?_,
    fun g => by rw [show endO (putC b c') g = endO b g by unfold endO; rw [hw.2.1]]; exact hR.ends g, hR1.oB, hR1.oC, hR1.oE, hR1.oT, fun n e => hR.taskN n (by rw [hw.1] at e; exact e), ?_⟩
  · cases hl : lk b c'.gScope c'.gName with
    | none =>
      rw [updK_len_none (hR.cellN _ _ hl), hR.len]
      unfold putC
      cases hc : cellI b c'.gScope c'.gName with
      | none => simp only [List.length_append, List.length_singleton]
      | some i => obtain ⟨_, _, hf⟩ := find_get hc; unfold lk at hl; rw [hf] at hl; cases hl
    | some c =>
      obtain ⟨q, _, h1, _⟩ := hR.cellS _ _ c hl
      rw [updK_len_some (by rw [h1]; rfl), hR.len, putC_len (by rw [hl]; rfl)]
  · intro s k e
    rw [lkp] at e
    split at e
    · cases e
    · rename_i hne
      rw [findK_upd_ne (fun x y => kC_iff) (kne hne)]
      exact hR.cellN s k e
  · intro s k c hc
    rw [lkp] at hc
    split at hc
    · rename_i e
      cases hc
      obtain ⟨rfl, rfl⟩ := e
      refine ⟨lenO H + 1, st, findK_upd (fun x y => kC_iff) _, f hs (fun _ h => by cases h), ?_, if_pos (Or.inr rfl), ?_⟩
      · subst hst
        exact ⟨⟨[], f ha (fun _ h => by cases h), by rw [hu]; exact RowsR.nil⟩, rfl, rfl, rfl, rfl, rfl⟩
      · subst hst; exact if_pos (Or.inl rfl)
    · rename_i hne
      obtain ⟨q, y, h1, h2, h3, h4⟩ := hR1.cellS s k c hc
      obtain ⟨xs, k1, k2⟩ := h3.arr
      exact ⟨q, y, by rw [findK_upd_ne (fun x y => kC_iff) (kne hne)]; exact h1, f h2 (fun _ h => by cases h), ⟨⟨xs, f k1 (fun _ h => by cases h), k2⟩, h3.gen, h3.runs, h3.task, h3.out, h3.shut⟩, h4⟩
  · intro n t ht
    obtain ⟨q, y, h1, h2, h3, h4⟩ := hR1.taskS n t (by rw [hw.1] at ht; exact ht)
    obtain ⟨xs, k1, k2⟩ := h3.arr
    obtain ⟨sm, k3, k4⟩ := h3.shut
    exact ⟨q, y, h1, f h2 (fun _ h => by cases h), ⟨⟨xs, f k1 (fun _ h => by cases h), k2⟩, h3.waits, h3.stops, h3.on, h3.left, h3.done, ⟨sm, f k3 (fun _ h => by cases h), k4⟩⟩, h4⟩

/-- A task is kept, as it is. -/
theorem Rp.keepT {n : Int} {q : Nat} {y : TaskS} {t : Task} (hq : obj H q = some (taskO y)) (hT : TkR H y t) (hn : t.gNumber = n) (o1 : own q = some (.inr n)) (o2 : own y.stack = some (.inr n)) (o3 : own y.shut = some (.inr n)) :
    Rp own (updO H x.tasks (mapT (updK kI n (some q) et))) p (withT b t) x es ee (updK kI n (some q) et) := by
  have f : ∀ {n' o'}, obj H n' = some o' → (∀ z, o' ≠ mapT z) → obj (updO H x.tasks (mapT (updK kI n (some q) et))) n' = some o' := fun h hne => by
    rw [obj_upd_ne (obj_ne h hR.mt (hne et))]; exact h
  have hw := withT_cells b t
  have fT : ∀ {y : TaskS} {t : Task}, TkR H y t → TkR (updO H x.tasks (mapT (updK kI n (some q) et))) y t := fun h3 => by
    obtain ⟨xs, k1, k2⟩ := h3.arr
    obtain ⟨sm, k3, k4⟩ := h3.shut
    exact ⟨⟨xs, f k1 (fun _ h => by cases h), k2⟩, h3.waits, h3.stops, h3.on, h3.left, h3.done, ⟨sm, f k3 (fun _ h => by cases h), k4⟩⟩
  refine ⟨f hR.book (fun _ h => by cases h), hR.at'.trans hw.2.2.1.symm, hR.acts.trans hw.2.2.2.symm, f hR.mc (fun _ h => by cases h), f hR.me (fun _ h => by cases h), obj_upd hR.mt, hR.len.trans (by rw [hw.1]), fun s k e => hR.cellN s k (by rw [lk_withT] at e; exact e), ?_,
    fun g => by rw [endO_withT]; exact hR.ends g, hR.oB, hR.oC, hR.oE, hR.oT, ?_, ?_⟩
  · intro s k c hc
    rw [lk_withT] at hc
    obtain ⟨q, y, h1, h2, h3, h4⟩ := hR.cellS s k c hc
    obtain ⟨xs, k1, k2⟩ := h3.arr
    exact ⟨q, y, h1, f h2 (fun _ h => by cases h), ⟨⟨xs, f k1 (fun _ h => by cases h), k2⟩, h3.gen, h3.runs, h3.task, h3.out, h3.shut⟩, h4⟩
  · intro k hk
    have hk : tkF (withT b t) k = none := hk
    rw [tkF_withT] at hk
    split at hk
    · cases hk
    · rename_i e
      rw [findK_upd_ne (fun x y => kI_iff) (fun h => e (hn.trans h.symm))]
      exact hR.taskN k hk
  · intro k t' ht
    have ht : tkF (withT b t) k = some t' := ht
    rw [tkF_withT] at ht
    split at ht
    · rename_i e
      cases ht
      rw [hn] at e; subst e
      exact ⟨q, y, findK_upd (fun x y => kI_iff) _, f hq (fun _ h => by cases h), fT hT, o1, o2, o3⟩
    · rename_i e
      obtain ⟨q', y', h1, h2, h3, h4⟩ := hR.taskS k t' ht
      exact ⟨q', y', by rw [findK_upd_ne (fun x y => kI_iff) (fun h => e (hn.trans h.symm))]; exact h1, f h2 (fun _ h => by cases h), fT h3, h4⟩
end


theorem upd_other {own : Nat → Option Key} {H : List (O U)} {k : Key} {n : Nat} {o : O U} (hn : own n = some k) : ∀ m o', own m ≠ some k → obj H m = some o' → obj (updO H n o) m = some o' := fun m o' hm h => by
  rw [obj_upd_ne (fun e => hm (by rw [e]; exact hn))]; exact h

section
variable {own : Nat → Option Key} {H : List (O U)} {p : Nat} {b : Book} {x : BookS} {es : List (audit_cell × Option Nat)} {ee : List (audit_generation × api_Outcome)} {et : List (Int × Option Nat)} (hR : Rp own H p b x es ee et)
variable {q : Nat} {y : TaskS} {t : Task} (hq : obj H q = some (taskO y)) (hT : TkR H y t)
include hR hq hT
theorem gives144 (g : Gen) (hl : t.gStack.length < 1000000) (hs : t.gStack ≠ [] → (lk b (topG t.gStack).gScope (topG t.gStack).gName).isSome) (hu : ∀ c ∈ b.gCells, c.gUsed.length < 1000000) :
    ∃ H1, GivesM 144 [.ptr (.g p) 0, .ptr (.g q) 0, genC g] H (.tup []) H1 ∧ Rp own H1 p (toldB b t g) x es ee et := by
  obtain ⟨xs, i1, i3, i2⟩ := stack_len hq hT
  cases hn : ltI 0 (intN (lenL t.gStack)) with
  | false =>
    have h := of_decide_eq_false hn
    rw [intN_eq, lenL_eq] at h
    have : t.gStack = [] := List.eq_nil_of_length_eq_zero (by omega)
    refine ⟨H, e144 _ _ (gG g) _ _ ⟨y, hq, xs, i1, ite_f (by rw [i2]; exact hn) ⟨rfl, rfl⟩⟩, ?_⟩
    rw [toldB_nil this]; exact hR
  | true =>
    have h := of_decide_eq_true hn
    rw [intN_eq, lenL_eq] at h
    have hp : 0 < t.gStack.length := by omega
    have hne : t.gStack ≠ [] := List.length_pos_iff.1 hp
    have e1 : subW .i64 (intN (lenL t.gStack)) 1 = ((t.gStack.length - 1 : Nat) : Int) := by
      rw [intN_eq, lenL_eq, subW_id (by omega) (by omega)]; omega
    have etop : topG t.gStack = t.gStack[t.gStack.length - 1] := by
      rw [topG, List.getLastD_eq_getLast?, List.getLast?_eq_getElem?, List.getElem?_eq_getElem (by omega)]; rfl
    obtain ⟨j1, j2⟩ := i3.at (i := t.gStack.length - 1) (by omega)
    have hlen : subLen y.stackS (lenL xs) = lenL t.gStack := i3.len
    obtain ⟨c, hc⟩ := Option.isSome_iff_exists.1 (hs hne)
    have hck := lk_key hc
    obtain ⟨r, z, k1, k2, k3, k4, k5⟩ := hR.cellS _ _ c hc
    obtain ⟨us, u1, u2⟩ := k3.arr
    have hcu := hu c (List.mem_of_find?_eq_some hc)
    have hrne : r ≠ z.used := obj_ne k2 u1 (fun h => by cases h)
    have hz : obj (updO H z.used (arrG (Nat.succ z.usedG) (appL (subRows z.usedS us) [gG g]))) r = some (stateO z) := by rw [obj_upd_ne hrne]; exact k2
    refine ⟨updO (updO H z.used (arrG (Nat.succ z.usedG) (appL (subRows z.usedS us) [gG g]))) r (stateO { z with usedG := Nat.succ z.usedG, usedS := none }), e144 _ _ (gG g) _ _ ⟨y, hq, xs, i1, ite_t (by rw [i2]; exact hn) ?_⟩, ?_⟩
    · rw [i2, e1]
      refine ⟨x, hR.book, y, hq, xs, i1, and_t (by rw [hlen]; exact in_len (by omega)) (and_t i3.fit ⟨xs, i1, and_t j1 ⟨es, hR.mc, ?_⟩⟩)⟩
      rw [natI_nat, j2, ← etop]
      have hf : findK kC (audit_cell.mk (gG (topG t.gStack)).1.1 (gG (topG t.gStack)).1.2) es = some (some r) := k1
      rw [hf]
      refine and_t rfl ⟨z, k2, us, u1, and_t ?_ (and_t u2.fit (and_t (roomB_t ?_) (and_t rfl ⟨z, hz, rfl, rfl⟩)))⟩
      · rw [u2.off]; rfl
      · have : subLen z.usedS (lenL us) = c.gUsed.length := u2.len
        rw [this]
        simp only [addN, lenL_eq, List.length_singleton]; omega
    · rw [toldB_put hne hc]
      have hx1 := obj_upd (o := stateO { z with usedG := Nat.succ z.usedG, usedS := none }) hz
      refine hR.cell (c' := { c with gUsed := c.gUsed ++ [g] }) (q := r) (y' := { z with usedG := Nat.succ z.usedG, usedS := none }) ?_ ?_ ?_ ?_ hx1 ?_ ?_
      · dsimp only; rw [hck.1, hck.2]; rw [hc]; rfl
      · dsimp only; rw [hck.1, hck.2]; exact k1
      · dsimp only; rw [hck.1, hck.2]; exact k4
      · dsimp only; rw [hck.1, hck.2]
        exact fun m o' hm h => upd_other k4 m o' hm (upd_other k5 m o' hm h)
      · refine ⟨⟨appL (subRows z.usedS us) [gG g], ?_, u2.push g⟩, k3.gen, k3.runs, k3.task, k3.out, k3.shut⟩
        rw [obj_upd_ne (fun e => hrne e.symm)]
        exact obj_upd u1
      · dsimp only; rw [hck.1, hck.2]; exact k5
end


theorem upd2 (H : List (O U)) (n : Nat) (a c : O U) : updO (updO H n a) n c = updO H n c := by unfold updO; exact List.set_set ..

section
variable {κ α : Type} {eq : κ → κ → Bool}
theorem set_ent {k : κ} {x z : α} : ∀ (es : List (κ × α)), setK (entK eq k x es) (idxK eq k es) z = updK eq k z es
  | [] => rfl
  | e :: es => by
    cases hb : eq k e.1 with
    | true => simp [entK, idxK, updK, setK, hb]
    | false => simp [entK, idxK, updK, setK, hb, set_ent es]
theorem idx_lt {k : κ} {x : α} : ∀ (es : List (κ × α)), idxK eq k es < (entK eq k x es).length
  | [] => Nat.zero_lt_one
  | e :: es => by
    cases hb : eq k e.1 with
    | true => simp [entK, idxK, hb]
    | false => simp [entK, idxK, hb, idx_lt es]
theorem findK_ent (he : ∀ x y, eq x y = true ↔ x = y) {k : κ} {x : α} : ∀ (es : List (κ × α)), findK eq k (entK eq k x es) = some ((findK eq k es).getD x)
  | [] => by simp [findK, entK, (he k k).2 rfl]
  | e :: es => by
    cases hb : eq k e.1 with
    | true => simp [findK, entK, hb, (he k k).2 rfl]
    | false =>
      have ih := findK_ent he (k := k) (x := x) es
      simp only [findK, entK, hb] at ih ⊢
      simpa [hb] using ih
end

/-! ### Books that say the same -/
theorem putC_withT (b : Book) (t : Task) (c : Cell) : putC (withT b t) c = withT (putC b c) t := by
  have h : cellI (withT b t) c.gScope c.gName = cellI b c.gScope c.gName := by unfold cellI; rw [(withT_cells b t).1]
  have h' : taskI (putC b c) t.gNumber = taskI b t.gNumber := by unfold taskI; rw [(putC_tasks b c).1]
  unfold putC at h' ⊢
  rw [h]
  cases hc : cellI b c.gScope c.gName with
  | none =>
    rw [hc] at h'
    unfold withT
    rw [h']
    cases taskI b t.gNumber <;> rfl
  | some i =>
    rw [hc] at h'
    unfold withT
    rw [h']
    cases taskI b t.gNumber <;> rfl
theorem ends_withT (b : Book) (t : Task) (l : List Ended) : ({ withT b t with gEnds := l } : Book) = withT { b with gEnds := l } t := by
  have h' : taskI { b with gEnds := l } t.gNumber = taskI b t.gNumber := rfl
  unfold withT
  rw [h']
  cases taskI b t.gNumber <;> rfl
theorem toldB_withT (b : Book) (t t0 : Task) (g : Gen) : toldB (withT b t) t0 g = withT (toldB b t0 g) t := by
  have h : cellI (withT b t) (topG t0.gStack).gScope (topG t0.gStack).gName = cellI b (topG t0.gStack).gScope (topG t0.gStack).gName := by unfold cellI; rw [(withT_cells b t).1]
  by_cases hs : t0.gStack = []
  · rw [toldB_nil hs, toldB_nil hs]
  · have h' : taskI (toldB b t0 g) t.gNumber = taskI b t.gNumber := by unfold taskI; rw [(toldB_tasks b t0 g).1]
    unfold toldB at h' ⊢
    rw [if_neg hs] at h' ⊢
    rw [if_neg hs, h]
    cases hc : cellI b (topG t0.gStack).gScope (topG t0.gStack).gName with
    | none => rfl
    | some i =>
      rw [hc] at h'
      unfold withT
      rw [h']
      cases taskI b t.gNumber <;> rfl
theorem alike2 {b : Book} {t t' : Task} (h : t.gNumber = t'.gNumber) : Alike (withT (withT b t) t') (withT b t') := by
  have w1 := withT_cells (withT b t) t'
  have w2 := withT_cells b t
  have w3 := withT_cells b t'
  refine ⟨w1.2.2.1.trans (w2.2.2.1.trans w3.2.2.1.symm), w1.2.2.2.trans (w2.2.2.2.trans w3.2.2.2.symm), by rw [w1.1, w2.1, w3.1], fun s n => by rw [lk_withT, lk_withT, lk_withT], fun g => by rw [endO_withT, endO_withT, endO_withT], fun n => ?_⟩
  rw [tkF_withT, tkF_withT, tkF_withT]
  by_cases e : t'.gNumber = n
  · rw [if_pos e, if_pos e]
  · rw [if_neg e, if_neg e, if_neg (fun x => e (h.symm.trans x))]

theorem RowsR.pop {sub : Option (Nat × Nat)} {xs : List audit_generation} {l : List Gen} (h : RowsR sub xs l) : RowsR (some (subOff sub, l.length - 1)) xs l.dropLast := by
  have hl := h.len
  have hf := h.fit
  have hx : l.length ≤ xs.length := by
    rw [← hl]
    cases sub with
    | none => exact Nat.le_refl _
    | some x =>
      obtain ⟨o, n⟩ := x
      have : o + n ≤ xs.length := of_decide_eq_true hf
      show n ≤ _; omega
  have ho := h.off
  refine ⟨?_, ?_, ?_⟩
  · rw [ho]; rfl
  · rw [ho]; exact decide_eq_true (by simp only [addN]; omega)
  · have hr := h.rows
    show xs.take (l.length - 1) = _
    rw [List.map_dropLast, ← hr, List.dropLast_eq_take]
    have e : (subRows sub xs).length = l.length := by rw [hr, List.length_map]
    rw [e]
    cases sub with
    | none => rfl
    | some x =>
      obtain ⟨o, n⟩ := x
      have hn : n = l.length := hl
      subst hn
      show _ = List.take _ (List.take l.length xs)
      rw [List.take_take]
      congr 1
      omega

theorem ShutR.push {sm : List (audit_generation × Int)} {l : List Gen} (h : ShutR sm l) (hl : l.length < 1000000) (g : Gen) : ShutR (updK kG (gG g) (addW .i64 (getO' (0 : Int) (findK kG (gG g) sm)) 1) sm) (l ++ [g]) := by
  have hv : 0 ≤ getO' (0 : Int) (findK kG (gG g) sm) ∧ getO' (0 : Int) (findK kG (gG g) sm) ≤ l.length := by
    cases hf : findK kG (gG g) sm with
    | none => exact ⟨Int.le_refl _, Int.natCast_nonneg _⟩
    | some v => exact h.le _ v hf
  have ea : addW .i64 (getO' (0 : Int) (findK kG (gG g) sm)) 1 = getO' (0 : Int) (findK kG (gG g) sm) + 1 := addW_id (by omega) (by omega)
  rw [ea]
  generalize getO' (0 : Int) (findK kG (gG g) sm) = v at hv
  constructor
  · intro g'
    rw [List.any_append]
    by_cases e : g' = g
    · subst e
      rw [findK_upd (fun x y => kG_iff)]
      have : genB g' g' = true := genB_iff.2 rfl
      simp only [List.any_cons, this, Bool.true_or, Bool.or_true]
      have hx : ltI 0 (v + 1) = true := decide_eq_true (by omega)
      exact hx
    · rw [findK_upd_ne (fun x y => kG_iff) (fun x => e (gG_inj.1 x)), h.any]
      have : genB g' g = false := Bool.eq_false_iff.2 fun x => e (genB_iff.1 x)
      simp [this]
  · intro k w hw
    rw [List.length_append, List.length_singleton]
    by_cases e : k = gG g
    · subst e
      rw [findK_upd (fun x y => kG_iff)] at hw
      cases hw; omega
    · rw [findK_upd_ne (fun x y => kG_iff) e] at hw
      have := h.le k w hw; omega

section
variable {own : Nat → Option Key} {H : List (O U)} {p : Nat} {b : Book} {x : BookS} {es : List (audit_cell × Option Nat)} {ee : List (audit_generation × api_Outcome)} {et : List (Int × Option Nat)} (hR : Rp own H p b x es ee et)
variable {n : Int} {q : Nat} {y : TaskS} {t : Task} (he : findK kI n et = some (some q)) (hq : obj H q = some (taskO y)) (hT : TkR H y t) (o1 : own q = some (.inr n)) (o2 : own y.stack = some (.inr n)) (o3 : own y.shut = some (.inr n))
include hR he hq hT o1 o2 o3
/-- A task's own cells are written. -/
theorem Rp.taskU (y' : TaskS) (t' : Task) (hn : t'.gNumber = n) (hrow : ∀ xs, RowsR y.stackS xs t.gStack → RowsR y'.stackS xs t'.gStack) (e1 : y'.stack = y.stack) (e2 : y'.stackG = y.stackG) (e3 : y'.shut = y.shut)
    (e4 : t'.gShut = t.gShut) (f1 : y'.waits = t'.gWaits) (f2 : y'.stops = t'.gStops) (f3 : y'.on = gG t'.gFor) (f4 : y'.left = t'.gLeft) (f5 : y'.done = t'.gDone) :
    Rp own (updO H q (taskO y')) p (withT b t') x es ee et ∧ obj (updO H q (taskO y')) q = some (taskO y') ∧ TkR (updO H q (taskO y')) y' t' := by
  obtain ⟨xs, k1, k2⟩ := hT.arr
  obtain ⟨sm, k3, k4⟩ := hT.shut
  have hT' : TkR (updO H q (taskO y')) y' t' :=
    ⟨⟨xs, by rw [e1, e2, obj_upd_ne (obj_ne k1 hq (fun h => by cases h))]; exact k1, hrow xs k2⟩, f1, f2, f3, f4, f5,
      ⟨sm, by rw [e3, obj_upd_ne (obj_ne k3 hq (fun h => by cases h))]; exact k3, by rw [e4]; exact k4⟩⟩
  exact ⟨hR.task he o1 (upd_other o1) (obj_upd hq) hT' (by rw [e1]; exact o2) (by rw [e3]; exact o3) hn, obj_upd hq, hT'⟩
end


theorem tk_number (b : Book) (m : api_Mark) : (tk b m).gNumber = m.gTask := ofT_number b m.gTask

/-- What is kept: the book behind stands in memory. -/
def Keeps (H : List (O U)) (p : Nat) (m : api_Mark) (b' : Book) : Prop :=
  ∃ H1 own x es ee et, GivesM 106 [.ptr (.g p) 0, markC m] H (.tup []) H1 ∧ Rp own H1 p b' x es ee et

section
variable {own : Nat → Option Key} {H : List (O U)} {p : Nat} {b : Book} {x : BookS} {es : List (audit_cell × Option Nat)} {ee : List (audit_generation × api_Outcome)} {et : List (Int × Option Nat)} (hR : Rp own H p b x es ee et)
include hR
theorem Rp.setAt (m : api_Mark) : Rp own (updO H p (bookO { x with at' := m.gAt })) p (atB b m) { x with at' := m.gAt } es ee et := by
  have := hR.head m.gAt x.acts
  have e : ({ b with gAt := m.gAt, gActs := x.acts } : Book) = atB b m := by rw [hR.acts]
  rw [e] at this; exact this

/-- The task is there: its objects are its own. -/
theorem Rp.taskAt (n : Int) : ∃ q H1 y own', GivesM 140 [.ptr (.g p) 0, .d (.int .i64 n)] H (.ptr (.g q) 0) H1 ∧ Rp own' H1 p b x es ee et ∧ obj H1 q = some (taskO y) ∧ TkR H1 y (ofT b n) ∧
    own' q = some (.inr n) ∧ own' y.stack = some (.inr n) ∧ own' y.shut = some (.inr n) := by
  obtain ⟨q, H1, y, g1, g2, g3, g4, g5⟩ := gives140 hR n
  rcases g5 with ⟨t, _, _, _, o1, o2, o3⟩ | ⟨_, _, o1, o2, o3⟩
  · exact ⟨q, H1, y, own, g1, hR.ext g2.big, g3, g4, o1, o2, o3⟩
  · refine ⟨q, H1, y, fun k => if lenO H ≤ k then some (.inr n) else own k, g1, (hR.owns (fun k hk => if_neg (by omega))).ext g2.big, g3, g4, if_pos (by omega), if_pos (by omega), if_pos (by omega)⟩

/-- What stands when a step begins to be kept. -/
theorem Rp.prep (m : api_Mark) : ∃ q H1 own2 y, GivesM 140 [.ptr (.g p) 0, .d (.int .i64 m.gTask)] (updO H p (bookO { x with at' := m.gAt })) (.ptr (.g q) 0) H1 ∧ Rp own2 H1 p (atB b m) { x with at' := m.gAt } es ee et ∧
    Rp own2 (updO H1 x.tasks (mapT (updK kI m.gTask (some q) et))) p (withT (atB b m) (tk b m)) { x with at' := m.gAt } es ee (updK kI m.gTask (some q) et) ∧
    obj (updO H1 x.tasks (mapT (updK kI m.gTask (some q) et))) q = some (taskO y) ∧ TkR (updO H1 x.tasks (mapT (updK kI m.gTask (some q) et))) y (tk b m) ∧
    own2 q = some (.inr m.gTask) ∧ own2 y.stack = some (.inr m.gTask) ∧ own2 y.shut = some (.inr m.gTask) := by
  obtain ⟨q, H1, y, own2, g1, g2, g3, g4, o1, o2, o3⟩ := (hR.setAt m).taskAt m.gTask
  have hn : (tk b m).gNumber = m.gTask := ofT_number b m.gTask
  have h2 := g2.keepT g3 g4 hn o1 o2 o3
  obtain ⟨q', y', i1, i2, i3, p1, p2, p3⟩ := h2.taskS m.gTask (tk b m) (by have := tkF_withT (atB b m) (tk b m) m.gTask; rw [if_pos hn] at this; exact this)
  have : some (some q) = some (some q') := (findK_upd (fun x y => kI_iff) et).symm.trans i1
  cases this
  exact ⟨q, H1, own2, y', g1, g2, h2, i2, i3, p1, p2, p3⟩
end

section
variable {own : Nat → Option Key} {H : List (O U)} {p : Nat} {b : Book} {x : BookS} {es : List (audit_cell × Option Nat)} {ee : List (audit_generation × api_Outcome)} {et : List (Int × Option Nat)} (hR : Rp own H p b x es ee et) {m : api_Mark}
include hR
theorem keep0 (hs : stepB m = false) : Keeps H p m (bhd b m) := by
  have hA := hR.setAt m
  have hB := hA.head m.gAt (addW .i64 b.gActs 1)
  refine ⟨_, own, _, es, ee, et, e106 _ _ _ _ ⟨x, hR.book, false, hs ▸ gives139 m, ite_t rfl ⟨_, hA.book, _, hA.book, rfl, ?_⟩⟩, by rw [bhd_not hs]; exact hB⟩
  dsimp only
  rw [hR.acts]

theorem keep3 (hs : stepB m = true) (hk : m.gKind = 3) : Keeps H p m (bhd b m) := by
  rw [bhd3 b m hk]
  obtain ⟨q, H1, own2, y, g140, hR1, hR2, hq, hT, o1, o2, o3⟩ := hR.prep m
  have he : findK kI m.gTask (updK kI m.gTask (some q) et) = some (some q) := findK_upd (fun x y => kI_iff) et
  have hn := tk_number b m
  let x1 : BookS := { x with at' := m.gAt }
  let H2 := updO H1 x.tasks (mapT (updK kI m.gTask (some q) et))
  obtain ⟨u1, _, _⟩ := hR2.taskU he hq hT o1 o2 o3 { y with waits := true, on := gG (genM m) } { tk b m with gWaits := true, gFor := genM m } hn (fun _ h => h) rfl rfl rfl rfl rfl hT.stops rfl hT.left hT.done
  refine ⟨_, own2, x1, es, ee, _, e106 _ _ _ _ ⟨x, hR.book, true, hs ▸ gives139 m, ite_f rfl ⟨q, H1, g140, gG (genM m), gives143 m, x1, hR1.book, et, hR1.mt, (ite_f (eqI_f.2 (by omega)) (ite_f (eqI_f.2 (by omega)) (ite_t (eqI_t.2 hk) ⟨y, hq, { y with waits := true }, obj_upd hq, rfl, upd2 _ _ _ _⟩)))⟩⟩, u1.alike (alike2 rfl)⟩
theorem keep9 (hs : stepB m = true) (hk : m.gKind = 9) : Keeps H p m (bhd b m) := by
  rw [bhd9 b m hk]
  obtain ⟨q, H1, own2, y, g140, hR1, hR2, hq, hT, o1, o2, o3⟩ := hR.prep m
  have he : findK kI m.gTask (updK kI m.gTask (some q) et) = some (some q) := findK_upd (fun x y => kI_iff) et
  have hn := tk_number b m
  let x1 : BookS := { x with at' := m.gAt }
  let H2 := updO H1 x.tasks (mapT (updK kI m.gTask (some q) et))
  obtain ⟨u1, _, _⟩ := hR2.taskU he hq hT o1 o2 o3 { y with stops := true, on := gG ⟨0, m.gName, 0⟩ } { tk b m with gStops := true, gFor := ⟨0, m.gName, 0⟩ } hn (fun _ h => h) rfl rfl rfl rfl hT.waits rfl rfl hT.left hT.done
  refine ⟨_, own2, x1, es, ee, _, e106 _ _ _ _ ⟨x, hR.book, true, hs ▸ gives139 m, ite_f rfl ⟨q, H1, g140, gG (genM m), gives143 m, x1, hR1.book, et, hR1.mt, (ite_f (eqI_f.2 (by omega)) (ite_f (eqI_f.2 (by omega)) (ite_f (eqI_f.2 (by omega)) (ite_f (eqI_f.2 (by omega)) (ite_t (eqI_t.2 hk) ⟨y, hq, { y with stops := true }, obj_upd hq, rfl, upd2 _ _ _ _⟩)))))⟩⟩, u1.alike (alike2 rfl)⟩
theorem keep10 (hs : stepB m = true) (hk : m.gKind = 10) : Keeps H p m (bhd b m) := by
  rw [bhd10 b m hk]
  obtain ⟨q, H1, own2, y, g140, hR1, hR2, hq, hT, o1, o2, o3⟩ := hR.prep m
  have he : findK kI m.gTask (updK kI m.gTask (some q) et) = some (some q) := findK_upd (fun x y => kI_iff) et
  have hn := tk_number b m
  let x1 : BookS := { x with at' := m.gAt }
  let H2 := updO H1 x.tasks (mapT (updK kI m.gTask (some q) et))
  obtain ⟨u1, _, _⟩ := hR2.taskU he hq hT o1 o2 o3 { y with stops := false, on := gG G0 } { tk b m with gStops := false, gFor := G0 } hn (fun _ h => h) rfl rfl rfl rfl hT.waits rfl rfl hT.left hT.done
  refine ⟨_, own2, x1, es, ee, _, e106 _ _ _ _ ⟨x, hR.book, true, hs ▸ gives139 m, ite_f rfl ⟨q, H1, g140, gG (genM m), gives143 m, x1, hR1.book, et, hR1.mt, (ite_f (eqI_f.2 (by omega)) (ite_f (eqI_f.2 (by omega)) (ite_f (eqI_f.2 (by omega)) (ite_f (eqI_f.2 (by omega)) (ite_f (eqI_f.2 (by omega)) (ite_t (eqI_t.2 hk) ⟨y, hq, { y with stops := false }, obj_upd hq, rfl, upd2 _ _ _ _⟩))))))⟩⟩, u1.alike (alike2 rfl)⟩
theorem keep11 (hs : stepB m = true) (hk : m.gKind = 11) : Keeps H p m (bhd b m) := by
  rw [bhd11 b m hk]
  obtain ⟨q, H1, own2, y, g140, hR1, hR2, hq, hT, o1, o2, o3⟩ := hR.prep m
  have he : findK kI m.gTask (updK kI m.gTask (some q) et) = some (some q) := findK_upd (fun x y => kI_iff) et
  have hn := tk_number b m
  let x1 : BookS := { x with at' := m.gAt }
  let H2 := updO H1 x.tasks (mapT (updK kI m.gTask (some q) et))
  obtain ⟨u1, _, _⟩ := hR2.taskU he hq hT o1 o2 o3 { y with done := true } { tk b m with gDone := true } hn (fun _ h => h) rfl rfl rfl rfl hT.waits hT.stops hT.on hT.left rfl
  refine ⟨_, own2, x1, es, ee, _, e106 _ _ _ _ ⟨x, hR.book, true, hs ▸ gives139 m, ite_f rfl ⟨q, H1, g140, gG (genM m), gives143 m, x1, hR1.book, et, hR1.mt, (ite_f (eqI_f.2 (by omega)) (ite_f (eqI_f.2 (by omega)) (ite_f (eqI_f.2 (by omega)) (ite_f (eqI_f.2 (by omega)) (ite_f (eqI_f.2 (by omega)) (ite_f (eqI_f.2 (by omega)) (ite_t (eqI_t.2 hk) ⟨y, hq, rfl, rfl⟩)))))))⟩⟩, u1.alike (alike2 rfl)⟩
theorem keep12 (hs : stepB m = true) (hk : m.gKind = 12) : Keeps H p m (bhd b m) := by
  rw [bhd12 b m hk]
  obtain ⟨q, H1, own2, y, g140, hR1, hR2, hq, hT, o1, o2, o3⟩ := hR.prep m
  have he : findK kI m.gTask (updK kI m.gTask (some q) et) = some (some q) := findK_upd (fun x y => kI_iff) et
  have hn := tk_number b m
  let x1 : BookS := { x with at' := m.gAt }
  let H2 := updO H1 x.tasks (mapT (updK kI m.gTask (some q) et))
  obtain ⟨xs, i1, _, i2⟩ := stack_len hq hT
  obtain ⟨u1, _, _⟩ := hR2.taskU he hq hT o1 o2 o3 { y with left := true, done := eqI (intN (lenL (tk b m).gStack)) 0 } { tk b m with gLeft := true, gDone := eqI (intN (lenL (tk b m).gStack)) 0 } hn (fun _ h => h) rfl rfl rfl rfl hT.waits hT.stops hT.on rfl rfl
  refine ⟨_, own2, x1, es, ee, _, e106 _ _ _ _ ⟨x, hR.book, true, hs ▸ gives139 m, ite_f rfl ⟨q, H1, g140, gG (genM m), gives143 m, x1, hR1.book, et, hR1.mt, (ite_f (eqI_f.2 (by omega)) (ite_f (eqI_f.2 (by omega)) (ite_f (eqI_f.2 (by omega)) (ite_f (eqI_f.2 (by omega)) (ite_f (eqI_f.2 (by omega)) (ite_f (eqI_f.2 (by omega)) (ite_f (eqI_f.2 (by omega)) (ite_t (eqI_t.2 hk) ⟨y, hq, xs, i1, y, hq, { y with left := true }, obj_upd hq, rfl, by rw [i2]; exact upd2 _ _ _ _⟩))))))))⟩⟩, u1.alike (alike2 rfl)⟩
theorem keep_other (hs : stepB m = true) (hk : m.gKind = 5 ∨ m.gKind = 6 ∨ m.gKind = 7 ∨ m.gKind = 8) : Keeps H p m (bhd b m) := by
  rw [bhd_other b m hk]
  obtain ⟨q, H1, own2, y, g140, hR1, hR2, hq, hT, o1, o2, o3⟩ := hR.prep m
  have he : findK kI m.gTask (updK kI m.gTask (some q) et) = some (some q) := findK_upd (fun x y => kI_iff) et
  have hn := tk_number b m
  let x1 : BookS := { x with at' := m.gAt }
  let H2 := updO H1 x.tasks (mapT (updK kI m.gTask (some q) et))
  exact ⟨H2, own2, x1, es, ee, _, e106 _ _ _ _ ⟨x, hR.book, true, hs ▸ gives139 m, ite_f rfl ⟨q, H1, g140, gG (genM m), gives143 m, x1, hR1.book, et, hR1.mt, (ite_f (eqI_f.2 (by omega)) (ite_f (eqI_f.2 (by omega)) (ite_f (eqI_f.2 (by omega)) (ite_f (eqI_f.2 (by omega)) (ite_f (eqI_f.2 (by omega)) (ite_f (eqI_f.2 (by omega)) (ite_f (eqI_f.2 (by omega)) (ite_f (eqI_f.2 (by omega)) (ite_f (eqI_f.2 (by omega)) ⟨rfl, rfl⟩)))))))))⟩⟩, hR2⟩
end


section
variable {own : Nat → Option Key} {H : List (O U)} {p : Nat} {b : Book} {x : BookS} {es : List (audit_cell × Option Nat)} {ee : List (audit_generation × api_Outcome)} {et : List (Int × Option Nat)} (hR : Rp own H p b x es ee et) {m : api_Mark} {k : Nat} (hI : Inv b) (hS : Small b k) (hk9 : k < 100000)
include hR hI hS hk9

theorem keep4 (hs : stepB m = true) (hk : m.gKind = 4) : Keeps H p m (bhd b m) := by
  rw [bhd4 b m hk]
  obtain ⟨q, H1, own2, y, g140, hR1, hR2, hq, hT, o1, o2, o3⟩ := hR.prep m
  have he : findK kI m.gTask (updK kI m.gTask (some q) et) = some (some q) := findK_upd (fun x y => kI_iff) et
  have hn := tk_number b m
  let x1 : BookS := { x with at' := m.gAt }
  obtain ⟨u1, u2, u3⟩ := hR2.taskU he hq hT o1 o2 o3 { y with waits := false, on := gG G0 } { tk b m with gWaits := false, gFor := G0 } hn (fun _ h => h) rfl rfl rfl rfl rfl hT.stops rfl hT.left hT.done
  have hl : (tk b m).gStack.length ≤ k := hS.stack m.gTask
  obtain ⟨H9, g144, r⟩ := gives144 u1 u2 u3 (genM m) (by show (tk b m).gStack.length < _; omega) (fun hne => by
    obtain ⟨d, hd, _⟩ := hI.stk m.gTask _ (top_mem (List.length_pos_iff.2 hne))
    rw [lk_withT, lk_withT]
    show (lk b _ _).isSome
    rw [hd]; rfl) (fun c hc => by
    rw [(withT_cells _ _).1, (withT_cells _ _).1] at hc
    have := hS.used c hc; omega)
  rw [← upd2 _ q (taskO { y with waits := false })] at g144
  rw [toldB_withT, toldB_withT] at r
  exact ⟨H9, own2, x1, es, ee, _, e106 _ _ _ _ ⟨x, hR.book, true, hs ▸ gives139 m, ite_f rfl ⟨q, H1, g140, gG (genM m), gives143 m, x1, hR1.book, et, hR1.mt, (ite_f (eqI_f.2 (by omega)) (ite_f (eqI_f.2 (by omega)) (ite_f (eqI_f.2 (by omega)) (ite_t (eqI_t.2 hk) ⟨y, hq, { y with waits := false }, obj_upd hq, (), H9, g144, rfl, rfl⟩))))⟩⟩, r.alike (alike2 rfl)⟩

theorem keep13 (hs : stepB m = true) (hk : m.gKind = 13) (hh : haltB (tk b m) m = false) (hr : ruleR b m (tk b m) (genM m) = 0) : Keeps H p m (bhd b m) := by
  rw [bhd13 b m hk]
  obtain ⟨c, hc⟩ := shuts_some hI hh hr hk
  have hcm : cm b m = c := by unfold cm; rw [hc]; rfl
  rw [hcm]
  have hck := lk_key hc
  obtain ⟨q, H1, own2, y, g140, hR1, hR2, hq, hT, o1, o2, o3⟩ := hR.prep m
  have he : findK kI m.gTask (updK kI m.gTask (some q) et) = some (some q) := findK_upd (fun x y => kI_iff) et
  have hn := tk_number b m
  let x1 : BookS := { x with at' := m.gAt }
  obtain ⟨r, z, k1, k2, k3, k4, k5⟩ := hR2.cellS m.gScope m.gName c (by rw [lk_withT]; exact hc)
  obtain ⟨us, u1, u2⟩ := k3.arr
  obtain ⟨xs, a1, a2⟩ := hT.arr
  obtain ⟨sm, s1, s2⟩ := hT.shut
  have hl : (tk b m).gShut.length ≤ k := hS.shut m.gTask
  have hR3 := hR2.cell (c' := { c with gShut := true }) (q := r) (y' := { z with shut := true }) (H' := updO (updO H1 x.tasks (mapT (updK kI m.gTask (some q) et))) r (stateO { z with shut := true }))
    (by dsimp only; rw [hck.1, hck.2, lk_withT]; show (lk b m.gScope m.gName).isSome; rw [hc]; rfl) (by dsimp only; rw [hck.1, hck.2]; exact k1) (by dsimp only; rw [hck.1, hck.2]; exact k4)
    (by dsimp only; rw [hck.1, hck.2]; exact upd_other k4) (obj_upd k2)
    ⟨⟨us, by rw [obj_upd_ne (obj_ne u1 k2 (fun h => by cases h))]; exact u1, u2⟩, k3.gen, k3.runs, k3.task, k3.out, rfl⟩ (by dsimp only; rw [hck.1, hck.2]; exact k5)
  have hq3 : obj (updO (updO H1 x.tasks (mapT (updK kI m.gTask (some q) et))) r (stateO { z with shut := true })) q = some (taskO y) := by
    rw [obj_upd_ne (obj_ne hq k2 (fun h => by cases h))]; exact hq
  have s3 : obj (updO (updO H1 x.tasks (mapT (updK kI m.gTask (some q) et))) r (stateO { z with shut := true })) y.shut = some (mapS sm) := by
    rw [obj_upd_ne (obj_ne s1 k2 (fun h => by cases h))]; exact s1
  have a3 : obj (updO (updO H1 x.tasks (mapT (updK kI m.gTask (some q) et))) r (stateO { z with shut := true })) y.stack = some (arrG y.stackG xs) := by
    rw [obj_upd_ne (obj_ne a1 k2 (fun h => by cases h))]; exact a1
  generalize hH3 : updO (updO H1 x.tasks (mapT (updK kI m.gTask (some q) et))) r (stateO { z with shut := true }) = H3 at hR3 hq3 s3 a3
  have hR4 := hR3.task (t' := { tk b m with gShut := (tk b m).gShut ++ [genM m] }) (y' := y) (H' := updO H3 y.shut (mapS (updK kG (gG (genM m)) (addW .i64 (getO' (0 : Int) (findK kG (gG (genM m)) sm)) 1) sm))) he o1 (upd_other o3)
    (by rw [obj_upd_ne (obj_ne hq3 s3 (fun h => by cases h))]; exact hq3)
    ⟨⟨xs, by rw [obj_upd_ne (obj_ne a3 s3 (fun h => by cases h))]; exact a3, a2⟩, hT.waits, hT.stops, hT.on, hT.left, hT.done, ⟨_, obj_upd s3, s2.push (by omega) (genM m)⟩⟩ o2 o3 hn
  subst hH3
  rw [putC_withT] at hR4
  refine ⟨_, own2, x1, es, ee, _, e106 _ _ _ _ ⟨x, hR.book, true, hs ▸ gives139 m, ite_f rfl ⟨q, H1, g140, gG (genM m), gives143 m, x1, hR1.book, et, hR1.mt, (ite_f (eqI_f.2 (by omega)) (ite_f (eqI_f.2 (by omega)) (ite_f (eqI_f.2 (by omega)) (ite_f (eqI_f.2 (by omega)) (ite_f (eqI_f.2 (by omega)) (ite_f (eqI_f.2 (by omega)) (ite_f (eqI_f.2 (by omega)) (ite_f (eqI_f.2 (by omega)) (ite_t (eqI_t.2 hk) ⟨x1, hR2.book, es, hR2.mc, ?_⟩)))))))))⟩⟩, hR4.alike (alike2 rfl)⟩
  have hf : findK kC (audit_cell.mk (gG (genM m)).1.1 (gG (genM m)).1.2) es = some (some r) := k1
  rw [hf]
  refine and_t rfl ⟨z, k2, y, hq3, sm, s3, sm, s3, ⟨sm, _, s3, obj_upd s3, ⟨trivial, ?_⟩, trivial⟩, _, obj_upd s3, and_t ?_ ⟨rfl, ?_⟩⟩
  · have := findK_ent (x := (0 : Int)) (fun x y => kG_iff) (k := gG (genM m)) sm
    show getO' (0 : Int) (findK kG (gG (genM m)) sm) = getO' (0 : Int) (findK kG (gG (genM m)) (entK kG (gG (genM m)) (0 : Int) sm))
    rw [this]; rfl
  · exact in_len (idx_lt sm)
  · rw [upd2]
    have := set_ent (eq := kG) (k := gG (genM m)) (x := (0 : Int)) (z := addW .i64 (getO' (0 : Int) (findK kG (gG (genM m)) sm)) 1) sm
    rw [← this]; rfl
end


section
variable {own : Nat → Option Key} {H : List (O U)} {p : Nat} {b : Book} {x : BookS} {es : List (audit_cell × Option Nat)} {ee : List (audit_generation × api_Outcome)} {et : List (Int × Option Nat)} (hR : Rp own H p b x es ee et) {m : api_Mark} {k : Nat} (hI : Inv b) (hS : Small b k) (hk9 : k < 100000)
include hR hI hS hk9

theorem keep1 (hs : stepB m = true) (hk : m.gKind = 1) : Keeps H p m (bhd b m) := by
  rw [bhd1 b m hk]
  obtain ⟨q, H1, own2, y, g140, hR1, hR2, hq, hT, o1, o2, o3⟩ := hR.prep m
  have he : findK kI m.gTask (updK kI m.gTask (some q) et) = some (some q) := findK_upd (fun x y => kI_iff) et
  have hn := tk_number b m
  let x1 : BookS := { x with at' := m.gAt }
  have hl : (tk b m).gStack.length ≤ k := hS.stack m.gTask
  have hw3 : (putC (withT (atB b m) (tk b m)) ⟨m.gScope, m.gName, m.gGen, true, m.gTask, ⟨0, [], []⟩, false, []⟩).gTasks = (withT (atB b m) (tk b m)).gTasks := (putC_tasks _ _).1
  have elen : lenO (pushO (updO H1 x.tasks (mapT (updK kI m.gTask (some q) et))) (arrG 0 [])) = lenO (updO H1 x.tasks (mapT (updK kI m.gTask (some q) et))) + 1 := by simp [lenO, pushO]
  have key : ∀ put : Int, ∃ H9 own9 es9 y2 xs, 
      obj (updO (pushO (pushO (updO H1 x.tasks (mapT (updK kI m.gTask (some q) et))) (arrG 0 [])) (stateO ⟨m.gGen, true, m.gTask, ⟨0, [], []⟩, false, lenO (updO H1 x.tasks (mapT (updK kI m.gTask (some q) et))), 0, none, put⟩)) x1.cells (mapC (updK kC ⟨m.gScope, m.gName⟩ (some (lenO (pushO (updO H1 x.tasks (mapT (updK kI m.gTask (some q) et))) (arrG 0 [])))) es))) q = some (taskO y2) ∧ obj (updO (pushO (pushO (updO H1 x.tasks (mapT (updK kI m.gTask (some q) et))) (arrG 0 [])) (stateO ⟨m.gGen, true, m.gTask, ⟨0, [], []⟩, false, lenO (updO H1 x.tasks (mapT (updK kI m.gTask (some q) et))), 0, none, put⟩)) x1.cells (mapC (updK kC ⟨m.gScope, m.gName⟩ (some (lenO (pushO (updO H1 x.tasks (mapT (updK kI m.gTask (some q) et))) (arrG 0 [])))) es))) y2.stack = some (arrG y2.stackG xs) ∧ RowsR y2.stackS xs (tk b m).gStack ∧
      obj (updO (updO (pushO (pushO (updO H1 x.tasks (mapT (updK kI m.gTask (some q) et))) (arrG 0 [])) (stateO ⟨m.gGen, true, m.gTask, ⟨0, [], []⟩, false, lenO (updO H1 x.tasks (mapT (updK kI m.gTask (some q) et))), 0, none, put⟩)) x1.cells (mapC (updK kC ⟨m.gScope, m.gName⟩ (some (lenO (pushO (updO H1 x.tasks (mapT (updK kI m.gTask (some q) et))) (arrG 0 [])))) es))) y2.stack (arrG (Nat.succ y2.stackG) (appL (subRows y2.stackS xs) [gG (genM m)]))) q = some (taskO y2) ∧
      H9 = updO (updO (updO (pushO (pushO (updO H1 x.tasks (mapT (updK kI m.gTask (some q) et))) (arrG 0 [])) (stateO ⟨m.gGen, true, m.gTask, ⟨0, [], []⟩, false, lenO (updO H1 x.tasks (mapT (updK kI m.gTask (some q) et))), 0, none, put⟩)) x1.cells (mapC (updK kC ⟨m.gScope, m.gName⟩ (some (lenO (pushO (updO H1 x.tasks (mapT (updK kI m.gTask (some q) et))) (arrG 0 [])))) es))) y2.stack (arrG (Nat.succ y2.stackG) (appL (subRows y2.stackS xs) [gG (genM m)]))) q (taskO { y2 with stackG := Nat.succ y2.stackG, stackS := none }) ∧
      Rp own9 H9 p (withT (putC (atB b m) ⟨m.gScope, m.gName, m.gGen, true, m.gTask, ⟨0, [], []⟩, false, []⟩) { tk b m with gStack := (tk b m).gStack ++ [genM m] }) x1 es9 ee (updK kI m.gTask (some q) et) := by
    rw [elen]
    intro put
    obtain ⟨own3, hR3⟩ : ∃ own3, Rp own3 _ p _ x1 _ ee _ := ⟨_, hR2.begin ⟨m.gScope, m.gName, m.gGen, true, m.gTask, ⟨0, [], []⟩, false, []⟩ rfl put⟩
    obtain ⟨q', y2, i1, i2, i3, p1, p2, p3⟩ := hR3.taskS m.gTask (tk b m) (by rw [hw3]; have := tkF_withT (atB b m) (tk b m) m.gTask; rw [if_pos hn] at this; exact this)
    have e : some (some q) = some (some q') := he.symm.trans i1
    cases e
    obtain ⟨xs, a1, a2⟩ := i3.arr
    obtain ⟨sm, s1, s2⟩ := i3.shut
    have hne : q ≠ y2.stack := obj_ne i2 a1 (fun h => by cases h)
    have hq4 : obj (updO (updO (pushO (pushO (updO H1 x.tasks (mapT (updK kI m.gTask (some q) et))) (arrG 0 [])) (stateO ⟨m.gGen, true, m.gTask, ⟨0, [], []⟩, false, lenO (updO H1 x.tasks (mapT (updK kI m.gTask (some q) et))), 0, none, put⟩)) x1.cells (mapC (updK kC ⟨m.gScope, m.gName⟩ (some (lenO (updO H1 x.tasks (mapT (updK kI m.gTask (some q) et))) + 1)) es))) y2.stack (arrG (Nat.succ y2.stackG) (appL (subRows y2.stackS xs) [gG (genM m)]))) q = some (taskO y2) := by
      rw [obj_upd_ne hne]; exact i2
    have hR4 := hR3.task (q := q) (t' := { tk b m with gStack := (tk b m).gStack ++ [genM m] }) (y' := { y2 with stackG := Nat.succ y2.stackG, stackS := none }) (H' := updO (updO (updO (pushO (pushO (updO H1 x.tasks (mapT (updK kI m.gTask (some q) et))) (arrG 0 [])) (stateO ⟨m.gGen, true, m.gTask, ⟨0, [], []⟩, false, lenO (updO H1 x.tasks (mapT (updK kI m.gTask (some q) et))), 0, none, put⟩)) x1.cells (mapC (updK kC ⟨m.gScope, m.gName⟩ (some (lenO (updO H1 x.tasks (mapT (updK kI m.gTask (some q) et))) + 1)) es))) y2.stack (arrG (Nat.succ y2.stackG) (appL (subRows y2.stackS xs) [gG (genM m)]))) q (taskO { y2 with stackG := Nat.succ y2.stackG, stackS := none })) he p1
      (fun mm o' hm hh => upd_other p1 mm o' hm (upd_other p2 mm o' hm hh)) (obj_upd hq4)
      ⟨⟨_, by rw [obj_upd_ne (fun e => hne e.symm)]; exact obj_upd a1, a2.push (genM m)⟩, i3.waits, i3.stops, i3.on, i3.left, i3.done, ⟨sm, by
        rw [obj_upd_ne (obj_ne s1 i2 (fun h => by cases h)), obj_upd_ne (obj_ne s1 a1 (fun h => by cases h))]; exact s1, s2⟩⟩ p2 p3 hn
    rw [putC_withT] at hR4
    exact ⟨_, _, _, y2, xs, i2, a1, a2, hq4, rfl, hR4.alike (alike2 rfl)⟩
  have x1e : Ext (updO H1 x.tasks (mapT (updK kI m.gTask (some q) et))) (pushO (updO H1 x.tasks (mapT (updK kI m.gTask (some q) et))) (arrG 0 [])) := Ext.push _ _
  cases hc : lk (withT (atB b m) (tk b m)) m.gScope m.gName with
  | some c =>
    obtain ⟨r, z, k1, k2, k3, k4, k5⟩ := hR2.cellS m.gScope m.gName c hc
    obtain ⟨H9, own9, es9, y2, xs, w1, w2, w3, w4, w5, w6⟩ := key z.put
    refine ⟨H9, own9, x1, es9, ee, _, e106 _ _ _ _ ⟨x, hR.book, true, hs ▸ gives139 m, ite_f rfl ⟨q, H1, g140, gG (genM m), gives143 m, x1, hR1.book, et, hR1.mt, (ite_t (eqI_t.2 hk) ⟨x1, hR2.book, es, hR2.mc, x1, hR2.book, es, hR2.mc, ?_⟩)⟩⟩, w6⟩
    have hf : findK kC (audit_cell.mk (gG (genM m)).1.1 (gG (genM m)).1.2) es = some (some r) := k1
    rw [hf]
    have x2e := Ext.push (pushO (updO H1 x.tasks (mapT (updK kI m.gTask (some q) et))) (arrG 0 [])) (stateO ⟨m.gGen, true, m.gTask, ⟨0, [], []⟩, false, lenO (updO H1 x.tasks (mapT (updK kI m.gTask (some q) et))), 0, none, z.put⟩)
    refine ite_t rfl (and_t rfl ⟨z, k2, x1, hR2.book, ⟨x1, x1, hR2.book, x1e _ _ hR2.book, rfl⟩, ⟨x1, x1, x1e _ _ hR2.book, x2e _ _ (x1e _ _ hR2.book), rfl⟩, es, x2e _ _ (x1e _ _ hR2.mc), ?_⟩)
    refine ⟨y2, w1, xs, w2, and_t ?_ (and_t w3.fit (and_t (roomB_t ?_) ⟨y2, w4, rfl, w5.symm⟩))⟩
    · rw [w3.off]; rfl
    · have : subLen y2.stackS (lenL xs) = (tk b m).gStack.length := w3.len
      rw [this]
      simp only [addN, lenL_eq, List.length_singleton]; omega
  | none =>
    have k1 := hR2.cellN m.gScope m.gName hc
    obtain ⟨H9, own9, es9, y2, xs, w1, w2, w3, w4, w5, w6⟩ := key (intN (lenL es))
    refine ⟨H9, own9, x1, es9, ee, _, e106 _ _ _ _ ⟨x, hR.book, true, hs ▸ gives139 m, ite_f rfl ⟨q, H1, g140, gG (genM m), gives143 m, x1, hR1.book, et, hR1.mt, (ite_t (eqI_t.2 hk) ⟨x1, hR2.book, es, hR2.mc, x1, hR2.book, es, hR2.mc, ?_⟩)⟩⟩, w6⟩
    have hf : findK kC (audit_cell.mk (gG (genM m)).1.1 (gG (genM m)).1.2) es = none := k1
    rw [hf]
    have x2e := Ext.push (pushO (updO H1 x.tasks (mapT (updK kI m.gTask (some q) et))) (arrG 0 [])) (stateO ⟨m.gGen, true, m.gTask, ⟨0, [], []⟩, false, lenO (updO H1 x.tasks (mapT (updK kI m.gTask (some q) et))), 0, none, intN (lenL es)⟩)
    refine ite_f rfl ⟨x1, hR2.book, ⟨x1, x1, hR2.book, x1e _ _ hR2.book, rfl⟩, ⟨x1, x1, x1e _ _ hR2.book, x2e _ _ (x1e _ _ hR2.book), rfl⟩, es, x2e _ _ (x1e _ _ hR2.mc), ?_⟩
    refine ⟨y2, w1, xs, w2, and_t ?_ (and_t w3.fit (and_t (roomB_t ?_) ⟨y2, w4, rfl, w5.symm⟩))⟩
    · rw [w3.off]; rfl
    · have : subLen y2.stackS (lenL xs) = (tk b m).gStack.length := w3.len
      rw [this]
      simp only [addN, lenL_eq, List.length_singleton]; omega
end


section
variable {own : Nat → Option Key} {H : List (O U)} {p : Nat} {b : Book} {x : BookS} {es : List (audit_cell × Option Nat)} {ee : List (audit_generation × api_Outcome)} {et : List (Int × Option Nat)} (hR : Rp own H p b x es ee et) {m : api_Mark} {k : Nat} (hI : Inv b) (hS : Small b k) (hk9 : k < 100000)
include hR hI hS hk9

theorem keep2 (h2 : Inv2 b) (hs : stepB m = true) (hk : m.gKind = 2) (hr : ruleR b m (tk b m) (genM m) = 0) : Keeps H p m (bhd b m) := by
  rw [bhd2 b m hk]
  obtain ⟨hp, htop, _⟩ := rule2 hr hk
  have htm := top_mem hp
  rw [htop] at htm
  obtain ⟨c, hc, hcr, hcg, hct⟩ := hI.stk m.gTask (genM m) htm
  have hend := end_none h2 hc hcr hcg
  have hc : lk b m.gScope m.gName = some c := hc
  have hcm : cm b m = c := by unfold cm; rw [hc]; rfl
  rw [hcm]
  have hck := lk_key hc
  have hp : 0 < (tk b m).gStack.length := hp
  obtain ⟨q, H1, own2, y, g140, hR1, hR2, hq, hT, o1, o2, o3⟩ := hR.prep m
  have he : findK kI m.gTask (updK kI m.gTask (some q) et) = some (some q) := findK_upd (fun x y => kI_iff) et
  have hn := tk_number b m
  let x1 : BookS := { x with at' := m.gAt }
  have hl : (tk b m).gStack.length ≤ k := hS.stack m.gTask
  obtain ⟨r, z, k1, k2, k3, k4, k5⟩ := hR2.cellS m.gScope m.gName c (by rw [lk_withT]; exact hc)
  obtain ⟨us, u1, u2⟩ := k3.arr
  obtain ⟨xs, a1, a2⟩ := hT.arr
  obtain ⟨sm, s1, s2⟩ := hT.shut
  have hR3 := hR2.cell (c' := { c with gRuns := false, gOut := m.gOutcome }) (q := r) (y' := { z with runs := false, out := m.gOutcome }) (H' := updO (updO H1 x.tasks (mapT (updK kI m.gTask (some q) et))) r (stateO { z with runs := false, out := m.gOutcome }))
    (by dsimp only; rw [hck.1, hck.2, lk_withT]; show (lk b m.gScope m.gName).isSome; rw [hc]; rfl) (by dsimp only; rw [hck.1, hck.2]; exact k1) (by dsimp only; rw [hck.1, hck.2]; exact k4)
    (by dsimp only; rw [hck.1, hck.2]; exact upd_other k4) (obj_upd k2)
    ⟨⟨us, by rw [obj_upd_ne (obj_ne u1 k2 (fun h => by cases h))]; exact u1, u2⟩, k3.gen, rfl, k3.task, rfl, k3.shut⟩ (by dsimp only; rw [hck.1, hck.2]; exact k5)
  have f3 : ∀ {n o}, obj (updO H1 x.tasks (mapT (updK kI m.gTask (some q) et))) n = some o → (∀ z, o ≠ stateO z) → obj (updO (updO H1 x.tasks (mapT (updK kI m.gTask (some q) et))) r (stateO { z with runs := false, out := m.gOutcome })) n = some o := fun h hne => by
    rw [obj_upd_ne (obj_ne h k2 (hne z))]; exact h
  have hT3 : TkR (updO (updO H1 x.tasks (mapT (updK kI m.gTask (some q) et))) r (stateO { z with runs := false, out := m.gOutcome })) y (tk b m) := ⟨⟨xs, f3 a1 (fun _ h => by cases h), a2⟩, hT.waits, hT.stops, hT.on, hT.left, hT.done, ⟨sm, f3 s1 (fun _ h => by cases h), s2⟩⟩
  have hq3 := f3 hq (fun _ h => by cases h)
  have hends : endO (putC (withT (atB b m) (tk b m)) { c with gRuns := false, gOut := m.gOutcome }) (genM m) = none := by
    unfold endO; rw [(putC_tasks _ _).2.1, (withT_cells _ _).2.1]; exact hend
  have hR4 := hR3.end (genM m) m.gOutcome hends
  generalize hH3 : updO (updO H1 x.tasks (mapT (updK kI m.gTask (some q) et))) r (stateO { z with runs := false, out := m.gOutcome }) = H3 at hR3 hR4 hT3 hq3
  obtain ⟨xs3, a3, a4⟩ := hT3.arr
  obtain ⟨sm3, s3, s4⟩ := hT3.shut
  have f4 : ∀ {n o}, obj H3 n = some o → (∀ z, o ≠ mapE z) → obj (updO H3 x.ends (mapE (updK kG (gG (genM m)) m.gOutcome ee))) n = some o := fun h hne => by
    rw [obj_upd_ne (obj_ne h hR3.me (hne ee))]; exact h
  have hq4 := f4 hq3 (fun _ h => by cases h)
  have a5 := f4 a3 (fun _ h => by cases h)
  have hT4 : TkR (updO H3 x.ends (mapE (updK kG (gG (genM m)) m.gOutcome ee))) y (tk b m) := ⟨⟨xs3, a5, a4⟩, hT3.waits, hT3.stops, hT3.on, hT3.left, hT3.done, ⟨sm3, f4 s3 (fun _ h => by cases h), s4⟩⟩
  obtain ⟨v1, v2, v3⟩ := hR4.taskU he hq4 hT4 o1 o2 o3 { y with stackS := some (subOff y.stackS, (tk b m).gStack.length - 1) } { tk b m with gStack := (tk b m).gStack.dropLast } hn (fun _ h => h.pop) rfl rfl rfl rfl hT.waits hT.stops hT.on hT.left hT.done
  obtain ⟨H9, g144, r9⟩ := gives144 v1 v2 v3 (genM m) (by show (tk b m).gStack.dropLast.length < _; rw [List.length_dropLast]; omega) (fun hne => by
    have hmem : topG (tk b m).gStack.dropLast ∈ (tk b m).gStack := List.dropLast_subset _ (top_mem (List.length_pos_iff.2 hne))
    obtain ⟨d, hd, _⟩ := hI.stk m.gTask _ hmem
    rw [lk_withT]
    show (lk (putC (withT (atB b m) (tk b m)) { c with gRuns := false, gOut := m.gOutcome }) _ _).isSome
    rw [lk_putC]
    split
    · rfl
    · rw [lk_withT]; show (lk b _ _).isSome; rw [hd]; rfl) (fun c' hc' => by
    rw [(withT_cells _ _).1] at hc'
    have hsm := (putC_small (b := withT (atB b m) (tk b m)) (c := { c with gRuns := false, gOut := m.gOutcome }) (k := k) (by rw [(withT_cells _ _).1]; exact hS.cells) (by rw [(withT_cells _ _).1]; exact hS.used) (Nat.le_succ_of_le (hS.used c (List.mem_of_find?_eq_some hc)))).2 c' hc'
    omega)
  have hbook : ({ putC (withT (atB b m) (tk b m)) { c with gRuns := false, gOut := m.gOutcome } with gEnds := (putC (withT (atB b m) (tk b m)) { c with gRuns := false, gOut := m.gOutcome }).gEnds ++ [⟨genM m, m.gOutcome⟩] } : Book)
      = withT { putC (atB b m) { c with gRuns := false, gOut := m.gOutcome } with gEnds := b.gEnds ++ [⟨genM m, m.gOutcome⟩] } (tk b m) := by
    rw [(putC_tasks _ _).2.1, (withT_cells _ _).2.1, putC_withT, ends_withT]
  rw [hbook, toldB_withT, toldB_withT] at r9
  subst hH3
  refine ⟨H9, own2, x1, es, _, _, e106 _ _ _ _ ⟨x, hR.book, true, hs ▸ gives139 m, ite_f rfl ⟨q, H1, g140, gG (genM m), gives143 m, x1, hR1.book, et, hR1.mt, (ite_f (eqI_f.2 (by omega)) (ite_t (eqI_t.2 hk) ⟨x1, hR2.book, es, hR2.mc, ?_⟩))⟩⟩, r9.alike (alike2 rfl)⟩
  have hf : findK kC (audit_cell.mk (gG (genM m)).1.1 (gG (genM m)).1.2) es = some (some r) := k1
  rw [hf]
  have hz := obj_upd (o := stateO { z with runs := false }) k2
  rw [← upd2 (updO H1 x.tasks (mapT (updK kI m.gTask (some q) et))) r (stateO { z with runs := false })] at hR3 hq4 a5 g144
  have hlen : intN (subLen y.stackS (lenL xs3)) = ((tk b m).gStack.length : Int) := by rw [lenL_eq, a4.len]; rfl
  have esub : subW .i64 (intN (subLen y.stackS (lenL xs3))) 1 = (((tk b m).gStack.length - 1 : Nat) : Int) := by
    rw [hlen, subW_id (by omega) (by omega)]; omega
  refine and_t rfl ⟨z, k2, and_t rfl ⟨{ z with runs := false }, hz, x1, hR3.book, ee, hR3.me, y, hq4, y, hq4, xs3, a5, xs3, a5, ?_⟩⟩
  rw [esub, hlen, natI_nat]
  refine and_t ?_ ⟨y, hq4, (), H9, g144, rfl, rfl⟩
  rw [andB_true, andB_true, andB_true]
  exact ⟨rfl, decide_eq_true (by omega), decide_eq_true (by omega), a4.fit⟩
end

theorem gives106 {own : Nat → Option Key} {H : List (O U)} {p : Nat} {b : Book} {x : BookS} {es : List (audit_cell × Option Nat)} {ee : List (audit_generation × api_Outcome)} {et : List (Int × Option Nat)} (hR : Rp own H p b x es ee et) {m : api_Mark} {k : Nat} (hI : Inv b) (h2 : Inv2 b) (hS : Small b k) (hk9 : k < 100000)
    (h : brk b m = 0) : Keeps H p m (bhd b m) := by
  obtain ⟨hg, hstep⟩ := brk_none h
  by_cases hs : stepB m = true
  · obtain ⟨hh, hr⟩ := hstep hs
    rcases step_kind hs with hk | hk | hk | hk | hk | hk | hk | hk | hk | hk
    · exact keep1 hR hI hS hk9 hs hk
    · exact keep2 hR hI hS hk9 h2 hs hk hr
    · exact keep3 hR hs hk
    · exact keep4 hR hI hS hk9 hs hk
    · exact keep9 hR hs hk
    · exact keep10 hR hs hk
    · exact keep11 hR hs hk
    · exact keep12 hR hs hk
    · exact keep13 hR hI hS hk9 hs hk hh hr
    · exact keep_other hR hs hk
  · exact keep0 hR (Bool.eq_false_iff.2 hs)


theorem gives104 (H : List (O U)) : ∃ p H1 own x es ee et, GivesM 104 [] H (.ptr (.g p) 0) H1 ∧ Rp own H1 p B0 x es ee et := by
  let Ha := pushO H (mapC [])
  let Hb := pushO Ha (mapE [])
  let Hc := pushO Hb (mapT [])
  let x : BookS := ⟨0, 0, lenO H, lenO Ha, lenO Hb⟩
  have x1 : Ext Ha Hb := Ext.push _ _
  have x2 : Ext Hb Hc := Ext.push _ _
  have x3 : Ext Hc (pushO Hc (bookO x)) := Ext.push _ _
  refine ⟨lenO Hc, pushO Hc (bookO x), fun _ => none, x, [], [], [], e104 H _ ⟨rfl, rfl⟩, ?_⟩
  exact ⟨obj_push, rfl, rfl, x3 _ _ (x2 _ _ (x1 _ _ obj_push)), x3 _ _ (x2 _ _ obj_push), x3 _ _ obj_push, rfl, fun _ _ _ => rfl, fun _ _ _ h => (by cases h), fun _ => rfl, rfl, rfl, rfl, rfl, fun _ _ => rfl, fun _ _ h => (by cases h)⟩

theorem gives67 (l : List api_Mark) (hn : l.length ≤ 16384) (H : List (O U)) : ∃ p H1, GivesM 67 [.d (.sl .api_Mark l)] H (.tup [.ptr (.g p) 0, .agg [.d (.int .i64 (readL B0 0 l).1.gRule), .d (.int .i64 (readL B0 0 l).1.gAt)]]) H1 := by
  obtain ⟨p, H0, own, x, es, ee, et, g104, hR⟩ := gives104 H
  have loop : ∀ i, i ≤ l.length → ∀ b, Inv b → Inv2 b → Small b i → ∀ own H x es ee et, Rp own H p b x es ee et → ∃ H1, At K 67 (fun c' H' => c' = (.tup [.ptr (.g p) 0, .agg [.d (.int .i64 (readL b i (l.drop i)).1.gRule), .d (.int .i64 (readL b i (l.drop i)).1.gAt)]] : C U) ∧ H' = H1) t67_3
      (s67_3 p l (intN (lenL l)) i 0 0 H) := by
    refine upto ?_ fun i hi ih => ?_
    · intro b _ _ _ own H x es ee et _
      rw [List.drop_length]
      exact ⟨H, l67_3 _ _ _ _ _ _ _ _ (ite_f (lt_len_f (Nat.le_refl _)) ⟨rfl, rfl⟩)⟩
    · intro b hI h2 hS own H x es ee et hR
      obtain ⟨H1, g105, e⟩ := gives105 hR l[i] hI hS (by omega)
      rw [List.drop_eq_getElem_cons hi, readL]
      cases hb : ltI 0 (brk b l[i]) with
      | true =>
        refine ⟨H1, l67_3 _ _ _ _ _ _ _ _ (ite_t (lt_len hi) (and_t (in_len hi) ?_))⟩
        rw [rd_at hi]
        exact ⟨_, H1, g105, ite_t hb ⟨rfl, rfl⟩⟩
      | false =>
        have h0 := brk_f hb
        obtain ⟨H2, own2, x2, es2, ee2, et2, g106, hR2⟩ := gives106 (hR.ext e) hI h2 hS (by omega) h0
        obtain ⟨H3, hat⟩ := ih (bhd b l[i]) (hI.next h0) (h2.next hI h0) (hS.next hI h0) _ _ _ _ _ _ hR2
        refine ⟨H3, l67_3 _ _ _ _ _ _ _ _ (ite_t (lt_len hi) (and_t (in_len hi) ?_))⟩
        rw [rd_at hi]
        refine ⟨_, H1, g105, ite_f hb ⟨(), H2, g106, ?_⟩⟩
        rw [add_one (by omega)]
        exact hat
  obtain ⟨H1, hat⟩ := loop 0 (Nat.zero_le _) B0 inv0 inv20 small0 _ _ _ _ _ _ hR
  exact ⟨p, H1, e67 _ _ _ ⟨p, H0, g104, hat⟩⟩

theorem gives23 (l : List api_Mark) : Gives 23 [.d (.sl .api_Mark l)] (.tup [.agg [.d (.int .i64 (chkV l).gRule), .d (.int .i64 (chkV l).gAt)], .d (.int .i64 (chkE l))]) := by
  by_cases hn : 16384 < l.length
  · refine e23 _ _ (ite_t (decide_eq_true (by rw [intN_eq, lenL_eq]; omega)) ?_)
    rw [chkV, chkE, if_pos hn, if_pos hn]
    exact ⟨rfl, rfl⟩
  · obtain ⟨p, H1, g67⟩ := gives67 l (by omega) []
    refine e23 _ _ (ite_f (decide_eq_false (by rw [intN_eq, lenL_eq]; omega)) ⟨(p, (readL B0 0 l).1), H1, g67, ?_⟩)
    rw [chkV, chkE, if_neg hn, if_neg hn]
    exact ⟨rfl, rfl⟩


theorem strEq_size {x y : ByteArray} (h : x.size ≠ y.size) : strEq x y = false := by
  rw [Bool.eq_false_iff]; intro e; exact h (by rw [strEq_iff'.1 e])
theorem nameB_a : nameB (bs [97]) = true := by
  have h1 : strEq (bs [97]) (bs []) = false := strEq_size (by decide)
  have h2 : inB' keyL (bs [97]) = false := by
    unfold inB'
    rw [List.any_eq_false]
    intro k hk
    have : k.size ≠ (bs [97]).size := by
      revert k
      decide
    rw [strEq_size this]; simp
  have h3 : wordB (bs [97]) = true := by decide
  unfold nameB
  rw [h1, h2, h3]; decide

def m1 : api_Mark := ⟨0, 1, 0, 0, 1, bs [97], ⟨0, [], []⟩⟩
def m2 : api_Mark := ⟨0, 1, 1, 0, 1, bs [97], ⟨0, [], []⟩⟩
def m3 : api_Mark := ⟨0, 2, 0, 0, 1, bs [97], ⟨1, [⟨1, 0, 0, bs []⟩], []⟩⟩
theorem mark1 : markB m1 = true := by
  unfold markB m1; dsimp only; rw [nameB_a, Bool.or_true]; rfl
theorem mark2 : markB m2 = true := by
  unfold markB m2; dsimp only; rw [nameB_a, Bool.or_true]; rfl
theorem mark3 : markB m3 = true := by
  unfold markB m3; dsimp only; rw [nameB_a, Bool.or_true]
  have : outB ⟨1, [⟨1, 0, 0, bs []⟩], []⟩ = true := by
    unfold outB outR
    have hv : valE [⟨1, 0, 0, bs []⟩] = 0 := by
      have ha : atomB ⟨1, 0, 0, bs []⟩ = true := by
        unfold atomB; dsimp only; rw [strEq_self]; rfl
      unfold valE
      have : valOk [⟨1, 0, 0, bs []⟩] = true := by
        unfold valOk valD
        simp only [valT, Tr.read, Tr.put, ha]
        rfl
      rw [this]; rfl
    rw [hv]; rfl
  rw [this]; rfl
theorem brk_of {b : Book} {m : api_Mark} (h1 : markB m = true) (h2 : ltI m.gAt b.gAt = false) (h3 : stepB m = true) (h4 : haltB (ofT b m.gTask) m = false) : brk b m = ruleR b m (ofT b m.gTask) (genM m) := by
  unfold brk; rw [h1, h2, h3, h4]; rfl
theorem brk1 : brk B0 m1 = 0 := by
  rw [brk_of mark1 rfl rfl rfl]; rfl
theorem brk2 : brk (bhd B0 m1) m2 = 4 := by
  rw [bhd1 B0 m1 rfl]
  rw [brk_of mark2 (by rw [(withT_cells _ _).2.2.1, (putC_tasks _ _).2.2.1]; rfl) rfl ?_]
  · have hl : lk (withT (putC (atB B0 m1) ⟨m1.gScope, m1.gName, m1.gGen, true, m1.gTask, ⟨0, [], []⟩, false, []⟩) { tk B0 m1 with gStack := (tk B0 m1).gStack ++ [genM m1] }) m2.gScope m2.gName = some ⟨m1.gScope, m1.gName, m1.gGen, true, m1.gTask, ⟨0, [], []⟩, false, []⟩ := by
      unfold lk; rw [(withT_cells _ _).1]
      have := lk_putC (atB B0 m1) ⟨m1.gScope, m1.gName, m1.gGen, true, m1.gTask, ⟨0, [], []⟩, false, []⟩ m2.gScope m2.gName
      rw [if_pos ⟨rfl, rfl⟩] at this; exact this
    unfold ruleR
    rw [hl]; rfl
  · rw [ofT_withT, if_neg (by decide)]; rfl
theorem brk3 : brk B0 m3 = 5 := by
  rw [brk_of mark3 rfl rfl rfl]; rfl

theorem gives26 : Gives 26 [] (.d (.bool true)) := by
  have h1 : chkV [m1, m2] = ⟨4, 1⟩ := by
    unfold chkV
    rw [if_neg (by decide)]
    simp only [readL, brk1, brk2]; rfl
  have h2 : chkV [m3] = ⟨5, 0⟩ := by
    unfold chkV
    rw [if_neg (by decide)]
    simp only [readL, brk3]; rfl
  have g1 := gives23 [m1, m2]
  have g2 := gives23 [m3]
  rw [h1] at g1
  rw [h2] at g2
  exact e26 _ ⟨(⟨4, 1⟩, 0), g1, (⟨5, 0⟩, 0), g2, true, rfl, true, rfl, true, rfl, rfl, rfl⟩

theorem gives4 (l : List api_Mark) : Gives 4 [.d (.sl .api_Mark l)] (.d (.bool true)) := by
  obtain ⟨bk, g24⟩ := gives24 l
  refine e4 _ _ ⟨l, gives22 l, (chkV l, chkE l), gives23 l, (chkV l, bk, chkE l), g24, true, ite_t ?_ (eqI_t.2 rfl), true, ite_t rfl ⟨true, ?_, rfl⟩, true, ite_t rfl ⟨true, gives26, rfl⟩, rfl, rfl⟩
  · simp only [andB_true, eqI_t, and_self]
  · have := gives25 l l; rw [eqv_self] at this; exact this


theorem remW_nat (a b : Nat) : remW (a : Int) (b : Int) = ((a % b : Nat) : Int) := rfl
theorem gives27 (a : Int) {n : Nat} (h : 0 < n) (h2 : n ≤ 1000000000000000000) : ∃ k : Nat, k < n ∧ Gives 27 [.d (.int .i64 a), .d (.int .i64 n)] (.d (.int .i64 k)) := by
  have hne : notB (eqI (n : Int) 0) = true := by rw [notB_t, eqI_f]; omega
  have hb : -(n : Int) < Int.tmod a n ∧ Int.tmod a n < n := by
    have h1 := Int.tmod_lt_of_pos a (b := (n : Int)) (by omega)
    have h2 := Int.lt_tmod_of_pos a (b := (n : Int)) (by omega)
    exact ⟨h2, h1⟩
  obtain ⟨m, hm⟩ : ∃ m : Nat, Int.tmod a n + n = (m : Int) := ⟨(Int.tmod a n + n).toNat, by omega⟩
  refine ⟨m % n, Nat.mod_lt _ h, e27 _ _ _ (and_t hne (and_t hne ?_))⟩
  have e : addW .i64 (remW a n) n = (m : Int) := by
    show addW .i64 (Int.tmod a n) n = _
    rw [addW_id (by omega) (by omega), hm]
  rw [e, remW_nat]
  exact ⟨rfl, rfl⟩

theorem chkE_small {l : List api_Mark} (h : l.length ≤ 16384) : chkE l = 0 := if_neg (by omega)
theorem cut_front (l : List api_Mark) (k : Nat) : dropL (natI 0) (takeL (natI (k : Int)) l) = l.take k := rfl
theorem cut_back (l : List api_Mark) (k : Nat) : dropL (natI (k : Int)) (takeL (natI (intN (lenL l))) l) = l.drop k := by
  show (l.take l.length).drop k = _
  rw [List.take_length]
theorem back22 (l : List api_Mark) (k : Nat) : Gives 22 [.d (.sl .api_Mark (dropL (natI (k : Int)) (takeL (natI (intN (lenL l))) l)))] (.osl .api_Mark (l.drop k)) := by
  exact Eq.mp (congrArg (fun x => Gives 22 [.d (.sl .api_Mark (dropL (natI (k : Int)) (takeL (natI (intN (lenL l))) l)))] (.osl .api_Mark x)) (cut_back l k)) (gives22 _)
theorem front_ok {n k : Nat} (h : k ≤ n) : (andB (leI 0 0) (andB (leI 0 (k : Int)) (leI (k : Int) (n : Int)))) = true := by
  simp [andB, leI]; omega
theorem back_ok {n k : Nat} (h : k ≤ n) : (andB (leI 0 (k : Int)) (andB (leI (k : Int) (n : Int)) (leI (n : Int) (n : Int)))) = true := by
  simp [andB, leI]; omega

theorem gives5 (l : List api_Mark) (at' : Int) : Gives 5 [.d (.sl .api_Mark l), .d (.int .i64 at')] (.d (.bool true)) := by
  refine Runs.known fun hk _ => ?_
  have hl := known_marks (hk _ (List.mem_cons_self ..))
  obtain ⟨k, hkn, g27⟩ := gives27 at' (n := l.length + 1) (by omega) (by omega)
  have e1 : addW .i64 (intN (lenL l)) 1 = ((l.length + 1 : Nat) : Int) := by rw [intN_eq, lenL_eq, add_one (by omega)]
  refine e5 _ _ _ ⟨true, gives26, ite_f rfl ⟨k, by rw [e1]; exact g27, l, gives22 l, (chkV l, chkE l), gives23 l, and_t (by rw [intN_eq, lenL_eq]; exact front_ok (by omega)) ⟨l.take k, gives22 _, (chkV (l.take k), chkE (l.take k)), gives23 _, ?_⟩⟩⟩
  by_cases hn : 16384 < l.length
  · have h1 : chkV l = ⟨0, 0⟩ := if_pos hn
    have h2 : chkE l = 3 := if_pos hn
    rw [h1, h2]
    exact ite_t rfl ⟨rfl, rfl⟩
  · rw [chkE_small (by omega), chkE_small (by rw [List.length_take]; omega)]
    refine ite_f rfl (ite_f rfl (or_of (fun _ => rfl) ?_))
    have hf := chk_front (l := l) (by omega) k
    refine ite_w (fun h => ?_) (fun h => ?_)
    · rw [Bool.or_eq_true] at h
      rw [if_pos (h.imp (fun h => eqI_t.1 h) (fun h => of_decide_eq_true h))] at hf
      rw [hf]; exact ⟨rfl, rfl⟩
    · rw [Bool.or_eq_false_iff] at h
      have h1 : (chkV l).gRule ≠ 0 := eqI_f.1 h.1
      have h2 : ¬ ((k : Int) ≤ (chkV l).gAt) := of_decide_eq_false h.2
      rw [if_neg (by rintro (h | h); exact h1 h; exact h2 h)] at hf
      rw [hf]
      refine ⟨?_, rfl⟩
      have : andB (eqI (chkV l).1 (chkV l).1) (andB (eqI (chkV l).2 (chkV l).2) true) = true := by
        rw [andB_true, andB_true]; exact ⟨eqI_self _, eqI_self _, rfl⟩
      rw [this]

theorem gives6 (l : List api_Mark) (which : Int) (o : api_Outcome) : Gives 6 [.d (.sl .api_Mark l), .d (.int .i64 which), outC o] (.d (.bool true)) := by
  refine e6 _ _ _ _ ⟨true, gives26, ite_f rfl ⟨l, gives22 l, (chkV l, chkE l), gives23 l, or_of (fun _ => rfl) (or_of (fun _ => rfl) (or_of (fun _ => rfl) (ite_w (fun _ => ⟨rfl, rfl⟩) (fun h => ?_))))⟩⟩
  simp only [Bool.or_eq_false_iff] at h
  obtain ⟨⟨⟨h1, h2⟩, h3⟩, h4⟩ := h
  have hn : l.length < 16384 := by have := of_decide_eq_false h4; simp only [intN_eq, lenL_eq] at this; omega
  have hpos : 0 < l.length := by have := eqI_f.1 h3; simp only [intN_eq, lenL_eq] at this; omega
  have hok := chk_ok (by omega) (eqI_t.1 (notB_f.1 h2))
  obtain ⟨k0, hk0, g27⟩ := gives27 which hpos (by omega)
  refine ⟨k0, g27, ?_⟩
  have body : ∀ (i : Nat), i ≤ l.length → (i < l.length → ∀ k : Nat, k < l.length → At K 6 (fun c' H' => c' = (.d (.bool true) : C U) ∧ H' = []) t6_8 (s6_8 l k ((i + 1 : Nat) : Int) o.1 o.2 o.3)) →
      ∀ k : Nat, k < l.length → At K 6 (fun c' H' => c' = (.d (.bool true) : C U) ∧ H' = []) t6_8 (s6_8 l k i o.1 o.2 o.3) := by
    intro i hi ih k hk
    refine l6_8 _ _ _ _ _ _ _ ?_
    rw [rd_at hk]
    refine and_of (b := notB (eqI l[k].gKind 1)) (fun _ => and_t (in_len hk) rfl) (and_of (b := notB (eqI l[k].gKind 4)) (fun _ => and_t (in_len hk) rfl) (ite_w (fun hgo => and_t ?_ ?_) (fun _ => ?_)))
    · rw [notB_t, eqI_f, intN_eq, lenL_eq]; omega
    · simp only [Bool.and_eq_true] at hgo
      have hlt : i < l.length := by have := of_decide_eq_true hgo.1.1; simp only [intN_eq, lenL_eq] at this; omega
      rw [add_one (by omega), add_one (by omega), intN_eq, lenL_eq, remW_nat]
      exact ih hlt _ (Nat.mod_lt _ hpos)
    · refine ⟨l, gives22 l, and_t (in_len hk) (ite_w (fun h1 => ?_) (fun h1 => and_t (in_len hk) (ite_w (fun _ => ⟨rfl, rfl⟩) (fun h4 => ite_w (fun _ => ⟨rfl, rfl⟩) (fun ho => and_t (in_len hk) ⟨eqv o l[k].gOutcome, gives28 o _, ite_w (fun _ => ⟨rfl, rfl⟩) (fun hne => ?_)⟩)))))⟩
      · rw [add_one (by omega)]
        have hlen : (l.take (k + 1) ++ l.drop k).length = l.length + 1 := by simp only [List.length_append, List.length_take, List.length_drop]; omega
        refine and_t (front_ok (n := l.length) (by omega)) ⟨l.take (k + 1), gives22 _, and_t (back_ok (n := l.length) (by omega)) ⟨l.drop k, back22 l k, and_t (roomB_t ?_) ⟨(chkV (l.take (k + 1) ++ l.drop k), chkE (l.take (k + 1) ++ l.drop k)), gives23 _, and_of (fun _ => rfl) ⟨?_, rfl⟩⟩⟩⟩
        · simp only [addN, lenL_eq, List.length_take, List.length_drop]; omega
        · rw [chkE_small (by omega), chk_twice hn hok hk (eqI_t.1 h1)]
          simp only [eqI_self]; rfl
      · have h4 : l[k].gKind = 4 := eqI_t.1 (notB_f.1 h4)
        have hne : o ≠ l[k].gOutcome := eqv_f.1 hne
        have hr : rdN (api_Mark.mk 0 0 0 0 0 (bs []) (api_Outcome.mk 0 [] [])) l k = l[k] := rdN_some (List.getElem?_eq_getElem hk)
        refine ⟨o, gives29 o, and_t (in_len hk) (and_t (by show decide (k < l.length) = true; exact decide_eq_true hk) ?_)⟩
        rw [natI_nat, hr]
        refine ⟨(chkV (l.set k { l[k] with gOutcome := o }), chkE (l.set k { l[k] with gOutcome := o })), gives23 _, ?_⟩
        rw [chkE_small (by rw [List.length_set]; omega)]
        rcases chk_other (by omega) hok hk h4 hne with e | e
        · rw [e]
          exact and_of (b := true) (fun _ => eqI_self _) (and_of (b := true) (fun _ => ⟨true, rfl, rfl⟩) ⟨rfl, rfl⟩)
        · rw [e]
          exact and_of (b := true) (fun _ => eqI_self _) (and_of (b := true) (fun _ => ⟨true, rfl, rfl⟩) ⟨rfl, rfl⟩)
  have loop : ∀ i, i ≤ l.length → ∀ k : Nat, k < l.length → At K 6 (fun c' H' => c' = (.d (.bool true) : C U) ∧ H' = []) t6_8 (s6_8 l k i o.1 o.2 o.3) :=
    upto (body _ (Nat.le_refl _) fun h => absurd h (Nat.lt_irrefl _)) fun i hi ih => body i (Nat.le_of_lt hi) fun _ => ih
  exact loop 0 (Nat.zero_le _) k0 hk0

theorem gives7 (l : List api_Mark) (which : Int) : Gives 7 [.d (.sl .api_Mark l), .d (.int .i64 which)] (.d (.bool true)) := by
  refine e7 _ _ _ ⟨true, gives26, ite_f rfl ⟨l, gives22 l, (chkV l, chkE l), gives23 l, or_of (fun _ => rfl) (or_of (fun _ => rfl) (ite_w (fun _ => ⟨rfl, rfl⟩) (fun h => ?_)))⟩⟩
  simp only [Bool.or_eq_false_iff] at h
  obtain ⟨⟨h1, h2⟩, h3⟩ := h
  have hn : l.length ≤ 16384 := by
    apply Classical.byContradiction
    intro hx
    have : chkE l = 3 := if_pos (by omega)
    rw [this] at h1; cases h1
  have hpos : 0 < l.length := by have := eqI_f.1 h3; simp only [intN_eq, lenL_eq] at this; omega
  have hok := chk_ok (by omega) (eqI_t.1 (notB_f.1 h2))
  obtain ⟨k0, hk0, g27⟩ := gives27 which hpos (by omega)
  refine ⟨k0, g27, ?_⟩
  -- the last end
  have ends : ∀ (k : Nat) (hk : k < l.length), l[k].gKind = 1 → ∀ i, i ≤ l.length → ∀ e : Int, e = -1 ∨ (∃ (n : Nat) (h : n < l.length), e = (n : Int) ∧ l[n].gKind = 2 ∧ genM l[n] = genM l[k]) →
      At K 7 (fun c' H' => c' = (.d (.bool true) : C U) ∧ H' = []) t7_15 (s7_15 l k e (intN (lenL l)) i) := by
    intro k hk h1
    refine upto ?_ fun i hi ih => ?_
    · intro e he
      refine l7_15 _ _ _ _ _ _ (ite_f (lt_len_f (Nat.le_refl _)) (ite_w (fun _ => ⟨rfl, rfl⟩) (fun hneg => ?_)))
      rcases he with rfl | ⟨n, hn', rfl, h2, hg⟩
      · cases hneg
      · rw [add_one (by omega)]
        obtain ⟨r, j, r1, r2, r3⟩ := chk_lacks hn hok hk hn' h1 h2 hg
        refine and_t (front_ok (n := l.length) (by omega)) ⟨l.take k, gives22 _, and_t (back_ok (n := l.length) (by omega)) ⟨l.drop (k + 1), back22 l (k + 1), and_t (roomB_t ?_) ⟨(chkV (l.take k ++ l.drop (k + 1)), chkE (l.take k ++ l.drop (k + 1))), gives23 _, ?_⟩⟩⟩
        · simp only [addN, lenL_eq, List.length_take, List.length_drop]; omega
        · rw [chkE_small (by simp only [List.length_append, List.length_take, List.length_drop]; omega), r3]
          refine and_of (fun _ => rfl) (and_of (fun _ => rfl) ⟨?_, rfl⟩)
          have e1 : ltI 0 r = true := decide_eq_true r1
          have e2 : ltI (j : Int) (n : Int) = true := decide_eq_true (by omega)
          show C.d (D.bool ((eqI 0 0 && ltI 0 r) && ltI (j : Int) (n : Int))) = _
          rw [e1, e2]; rfl
    · intro e he
      refine l7_15 _ _ _ _ _ _ (ite_t (lt_len hi) (and_t (in_len hi) ?_))
      rw [rd_at hi, rd_at hk, add_one (by omega)]
      refine ite_w (fun h2 => and_t (in_len hi) (and_t (in_len hk) (ite_w (fun h3 => and_t (in_len hi) (and_t (in_len hk) (ite_w (fun h4 => and_t (in_len hi) (and_t (in_len hk) (ite_w (fun h5 => ?_) (fun _ => ih e he)))) (fun _ => ih e he)))) (fun _ => ih e he)))) (fun _ => ih e he)
      refine ih _ (Or.inr ⟨i, hi, rfl, eqI_t.1 h2, ?_⟩)
      have h3 : l[i].gScope = l[k].gScope := eqI_t.1 h3
      have h4 : l[i].gName = l[k].gName := strEq_iff'.1 h4
      have h5 : l[i].gGen = l[k].gGen := eqI_t.1 h5
      unfold genM; rw [h3, h4, h5]
  have body : ∀ (i : Nat), i ≤ l.length → (i < l.length → ∀ k : Nat, k < l.length → At K 7 (fun c' H' => c' = (.d (.bool true) : C U) ∧ H' = []) t7_8 (s7_8 l k ((i + 1 : Nat) : Int))) →
      ∀ k : Nat, k < l.length → At K 7 (fun c' H' => c' = (.d (.bool true) : C U) ∧ H' = []) t7_8 (s7_8 l k i) := by
    intro i hi ih k hk
    refine l7_8 _ _ _ _ ?_
    rw [rd_at hk]
    refine and_of (b := notB (eqI l[k].gKind 1)) (fun _ => and_t (in_len hk) rfl) (ite_w (fun hgo => and_t ?_ ?_) (fun _ => and_t (in_len hk) (ite_w (fun _ => ⟨rfl, rfl⟩) (fun h1 => ?_))))
    · rw [notB_t, eqI_f, intN_eq, lenL_eq]; omega
    · simp only [Bool.and_eq_true] at hgo
      have hlt : i < l.length := by have := of_decide_eq_true hgo.1; simp only [intN_eq, lenL_eq] at this; omega
      rw [add_one (by omega), add_one (by omega), intN_eq, lenL_eq, remW_nat]
      exact ih hlt _ (Nat.mod_lt _ hpos)
    · exact ends k hk (eqI_t.1 (notB_f.1 h1)) 0 (Nat.zero_le _) (-1) (Or.inl rfl)
  have loop : ∀ i, i ≤ l.length → ∀ k : Nat, k < l.length → At K 7 (fun c' H' => c' = (.d (.bool true) : C U) ∧ H' = []) t7_8 (s7_8 l k i) :=
    upto (body _ (Nat.le_refl _) fun h => absurd h (Nat.lt_irrefl _)) fun i hi ih => body i (Nat.le_of_lt hi) fun _ => ih
  exact loop 0 (Nat.zero_le _) k0 hk0


theorem o3 : Opens K 3 fun ds => ∃ n, ds = [.int .i64 n] := opens_int laws (i := ⟨.int .i64, 1, 8, [.int .i64]⟩) (by kernel_rfl) rfl
theorem o9 : Opens K 9 fun ds => ∃ s, ds = [.str s] := opens_str laws (i := ⟨.str, 1, 16, [.str]⟩) (by kernel_rfl) rfl
theorem o129 : Opens K 129 fun ds => ∃ x : api_Atom, ds = enc .api_Atom x :=
  (opens_struct laws (i := ⟨.strct [(3, 0), (3, 1), (3, 2), (9, 3)], 4, 40, [.int .i64, .int .i64, .int .i64, .str]⟩) (by kernel_rfl) rfl (.cons o3 (.cons o3 (.cons o3 (.cons o9 .nil)))) (by kernel_rfl)).weaken (by
    rintro ds ⟨_, _, rfl, ⟨a, rfl⟩, _, _, rfl, ⟨b, rfl⟩, _, _, rfl, ⟨c, rfl⟩, _, _, rfl, ⟨d, rfl⟩, rfl⟩
    exact ⟨⟨a, b, c, d⟩, rfl⟩)
theorem o143 : Opens K 143 fun ds => ∃ x : api_Crack, ds = enc .api_Crack x :=
  (opens_struct laws (i := ⟨.strct [(3, 0), (3, 1), (9, 2)], 3, 32, [.int .i64, .int .i64, .str]⟩) (by kernel_rfl) rfl (.cons o3 (.cons o3 (.cons o9 .nil))) (by kernel_rfl)).weaken (by
    rintro ds ⟨_, _, rfl, ⟨a, rfl⟩, _, _, rfl, ⟨b, rfl⟩, _, _, rfl, ⟨c, rfl⟩, rfl⟩
    exact ⟨⟨a, b, c⟩, rfl⟩)
theorem o59 : Opens K 59 fun ds => ∃ xs : List api_Atom, ds = [.sl .api_Atom xs] :=
  opens_slice (c := .api_Atom) laws (i := ⟨.slice 129, 1, 24, [.nils]⟩) (j := ⟨.strct [(3, 0), (3, 1), (3, 2), (9, 3)], 4, 40, [.int .i64, .int .i64, .int .i64, .str]⟩) (by kernel_rfl) rfl (by kernel_rfl) o129 (fun _ h => h) rfl rfl (by decide)
theorem o61 : Opens K 61 fun ds => ∃ xs : List api_Crack, ds = [.sl .api_Crack xs] :=
  opens_slice (c := .api_Crack) laws (i := ⟨.slice 143, 1, 24, [.nils]⟩) (j := ⟨.strct [(3, 0), (3, 1), (9, 2)], 3, 32, [.int .i64, .int .i64, .str]⟩) (by kernel_rfl) rfl (by kernel_rfl) o143 (fun _ h => h) rfl rfl (by decide)
theorem o63 : Opens K 63 fun ds => ∃ x : api_Outcome, ds = enc .api_Outcome x :=
  (opens_struct laws (i := ⟨.strct [(3, 0), (59, 1), (61, 2)], 3, 56, [.int .i64, .nils, .nils]⟩) (by kernel_rfl) rfl (.cons o3 (.cons o59 (.cons o61 .nil))) (by kernel_rfl)).weaken (by
    rintro ds ⟨_, _, rfl, ⟨a, rfl⟩, _, _, rfl, ⟨b, rfl⟩, _, _, rfl, ⟨c, rfl⟩, rfl⟩
    exact ⟨⟨a, b, c⟩, rfl⟩)
theorem o65 : Opens K 65 fun ds => ∃ x : api_Mark, ds = enc .api_Mark x :=
  (opens_struct laws (i := ⟨.strct [(3, 0), (3, 1), (3, 2), (3, 3), (3, 4), (9, 5), (63, 6)], 9, 112, [.int .i64, .int .i64, .int .i64, .int .i64, .int .i64, .str, .int .i64, .nils, .nils]⟩) (by kernel_rfl) rfl
    (.cons o3 (.cons o3 (.cons o3 (.cons o3 (.cons o3 (.cons o9 (.cons o63 .nil))))))) (by kernel_rfl)).weaken (by
    rintro ds ⟨_, _, rfl, ⟨a, rfl⟩, _, _, rfl, ⟨b, rfl⟩, _, _, rfl, ⟨c, rfl⟩, _, _, rfl, ⟨d, rfl⟩, _, _, rfl, ⟨e, rfl⟩, _, _, rfl, ⟨f, rfl⟩, _, _, rfl, ⟨g, rfl⟩, rfl⟩
    exact ⟨⟨a, b, c, d, e, f, g⟩, rfl⟩)
theorem o40 : Opens K 40 fun ds => ∃ xs : List api_Mark, ds = [.sl .api_Mark xs] :=
  opens_slice (c := .api_Mark) laws (i := ⟨.slice 65, 1, 24, [.nils]⟩) (j := ⟨.strct [(3, 0), (3, 1), (3, 2), (3, 3), (3, 4), (9, 5), (63, 6)], 9, 112, [.int .i64, .int .i64, .int .i64, .int .i64, .int .i64, .str, .int .i64, .nils, .nils]⟩) (by kernel_rfl) rfl (by kernel_rfl) o65 (fun _ h => h) rfl rfl (by decide)


def keysU : List (List UInt8) := [[99, 101, 108, 108], [97, 103, 97, 105, 110], [116, 114, 105, 101, 115], [98, 97, 115, 101], [102, 97, 99, 116, 111, 114], [99, 97, 112], [99, 108, 111, 115, 101], [102, 105, 110, 101], [102, 97, 105, 108], [112, 97, 110, 105, 99], [105, 102], [116, 104, 101, 110], [101, 108, 115, 101], [116, 114, 121], [119, 97, 105, 116], [108, 101, 116], [105, 110], [105, 116, 101, 109], [115, 105, 122, 101]]
def sortsU : List Int := [0, 1, 1, 1, 1, 1, 1, 1, 2, 3, 4, 1]
def valuesU : List (List UInt8) := [[108, 105, 115, 116], [97, 100, 100], [115, 117, 98], [109, 117, 108], [106, 111, 105, 110], [105, 116, 101, 109], [115, 105, 122, 101], [105, 102], [102, 97, 105, 108], [112, 97, 110, 105, 99]]
theorem glob0 : K.glob 0 = some (keysU.map fun s => .str ⟨s.toArray⟩) := by rfl
theorem glob1 : K.glob 1 = some (sortsU.map fun s => .int .i64 s) := by rfl
theorem glob2 : K.glob 2 = some (valuesU.map fun s => .str ⟨s.toArray⟩) := by rfl
theorem globN (n : Nat) : K.glob (n + 3) = none := by rfl
theorem gKeys : Tryd.prog.globalNamed "onceweb/lex.keys" = some 0 := by kernel_rfl
theorem gSorts : Tryd.prog.globalNamed "onceweb/fail.sorts" = some 1 := by kernel_rfl
theorem gValues : Tryd.prog.globalNamed "onceweb/fail.values" = some 2 := by kernel_rfl
theorem tKeys : (Tryd.prog.globals[0]?).map (·.type) = some 199 := by kernel_rfl
theorem tSorts : (Tryd.prog.globals[1]?).map (·.type) = some 265 := by kernel_rfl
theorem tValues : (Tryd.prog.globals[2]?).map (·.type) = some 266 := by kernel_rfl

theorem szK (s : List UInt8) (h : s ∈ keysU) : (⟨s.toArray⟩ : ByteArray).size ≤ maxStr := by
  have : ∀ s ∈ keysU, s.length ≤ 100 := by decide
  have := this s h
  show s.toArray.size ≤ maxStr
  rw [List.size_toArray, maxStr_eq]; omega
theorem szV (s : List UInt8) (h : s ∈ valuesU) : (⟨s.toArray⟩ : ByteArray).size ≤ maxStr := by
  have : ∀ s ∈ valuesU, s.length ≤ 100 := by decide
  have := this s h
  show s.toArray.size ≤ maxStr
  rw [List.size_toArray, maxStr_eq]; omega

theorem glob_of {W : World} (h : laidMetH Tryd.prog [("onceweb/lex.keys", Rows.laid_onceweb_lex_keys), ("onceweb/fail.sorts", Rows.laid_onceweb_fail_sorts), ("onceweb/fail.values", Rows.laid_onceweb_fail_values)] W) :
    ∀ g cells, K.glob g = some cells → Old W g ∧ ∀ (j : Nat) d, cells[j]? = some d → ∃ u, W.cell? (at' g j) = some u ∧ RepD K (Old W) W d u := by
  rw [MakeChecks.laidMetH_plain _ _ _ (by kernel_rfl)] at h
  obtain ⟨ps, ⟨g0, t0, cs0, f0, p0, q0, hg0, ht0, hv0, hd0, ⟨g1, t1, cs1, f1, p1, q1, hg1, ht1, hv1, hd1, ⟨g2, t2, cs2, f2, p2, q2, hg2, ht2, hv2, hd2, _, _⟩, _⟩, _⟩, _, _⟩ := h
  obtain rfl := Option.some.inj (gKeys.symm.trans hg0)
  obtain rfl := Option.some.inj (gSorts.symm.trans hg1)
  obtain rfl := Option.some.inj (gValues.symm.trans hg2)
  obtain rfl := Option.some.inj (tKeys.symm.trans ht0)
  obtain rfl := Option.some.inj (tSorts.symm.trans ht1)
  obtain rfl := Option.some.inj (tValues.symm.trans ht2)
  have e0 : ∀ j s, keysU[j]? = some s → W.cell? ⟨0, j, none⟩ = some (.string ⟨s.toArray⟩) := laid_texts hg0 hv0 Tryd.underlying199 Tryd.underlying9 (by kernel_rfl) hd0
  have e1 : ∀ j s, sortsU[j]? = some s → W.cell? ⟨1, j, none⟩ = some (.int .i64 s) := laid_ints hg1 hv1 Tryd.underlying265 Tryd.underlying3 (by kernel_rfl) hd1
  have e2 : ∀ j s, valuesU[j]? = some s → W.cell? ⟨2, j, none⟩ = some (.string ⟨s.toArray⟩) := laid_texts hg2 hv2 Tryd.underlying266 Tryd.underlying9 (by kernel_rfl) hd2
  have old : ∀ {g j u}, W.cell? ⟨g, j, none⟩ = some u → Old W g := fun {g j u} h => by
    unfold Old
    simp only [World.cell?] at h
    by_cases hlt : g < W.heap.size
    · exact hlt
    · rw [Array.getElem?_eq_none (by omega)] at h; cases h
  intro g cells hg
  match g with
  | 0 =>
    rw [glob0] at hg
    cases hg
    refine ⟨old (e0 0 _ rfl), fun j d hd => ?_⟩
    rw [List.getElem?_map, Option.map_eq_some_iff] at hd
    obtain ⟨s, hs, rfl⟩ := hd
    exact ⟨_, e0 j s hs, .str _ (szK s (List.mem_of_getElem? hs))⟩
  | 1 =>
    rw [glob1] at hg
    cases hg
    refine ⟨old (e1 0 _ rfl), fun j d hd => ?_⟩
    rw [List.getElem?_map, Option.map_eq_some_iff] at hd
    obtain ⟨s, hs, rfl⟩ := hd
    exact ⟨_, e1 j s hs, .int _ _⟩
  | 2 =>
    rw [glob2] at hg
    cases hg
    refine ⟨old (e2 0 _ rfl), fun j d hd => ?_⟩
    rw [List.getElem?_map, Option.map_eq_some_iff] at hd
    obtain ⟨s, hs, rfl⟩ := hd
    exact ⟨_, e2 j s hs, .str _ (szV s (List.mem_of_getElem? hs))⟩
  | n + 3 => rw [globN] at hg; cases hg
end Go.Proofs.YtikcopbjconkfaaDoor.V
