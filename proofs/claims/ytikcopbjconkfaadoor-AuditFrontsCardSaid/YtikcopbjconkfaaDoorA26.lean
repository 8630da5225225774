/- LEMMAS: what helps to tell what functions come to. Conditions: none. -/
import Derived.Test.YtikcopbjconkfaaDoorA25
namespace Go.Abs
set_option linter.unusedVariables false
set_option linter.unusedSimpArgs false
section
variable {K : Cfg}

theorem addW_small {a : Int} (h0 : 0 ≤ a) (h : a < 4611686018427387904) : addW .i64 a 1 = a + 1 := by
  unfold addW IntKind.wrap
  simp only [IntKind.signed, IntKind.bits]
  simp
  omega

theorem rd_nat {α : Type} {d : α} {xs : List α} {i : Nat} {x : α} (h : xs[i]? = some x) : rd d xs (i : Int) = x := by
  simp [rd, List.getD_eq_getElem?_getD, h]

theorem rd_at {α : Type} {d : α} {xs : List α} {i : Nat} (h : i < xs.length) : rd d xs (i : Int) = xs[i] := rd_nat (List.getElem?_eq_getElem h)

theorem byteAt_nat {s : ByteArray} {i : Nat} (h : i < s.size) : byteAt s (i : Int) = (s.data.toList[i]'(by simpa using h)).toNat := by
  unfold byteAt
  rw [Int.toNat_natCast, List.getD_eq_getElem?_getD, List.getElem?_eq_getElem (by simpa using h)]
  rfl

theorem roomB_iff {n b : Nat} : roomB n b = true ↔ n * b ≤ room := by simp [roomB]
theorem strEq_self (s : ByteArray) : strEq s s = true := by simp [strEq]
theorem eqI_self (a : Int) : eqI a a = true := by simp [eqI]
theorem eqB_self (a : Bool) : eqB a a = true := by simp [eqB]
theorem ite_of {b c : Bool} {p q : Prop} (h : b = c) (hp : match c with | true => p | false => q) : iteP b p q := by subst h; cases b <;> exact hp
theorem bool_eq_iff {a b : Bool} (h : a = true ↔ b = true) : a = b := by cases a <;> cases b <;> simp_all

/-- What is another way to tell an answer. -/
def Tells (K : Cfg) (c c' : C K.U) : Prop := ∀ F w ob pl v own, RepR (K := K) F w ob pl c v own → RepR (K := K) F w ob pl c' v own

theorem Runs.tells {f : FuncId} {args : List (C K.U)} {H y : List (O K.U)} {c c' : C K.U} (h : Runs K f args H fun x H' => x = c ∧ H' = y) (ht : Tells K c c') : Runs K f args H fun x H' => x = c' ∧ H' = y := by
  intro w F pl vs ho hm hr
  refine (h w F pl vs ho hm hr).mono ?_
  rintro e w' ⟨v, he, c1, H', F', pl', own, ⟨rfl, rfl⟩, hf⟩
  exact ⟨v, he, c', H', F', pl', own, ⟨rfl, rfl⟩, ⟨ht _ _ _ _ _ _ hf.rep, hf.mem, hf.fr, hf.nodup, hf.hok, hf.mine⟩⟩

theorem tells_ptr {n : Nat} {x : C K.U} : Tells K (.tup [.ptr (.g n) 0, x]) (.tup [.optr (some n), x]) := by
  intro F w ob pl v own h
  simp only [RepR, RepRs, RepR1, RepC] at h ⊢
  obtain ⟨vs, e, v1, rest, o1, o2, e1, e2, ⟨e3, h1, h2⟩, h3⟩ := h
  exact ⟨vs, e, v1, rest, o1, o2, e1, e2, ⟨e3, h1, h2⟩, h3⟩

theorem tells_nil {x : C K.U} : Tells K (.tup [.d .nilp, x]) (.tup [.optr none, x]) := by
  intro F w ob pl v own h
  simp only [RepR, RepRs, RepR1, RepC] at h ⊢
  obtain ⟨vs, e, v1, rest, o1, o2, e1, e2, ⟨e3, h1⟩, h3⟩ := h
  refine ⟨vs, e, v1, rest, o1, o2, e1, e2, ⟨e3, ?_⟩, h3⟩
  cases h1; rfl
end
end Go.Abs
