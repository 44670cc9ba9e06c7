/- The place of the first number of which a test holds: plain laws. Conditions: none. -/
import Derived.Test.YtiimkifkakdalaaP0
import Derived.Lib.SliceRun
namespace Go.Proofs.Ytiimkifkakdalaa.P
open Go.RowKit Go.Proofs.YtiimkifkakdalaaW.PrintWords Go.Proofs.YtiimkifkakdalaaW.PrintLast Go.Proofs.YtiimkifkakdalaaW.PrintMore
set_option linter.unusedVariables false
set_option linter.unusedSimpArgs false

/-- The place of the first number of which p holds. -/
def dIx (p : Int → Bool) : List Int → Nat → Int
  | [], _ => -1
  | x :: r, i => if p x = true then (i : Int) else dIx p r (i + 1)
theorem dIx_cases (p : Int → Bool) : ∀ (l : List Int) (i : Nat), (dIx p l i = -1 ∧ l.filter (fun x => !p x) = l) ∨ ∃ k, k < l.length ∧ dIx p l i = ((i + k : Nat) : Int) ∧ (l.take k).filter (fun x => !p x) = l.take k ∧ p (rd l (k : Int)) = true
  | [], i => .inl ⟨rfl, rfl⟩
  | x :: r, i => by
    cases hx : p x with
    | true => exact .inr ⟨0, by simp, by simp [dIx, hx], by simp, by simpa [rd] using hx⟩
    | false =>
      rcases dIx_cases p r (i + 1) with ⟨h1, h2⟩ | ⟨k, hk, h1, h2, h3⟩
      · exact .inl ⟨by simp [dIx, hx, h1], by simp [hx, h2]⟩
      · refine .inr ⟨k + 1, by simpa using hk, by simp only [dIx, hx, Bool.false_eq_true, if_false, h1]; congr 1; omega, by simp [hx, h2], ?_⟩
        have : rd (x :: r) ((k + 1 : Nat) : Int) = rd r (k : Int) := by simp [rd]
        rw [this]; exact h3
theorem dIx_drop (p : Int → Bool) (l : List Int) (i : Nat) (h : i < l.length) : dIx p (l.drop i) i = if p (rd l (i : Int)) = true then (i : Int) else dIx p (l.drop (i + 1)) (i + 1) := by
  rw [List.drop_eq_getElem_cons h]
  have : rd l (i : Int) = l[i] := by simp [rd, List.getD_eq_getElem?_getD, h]
  rw [this]; rfl
theorem w_succ (i : Nat) (h : i < 4611686018427387904) : wrap64 ((i : Int) + 1) = ((i + 1 : Nat) : Int) := by unfold wrap64; omega
theorem rd_mem (l : List Int) (i : Nat) (h : i < l.length) : rd l (i : Int) ∈ l := by
  have : rd l (i : Int) = l[i] := by simp [rd, List.getD_eq_getElem?_getD, h]
  rw [this]; exact List.getElem_mem h
end Go.Proofs.Ytiimkifkakdalaa.P
