/- The laws' comparison of two slices of numbers tells whether they are equal. Conditions: a length is at most 2^40. -/
import Derived.Test.YtiimkifkakdalaaCNum
import Derived.Test.YtiimkifkakdalaaP14
namespace Go.Proofs.Ytiimkifkakdalaa.P
open Go.RowKit Go.Proofs.YtiimkifkakdalaaW.PrintWords Go.Proofs.YtiimkifkakdalaaW.PrintLast
set_option linter.unusedVariables false

theorem c_eqIntS_l (a b : List Int) (h : a.length = b.length) (hl : a.length ≤ 1099511627776) : ∀ (d i : Nat), i + d = a.length → (∀ j, j < i → a[j]? = b[j]?) →
    Ev (fun k => laws_eqIntS.l0 k a b (i : Int)) (decide (a = b)) := by
  intro d
  induction d with
  | zero =>
    intro i hi hj
    have e : a = b := by
      apply List.ext_getElem?
      intro j
      by_cases hj' : j < i
      · exact hj j hj'
      · rw [List.getElem?_eq_none (by omega), List.getElem?_eq_none (by omega)]
    refine Ev.step (f := fun _ => some true) (fun k => ?_) ?_
    · simp only [laws_eqIntS.l0]; rw [if_neg (by omega)]
    · rw [decide_eq_true e]; exact Ev.now _
  | succ d ih =>
    intro i hi hj
    by_cases e : a.getD i 0 = b.getD i 0
    · refine Ev.step (f := fun k => laws_eqIntS.l0 k a b ((i + 1 : Nat) : Int)) (fun k => ?_) ?_
      · simp only [laws_eqIntS.l0]; rw [if_pos (by omega), if_pos (by omega), if_pos (by omega), c_rd, c_rd, if_pos e, c_w1 i (by omega)]
      · refine ih (i + 1) (by omega) ?_
        intro j hj'
        by_cases ej : j = i
        · subst ej
          simp only [List.getD_eq_getElem?_getD, List.getElem?_eq_getElem (show j < a.length by omega), List.getElem?_eq_getElem (show j < b.length by omega), Option.getD_some] at e ⊢
          rw [e]
        · exact hj j (by omega)
    · refine Ev.step (f := fun _ => some false) (fun k => ?_) ?_
      · simp only [laws_eqIntS.l0]; rw [if_pos (by omega), if_pos (by omega), if_pos (by omega), c_rd, c_rd, if_neg e]
      · have : a ≠ b := fun h' => e (by rw [h'])
        rw [decide_eq_false this]; exact Ev.now _
theorem c_eqIntS (a b : List Int) (hl : a.length ≤ 1099511627776) : Ev (fun k => laws_eqIntS.f k a b) (decide (a = b)) := by
  unfold laws_eqIntS.f
  by_cases h : a.length = b.length
  · refine Ev.congr (f := fun k => laws_eqIntS.l0 k a b ((0 : Nat) : Int)) (fun k => ?_) ?_
    · rw [if_pos (by omega)]; rfl
    · exact c_eqIntS_l a b h hl a.length 0 (by omega) (fun j hj => by omega)
  · refine Ev.congr (f := fun _ => some false) (fun k => ?_) ?_
    · rw [if_neg (by omega)]
    · have : a ≠ b := fun h' => h (by rw [h'])
      rw [decide_eq_false this]; exact Ev.now _
theorem c_eqIntS_self (a : List Int) (hl : a.length ≤ 1099511627776) : Ev (fun k => laws_eqIntS.f k a a) true := by
  have := c_eqIntS a a hl
  rwa [decide_eq_true rfl] at this

end Go.Proofs.Ytiimkifkakdalaa.P
