/- The laws' marks on a slice of numbers, and finding them again. Conditions: lengths and the first mark are at most 2^40. -/
import Derived.Test.YtiimkifkakdalaaCNum
import Derived.Test.YtiimkifkakdalaaP14
namespace Go.Proofs.Ytiimkifkakdalaa.P
open Go.RowKit Go.Proofs.YtiimkifkakdalaaW.PrintWords Go.Proofs.YtiimkifkakdalaaW.PrintLast
set_option linter.unusedVariables false

/-- The marks a, a + 1, .. -/
def c_marks (a : Int) (n : Nat) : List Int := (List.range n).map fun (i : Nat) => a + (i : Int)
theorem c_marks_length (a : Int) (n : Nat) : (c_marks a n).length = n := by simp [c_marks]
theorem c_markIntS_l (l : List Int) (a : Int) (ha : 0 ≤ a) (ha2 : a ≤ 1099511627776) (hl : l.length ≤ 1099511627776) : ∀ (d i : Nat) (ys : List Int), i + d = l.length → ys.length = l.length → (∀ j, j < i → ys[j]? = some (a + (j : Int))) →
    Ev (fun k => laws_markIntS.l0 k ys (a + (i : Int)) (i : Int)) (a + (l.length : Int), c_marks a l.length) := by
  intro d
  induction d with
  | zero =>
    intro i ys hi hy h
    have e : ys = c_marks a l.length := by
      apply List.ext_getElem?
      intro j
      by_cases hj : j < i
      · rw [h j hj]; simp [c_marks, List.getElem?_range (show j < l.length by omega)]
      · rw [List.getElem?_eq_none (by omega), List.getElem?_eq_none (by rw [c_marks_length]; omega)]
    refine Ev.step (f := fun _ => some (a + (i : Int), ys)) (fun k => ?_) ?_
    · simp only [laws_markIntS.l0]; rw [if_neg (by omega)]
    · rw [e, show i = l.length by omega]; exact Ev.now _
  | succ d ih =>
    intro i ys hi hy h
    refine Ev.step (f := fun k => laws_markIntS.l0 k (ys.set i (a + (i : Int))) (a + ((i + 1 : Nat) : Int)) ((i + 1 : Nat) : Int)) (fun k => ?_) ?_
    · simp only [laws_markIntS.l0]; rw [if_pos (by omega), if_pos (by omega), c_w1 i (by omega), c_wid _ (by omega) (by omega)]
      simp only [Int.toNat_natCast]
      rw [show a + (i : Int) + 1 = a + ((i + 1 : Nat) : Int) by omega]
    · refine ih (i + 1) _ (by omega) (by simpa using hy) ?_
      intro j hj
      by_cases e : j = i
      · subst e; rw [List.getElem?_set_self (by omega)]
      · rw [List.getElem?_set_ne (by omega)]; exact h j (by omega)
theorem c_markIntS (l : List Int) (a : Int) (ha : 0 ≤ a) (ha2 : a ≤ 1099511627776) (hl : l.length ≤ 1099511627776) : Ev (fun k => laws_markIntS.f k l a) (a + (l.length : Int), c_marks a l.length) := by
  unfold laws_markIntS.f
  have := c_markIntS_l l a ha ha2 hl l.length 0 l (by omega) rfl (fun j hj => by omega)
  simpa using this
theorem c_heldIntS_l (a : Int) (n : Nat) (ha : 0 ≤ a) (ha2 : a ≤ 1099511627776) (hl : n ≤ 1099511627776) : ∀ (d i : Nat), i + d = n →
    Ev (fun k => laws_heldIntS.l0 k (c_marks a n) (a + (i : Int)) (i : Int)) (a + (n : Int)) := by
  intro d
  induction d with
  | zero =>
    intro i hi
    refine Ev.step (f := fun _ => some (a + (i : Int))) (fun k => ?_) ?_
    · simp only [laws_heldIntS.l0, c_marks_length]; rw [if_neg (by omega)]
    · rw [show i = n by omega]; exact Ev.now _
  | succ d ih =>
    intro i hi
    refine Ev.step (f := fun k => laws_heldIntS.l0 k (c_marks a n) (a + ((i + 1 : Nat) : Int)) ((i + 1 : Nat) : Int)) (fun k => ?_) ?_
    · simp only [laws_heldIntS.l0, c_marks_length]; rw [if_pos (by omega), if_pos (by omega), c_rd, if_pos (by simp [c_marks, List.getD_eq_getElem?_getD, List.getElem?_range (show i < n by omega)]), c_w1 i (by omega), c_wid _ (by omega) (by omega)]
      rw [show a + (i : Int) + 1 = a + ((i + 1 : Nat) : Int) by omega]
    · exact ih (i + 1) (by omega)
theorem c_heldIntS (a : Int) (n : Nat) (ha : 0 ≤ a) (ha2 : a ≤ 1099511627776) (hl : n ≤ 1099511627776) : Ev (fun k => laws_heldIntS.f k (c_marks a n) a) (a + (n : Int)) := by
  unfold laws_heldIntS.f
  have := c_heldIntS_l a n ha ha2 hl n 0 (by omega)
  simpa using this

end Go.Proofs.Ytiimkifkakdalaa.P
