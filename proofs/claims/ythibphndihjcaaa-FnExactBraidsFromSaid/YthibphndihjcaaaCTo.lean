/- The laws' copy of a slice of numbers is that slice. Conditions: its length is at most 2^40. -/
import Derived.Test.YthibphndihjcaaaCNum
import Derived.Test.YthibphndihjcaaaP57
namespace Go.Proofs.Ythibphndihjcaaa.P
open Go.RowKit Go.Proofs.YthibphndihjcaaaW.PrintWords Go.Proofs.YthibphndihjcaaaW.PrintLast
set_option linter.unusedVariables false

theorem c_toIntS_l (l : List Int) (hl : l.length ≤ 1099511627776) : ∀ (d i : Nat) (ys : List Int), i + d = l.length → ys.length = l.length → (∀ j, j < i → ys[j]? = l[j]?) →
    Ev (fun k => laws_toIntS.l0 k l ys (i : Int)) l := by
  intro d
  induction d with
  | zero =>
    intro i ys hi hy h
    refine Ev.step (f := fun _ => some ys) (fun k => ?_) ?_
    · simp only [laws_toIntS.l0]; rw [if_neg (by omega)]
    · have : ys = l := by
        apply List.ext_getElem?
        intro j
        by_cases hj : j < i
        · exact h j hj
        · rw [List.getElem?_eq_none (by omega), List.getElem?_eq_none (by omega)]
      rw [this]; exact Ev.now _
  | succ d ih =>
    intro i ys hi hy h
    refine Ev.step (f := fun k => laws_toIntS.l0 k l (ys.set i (l.getD i 0)) ((i + 1 : Nat) : Int)) (fun k => ?_) ?_
    · simp only [laws_toIntS.l0]; rw [if_pos (by omega), if_pos (by omega), if_pos (by omega), c_w1 i (by omega), c_rd]; simp
    · refine ih (i + 1) _ (by omega) (by simpa using hy) ?_
      intro j hj
      by_cases e : j = i
      · subst e
        rw [List.getElem?_set_self (by omega), List.getD_eq_getElem?_getD, List.getElem?_eq_getElem (by omega)]; rfl
      · rw [List.getElem?_set_ne (by omega)]; exact h j (by omega)
theorem c_toIntS (l : List Int) (hl : l.length ≤ 35184372088832) (hl2 : l.length ≤ 1099511627776) : Ev (fun k => laws_toIntS.f k l) l := by
  unfold laws_toIntS.f
  refine Ev.congr (f := fun k => laws_toIntS.l0 k l (List.replicate l.length 0) ((0 : Nat) : Int)) (fun k => ?_) ?_
  · rw [if_pos (by omega), if_pos (by omega)]; simp
  · exact c_toIntS_l l hl2 l.length 0 _ (by omega) (by simp) (fun j hj => by omega)

end Go.Proofs.Ythibphndihjcaaa.P
