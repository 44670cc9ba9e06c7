/- Whether numbers are different elements: the reference's test. Conditions: the list has at most 2^40 numbers, n within a thousand. -/
import Derived.Test.YtmidcafamppkeaaCDiff
import Derived.Test.YtmidcafamppkeaaP48
namespace Go.Proofs.Ytmidcafamppkeaa.P
open Go.RowKit Go.Proofs.YtmidcafamppkeaaW.PrintWords Go.Proofs.YtmidcafamppkeaaW.PrintLast
set_option linter.unusedVariables false

theorem c_specDiff_in (n : Int) (l : List Int) (hl : l.length ≤ 1099511627776) (i : Nat) (hi : i < l.length) (r : Bool) (hr : Ev (fun k => spec_l5Different.l0 k n l ((i + 1 : Nat) : Int)) r) : ∀ (d j : Nat), j + d = i → (∀ m, m < j → l.getD i 0 ≠ l.getD m 0) →
    Ev (fun k => spec_l5Different.l1 k n l (i : Int) (j : Int)) (if l.getD i 0 ∈ l.take i then false else r) := by
  intro d
  induction d with
  | zero =>
    intro j hj hm
    have hnot : l.getD i 0 ∉ l.take i := by
      intro hmem
      obtain ⟨m, hm1, hm2⟩ := List.mem_iff_getElem.1 hmem
      simp only [List.length_take] at hm1
      rw [List.getElem_take] at hm2
      exact hm m (by omega) (by rw [← hm2, List.getD_eq_getElem?_getD, List.getElem?_eq_getElem (by omega)]; rfl)
    rw [if_neg hnot]
    refine Ev.step (f := fun k => spec_l5Different.l0 k n l ((i + 1 : Nat) : Int)) (fun k => ?_) hr
    simp only [spec_l5Different.l1]; rw [if_neg (by omega), c_w1 i (by omega)]
  | succ d ih =>
    intro j hj hm
    by_cases he : l.getD i 0 = l.getD j 0
    · have hin : l.getD i 0 ∈ l.take i := by
        rw [he]; refine List.mem_iff_getElem.2 ⟨j, by simp; omega, ?_⟩
        rw [List.getElem_take, List.getD_eq_getElem?_getD, List.getElem?_eq_getElem (by omega)]; rfl
      rw [if_pos hin]
      refine Ev.step (f := fun k => some false) (fun k => ?_) (Ev.now _)
      simp only [spec_l5Different.l1]; rw [if_pos (by omega), if_pos (by omega), if_pos (by omega), if_pos (by omega), if_pos (by omega), c_rd, c_rd, if_pos he]
    · refine Ev.step (f := fun k => spec_l5Different.l1 k n l (i : Int) ((j + 1 : Nat) : Int)) (fun k => ?_) (ih (j + 1) (by omega) ?_)
      · simp only [spec_l5Different.l1]; rw [if_pos (by omega), if_pos (by omega), if_pos (by omega), if_pos (by omega), if_pos (by omega), c_rd, c_rd, if_neg he, c_w1 j (by omega)]
      · intro m hm'
        by_cases e : m = j
        · subst e; exact he
        · exact hm m (by omega)
theorem c_specDiff_l (n : Int) (hn : -1000 ≤ n) (hn2 : n ≤ 1000) (l : List Int) (hl : l.length ≤ 1099511627776) : ∀ (d i : Nat), i + d = l.length →
    Ev (fun k => spec_l5Different.l0 k n l (i : Int)) (cDiff n (l.take i) (l.drop i)) := by
  intro d
  induction d with
  | zero =>
    intro i hi
    rw [List.drop_eq_nil_of_le (by omega)]
    refine Ev.step (f := fun k => some true) (fun k => ?_) (Ev.now _)
    simp only [spec_l5Different.l0]; rw [if_neg (by omega)]
  | succ d ih =>
    intro i hi
    rw [c_diff_drop l i (by omega)]
    simp only [cDiff]
    by_cases hx : 0 ≤ l.getD i 0 ∧ l.getD i 0 < n
    · rw [if_pos hx, ← c_diff_take l i (by omega)]
      refine Ev.step (f := fun k => spec_l5Different.l1 k n l (i : Int) ((0 : Nat) : Int)) (fun k => ?_) (c_specDiff_in n l hl i (by omega) _ (ih (i + 1) (by omega)) i 0 (by omega) (fun m hm => by omega))
      simp only [spec_l5Different.l0]; rw [if_pos (by omega), if_pos (by omega), c_rd, c_l1InE _ n hn hn2, decide_eq_true hx]; rfl
    · rw [if_neg hx]
      refine Ev.step (f := fun k => some false) (fun k => ?_) (Ev.now _)
      simp only [spec_l5Different.l0]; rw [if_pos (by omega), if_pos (by omega), c_rd, c_l1InE _ n hn hn2, decide_eq_false hx]; rfl
theorem c_specDiff (n : Int) (hn : -1000 ≤ n) (hn2 : n ≤ 1000) (l : List Int) (hl : l.length ≤ 1099511627776) : Ev (fun k => spec_l5Different.f k n l) (cDiff n [] l) := by
  unfold spec_l5Different.f
  have := c_specDiff_l n hn hn2 l hl l.length 0 (by omega)
  simpa using this
end Go.Proofs.Ytmidcafamppkeaa.P
