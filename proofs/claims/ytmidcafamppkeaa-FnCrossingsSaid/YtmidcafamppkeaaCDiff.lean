/- Whether numbers are different elements: the reference's and the program's test tell the same. Conditions: the list has at most 2^40 numbers, and 1 is at most n. -/
import Derived.Test.YtmidcafamppkeaaCNum
import Derived.Test.YtmidcafamppkeaaP4
import Derived.Test.YtmidcafamppkeaaP48
namespace Go.Proofs.Ytmidcafamppkeaa.P
open Go.RowKit Go.Proofs.YtmidcafamppkeaaW.PrintWords Go.Proofs.YtmidcafamppkeaaW.PrintLast
set_option linter.unusedVariables false

/-- Each number behind the first ones is an element, and not among those ahead of it. -/
def cDiff (n : Int) : List Int → List Int → Bool
  | _, [] => true
  | pre, x :: r => if 0 ≤ x ∧ x < n then (if x ∈ pre then false else cDiff n (pre ++ [x]) r) else false
theorem c_diff_drop (l : List Int) (i : Nat) (h : i < l.length) : l.drop i = l.getD i 0 :: l.drop (i + 1) := by
  rw [List.drop_eq_getElem_cons h, List.getD_eq_getElem?_getD, List.getElem?_eq_getElem h]; rfl
theorem c_diff_take (l : List Int) (i : Nat) (h : i < l.length) : l.take (i + 1) = l.take i ++ [l.getD i 0] := by
  rw [List.take_succ_eq_append_getElem h, List.getD_eq_getElem?_getD, List.getElem?_eq_getElem h]; rfl
theorem c_l1InE (x n : Int) (hn : -1000 ≤ n) (hn2 : n ≤ 1000) : spec_l1In.f x 0 (wrap64 (n - 1)) = some (decide (0 ≤ x ∧ x < n)) := by
  rw [c_wid (n - 1) (by omega) (by omega)]
  unfold spec_l1In.f
  by_cases h : x ≥ 0
  · rw [if_pos h]; congr 1; simp only [decide_eq_decide]; omega
  · rw [if_neg h, decide_eq_false (by omega)]
theorem c_isElement (x n : Int) : impl_isElement.f n x = some (decide (0 ≤ x ∧ x < n)) := by
  unfold impl_isElement.f
  by_cases h : x ≥ 0
  · rw [if_pos h]; congr 1; simp only [decide_eq_decide]; omega
  · rw [if_neg h, decide_eq_false (by omega)]
theorem c_index_l (l : List Int) (x : Int) (hl : l.length ≤ 1099511627776) : ∀ (d i : Nat), i + d = l.length → (∀ m, m < i → x ≠ l.getD m 0) →
    ∃ t, Ev (fun k => slices_Index_int_int.l0 k l x (l.length : Int) (i : Int)) t ∧ (decide (t ≥ 0) = decide (x ∈ l)) := by
  intro d
  induction d with
  | zero =>
    intro i hi hm
    refine ⟨-1, Ev.step (f := fun k => some (-1)) (fun k => ?_) (Ev.now _), ?_⟩
    · simp only [slices_Index_int_int.l0]; rw [if_neg (by omega)]
    · have : x ∉ l := by
        intro h
        obtain ⟨m, hm1, hm2⟩ := List.mem_iff_getElem.1 h
        exact hm m (by omega) (by rw [← hm2, List.getD_eq_getElem?_getD, List.getElem?_eq_getElem hm1]; rfl)
      rw [decide_eq_false this]; decide
  | succ d ih =>
    intro i hi hm
    by_cases he : x = l.getD i 0
    · refine ⟨(i : Int), Ev.step (f := fun k => some (i : Int)) (fun k => ?_) (Ev.now _), ?_⟩
      · simp only [slices_Index_int_int.l0]; rw [if_pos (by omega), if_pos (by omega), if_pos (by omega), c_rd, if_pos he]
      · have : x ∈ l := by
          rw [he, List.getD_eq_getElem?_getD, List.getElem?_eq_getElem (show i < l.length by omega)]; exact List.getElem_mem _
        rw [decide_eq_true this, decide_eq_true (show (i : Int) ≥ 0 by omega)]
    · obtain ⟨t, h1, h2⟩ := ih (i + 1) (by omega) (by
        intro m hm'
        by_cases e : m = i
        · subst e; exact he
        · exact hm m (by omega))
      refine ⟨t, Ev.step (f := fun k => slices_Index_int_int.l0 k l x (l.length : Int) ((i + 1 : Nat) : Int)) (fun k => ?_) h1, h2⟩
      simp only [slices_Index_int_int.l0]; rw [if_pos (by omega), if_pos (by omega), if_pos (by omega), c_rd, if_neg he, c_w1 i (by omega)]
theorem c_contains (l : List Int) (x : Int) (hl : l.length ≤ 1099511627776) : Ev (fun k => slices_Contains_int_int.f k l x) (decide (x ∈ l)) := by
  obtain ⟨t, h1, h2⟩ := c_index_l l x hl l.length 0 (by omega) (fun m hm => by omega)
  unfold slices_Contains_int_int.f slices_Index_int_int.f
  rw [← h2]
  exact Ev.bind h1 (Ev.now _)
theorem c_implDiff_l (n : Int) (l : List Int) (hl : l.length ≤ 1099511627776) : ∀ (d i : Nat), i + d = l.length →
    Ev (fun k => impl_areDifferent.l0 k n l l (l.length : Int) (i : Int)) (cDiff n (l.take i) (l.drop i)) := by
  intro d
  induction d with
  | zero =>
    intro i hi
    rw [List.drop_eq_nil_of_le (by omega)]
    refine Ev.step (f := fun k => some true) (fun k => ?_) (Ev.now _)
    simp only [impl_areDifferent.l0]; rw [if_neg (by omega)]
  | succ d ih =>
    intro i hi
    rw [c_diff_drop l i (by omega)]
    simp only [cDiff]
    have g0 : (i : Int) < (l.length : Int) := by omega
    have g1 : (0 : Int) ≤ (i : Int) := by omega
    have g2 : (i : Int) ≤ (l.length : Int) := by omega
    by_cases hx : 0 ≤ l.getD i 0 ∧ l.getD i 0 < n
    · rw [if_pos hx, ← c_diff_take l i (by omega)]
      refine Ev.step (f := fun k => (slices_Contains_int_int.f k (l.take i) (l.getD i 0)).bind fun t => if t = true then some false else impl_areDifferent.l0 k n l l (l.length : Int) ((i + 1 : Nat) : Int)) (fun k => ?_) ?_
      · simp only [impl_areDifferent.l0]; rw [if_pos g0, if_pos g1, if_pos g0, c_rd, c_isElement, decide_eq_true hx]
        simp only [Option.bind_some, if_true]; rw [if_pos g2, c_w1 i (by omega)]; rfl
      · refine Ev.bind (c_contains (l.take i) (l.getD i 0) (by simp; omega)) ?_
        by_cases hm : l.getD i 0 ∈ l.take i
        · simp only [if_pos hm, decide_eq_true hm, if_true]; exact Ev.now _
        · simp only [if_neg hm, decide_eq_false hm, Bool.false_eq_true, if_false]; exact ih (i + 1) (by omega)
    · rw [if_neg hx]
      refine Ev.step (f := fun k => some false) (fun k => ?_) (Ev.now _)
      simp only [impl_areDifferent.l0]; rw [if_pos g0, if_pos g1, if_pos g0, c_rd, c_isElement, decide_eq_false hx]; rfl
theorem c_implDiff (n : Int) (l : List Int) (hl : l.length ≤ 1099511627776) : Ev (fun k => impl_areDifferent.f k n l) (cDiff n [] l) := by
  unfold impl_areDifferent.f
  have := c_implDiff_l n l hl l.length 0 (by omega)
  simpa using this

end Go.Proofs.Ytmidcafamppkeaa.P
