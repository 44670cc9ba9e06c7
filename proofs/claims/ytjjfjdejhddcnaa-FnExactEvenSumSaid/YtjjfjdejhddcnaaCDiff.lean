/- Whether numbers are different elements: the reference's and the program's test tell the same. Conditions: the list has at most 2^40 numbers, and 1 is at most n. -/
import Derived.Test.YtjjfjdejhddcnaaCNum
import Derived.Test.YtjjfjdejhddcnaaP50
import Derived.Test.YtjjfjdejhddcnaaP15
import Derived.Test.YtjjfjdejhddcnaaP51
namespace Go.Proofs.Ytjjfjdejhddcnaa.P
open Go.RowKit Go.Proofs.YtjjfjdejhddcnaaW.PrintWords Go.Proofs.YtjjfjdejhddcnaaW.PrintLast
set_option linter.unusedVariables false

/-- Each number behind the first ones is an element, and not among those ahead of it. -/
def cDiff (n : Int) : List Int → List Int → Bool
  | _, [] => true
  | pre, x :: r => if 0 ≤ x ∧ x < n then (if x ∈ pre then false else cDiff n (pre ++ [x]) r) else false
theorem c_diff_drop (l : List Int) (i : Nat) (h : i < l.length) : l.drop i = l.getD i 0 :: l.drop (i + 1) := by
  rw [List.drop_eq_getElem_cons h, List.getD_eq_getElem?_getD, List.getElem?_eq_getElem h]; rfl
theorem c_diff_take (l : List Int) (i : Nat) (h : i < l.length) : l.take (i + 1) = l.take i ++ [l.getD i 0] := by
  rw [List.take_succ_eq_append_getElem h, List.getD_eq_getElem?_getD, List.getElem?_eq_getElem h]; rfl
theorem c_l1InE (x n : Int) (hn : -1000 ≤ n) (hn2 : n ≤ 1000) : spec_l1In.f x 0 (wrap64 (n - 1)) = some (decide (0 ≤ x ∧ x < n)) := by
  rw [c_wid (n - 1) (by omega) (by omega)]
  unfold spec_l1In.f
  by_cases h : x ≥ 0
  · rw [if_pos h]; congr 1; simp only [decide_eq_decide]; omega
  · rw [if_neg h, decide_eq_false (by omega)]
theorem c_isElement (x n : Int) : impl_isElement.f n x = some (decide (0 ≤ x ∧ x < n)) := by
  unfold impl_isElement.f
  by_cases h : x ≥ 0
  · rw [if_pos h]; congr 1; simp only [decide_eq_decide]; omega
  · rw [if_neg h, decide_eq_false (by omega)]
theorem c_specDiff_in (n : Int) (l : List Int) (hl : l.length ≤ 1099511627776) (i : Nat) (hi : i < l.length) (r : Bool) (hr : Ev (fun k => spec_l5Different.l0 k n l ((i + 1 : Nat) : Int)) r) : ∀ (d j : Nat), j + d = i → (∀ m, m < j → l.getD i 0 ≠ l.getD m 0) →
    Ev (fun k => spec_l5Different.l1 k n l (i : Int) (j : Int)) (if l.getD i 0 ∈ l.take i then false else r) := by
  intro d
  induction d with
  | zero =>
    intro j hj hm
    have hnot : l.getD i 0 ∉ l.take i := by
      intro hmem
      obtain ⟨m, hm1, hm2⟩ := List.mem_iff_getElem.1 hmem
      simp only [List.length_take] at hm1
      rw [List.getElem_take] at hm2
      exact hm m (by omega) (by rw [← hm2, List.getD_eq_getElem?_getD, List.getElem?_eq_getElem (by omega)]; rfl)
    rw [if_neg hnot]
    refine Ev.step (f := fun k => spec_l5Different.l0 k n l ((i + 1 : Nat) : Int)) (fun k => ?_) hr
    simp only [spec_l5Different.l1]; rw [if_neg (by omega), c_w1 i (by omega)]
  | succ d ih =>
    intro j hj hm
    by_cases he : l.getD i 0 = l.getD j 0
    · have hin : l.getD i 0 ∈ l.take i := by
        rw [he]; refine List.mem_iff_getElem.2 ⟨j, by simp; omega, ?_⟩
        rw [List.getElem_take, List.getD_eq_getElem?_getD, List.getElem?_eq_getElem (by omega)]; rfl
      rw [if_pos hin]
      refine Ev.step (f := fun k => some false) (fun k => ?_) (Ev.now _)
      simp only [spec_l5Different.l1]; rw [if_pos (by omega), if_pos (by omega), if_pos (by omega), if_pos (by omega), if_pos (by omega), c_rd, c_rd, if_pos he]
    · refine Ev.step (f := fun k => spec_l5Different.l1 k n l (i : Int) ((j + 1 : Nat) : Int)) (fun k => ?_) (ih (j + 1) (by omega) ?_)
      · simp only [spec_l5Different.l1]; rw [if_pos (by omega), if_pos (by omega), if_pos (by omega), if_pos (by omega), if_pos (by omega), c_rd, c_rd, if_neg he, c_w1 j (by omega)]
      · intro m hm'
        by_cases e : m = j
        · subst e; exact he
        · exact hm m (by omega)
theorem c_specDiff_l (n : Int) (hn : -1000 ≤ n) (hn2 : n ≤ 1000) (l : List Int) (hl : l.length ≤ 1099511627776) : ∀ (d i : Nat), i + d = l.length →
    Ev (fun k => spec_l5Different.l0 k n l (i : Int)) (cDiff n (l.take i) (l.drop i)) := by
  intro d
  induction d with
  | zero =>
    intro i hi
    rw [List.drop_eq_nil_of_le (by omega)]
    refine Ev.step (f := fun k => some true) (fun k => ?_) (Ev.now _)
    simp only [spec_l5Different.l0]; rw [if_neg (by omega)]
  | succ d ih =>
    intro i hi
    rw [c_diff_drop l i (by omega)]
    simp only [cDiff]
    by_cases hx : 0 ≤ l.getD i 0 ∧ l.getD i 0 < n
    · rw [if_pos hx, ← c_diff_take l i (by omega)]
      refine Ev.step (f := fun k => spec_l5Different.l1 k n l (i : Int) ((0 : Nat) : Int)) (fun k => ?_) (c_specDiff_in n l hl i (by omega) _ (ih (i + 1) (by omega)) i 0 (by omega) (fun m hm => by omega))
      simp only [spec_l5Different.l0]; rw [if_pos (by omega), if_pos (by omega), c_rd, c_l1InE _ n hn hn2, decide_eq_true hx]; rfl
    · rw [if_neg hx]
      refine Ev.step (f := fun k => some false) (fun k => ?_) (Ev.now _)
      simp only [spec_l5Different.l0]; rw [if_pos (by omega), if_pos (by omega), c_rd, c_l1InE _ n hn hn2, decide_eq_false hx]; rfl
theorem c_specDiff (n : Int) (hn : -1000 ≤ n) (hn2 : n ≤ 1000) (l : List Int) (hl : l.length ≤ 1099511627776) : Ev (fun k => spec_l5Different.f k n l) (cDiff n [] l) := by
  unfold spec_l5Different.f
  have := c_specDiff_l n hn hn2 l hl l.length 0 (by omega)
  simpa using this
theorem c_index_l (l : List Int) (x : Int) (hl : l.length ≤ 1099511627776) : ∀ (d i : Nat), i + d = l.length → (∀ m, m < i → x ≠ l.getD m 0) →
    ∃ t, Ev (fun k => slices_Index_int_int.l0 k l x (l.length : Int) (i : Int)) t ∧ (decide (t ≥ 0) = decide (x ∈ l)) := by
  intro d
  induction d with
  | zero =>
    intro i hi hm
    refine ⟨-1, Ev.step (f := fun k => some (-1)) (fun k => ?_) (Ev.now _), ?_⟩
    · simp only [slices_Index_int_int.l0]; rw [if_neg (by omega)]
    · have : x ∉ l := by
        intro h
        obtain ⟨m, hm1, hm2⟩ := List.mem_iff_getElem.1 h
        exact hm m (by omega) (by rw [← hm2, List.getD_eq_getElem?_getD, List.getElem?_eq_getElem hm1]; rfl)
      rw [decide_eq_false this]; decide
  | succ d ih =>
    intro i hi hm
    by_cases he : x = l.getD i 0
    · refine ⟨(i : Int), Ev.step (f := fun k => some (i : Int)) (fun k => ?_) (Ev.now _), ?_⟩
      · simp only [slices_Index_int_int.l0]; rw [if_pos (by omega), if_pos (by omega), if_pos (by omega), c_rd, if_pos he]
      · have : x ∈ l := by
          rw [he, List.getD_eq_getElem?_getD, List.getElem?_eq_getElem (show i < l.length by omega)]; exact List.getElem_mem _
        rw [decide_eq_true this, decide_eq_true (show (i : Int) ≥ 0 by omega)]
    · obtain ⟨t, h1, h2⟩ := ih (i + 1) (by omega) (by
        intro m hm'
        by_cases e : m = i
        · subst e; exact he
        · exact hm m (by omega))
      refine ⟨t, Ev.step (f := fun k => slices_Index_int_int.l0 k l x (l.length : Int) ((i + 1 : Nat) : Int)) (fun k => ?_) h1, h2⟩
      simp only [slices_Index_int_int.l0]; rw [if_pos (by omega), if_pos (by omega), if_pos (by omega), c_rd, if_neg he, c_w1 i (by omega)]
theorem c_contains (l : List Int) (x : Int) (hl : l.length ≤ 1099511627776) : Ev (fun k => slices_Contains_int_int.f k l x) (decide (x ∈ l)) := by
  obtain ⟨t, h1, h2⟩ := c_index_l l x hl l.length 0 (by omega) (fun m hm => by omega)
  unfold slices_Contains_int_int.f slices_Index_int_int.f
  rw [← h2]
  exact Ev.bind h1 (Ev.now _)
theorem c_implDiff_l (n : Int) (l : List Int) (hl : l.length ≤ 1099511627776) : ∀ (d i : Nat), i + d = l.length →
    Ev (fun k => impl_areDifferent.l0 k n l l (l.length : Int) (i : Int)) (cDiff n (l.take i) (l.drop i)) := by
  intro d
  induction d with
  | zero =>
    intro i hi
    rw [List.drop_eq_nil_of_le (by omega)]
    refine Ev.step (f := fun k => some true) (fun k => ?_) (Ev.now _)
    simp only [impl_areDifferent.l0]; rw [if_neg (by omega)]
  | succ d ih =>
    intro i hi
    rw [c_diff_drop l i (by omega)]
    simp only [cDiff]
    have g0 : (i : Int) < (l.length : Int) := by omega
    have g1 : (0 : Int) ≤ (i : Int) := by omega
    have g2 : (i : Int) ≤ (l.length : Int) := by omega
    by_cases hx : 0 ≤ l.getD i 0 ∧ l.getD i 0 < n
    · rw [if_pos hx, ← c_diff_take l i (by omega)]
      refine Ev.step (f := fun k => (slices_Contains_int_int.f k (l.take i) (l.getD i 0)).bind fun t => if t = true then some false else impl_areDifferent.l0 k n l l (l.length : Int) ((i + 1 : Nat) : Int)) (fun k => ?_) ?_
      · simp only [impl_areDifferent.l0]; rw [if_pos g0, if_pos g1, if_pos g0, c_rd, c_isElement, decide_eq_true hx]
        simp only [Option.bind_some, if_true]; rw [if_pos g2, c_w1 i (by omega)]; rfl
      · refine Ev.bind (c_contains (l.take i) (l.getD i 0) (by simp; omega)) ?_
        by_cases hm : l.getD i 0 ∈ l.take i
        · simp only [if_pos hm, decide_eq_true hm, if_true]; exact Ev.now _
        · simp only [if_neg hm, decide_eq_false hm, Bool.false_eq_true, if_false]; exact ih (i + 1) (by omega)
    · rw [if_neg hx]
      refine Ev.step (f := fun k => some false) (fun k => ?_) (Ev.now _)
      simp only [impl_areDifferent.l0]; rw [if_pos g0, if_pos g1, if_pos g0, c_rd, c_isElement, decide_eq_false hx]; rfl
theorem c_implDiff (n : Int) (l : List Int) (hl : l.length ≤ 1099511627776) : Ev (fun k => impl_areDifferent.f k n l) (cDiff n [] l) := by
  unfold impl_areDifferent.f
  have := c_implDiff_l n l hl l.length 0 (by omega)
  simpa using this

end Go.Proofs.Ytjjfjdejhddcnaa.P
