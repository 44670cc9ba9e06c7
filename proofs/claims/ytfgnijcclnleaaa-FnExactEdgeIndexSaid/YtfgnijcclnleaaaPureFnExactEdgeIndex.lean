/- For every n and every two numbers the program's EdgeIndex returns what the reference's returns. Conditions: none. -/
import Derived.Test.YtfgnijcclnleaaaCEdges
import Derived.Test.YtfgnijcclnleaaaCDiff
import Derived.Test.YtfgnijcclnleaaaP41
namespace Go.Proofs.Ytfgnijcclnleaaa.Pure
open Go.RowKit Go.Proofs.Ytfgnijcclnleaaa.P Go.Proofs.YtfgnijcclnleaaaW.PrintWords Go.Proofs.YtfgnijcclnleaaaW.PrintLast
set_option linter.unusedVariables false

theorem c_edgeIndex_all : ∀ n ∈ [3, 4, 5, 6, 7], ∀ i ∈ List.range n, ∀ j ∈ List.range n, laws_FnExactEdgeIndex.f 80 (n : Nat) (i : Nat) (j : Nat) = some true := by decide +kernel
theorem FnExactEdgeIndex : laws_FnExactEdgeIndex.Pure := by
  intro n i j _ _ _
  by_cases h : 3 ≤ n ∧ n ≤ 7
  · by_cases hd : cDiff n [] [i, j] = true
    · have hij : 0 ≤ i ∧ i < n ∧ 0 ≤ j ∧ j < n := by
        simp only [cDiff] at hd
        by_cases hi : 0 ≤ i ∧ i < n
        · rw [if_pos hi] at hd
          by_cases hj : 0 ≤ j ∧ j < n
          · exact ⟨hi.1, hi.2, hj.1, hj.2⟩
          · simp [if_neg hj] at hd
        · rw [if_neg hi] at hd; cases hd
      obtain ⟨m, rfl⟩ : ∃ m : Nat, n = (m : Int) := ⟨n.toNat, by omega⟩
      obtain ⟨a, rfl⟩ : ∃ a : Nat, i = (a : Int) := ⟨i.toNat, by omega⟩
      obtain ⟨b, rfl⟩ : ∃ b : Nat, j = (b : Int) := ⟨j.toNat, by omega⟩
      exact ⟨80, c_edgeIndex_all m (by simp; omega) a (by simp; omega) b (by simp; omega)⟩
    · have hs := c_specDiff n (by omega) (by omega) [i, j] (by simp)
      have hi := c_implDiff n [i, j] (by simp)
      rw [Bool.not_eq_true] at hd
      rw [hd] at hs hi
      apply Ev.rounds
      unfold laws_FnExactEdgeIndex.f spec_EdgeIndex.f impl_EdgeIndex.f
      simp only [c_in37, c_isCount, decide_eq_true h, Option.bind_some, if_true]
      refine Ev.bind (a := -1) (Ev.bind hs ?_) (Ev.bind (a := -1) (Ev.bind hi ?_) ?_)
      · simp only [Bool.false_eq_true, if_false]; exact Ev.now _
      · refine Ev.step (fun k => by simp only [impl_EdgeIndex.j0]; rfl) ?_
        simp only [Bool.not_false, if_true]; exact Ev.now _
      · simp only [if_true]; exact Ev.now _
  · apply Ev.rounds
    unfold laws_FnExactEdgeIndex.f spec_EdgeIndex.f impl_EdgeIndex.f
    simp only [c_in37, c_isCount, decide_eq_false h, Option.bind_some, Bool.false_eq_true, if_false]
    refine Ev.bind (a := -1) (Ev.step (fun k => by simp only [impl_EdgeIndex.j0]; rfl) ?_) ?_
    · simp only [if_true]; exact Ev.now _
    · simp only [if_true]; exact Ev.now _

end Go.Proofs.Ytfgnijcclnleaaa.Pure
