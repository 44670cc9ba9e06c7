/- For every n and every index the program's EdgeAt returns what the reference's returns. Conditions: none. -/
import Derived.Test.YtfgnijcclnleaaaCEdges
import Derived.Test.YtfgnijcclnleaaaP13
namespace Go.Proofs.Ytfgnijcclnleaaa.P
open Go.RowKit Go.Proofs.YtfgnijcclnleaaaW.PrintWords Go.Proofs.YtfgnijcclnleaaaW.PrintLast
set_option linter.unusedVariables false

theorem c_implEdgeAt' (n q : Int) : Ev (fun k => impl_EdgeAt.f k n q) (if 3 ≤ n ∧ n ≤ 7 then cEdgeAt n q else (-1, -1)) := by
  unfold impl_EdgeAt.f
  by_cases h : 3 ≤ n ∧ n ≤ 7
  · have hp := c_pairs_le n h.1 h.2
    simp only [c_isCount, decide_eq_true h, Option.bind_some, if_true, c_pairs7 n h.1 h.2]
    rw [if_pos h]
    unfold cEdgeAt
    by_cases h0 : q < 0
    · rw [if_neg (show ¬ (0 ≤ q ∧ q < ((cPairs n.toNat).length : Int)) by omega)]
      simp only [if_pos h0]; exact Ev.now _
    · by_cases h1 : q ≥ ((cPairs n.toNat).length : Int)
      · rw [if_neg (show ¬ (0 ≤ q ∧ q < ((cPairs n.toNat).length : Int)) by omega)]
        simp only [if_neg h0, if_pos h1]; exact Ev.now _
      · rw [if_pos (show (0 ≤ q ∧ q < ((cPairs n.toNat).length : Int)) by omega)]
        simp only [if_neg h0, if_neg h1]
        refine Ev.bind (c_edgesOf n h.1 h.2) ?_
        have g0 : 0 ≤ q := by omega
        have g1 : q < ((cEdges n.toNat).length : Int) := by rw [c_edges_length]; omega
        simp only [if_pos g0, if_pos g1]
        obtain ⟨r, rfl⟩ : ∃ r : Nat, q = (r : Int) := ⟨q.toNat, by omega⟩
        rw [c_rdE n.toNat r (by omega)]
        exact Ev.now _
  · simp only [c_isCount, decide_eq_false h, Option.bind_some, Bool.false_eq_true, if_false]
    rw [if_neg h]; exact Ev.now _

end Go.Proofs.Ytfgnijcclnleaaa.P
namespace Go.Proofs.Ytfgnijcclnleaaa.Pure
open Go.RowKit Go.Proofs.Ytfgnijcclnleaaa.P Go.Proofs.YtfgnijcclnleaaaW.PrintWords Go.Proofs.YtfgnijcclnleaaaW.PrintLast

theorem FnExactEdgeAt : laws_FnExactEdgeAt.Pure := by
  intro n q _ _
  apply Ev.rounds
  unfold laws_FnExactEdgeAt.f
  refine Ev.bind (c_specEdgeAt' n q) ?_
  refine Ev.bind (c_implEdgeAt' n q) ?_
  simp only [if_true]
  exact Ev.now _

end Go.Proofs.Ytfgnijcclnleaaa.Pure
