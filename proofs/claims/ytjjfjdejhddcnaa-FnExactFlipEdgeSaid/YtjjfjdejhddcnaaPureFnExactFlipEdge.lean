/- For all signs, sets of edges and edges the program's FlipEdge returns what the reference's returns. Conditions: none. -/
import Derived.Test.YtjjfjdejhddcnaaCFlip
import Derived.Test.YtjjfjdejhddcnaaP9
namespace Go.Proofs.Ytjjfjdejhddcnaa.Pure
open Go.RowKit Go.Proofs.Ytjjfjdejhddcnaa.P Go.Proofs.YtjjfjdejhddcnaaW.PrintWords Go.Proofs.YtjjfjdejhddcnaaW.PrintLast
set_option linter.unusedVariables false

theorem FnExactFlipEdge : laws_FnExactFlipEdge.Pure := by
  intro n s e i _ hs0 _ _
  apply Ev.rounds
  unfold laws_FnExactFlipEdge.f laws_szSigns.f laws_toSigns.f
  by_cases hz : wrap64 (1048576 - (s.size : Int)) < 0
  · simp only [if_pos hz, Option.bind_some, show ((-1 : Int) < 0) by decide, if_true]
    exact Ev.now _
  · simp only [if_neg hz, Option.bind_some]
    have hs : s.size ≤ 1099511627776 := by rw [c_wid _ (by omega) (by omega)] at hz; omega
    refine Ev.bind (c_specFlipEdge n s hs e i) (Ev.bind (c_implFlipEdge n s hs e i) ?_)
    simp only [if_true, bne_self_eq_false, Bool.false_eq_true, if_false]
    exact Ev.now _

end Go.Proofs.Ytjjfjdejhddcnaa.Pure
