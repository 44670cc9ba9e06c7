/- For all signs and sets of edges the program's IsTriangulation returns what the reference's returns. Conditions: none. -/
import Derived.Test.YtjjfjdejhddcnaaCTri
import Derived.Test.YtjjfjdejhddcnaaP6
namespace Go.Proofs.Ytjjfjdejhddcnaa.Pure
open Go.RowKit Go.Proofs.Ytjjfjdejhddcnaa.P Go.Proofs.YtjjfjdejhddcnaaW.PrintWords Go.Proofs.YtjjfjdejhddcnaaW.PrintLast
set_option linter.unusedVariables false

theorem FnExactIsTriangulation : laws_FnExactIsTriangulation.Pure := by
  intro n s e _ hs0 _
  apply Ev.rounds
  unfold laws_FnExactIsTriangulation.f laws_szSigns.f laws_toSigns.f
  by_cases hz : wrap64 (1048576 - (s.size : Int)) < 0
  · simp only [if_pos hz, Option.bind_some, show ((-1 : Int) < 0) by decide, if_true]
    exact Ev.now _
  · simp only [if_neg hz, Option.bind_some]
    have hs : s.size ≤ 1099511627776 := by rw [c_wid _ (by omega) (by omega)] at hz; omega
    refine Ev.bind (c_specTri n s hs e) (Ev.bind (c_implTri n s hs e) ?_)
    simp only [bne_self_eq_false, Bool.false_eq_true, if_false]
    exact Ev.now _

end Go.Proofs.Ytjjfjdejhddcnaa.Pure
