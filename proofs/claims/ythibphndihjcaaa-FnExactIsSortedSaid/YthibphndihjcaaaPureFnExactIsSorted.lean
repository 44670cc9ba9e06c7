/- For every Signs the program's IsSorted returns what the reference's returns. Conditions: none. -/
import Derived.Test.YthibphndihjcaaaCWos
import Derived.Test.YthibphndihjcaaaP35
import Derived.Test.YthibphndihjcaaaOWsg
import Derived.Test.YthibphndihjcaaaP35
namespace Go.Proofs.Ythibphndihjcaaa.Pure
open Go.RowKit Go.Proofs.Ythibphndihjcaaa.P Go.Proofs.YthibphndihjcaaaW.PrintWords Go.Proofs.YthibphndihjcaaaW.PrintLast
set_option linter.unusedVariables false

theorem FnExactIsSorted : laws_FnExactIsSorted.Pure := by
  intro n s _ hs0
  apply Ev.rounds
  unfold laws_FnExactIsSorted.f laws_szSigns.f laws_toSigns.f
  by_cases hz : wrap64 (1048576 - (s.size : Int)) < 0
  · simp only [if_pos hz, Option.bind_some, show ((-1 : Int) < 0) by decide, if_true]
    exact Ev.now _
  · simp only [if_neg hz, Option.bind_some]
    have hs : s.size ≤ 1099511627776 := by rw [c_wid _ (by omega) (by omega)] at hz; omega
    have hS : Ev (fun k => spec_IsSorted.f k n s) (cWos n s).2 := by
      unfold spec_IsSorted.f
      exact Ev.bind (cS_Wos n s hs) (Ev.now _)
    have hI : Ev (fun k => impl_IsSorted.f k n s) (cWos n s).2 := by
      unfold impl_IsSorted.f
      exact Ev.bind (cI_Wos n s hs) (Ev.now _)
    refine Ev.bind hS ?_
    refine Ev.bind hI ?_
    simp only [bne_self_eq_false, Bool.false_eq_true, if_false]
    exact Ev.now _
end Go.Proofs.Ythibphndihjcaaa.Pure
