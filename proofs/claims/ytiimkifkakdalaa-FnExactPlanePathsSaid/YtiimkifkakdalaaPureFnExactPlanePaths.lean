/- For all signs the program's PlanePaths returns what the reference's returns. Conditions: none. -/
import Derived.Test.YtiimkifkakdalaaCPlP
import Derived.Test.YtiimkifkakdalaaCMark
import Derived.Test.YtiimkifkakdalaaCEq
import Derived.Test.YtiimkifkakdalaaP6
namespace Go.Proofs.Ytiimkifkakdalaa.Pure
open Go.RowKit Go.Proofs.Ytiimkifkakdalaa.P Go.Proofs.YtiimkifkakdalaaW.PrintWords Go.Proofs.YtiimkifkakdalaaW.PrintLast
set_option linter.unusedVariables false

theorem FnExactPlanePaths : laws_FnExactPlanePaths.Pure := by
  intro n s _ hs0
  apply Ev.rounds
  unfold laws_FnExactPlanePaths.f laws_szSigns.f laws_toSigns.f
  by_cases hz : wrap64 (1048576 - (s.size : Int)) < 0
  · simp only [if_pos hz, Option.bind_some, show ((-1 : Int) < 0) by decide, if_true]
    exact Ev.now _
  · simp only [if_neg hz, Option.bind_some]
    have hs : s.size ≤ 1099511627776 := by rw [c_wid _ (by omega) (by omega)] at hz; omega
    have hS := p_specPaths n s hs
    have hI := p_implPaths n s hs
    have hlen := p_paths_len n s
    generalize pPaths n s = r at hS hI hlen
    have hE2 := c_eqIntS_self r hlen
    have hM2 := c_markIntS r 1 (by omega) (by omega) hlen
    have hH := c_heldIntS 1 r.length (by omega) (by omega) hlen
    have hn2 : ¬ (1 + (r.length : Int) < 0) := by omega
    repeat' first
      | exact Ev.now _
      | (refine Ev.bind hS ?_; try dsimp only)
      | (refine Ev.bind hI ?_; try dsimp only)
      | (refine Ev.bind hE2 ?_; try dsimp only)
      | (refine Ev.bind hM2 ?_; try dsimp only)
      | (refine Ev.bind hH ?_; try dsimp only)
      | (simp only [if_true, if_false, hn2])

end Go.Proofs.Ytiimkifkakdalaa.Pure
