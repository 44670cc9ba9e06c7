/- For all signs and sets of edges the program's FlipsFrom returns what the reference's returns. Conditions: none. -/
import Derived.Test.YtiimkifkakdalaaCFlips
import Derived.Test.YtiimkifkakdalaaCMark
import Derived.Test.YtiimkifkakdalaaCEq
import Derived.Test.YtiimkifkakdalaaP7
namespace Go.Proofs.Ytiimkifkakdalaa.Pure
open Go.RowKit Go.Proofs.Ytiimkifkakdalaa.P Go.Proofs.YtiimkifkakdalaaW.PrintWords Go.Proofs.YtiimkifkakdalaaW.PrintLast
set_option linter.unusedVariables false

theorem FnExactFlipsFrom : laws_FnExactFlipsFrom.Pure := by
  intro n s e _ hs0 _
  apply Ev.rounds
  unfold laws_FnExactFlipsFrom.f laws_szSigns.f laws_toSigns.f
  by_cases hz : wrap64 (1048576 - (s.size : Int)) < 0
  · simp only [if_pos hz, Option.bind_some, show ((-1 : Int) < 0) by decide, if_true]
    exact Ev.now _
  · simp only [if_neg hz, Option.bind_some]
    have hs : s.size ≤ 1099511627776 := by rw [c_wid _ (by omega) (by omega)] at hz; omega
    have hS := c_specFF n s hs e
    have hI := c_implFF n s hs e
    have hlen0 := cFF_len n s e
    generalize cFF n s e = r at hS hI hlen0
    have hlen : r.length ≤ 1099511627776 := by omega
    have hE2 := c_eqIntS_self r hlen
    have hM2 := c_markIntS r 1 (by omega) (by omega) hlen
    have hH := c_heldIntS 1 r.length (by omega) (by omega) hlen
    have hn2 : ¬ (1 + (r.length : Int) < 0) := by omega
    repeat' first
      | exact Ev.now _
      | (refine Ev.bind hS ?_; try dsimp only)
      | (refine Ev.bind hI ?_; try dsimp only)
      | (refine Ev.bind hE2 ?_; try dsimp only)
      | (refine Ev.bind hM2 ?_; try dsimp only)
      | (refine Ev.bind hH ?_; try dsimp only)
      | (simp only [if_true, if_false, hn2])

end Go.Proofs.Ytiimkifkakdalaa.Pure
