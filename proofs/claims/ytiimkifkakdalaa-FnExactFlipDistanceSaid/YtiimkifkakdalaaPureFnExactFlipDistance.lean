/- For all signs and sets of edges the program's FlipDistance returns what the reference's returns. Conditions: none. -/
import Derived.Test.YtiimkifkakdalaaCFlipD
import Derived.Test.YtiimkifkakdalaaCMark
import Derived.Test.YtiimkifkakdalaaP8
namespace Go.Proofs.Ytiimkifkakdalaa.Pure
open Go.RowKit Go.Proofs.Ytiimkifkakdalaa.P Go.Proofs.YtiimkifkakdalaaW.PrintWords Go.Proofs.YtiimkifkakdalaaW.PrintLast
set_option linter.unusedVariables false
set_option linter.unusedSimpArgs false

theorem FnExactFlipDistance : laws_FnExactFlipDistance.Pure := by
  intro n s a b _ hs0 _ _
  apply Ev.rounds
  unfold laws_FnExactFlipDistance.f laws_szSigns.f laws_toSigns.f
  by_cases hz : wrap64 (1048576 - (s.size : Int)) < 0
  · simp only [if_pos hz, Option.bind_some, show ((-1 : Int) < 0) by decide, if_true]
    exact Ev.now _
  · simp only [if_neg hz, Option.bind_some]
    have hs : s.size ≤ 1099511627776 := by rw [c_wid _ (by omega) (by omega)] at hz; omega
    obtain ⟨c, hI, hS⟩ := c_flipD n s hs a b
    repeat' first
      | exact Ev.now _
      | (refine Ev.bind hS ?_; try dsimp only)
      | (refine Ev.bind hI ?_; try dsimp only)
      | (simp only [if_true, if_false, if_neg hz])

end Go.Proofs.Ytiimkifkakdalaa.Pure
