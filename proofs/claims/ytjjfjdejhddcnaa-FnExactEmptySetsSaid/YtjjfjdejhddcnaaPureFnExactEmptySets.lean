/- For all signs and numbers of elements the program's EmptySets returns what the reference's returns. Conditions: none. -/
import Derived.Test.YtjjfjdejhddcnaaCMark
import Derived.Test.YtjjfjdejhddcnaaCEq
import Derived.Test.YtjjfjdejhddcnaaCEmpty
import Derived.Test.YtjjfjdejhddcnaaP40
import Derived.Test.YtjjfjdejhddcnaaP13
namespace Go.Proofs.Ytjjfjdejhddcnaa.Pure
open Go.RowKit Go.Proofs.Ytjjfjdejhddcnaa.P Go.Proofs.YtjjfjdejhddcnaaW.PrintWords Go.Proofs.YtjjfjdejhddcnaaW.PrintLast
set_option linter.unusedVariables false

theorem FnExactEmptySets : laws_FnExactEmptySets.Pure := by
  intro n s e _ hs0 _
  apply Ev.rounds
  unfold laws_FnExactEmptySets.f laws_szSigns.f laws_toSigns.f
  by_cases hz : wrap64 (1048576 - (s.size : Int)) < 0
  · simp only [if_pos hz, Option.bind_some, show ((-1 : Int) < 0) by decide, if_true]
    exact Ev.now _
  · simp only [if_neg hz, Option.bind_some]
    have hs : s.size ≤ 1099511627776 := by rw [c_wid _ (by omega) (by omega)] at hz; omega
    have hS : Ev (fun k => spec_EmptySets.f k n s e) (cCs n s e true) := by unfold spec_EmptySets.f; exact Ev.bind (c_specL8 n s hs e true) (Ev.now _)
    have hI := c_implEmptySets n s hs e
    have hlen := c_cs_len n s e true
    generalize cCs n s e true = r at hS hI hlen
    have hE2 := c_eqIntS_self r hlen
    have hM2 := c_markIntS r 1 (by omega) (by omega) hlen
    have hH := c_heldIntS 1 r.length (by omega) (by omega) hlen
    have hn2 : ¬ (1 + (r.length : Int) < 0) := by omega
    repeat' first
      | exact Ev.now _
      | (refine Ev.bind hS ?_; try dsimp only)
      | (refine Ev.bind hI ?_; try dsimp only)
      | (refine Ev.bind hE2 ?_; try dsimp only)
      | (refine Ev.bind hM2 ?_; try dsimp only)
      | (refine Ev.bind hH ?_; try dsimp only)
      | (simp only [if_true, if_false, hn2])

end Go.Proofs.Ytjjfjdejhddcnaa.Pure
