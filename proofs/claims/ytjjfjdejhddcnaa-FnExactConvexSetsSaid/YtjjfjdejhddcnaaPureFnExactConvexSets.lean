/- For all signs and numbers of elements the program's ConvexSets returns what the reference's returns. Conditions: none. -/
import Derived.Test.YtjjfjdejhddcnaaCConvex
import Derived.Test.YtjjfjdejhddcnaaCMark
import Derived.Test.YtjjfjdejhddcnaaCEq
import Derived.Test.YtjjfjdejhddcnaaP32
import Derived.Test.YtjjfjdejhddcnaaP31
namespace Go.Proofs.Ytjjfjdejhddcnaa.P
open Go.RowKit Go.Proofs.YtjjfjdejhddcnaaW.PrintWords Go.Proofs.YtjjfjdejhddcnaaW.PrintLast
set_option linter.unusedVariables false
set_option linter.unusedSimpArgs false

theorem c_implConvexSets (n : Int) (s : ByteArray) (hs : s.size ≤ 1099511627776) (K : Int) : Ev (fun k => impl_ConvexSets.f k n s K) (cCs n s K false) := by
  unfold impl_ConvexSets.f cCs
  refine Ev.bind (c_orderOf n s hs) ?_
  by_cases h : cAcy n s = true
  · obtain ⟨m, rfl, h3, h7, hz2⟩ := c_acy_open n s h
    simp only [h, if_true, true_and, Int.toNat_natCast]
    by_cases k1 : K < 3
    · rw [if_neg (show ¬ (3 ≤ K ∧ K ≤ (m : Int)) by omega)]; simp only [if_pos k1]; exact Ev.now _
    · simp only [if_neg k1]
      by_cases k2 : K > (m : Int)
      · rw [if_neg (show ¬ (3 ≤ K ∧ K ≤ (m : Int)) by omega)]; simp only [if_pos k2]; exact Ev.now _
      · rw [if_pos (show 3 ≤ K ∧ K ≤ (m : Int) by omega)]; simp only [if_neg k2]
        exact Ev.bind (c_implSets m h3 h7 s K) (Ev.now _)
  · simp only [h, Bool.false_eq_true, if_false, false_and]; exact Ev.now _

end Go.Proofs.Ytjjfjdejhddcnaa.P
namespace Go.Proofs.Ytjjfjdejhddcnaa.Pure
open Go.RowKit Go.Proofs.Ytjjfjdejhddcnaa.P Go.Proofs.YtjjfjdejhddcnaaW.PrintWords Go.Proofs.YtjjfjdejhddcnaaW.PrintLast
set_option linter.unusedVariables false

theorem FnExactConvexSets : laws_FnExactConvexSets.Pure := by
  intro n s e _ hs0 _
  apply Ev.rounds
  unfold laws_FnExactConvexSets.f laws_szSigns.f laws_toSigns.f
  by_cases hz : wrap64 (1048576 - (s.size : Int)) < 0
  · simp only [if_pos hz, Option.bind_some, show ((-1 : Int) < 0) by decide, if_true]
    exact Ev.now _
  · simp only [if_neg hz, Option.bind_some]
    have hs : s.size ≤ 1099511627776 := by rw [c_wid _ (by omega) (by omega)] at hz; omega
    have hS : Ev (fun k => spec_ConvexSets.f k n s e) (cCs n s e false) := by unfold spec_ConvexSets.f; exact Ev.bind (c_specL8 n s hs e false) (Ev.now _)
    have hI := c_implConvexSets n s hs e
    have hlen := c_cs_len n s e false
    generalize cCs n s e false = r at hS hI hlen
    have hE2 := c_eqIntS_self r hlen
    have hM2 := c_markIntS r 1 (by omega) (by omega) hlen
    have hH := c_heldIntS 1 r.length (by omega) (by omega) hlen
    have hn2 : ¬ (1 + (r.length : Int) < 0) := by omega
    repeat' first
      | exact Ev.now _
      | (refine Ev.bind hS ?_; try dsimp only)
      | (refine Ev.bind hI ?_; try dsimp only)
      | (refine Ev.bind hE2 ?_; try dsimp only)
      | (refine Ev.bind hM2 ?_; try dsimp only)
      | (refine Ev.bind hH ?_; try dsimp only)
      | (simp only [if_true, if_false, hn2])

end Go.Proofs.Ytjjfjdejhddcnaa.Pure
