/- For every Signs the program's WiringOfSigns returns what the reference's returns. Conditions: none. -/
import Derived.Test.YthibphndihjcaaaCWos
import Derived.Test.YthibphndihjcaaaCMark
import Derived.Test.YthibphndihjcaaaCEq
import Derived.Test.YthibphndihjcaaaP10
namespace Go.Proofs.Ythibphndihjcaaa.Pure
open Go.RowKit Go.Proofs.Ythibphndihjcaaa.P Go.Proofs.YthibphndihjcaaaW.PrintWords Go.Proofs.YthibphndihjcaaaW.PrintLast
set_option linter.unusedVariables false

theorem FnExactWiringOfSigns : laws_FnExactWiringOfSigns.Pure := by
  intro n s _ hs0
  apply Ev.rounds
  unfold laws_FnExactWiringOfSigns.f laws_szSigns.f laws_toSigns.f
  by_cases hz : wrap64 (1048576 - (s.size : Int)) < 0
  · simp only [if_pos hz, Option.bind_some, show ((-1 : Int) < 0) by decide, if_true]
    exact Ev.now _
  · simp only [if_neg hz, Option.bind_some]
    have hs : s.size ≤ 1099511627776 := by rw [c_wid _ (by omega) (by omega)] at hz; omega
    have hS := cS_Wos n s hs
    have hI := cI_Wos n s hs
    have hlen := cWos_len n s
    generalize cWos n s = q at hS hI hlen
    obtain ⟨r, b⟩ := q
    have hlen2 : r.length < 100 := hlen
    have hE := c_eqIntS_self r (by omega)
    have hM := c_markIntS r 1 (by omega) (by omega) (by omega)
    have hH := c_heldIntS 1 r.length (by omega) (by omega) (by omega)
    have hn2 : ¬ (1 + (r.length : Int) < 0) := by omega
    refine Ev.bind hS ?_
    refine Ev.bind hI ?_
    refine Ev.bind hE ?_
    simp only [if_true, bne_self_eq_false]
    refine Ev.step (f := fun k => (laws_markIntS.f k r 1).bind fun bt => (laws_heldIntS.f k bt.2 1).bind fun t => if t < 0 then some false else (if t = bt.1 then ((laws_toSigns.f n s).bind fun bt503 => (impl_WiringOfSigns.f k bt503.1 bt503.2).bind fun bt505 => (laws_eqIntS.f k bt505.1 r).bind fun t509 => (if t509 = true then (laws_FnExactWiringOfSigns.j1 k bt.2 bt.1 (bt505.2 != b)) else (laws_FnExactWiringOfSigns.j1 k bt.2 bt.1 true))) else some false)) (fun k => ?_) ?_
    · rw [laws_FnExactWiringOfSigns.j0, if_neg (by decide)]
    refine Ev.bind hM ?_
    refine Ev.bind hH ?_
    simp only [if_neg hn2, if_true]
    unfold laws_toSigns.f
    simp only [Option.bind_some]
    refine Ev.bind hI ?_
    refine Ev.bind hE ?_
    simp only [if_true, bne_self_eq_false]
    refine Ev.step (f := fun k => (laws_heldIntS.f k (c_marks 1 r.length) 1).bind fun t => if t < 0 then some false else (if t = 1 + (r.length : Int) then some true else some false)) (fun k => ?_) ?_
    · rw [laws_FnExactWiringOfSigns.j1, if_neg (by decide)]
    refine Ev.bind hH ?_
    simp only [if_neg hn2, if_true]
    exact Ev.now _
end Go.Proofs.Ythibphndihjcaaa.Pure
