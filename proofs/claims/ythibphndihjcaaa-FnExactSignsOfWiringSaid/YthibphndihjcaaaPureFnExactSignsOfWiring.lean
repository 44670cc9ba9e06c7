/- For every n and every list of at most 2^20 places the program's SignsOfWiring returns what the reference's returns and leaves its list alone; longer lists are passed by the law itself. Conditions: none. -/
import Derived.Test.YthibphndihjcaaaCBase
import Derived.Test.YthibphndihjcaaaCSow
import Derived.Test.YthibphndihjcaaaP4
namespace Go.Proofs.Ythibphndihjcaaa.Pure
open Go.RowKit Go.Proofs.Ythibphndihjcaaa.P Go.Proofs.YthibphndihjcaaaW.PrintWords Go.Proofs.YthibphndihjcaaaW.PrintLast
set_option linter.unusedVariables false
set_option linter.unusedSimpArgs false
set_option maxRecDepth 100000 in
theorem FnExactSignsOfWiring : laws_FnExactSignsOfWiring.Pure := by
  intro n w wf_n hm_w hb_w hw_w
  apply Ev.rounds
  by_cases hl : (w.length : Int) > 1048576
  · refine Ev.congr (f := fun _ => some true) (fun k => ?_) (Ev.now _)
    simp only [laws_FnExactSignsOfWiring.f]; rw [if_pos hl]
  have hl2 : w.length ≤ 1048576 := by omega
  have hT := c_toIntS w (by omega) (by omega)
  have hE1 := c_eqIntS_self w (by omega)
  have hS := cS_Sow n w hl2
  have hI := cI_Sow n w hl2
  generalize cSow n w = q at hS hI
  obtain ⟨r1, r2, r3⟩ := q
  unfold laws_FnExactSignsOfWiring.f
  refine Ev.congr (fun k => if_neg hl) ?_
  refine Ev.bind hT ?_
  refine Ev.bind hS ?_
  refine Ev.bind hT ?_
  refine Ev.bind hI ?_
  have hq : laws_eqSigns.f r1 r2 r1 r2 = some true := by unfold laws_eqSigns.f; simp
  simp only [hq, Option.bind_some, if_true, bne_self_eq_false]
  refine Ev.step (f := fun k => (laws_toIntS.f k w).bind fun t => (laws_eqIntS.f k w t).bind fun u => if u = true then some true else some false) (fun k => ?_) ?_
  · simp only [laws_FnExactSignsOfWiring.j0]; rfl
  refine Ev.bind hT ?_
  refine Ev.bind hE1 ?_
  simp only [if_true]
  exact Ev.now _
end Go.Proofs.Ythibphndihjcaaa.Pure
