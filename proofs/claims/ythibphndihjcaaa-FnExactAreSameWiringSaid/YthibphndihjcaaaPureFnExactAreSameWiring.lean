/- For every n and every two lists of at most 2^20 places the program's AreSameWiring returns what the reference's returns and leaves its lists alone; longer lists are passed by the law itself. Conditions: none. -/
import Derived.Test.YthibphndihjcaaaCBase
import Derived.Test.YthibphndihjcaaaCSow
import Derived.Test.YthibphndihjcaaaP21
namespace Go.Proofs.Ythibphndihjcaaa.Pure
open Go.RowKit Go.Proofs.Ythibphndihjcaaa.P Go.Proofs.YthibphndihjcaaaW.PrintWords Go.Proofs.YthibphndihjcaaaW.PrintLast
set_option linter.unusedVariables false
set_option linter.unusedSimpArgs false
set_option maxRecDepth 100000 in
theorem FnExactAreSameWiring : laws_FnExactAreSameWiring.Pure := by
  intro n v w wf_n hm_v hb_v hw_v hm_w hb_w hw_w
  apply Ev.rounds
  by_cases hl : (v.length : Int) > 1048576
  · refine Ev.congr (f := fun _ => some true) (fun k => ?_) (Ev.now _)
    simp only [laws_FnExactAreSameWiring.f]; rw [if_pos hl]
  by_cases hm : (w.length : Int) > 1048576
  · refine Ev.congr (f := fun _ => some true) (fun k => ?_) (Ev.now _)
    simp only [laws_FnExactAreSameWiring.f]; rw [if_neg hl, if_pos hm]
  have hl2 : v.length ≤ 1048576 := by omega
  have hm2 : w.length ≤ 1048576 := by omega
  have hTv := c_toIntS v (by omega) (by omega)
  have hTw := c_toIntS w (by omega) (by omega)
  have hEv := c_eqIntS_self v (by omega)
  have hEw := c_eqIntS_self w (by omega)
  have hSv := cS_Sow n v hl2
  have hIv := cI_Sow n v hl2
  have hSw := cS_Sow n w hm2
  have hIw := cI_Sow n w hm2
  generalize cSow n v = q1 at hSv hIv
  generalize cSow n w = q2 at hSw hIw
  obtain ⟨a1, a2, a3⟩ := q1
  obtain ⟨b1, b2, b3⟩ := q2
  have hs : ∃ q : Bool, Ev (fun k => spec_AreSameWiring.f k n v w) q ∧ Ev (fun k => impl_AreSameWiring.f k n v w) q := by
    refine ⟨if a3 = true then (if b3 = true then (a1 == b1 && (a2.toList == b2.toList)) else false) else false, ?_, ?_⟩
    · unfold spec_AreSameWiring.f
      refine Ev.bind hSv (Ev.bind hSw ?_)
      cases a3 <;> cases b3 <;> exact Ev.now _
    · unfold impl_AreSameWiring.f
      refine Ev.bind hIv (Ev.bind hIw ?_)
      cases a3 <;> cases b3 <;> exact Ev.now _
  obtain ⟨q, hS, hI⟩ := hs
  unfold laws_FnExactAreSameWiring.f
  refine Ev.congr (fun k => (if_neg hl).trans (if_neg hm)) ?_
  refine Ev.bind hTv (Ev.bind hTw (Ev.bind hS (Ev.bind hTv (Ev.bind hTw (Ev.bind hI ?_)))))
  simp only [bne_self_eq_false, Bool.false_eq_true, if_false]
  refine Ev.bind hTv (Ev.bind hEv ?_)
  simp only [if_true]
  refine Ev.bind hTw (Ev.bind hEw ?_)
  simp only [if_true]
  exact Ev.now _
end Go.Proofs.Ythibphndihjcaaa.Pure
