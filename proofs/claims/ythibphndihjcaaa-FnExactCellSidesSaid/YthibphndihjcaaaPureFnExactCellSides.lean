/- For every n and every list of at most 2^20 places the program's CellSides returns what the reference's returns and leaves its list alone; longer lists are passed by the law itself. Conditions: none. -/
import Derived.Test.YthibphndihjcaaaCBase
import Derived.Test.YthibphndihjcaaaCCellS
import Derived.Test.YthibphndihjcaaaP7
namespace Go.Proofs.Ythibphndihjcaaa.P
open Go.RowKit Go.Proofs.YthibphndihjcaaaW.PrintWords Go.Proofs.YthibphndihjcaaaW.PrintLast
set_option linter.unusedVariables false
set_option linter.unusedSimpArgs false

def cx_CellSides (n : Int) (w : List Int) : List Int := cCS n w
theorem cx_CellSides_len (n : Int) (w : List Int) (hl : w.length ≤ 1048576) : (cx_CellSides n w).length ≤ 1099511627776 := by have := cCS_len n w hl; unfold cx_CellSides; omega
theorem cS_CellSides (n : Int) (w : List Int) (hl : w.length ≤ 1048576) : Ev (fun k => spec_CellSides.f k n w) (cx_CellSides n w) := cS_CS n w hl
theorem cI_CellSides (n : Int) (w : List Int) (hl : w.length ≤ 1048576) : Ev (fun k => impl_CellSides.f k n w) (cx_CellSides n w) := cI_CS n w hl

end Go.Proofs.Ythibphndihjcaaa.P
namespace Go.Proofs.Ythibphndihjcaaa.Pure
open Go.RowKit Go.Proofs.Ythibphndihjcaaa.P Go.Proofs.YthibphndihjcaaaW.PrintWords Go.Proofs.YthibphndihjcaaaW.PrintLast
set_option linter.unusedVariables false
set_option linter.unusedSimpArgs false
set_option maxRecDepth 100000 in
theorem FnExactCellSides : laws_FnExactCellSides.Pure := by
  intro n w wf_n hm_w hb_w hw_w
  apply Ev.rounds
  by_cases hl : (w.length : Int) > 1048576
  · refine Ev.congr (f := fun _ => some true) (fun k => ?_) (Ev.now _)
    simp only [laws_FnExactCellSides.f]; rw [if_pos hl]
  have hl2 : w.length ≤ 1048576 := by omega
  have hT := c_toIntS w (by omega) (by omega)
  have hE1 := c_eqIntS_self w (by omega)
  have hS := cS_CellSides n w hl2
  have hI := cI_CellSides n w hl2
  have hlen : (cx_CellSides n w).length ≤ 1099511627776 := cx_CellSides_len n w hl2
  generalize cx_CellSides n w = r at hS hI hlen
  have hE2 := c_eqIntS_self r hlen
  have hM2 := c_markIntS r 1 (by omega) (by omega) hlen
  have hH := c_heldIntS 1 r.length (by omega) (by omega) hlen
  have hn2 : ¬ (1 + (r.length : Int) < 0) := by omega
  have hM1 := c_markIntS w 1 (by omega) (by omega) (by omega)
  have hn1 : ¬ (1 + (w.length : Int) < 0) := by omega
  unfold laws_FnExactCellSides.f
  refine Ev.congr (fun k => if_neg hl) ?_
  repeat' first
    | exact Ev.now _
    | (refine Ev.bind hT ?_; try dsimp only)
    | (refine Ev.bind hE1 ?_; try dsimp only)
    | (refine Ev.bind hM1 ?_; try dsimp only)
    | (refine Ev.bind hS ?_; try dsimp only)
    | (refine Ev.bind hI ?_; try dsimp only)
    | (refine Ev.bind hE2 ?_; try dsimp only)
    | (refine Ev.bind hM2 ?_; try dsimp only)
    | (refine Ev.bind hH ?_; try dsimp only)
    | (simp only [Bool.false_eq_true, if_true, if_false, bne_self_eq_false, Bool.not_true, Bool.not_false, ne_eq, not_true_eq_false, not_false_eq_true, reduceIte, hn1, hn2])
    | (refine Ev.step (fun k => by simp only [laws_FnExactCellSides.j0]; rfl) ?_)
end Go.Proofs.Ythibphndihjcaaa.Pure
