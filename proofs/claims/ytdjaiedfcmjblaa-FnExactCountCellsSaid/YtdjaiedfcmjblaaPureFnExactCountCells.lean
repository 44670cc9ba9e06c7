/- For every n and every list of at most 2^20 places the program's CountCells returns what the reference's returns and leaves its list alone; longer lists are passed by the law itself. Conditions: none. -/
import Derived.Test.YtdjaiedfcmjblaaCBase
import Derived.Test.YtdjaiedfcmjblaaCWiring
import Derived.Test.YtdjaiedfcmjblaaP19
import Derived.Test.YtdjaiedfcmjblaaP20
namespace Go.Proofs.Ytdjaiedfcmjblaa.P
open Go.RowKit Go.Proofs.YtdjaiedfcmjblaaW.PrintWords Go.Proofs.YtdjaiedfcmjblaaW.PrintLast
set_option linter.unusedVariables false
set_option linter.unusedSimpArgs false

def cx_CountCells (n : Int) (w : List Int) : Int := if cIsW n w = true then wrap64 ((wrap64 (n + 1)) + (w.length : Int)) else -1
theorem cS_CountCells (n : Int) (w : List Int) (hl : w.length ≤ 1048576) : Ev (fun k => spec_CountCells.f k n w) (cx_CountCells n w) := by
  unfold spec_CountCells.f cx_CountCells
  refine Ev.bind (c_isWiring n w (by omega)) ?_
  split <;> exact Ev.now _
theorem cI_CountCells (n : Int) (w : List Int) (hl : w.length ≤ 1048576) : Ev (fun k => impl_CountCells.f k n w) (cx_CountCells n w) := by
  unfold impl_CountCells.f cx_CountCells
  refine Ev.bind (c_isW n w (by omega)) ?_
  split <;> exact Ev.now _

end Go.Proofs.Ytdjaiedfcmjblaa.P
namespace Go.Proofs.Ytdjaiedfcmjblaa.Pure
open Go.RowKit Go.Proofs.Ytdjaiedfcmjblaa.P Go.Proofs.YtdjaiedfcmjblaaW.PrintWords Go.Proofs.YtdjaiedfcmjblaaW.PrintLast
set_option linter.unusedVariables false
set_option linter.unusedSimpArgs false
set_option maxRecDepth 100000 in
theorem FnExactCountCells : laws_FnExactCountCells.Pure := by
  intro n w wf_n hm_w hb_w hw_w
  apply Ev.rounds
  by_cases hl : (w.length : Int) > 1048576
  · refine Ev.congr (f := fun _ => some true) (fun k => ?_) (Ev.now _)
    simp only [laws_FnExactCountCells.f]; rw [if_pos hl]
  have hl2 : w.length ≤ 1048576 := by omega
  have hT := c_toIntS w (by omega) (by omega)
  have hE1 := c_eqIntS_self w (by omega)
  have hS := cS_CountCells n w hl2
  have hI := cI_CountCells n w hl2
  generalize cx_CountCells n w = r at hS hI
  unfold laws_FnExactCountCells.f
  refine Ev.congr (fun k => if_neg hl) ?_
  repeat' first
    | exact Ev.now _
    | (refine Ev.bind hT ?_; try dsimp only)
    | (refine Ev.bind hE1 ?_; try dsimp only)
    | (refine Ev.bind hS ?_; try dsimp only)
    | (refine Ev.bind hI ?_; try dsimp only)
    | (simp only [Bool.false_eq_true, if_true, if_false, bne_self_eq_false, Bool.not_true, Bool.not_false, ne_eq, not_true_eq_false, not_false_eq_true, reduceIte])
end Go.Proofs.Ytdjaiedfcmjblaa.Pure
