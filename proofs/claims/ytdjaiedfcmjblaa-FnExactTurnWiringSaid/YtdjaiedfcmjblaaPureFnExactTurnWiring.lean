/- For every n and every list of at most 2^20 places the program's TurnWiring returns what the reference's returns, in new memory, and leaves its list alone; longer lists are passed by the law itself. Conditions: none. -/
import Derived.Test.YtdjaiedfcmjblaaCBase
import Derived.Test.YtdjaiedfcmjblaaCWiring
import Derived.Test.YtdjaiedfcmjblaaP29
import Derived.Test.YtdjaiedfcmjblaaOClone
namespace Go.Proofs.Ytdjaiedfcmjblaa.P
open Go.RowKit Go.Proofs.YtdjaiedfcmjblaaW.PrintWords Go.Proofs.YtdjaiedfcmjblaaW.PrintLast
set_option linter.unusedVariables false
set_option linter.unusedSimpArgs false

def cx_TurnWiring (n : Int) (w : List Int) : List Int × Bool := if cIsW n w = true then (w.drop 1 ++ [wrap64 ((wrap64 (n - 2)) - (w.getD 0 0))], true) else ([], false)
theorem cx_TurnWiring_len (n : Int) (w : List Int) (hl : w.length ≤ 1048576) : (cx_TurnWiring n w).1.length ≤ 1099511627776 := by
  unfold cx_TurnWiring; split
  · simp; omega
  · simp
theorem cS_TurnWiring (n : Int) (w : List Int) (hl : w.length ≤ 1048576) : Ev (fun k => spec_TurnWiring.f k n w) (cx_TurnWiring n w) := by
  unfold spec_TurnWiring.f cx_TurnWiring
  refine Ev.bind (c_isWiring n w (by omega)) ?_
  by_cases h : cIsW n w = true
  · have hlen := c_isW_len h
    have e : rd w 0 = w.getD 0 0 := c_rd w 0
    rw [if_pos h, if_pos h]
    simp only [Option.bind_some]
    rw [if_pos (by omega), if_pos (by simp; omega), if_pos (by omega), if_pos (by simp; omega), e]
    exact Ev.now _
  · rw [if_neg h, if_neg h]; exact Ev.now _
theorem cI_TurnWiring (n : Int) (w : List Int) (hl : w.length ≤ 1048576) : Ev (fun k => impl_TurnWiring.f k n w) (cx_TurnWiring n w) := by
  unfold impl_TurnWiring.f cx_TurnWiring slices_Clone_int_int.f
  refine Ev.bind (c_isW n w (by omega)) ?_
  by_cases h : cIsW n w = true
  · have hlen := c_isW_len h
    have e : rd w 0 = w.getD 0 0 := c_rd w 0
    rw [if_pos h, if_pos h, if_pos (by omega), if_pos (by simp; omega)]
    simp only [Option.bind_some]
    rw [if_pos (by omega), if_pos (by simp; omega), e]
    exact Ev.now _
  · rw [if_neg h, if_neg h]; exact Ev.now _

end Go.Proofs.Ytdjaiedfcmjblaa.P
namespace Go.Proofs.Ytdjaiedfcmjblaa.Pure
open Go.RowKit Go.Proofs.Ytdjaiedfcmjblaa.P Go.Proofs.YtdjaiedfcmjblaaW.PrintWords Go.Proofs.YtdjaiedfcmjblaaW.PrintLast
set_option linter.unusedVariables false
set_option linter.unusedSimpArgs false
set_option maxRecDepth 100000 in
theorem FnExactTurnWiring : laws_FnExactTurnWiring.Pure := by
  intro n w wf_n hm_w hb_w hw_w
  apply Ev.rounds
  by_cases hl : (w.length : Int) > 1048576
  · refine Ev.congr (f := fun _ => some true) (fun k => ?_) (Ev.now _)
    simp only [laws_FnExactTurnWiring.f]; rw [if_pos hl]
  have hl2 : w.length ≤ 1048576 := by omega
  have hT := c_toIntS w (by omega) (by omega)
  have hE1 := c_eqIntS_self w (by omega)
  have hS := cS_TurnWiring n w hl2
  have hI := cI_TurnWiring n w hl2
  have hlen : (cx_TurnWiring n w).1.length ≤ 1099511627776 := cx_TurnWiring_len n w hl2
  generalize cx_TurnWiring n w = rb at hS hI hlen
  obtain ⟨r, b⟩ := rb
  dsimp only at hlen
  have hE2 := c_eqIntS_self r hlen
  have hM2 := c_markIntS r 1 (by omega) (by omega) hlen
  have hH := c_heldIntS 1 r.length (by omega) (by omega) hlen
  have hn2 : ¬ (1 + (r.length : Int) < 0) := by omega
  have hM1 := c_markIntS w 1 (by omega) (by omega) (by omega)
  have hn1 : ¬ (1 + (w.length : Int) < 0) := by omega
  unfold laws_FnExactTurnWiring.f
  refine Ev.congr (fun k => if_neg hl) ?_
  repeat' first
    | exact Ev.now _
    | (refine Ev.bind hT ?_; try dsimp only)
    | (refine Ev.bind hE1 ?_; try dsimp only)
    | (refine Ev.bind hM1 ?_; try dsimp only)
    | (refine Ev.bind hS ?_; try dsimp only)
    | (refine Ev.bind hI ?_; try dsimp only)
    | (refine Ev.bind hE2 ?_; try dsimp only)
    | (refine Ev.bind hM2 ?_; try dsimp only)
    | (refine Ev.bind hH ?_; try dsimp only)
    | (simp only [Bool.false_eq_true, if_true, if_false, bne_self_eq_false, Bool.not_true, Bool.not_false, ne_eq, not_true_eq_false, not_false_eq_true, reduceIte, hn1, hn2])
    | (refine Ev.step (fun k => by simp only [laws_FnExactTurnWiring.j0]; rfl) ?_)
    | (refine Ev.step (fun k => by simp only [laws_FnExactTurnWiring.j1]; rfl) ?_)
    | (refine Ev.step (fun k => by simp only [laws_FnExactTurnWiring.j2]; rfl) ?_)
end Go.Proofs.Ytdjaiedfcmjblaa.Pure
