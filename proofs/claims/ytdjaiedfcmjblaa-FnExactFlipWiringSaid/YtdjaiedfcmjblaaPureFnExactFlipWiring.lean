/- For every n and every list of at most 2^20 places the program's FlipWiring returns what the reference's returns, in new memory, and leaves its list alone; longer lists are passed by the law itself. Conditions: none. -/
import Derived.Test.YtdjaiedfcmjblaaCBase
import Derived.Test.YtdjaiedfcmjblaaCWiring
import Derived.Test.YtdjaiedfcmjblaaP21
import Derived.Test.YtdjaiedfcmjblaaP22
namespace Go.Proofs.Ytdjaiedfcmjblaa.P
open Go.RowKit Go.Proofs.YtdjaiedfcmjblaaW.PrintWords Go.Proofs.YtdjaiedfcmjblaaW.PrintLast
set_option linter.unusedVariables false
set_option linter.unusedSimpArgs false

/-- The list turned round, each place mirrored. -/
def cx_FlipList (n : Int) (w : List Int) : Nat → List Int
  | 0 => []
  | j + 1 => wrap64 ((wrap64 (n - 2)) - (w.getD j 0)) :: cx_FlipList n w j
theorem cx_FlipList_length (n : Int) (w : List Int) : ∀ j, (cx_FlipList n w j).length = j
  | 0 => rfl
  | j + 1 => by simp [cx_FlipList, cx_FlipList_length n w j]
def cx_FlipWiring (n : Int) (w : List Int) : List Int × Bool := if cIsW n w = true then (cx_FlipList n w w.length, true) else ([], false)
theorem cx_FlipWiring_len (n : Int) (w : List Int) (hl : w.length ≤ 1048576) : (cx_FlipWiring n w).1.length ≤ 1099511627776 := by
  unfold cx_FlipWiring; split
  · simp [cx_FlipList_length]; omega
  · simp
theorem cS_flip_l (n : Int) (w : List Int) (hl : w.length ≤ 1048576) : ∀ (j : Nat) (xs : List Int), j ≤ w.length → xs.length + j ≤ 1048576 →
    Ev (fun k => spec_FlipWiring.l0 k n w xs ((j : Int) - 1)) (xs ++ cx_FlipList n w j, true) := by
  intro j
  induction j with
  | zero =>
    intro xs hj hx
    refine Ev.step (f := fun _ => some (xs, true)) (fun k => ?_) ?_
    · simp only [spec_FlipWiring.l0]; rw [if_neg (by omega)]
    · simp only [cx_FlipList, List.append_nil]; exact Ev.now _
  | succ j ih =>
    intro xs hj hx
    refine Ev.step (f := fun k => spec_FlipWiring.l0 k n w (xs ++ [wrap64 ((wrap64 (n - 2)) - (w.getD j 0))]) ((j : Int) - 1)) (fun k => ?_) ?_
    · simp only [spec_FlipWiring.l0]
      rw [show (((j + 1 : Nat) : Int) - 1) = (j : Int) by omega, if_pos (by omega), if_pos (by omega), if_pos (by omega), if_pos (by omega), c_rd, c_wid ((j : Int) - 1) (by omega) (by omega)]
    · have := ih (xs ++ [wrap64 ((wrap64 (n - 2)) - (w.getD j 0))]) (by omega) (by simp; omega)
      simpa [cx_FlipList] using this
theorem cI_flip_l (n : Int) (w : List Int) (hl : w.length ≤ 1048576) : ∀ (j : Nat) (xs : List Int), j ≤ w.length → xs.length + j ≤ 1048576 →
    Ev (fun k => impl_FlipWiring.l0 k n w xs ((j : Int) - 1)) (xs ++ cx_FlipList n w j, true) := by
  intro j
  induction j with
  | zero =>
    intro xs hj hx
    refine Ev.step (f := fun _ => some (xs, true)) (fun k => ?_) ?_
    · simp only [impl_FlipWiring.l0]; rw [if_neg (by omega)]
    · simp only [cx_FlipList, List.append_nil]; exact Ev.now _
  | succ j ih =>
    intro xs hj hx
    refine Ev.step (f := fun k => impl_FlipWiring.l0 k n w (xs ++ [wrap64 ((wrap64 (n - 2)) - (w.getD j 0))]) ((j : Int) - 1)) (fun k => ?_) ?_
    · simp only [impl_FlipWiring.l0]
      rw [show (((j + 1 : Nat) : Int) - 1) = (j : Int) by omega, if_pos (by omega), if_pos (by omega), if_pos (by omega), if_pos (by omega), c_rd, c_wid ((j : Int) - 1) (by omega) (by omega)]
    · have := ih (xs ++ [wrap64 ((wrap64 (n - 2)) - (w.getD j 0))]) (by omega) (by simp; omega)
      simpa [cx_FlipList] using this
theorem cS_FlipWiring (n : Int) (w : List Int) (hl : w.length ≤ 1048576) : Ev (fun k => spec_FlipWiring.f k n w) (cx_FlipWiring n w) := by
  unfold spec_FlipWiring.f cx_FlipWiring
  refine Ev.bind (c_isWiring n w (by omega)) ?_
  split
  · have := cS_flip_l n w hl w.length [] (by omega) (by simp; omega)
    rw [c_wid ((w.length : Int) - 1) (by omega) (by omega)]; simpa using this
  · exact Ev.now _
theorem cI_FlipWiring (n : Int) (w : List Int) (hl : w.length ≤ 1048576) : Ev (fun k => impl_FlipWiring.f k n w) (cx_FlipWiring n w) := by
  unfold impl_FlipWiring.f cx_FlipWiring
  refine Ev.bind (c_isW n w (by omega)) ?_
  split
  · have := cI_flip_l n w hl w.length [] (by omega) (by simp; omega)
    rw [c_wid ((w.length : Int) - 1) (by omega) (by omega)]; simpa using this
  · exact Ev.now _

end Go.Proofs.Ytdjaiedfcmjblaa.P
namespace Go.Proofs.Ytdjaiedfcmjblaa.Pure
open Go.RowKit Go.Proofs.Ytdjaiedfcmjblaa.P Go.Proofs.YtdjaiedfcmjblaaW.PrintWords Go.Proofs.YtdjaiedfcmjblaaW.PrintLast
set_option linter.unusedVariables false
set_option linter.unusedSimpArgs false
set_option maxRecDepth 100000 in
theorem FnExactFlipWiring : laws_FnExactFlipWiring.Pure := by
  intro n w wf_n hm_w hb_w hw_w
  apply Ev.rounds
  by_cases hl : (w.length : Int) > 1048576
  · refine Ev.congr (f := fun _ => some true) (fun k => ?_) (Ev.now _)
    simp only [laws_FnExactFlipWiring.f]; rw [if_pos hl]
  have hl2 : w.length ≤ 1048576 := by omega
  have hT := c_toIntS w (by omega) (by omega)
  have hE1 := c_eqIntS_self w (by omega)
  have hS := cS_FlipWiring n w hl2
  have hI := cI_FlipWiring n w hl2
  have hlen : (cx_FlipWiring n w).1.length ≤ 1099511627776 := cx_FlipWiring_len n w hl2
  generalize cx_FlipWiring n w = rb at hS hI hlen
  obtain ⟨r, b⟩ := rb
  dsimp only at hlen
  have hE2 := c_eqIntS_self r hlen
  have hM2 := c_markIntS r 1 (by omega) (by omega) hlen
  have hH := c_heldIntS 1 r.length (by omega) (by omega) hlen
  have hn2 : ¬ (1 + (r.length : Int) < 0) := by omega
  have hM1 := c_markIntS w 1 (by omega) (by omega) (by omega)
  have hn1 : ¬ (1 + (w.length : Int) < 0) := by omega
  unfold laws_FnExactFlipWiring.f
  refine Ev.congr (fun k => if_neg hl) ?_
  repeat' first
    | exact Ev.now _
    | (refine Ev.bind hT ?_; try dsimp only)
    | (refine Ev.bind hE1 ?_; try dsimp only)
    | (refine Ev.bind hM1 ?_; try dsimp only)
    | (refine Ev.bind hS ?_; try dsimp only)
    | (refine Ev.bind hI ?_; try dsimp only)
    | (refine Ev.bind hE2 ?_; try dsimp only)
    | (refine Ev.bind hM2 ?_; try dsimp only)
    | (refine Ev.bind hH ?_; try dsimp only)
    | (simp only [Bool.false_eq_true, if_true, if_false, bne_self_eq_false, Bool.not_true, Bool.not_false, ne_eq, not_true_eq_false, not_false_eq_true, reduceIte, hn1, hn2])
    | (refine Ev.step (fun k => by simp only [laws_FnExactFlipWiring.j0]; rfl) ?_)
    | (refine Ev.step (fun k => by simp only [laws_FnExactFlipWiring.j1]; rfl) ?_)
    | (refine Ev.step (fun k => by simp only [laws_FnExactFlipWiring.j2]; rfl) ?_)
end Go.Proofs.Ytdjaiedfcmjblaa.Pure
