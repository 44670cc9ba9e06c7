/- For every n and every list of at most 2^20 places the program's CountTriangles returns what the reference's returns and leaves its list alone; longer lists are passed by the law itself. Conditions: none. -/
import Derived.Test.YthibphndihjcaaaCBase
import Derived.Test.YthibphndihjcaaaCCellS
import Derived.Test.YthibphndihjcaaaP32
namespace Go.Proofs.Ythibphndihjcaaa.P
open Go.RowKit Go.Proofs.YthibphndihjcaaaW.PrintWords Go.Proofs.YthibphndihjcaaaW.PrintLast
set_option linter.unusedVariables false
set_option linter.unusedSimpArgs false

/-- How many threes. -/
def c3 : List Int → Int
  | [] => 0
  | x :: l => (if x = 3 then 1 else 0) + c3 l
theorem c3_bd : ∀ l : List Int, 0 ≤ c3 l ∧ c3 l ≤ l.length
  | [] => ⟨Int.le_refl _, Int.le_refl _⟩
  | x :: l => by have := c3_bd l; simp only [c3, List.length_cons]; split <;> omega
theorem cS_c3 (l : List Int) (hl : l.length ≤ 1048576) : ∀ (d i : Nat) (a : Int), i + d = l.length → 0 ≤ a → a ≤ i → Ev (fun k => spec_CountTriangles.l0 k a l (i : Int)) (a + c3 (l.drop i)) := by
  intro d
  induction d with
  | zero =>
    intro i a hi h0 h1
    rw [List.drop_eq_nil_of_le (by omega)]
    refine Ev.step (f := fun _ => some a) (fun k => ?_) (by simpa [c3] using Ev.now a)
    simp only [spec_CountTriangles.l0]; rw [if_neg (by omega)]
  | succ d ih =>
    intro i a hi h0 h1
    rw [c_drop l i (by omega)]
    simp only [c3]
    by_cases h3 : l.getD i 0 = 3
    · rw [if_pos h3, ← Int.add_assoc]
      refine Ev.step (f := fun k => spec_CountTriangles.l0 k (a + 1) l ((i + 1 : Nat) : Int)) (fun k => ?_) (ih (i + 1) (a + 1) (by omega) (by omega) (by omega))
      simp only [spec_CountTriangles.l0]
      rw [if_pos (by omega), if_pos (by omega), c_rd, h3, c_l1Bit, Option.bind_some, if_pos (by decide), c_wid (a + 1) (by omega) (by omega), c_w1 i (by omega)]
    · rw [if_neg h3, Int.zero_add]
      refine Ev.step (f := fun k => spec_CountTriangles.l0 k a l ((i + 1 : Nat) : Int)) (fun k => ?_) (ih (i + 1) a (by omega) h0 (by omega))
      simp only [spec_CountTriangles.l0]
      rw [if_pos (by omega), if_pos (by omega), c_rd, c_l1Bit, Option.bind_some, if_neg (by simpa using h3), Int.add_zero, c_wid a (by omega) (by omega), c_w1 i (by omega)]
theorem cI_c3 (l : List Int) (hl : l.length ≤ 1048576) : ∀ (d i : Nat) (a : Int), i + d = l.length → 0 ≤ a → a ≤ i → Ev (fun k => impl_CountTriangles.l0 k a l (l.length : Int) (i : Int)) (a + c3 (l.drop i)) := by
  intro d
  induction d with
  | zero =>
    intro i a hi h0 h1
    rw [List.drop_eq_nil_of_le (by omega)]
    refine Ev.step (f := fun _ => some a) (fun k => ?_) (by simpa [c3] using Ev.now a)
    simp only [impl_CountTriangles.l0]; rw [if_neg (by omega)]
  | succ d ih =>
    intro i a hi h0 h1
    rw [c_drop l i (by omega)]
    simp only [c3]
    by_cases h3 : l.getD i 0 = 3
    · rw [if_pos h3, ← Int.add_assoc]
      refine Ev.step (f := fun k => impl_CountTriangles.l0 k (a + 1) l (l.length : Int) ((i + 1 : Nat) : Int)) (fun k => ?_) (ih (i + 1) (a + 1) (by omega) (by omega) (by omega))
      simp only [impl_CountTriangles.l0]
      rw [if_pos (by omega), if_pos (by omega), if_pos (by omega), c_rd, if_pos h3, c_wid (a + 1) (by omega) (by omega), c_w1 i (by omega)]
    · rw [if_neg h3, Int.zero_add]
      refine Ev.step (f := fun k => impl_CountTriangles.l0 k a l (l.length : Int) ((i + 1 : Nat) : Int)) (fun k => ?_) (ih (i + 1) a (by omega) h0 (by omega))
      simp only [impl_CountTriangles.l0]
      rw [if_pos (by omega), if_pos (by omega), if_pos (by omega), c_rd, if_neg h3, c_w1 i (by omega)]
def cx_CountTriangles (n : Int) (w : List Int) : Int := if cIsW n w = true then c3 (cCS n w) else -1
theorem cS_CountTriangles (n : Int) (w : List Int) (hl : w.length ≤ 1048576) : Ev (fun k => spec_CountTriangles.f k n w) (cx_CountTriangles n w) := by
  unfold spec_CountTriangles.f cx_CountTriangles
  refine Ev.bind (c_isWiring n w (by omega)) ?_
  by_cases h : cIsW n w = true
  · simp only [h, if_true]
    refine Ev.bind (cS_CS n w hl) ?_
    have := cS_c3 (cCS n w) (cCS_len n w hl) (cCS n w).length 0 0 (by omega) (by omega) (by omega)
    simpa using this
  · simp only [if_neg h]; exact Ev.now _
theorem cI_CountTriangles (n : Int) (w : List Int) (hl : w.length ≤ 1048576) : Ev (fun k => impl_CountTriangles.f k n w) (cx_CountTriangles n w) := by
  unfold impl_CountTriangles.f cx_CountTriangles
  refine Ev.bind (c_isW n w (by omega)) ?_
  by_cases h : cIsW n w = true
  · simp only [h, if_true]
    refine Ev.bind (cI_CS n w hl) ?_
    have := cI_c3 (cCS n w) (cCS_len n w hl) (cCS n w).length 0 0 (by omega) (by omega) (by omega)
    simpa using this
  · simp only [if_neg h]; exact Ev.now _

end Go.Proofs.Ythibphndihjcaaa.P
namespace Go.Proofs.Ythibphndihjcaaa.Pure
open Go.RowKit Go.Proofs.Ythibphndihjcaaa.P Go.Proofs.YthibphndihjcaaaW.PrintWords Go.Proofs.YthibphndihjcaaaW.PrintLast
set_option linter.unusedVariables false
set_option linter.unusedSimpArgs false
set_option maxRecDepth 100000 in
theorem FnExactCountTriangles : laws_FnExactCountTriangles.Pure := by
  intro n w wf_n hm_w hb_w hw_w
  apply Ev.rounds
  by_cases hl : (w.length : Int) > 1048576
  · refine Ev.congr (f := fun _ => some true) (fun k => ?_) (Ev.now _)
    simp only [laws_FnExactCountTriangles.f]; rw [if_pos hl]
  have hl2 : w.length ≤ 1048576 := by omega
  have hT := c_toIntS w (by omega) (by omega)
  have hE1 := c_eqIntS_self w (by omega)
  have hS := cS_CountTriangles n w hl2
  have hI := cI_CountTriangles n w hl2
  generalize cx_CountTriangles n w = r at hS hI
  unfold laws_FnExactCountTriangles.f
  refine Ev.congr (fun k => if_neg hl) ?_
  repeat' first
    | exact Ev.now _
    | (refine Ev.bind hT ?_; try dsimp only)
    | (refine Ev.bind hE1 ?_; try dsimp only)
    | (refine Ev.bind hS ?_; try dsimp only)
    | (refine Ev.bind hI ?_; try dsimp only)
    | (simp only [Bool.false_eq_true, if_true, if_false, bne_self_eq_false, Bool.not_true, Bool.not_false, ne_eq, not_true_eq_false, not_false_eq_true, reduceIte])
end Go.Proofs.Ythibphndihjcaaa.Pure
