/- For every n and every list of at most 2^20 places the program's LevelSizes returns what the reference's returns, in new memory, and leaves its list alone; longer lists are passed by the law itself. Conditions: none. -/
import Derived.Test.YtdjaiedfcmjblaaCBase
import Derived.Test.YtdjaiedfcmjblaaCWiring
import Derived.Test.YtdjaiedfcmjblaaP25
import Derived.Test.YtdjaiedfcmjblaaP26
namespace Go.Proofs.Ytdjaiedfcmjblaa.P
open Go.RowKit Go.Proofs.YtdjaiedfcmjblaaW.PrintWords Go.Proofs.YtdjaiedfcmjblaaW.PrintLast
set_option linter.unusedVariables false
set_option linter.unusedSimpArgs false

/-- The levels' counts behind a list of places. -/
def cCount : List Int → List Int → List Int
  | xs, [] => xs
  | xs, p :: w => cCount (xs.set p.toNat (wrap64 (xs.getD p.toNat 0 + 1))) w
theorem cCount_length (w : List Int) : ∀ xs, (cCount xs w).length = xs.length := by
  induction w with
  | nil => intro xs; rfl
  | cons p w ih => intro xs; simp only [cCount]; rw [ih]; simp
def cx_LevelSizes (n : Int) (w : List Int) : List Int := if cIsW n w = true then cCount (List.replicate (n - 1).toNat 0) w else []
theorem cx_LevelSizes_len (n : Int) (w : List Int) (hl : w.length ≤ 1048576) : (cx_LevelSizes n w).length ≤ 1099511627776 := by
  unfold cx_LevelSizes; split
  · rename_i h; have := c_isW_spec h; rw [cCount_length]; simp; omega
  · simp
theorem cS_level_l (n : Int) (w : List Int) (hl : w.length ≤ 1048576) (hp : ∀ p ∈ w, 0 ≤ p ∧ p ≤ n - 2) : ∀ (d i : Nat) (xs : List Int), i + d = w.length → (xs.length : Int) = n - 1 →
    Ev (fun k => spec_LevelSizes.l0 k w xs (i : Int)) (cCount xs (w.drop i)) := by
  intro d
  induction d with
  | zero =>
    intro i xs hi hx
    rw [List.drop_eq_nil_of_le (by omega)]
    refine Ev.step (f := fun _ => some xs) (fun k => ?_) (Ev.now _)
    simp only [spec_LevelSizes.l0]; rw [if_neg (by omega)]
  | succ d ih =>
    intro i xs hi hx
    rw [c_drop w i (by omega)]
    have hm : w.getD i 0 ∈ w := by rw [List.getD_eq_getElem?_getD, List.getElem?_eq_getElem (by omega)]; exact List.getElem_mem _
    obtain ⟨h0, h1⟩ := hp _ hm
    obtain ⟨q, hq⟩ : ∃ q : Nat, w.getD i 0 = (q : Int) := ⟨(w.getD i 0).toNat, by omega⟩
    rw [hq] at h0 h1 ⊢
    refine Ev.step (f := fun k => spec_LevelSizes.l0 k w (xs.set q (wrap64 (xs.getD q 0 + 1))) ((i + 1 : Nat) : Int)) (fun k => ?_) ?_
    · simp only [spec_LevelSizes.l0]; rw [if_pos (by omega), if_pos (by omega), c_rd, hq, if_pos (by omega), if_pos (by omega), c_rd, c_w1 i (by omega)]; simp
    · have := ih (i + 1) (xs.set q (wrap64 (xs.getD q 0 + 1))) (by omega) (by simpa using hx)
      simpa [cCount] using this
theorem cI_level_l (n : Int) (w : List Int) (hl : w.length ≤ 1048576) (hp : ∀ p ∈ w, 0 ≤ p ∧ p ≤ n - 2) : ∀ (d i : Nat) (xs : List Int), i + d = w.length → (xs.length : Int) = n - 1 →
    Ev (fun k => impl_LevelSizes.l0 k xs w (w.length : Int) (i : Int)) (cCount xs (w.drop i)) := by
  intro d
  induction d with
  | zero =>
    intro i xs hi hx
    rw [List.drop_eq_nil_of_le (by omega)]
    refine Ev.step (f := fun _ => some xs) (fun k => ?_) (Ev.now _)
    simp only [impl_LevelSizes.l0]; rw [if_neg (by omega)]
  | succ d ih =>
    intro i xs hi hx
    rw [c_drop w i (by omega)]
    have hm : w.getD i 0 ∈ w := by rw [List.getD_eq_getElem?_getD, List.getElem?_eq_getElem (by omega)]; exact List.getElem_mem _
    obtain ⟨h0, h1⟩ := hp _ hm
    obtain ⟨q, hq⟩ : ∃ q : Nat, w.getD i 0 = (q : Int) := ⟨(w.getD i 0).toNat, by omega⟩
    rw [hq] at h0 h1 ⊢
    refine Ev.step (f := fun k => impl_LevelSizes.l0 k (xs.set q (wrap64 (xs.getD q 0 + 1))) w (w.length : Int) ((i + 1 : Nat) : Int)) (fun k => ?_) ?_
    · simp only [impl_LevelSizes.l0]; rw [if_pos (by omega), if_pos (by omega), if_pos (by omega), c_rd, hq, if_pos (by omega), if_pos (by omega), c_rd, c_w1 i (by omega)]; simp
    · have := ih (i + 1) (xs.set q (wrap64 (xs.getD q 0 + 1))) (by omega) (by simpa using hx)
      simpa [cCount] using this
theorem cS_LevelSizes (n : Int) (w : List Int) (hl : w.length ≤ 1048576) : Ev (fun k => spec_LevelSizes.f k n w) (cx_LevelSizes n w) := by
  unfold spec_LevelSizes.f cx_LevelSizes
  refine Ev.bind (c_isWiring n w (by omega)) ?_
  by_cases h : cIsW n w = true
  · have hs := c_isW_spec h
    have g1 : (0 : Int) ≤ n - 1 := by omega
    have g2 : (n - 1).toNat ≤ 35184372088832 := by omega
    simp only [if_pos h, c_wid (n - 1) (by omega) (by omega), if_pos g1, if_pos g2]
    have := cS_level_l n w hl (c_isW_places h) w.length 0 (List.replicate (n - 1).toNat 0) (by omega) (by simp; omega)
    simpa using this
  · simp only [if_neg h]; exact Ev.now _
theorem cI_LevelSizes (n : Int) (w : List Int) (hl : w.length ≤ 1048576) : Ev (fun k => impl_LevelSizes.f k n w) (cx_LevelSizes n w) := by
  unfold impl_LevelSizes.f cx_LevelSizes
  refine Ev.bind (c_isW n w (by omega)) ?_
  by_cases h : cIsW n w = true
  · have hs := c_isW_spec h
    have g1 : (0 : Int) ≤ n - 1 := by omega
    have g2 : (n - 1).toNat ≤ 35184372088832 := by omega
    simp only [if_pos h, c_wid (n - 1) (by omega) (by omega), if_pos g1, if_pos g2]
    have := cI_level_l n w hl (c_isW_places h) w.length 0 (List.replicate (n - 1).toNat 0) (by omega) (by simp; omega)
    simpa using this
  · simp only [if_neg h]; exact Ev.now _

end Go.Proofs.Ytdjaiedfcmjblaa.P
namespace Go.Proofs.Ytdjaiedfcmjblaa.Pure
open Go.RowKit Go.Proofs.Ytdjaiedfcmjblaa.P Go.Proofs.YtdjaiedfcmjblaaW.PrintWords Go.Proofs.YtdjaiedfcmjblaaW.PrintLast
set_option linter.unusedVariables false
set_option linter.unusedSimpArgs false
set_option maxRecDepth 100000 in
theorem FnExactLevelSizes : laws_FnExactLevelSizes.Pure := by
  intro n w wf_n hm_w hb_w hw_w
  apply Ev.rounds
  by_cases hl : (w.length : Int) > 1048576
  · refine Ev.congr (f := fun _ => some true) (fun k => ?_) (Ev.now _)
    simp only [laws_FnExactLevelSizes.f]; rw [if_pos hl]
  have hl2 : w.length ≤ 1048576 := by omega
  have hT := c_toIntS w (by omega) (by omega)
  have hE1 := c_eqIntS_self w (by omega)
  have hS := cS_LevelSizes n w hl2
  have hI := cI_LevelSizes n w hl2
  have hlen : (cx_LevelSizes n w).length ≤ 1099511627776 := cx_LevelSizes_len n w hl2
  generalize cx_LevelSizes n w = r at hS hI hlen
  have hE2 := c_eqIntS_self r hlen
  have hM2 := c_markIntS r 1 (by omega) (by omega) hlen
  have hH := c_heldIntS 1 r.length (by omega) (by omega) hlen
  have hn2 : ¬ (1 + (r.length : Int) < 0) := by omega
  have hM1 := c_markIntS w 1 (by omega) (by omega) (by omega)
  have hn1 : ¬ (1 + (w.length : Int) < 0) := by omega
  unfold laws_FnExactLevelSizes.f
  refine Ev.congr (fun k => if_neg hl) ?_
  repeat' first
    | exact Ev.now _
    | (refine Ev.bind hT ?_; try dsimp only)
    | (refine Ev.bind hE1 ?_; try dsimp only)
    | (refine Ev.bind hM1 ?_; try dsimp only)
    | (refine Ev.bind hS ?_; try dsimp only)
    | (refine Ev.bind hI ?_; try dsimp only)
    | (refine Ev.bind hE2 ?_; try dsimp only)
    | (refine Ev.bind hM2 ?_; try dsimp only)
    | (refine Ev.bind hH ?_; try dsimp only)
    | (simp only [Bool.false_eq_true, if_true, if_false, bne_self_eq_false, Bool.not_true, Bool.not_false, ne_eq, not_true_eq_false, not_false_eq_true, reduceIte, hn1, hn2])
    | (refine Ev.step (fun k => by simp only [laws_FnExactLevelSizes.j0]; rfl) ?_)
end Go.Proofs.Ytdjaiedfcmjblaa.Pure
