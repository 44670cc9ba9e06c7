/- For every n, every list of at most 2^20 places and every number of a place the program's CommuteAt returns what the reference's returns, in new memory, and leaves its list alone; longer lists are passed by the law itself. Conditions: none. -/
import Derived.Test.YtdjaiedfcmjblaaCBase
import Derived.Test.YtdjaiedfcmjblaaCWiring
import Derived.Test.YtdjaiedfcmjblaaP31
import Derived.Test.YtdjaiedfcmjblaaOClone
import Derived.Test.YtdjaiedfcmjblaaP56
import Derived.Test.YtdjaiedfcmjblaaP9
namespace Go.Proofs.Ytdjaiedfcmjblaa.P
open Go.RowKit Go.Proofs.YtdjaiedfcmjblaaW.PrintWords Go.Proofs.YtdjaiedfcmjblaaW.PrintLast
set_option linter.unusedVariables false
set_option linter.unusedSimpArgs false

theorem c_specFar (p q : Int) (hp : 0 ≤ p ∧ p ≤ 1000) (hq : 0 ≤ q ∧ q ≤ 1000) : spec_l14Far.f p q = some (decide (p > q + 1 ∨ q > p + 1)) := by
  unfold spec_l14Far.f
  rw [c_wid (q + 1) (by omega) (by omega), c_wid (p + 1) (by omega) (by omega)]
  by_cases h : p > q + 1
  · rw [if_pos h, decide_eq_true (Or.inl h)]
  · rw [if_neg h]; congr 1; simp only [decide_eq_decide]; omega
theorem c_implFar (p q : Int) (hp : 0 ≤ p ∧ p ≤ 1000) (hq : 0 ≤ q ∧ q ≤ 1000) : impl_isFar.f (wrap64 (p - q)) 1 = some (decide (p > q + 1 ∨ q > p + 1)) := by
  unfold impl_isFar.f
  rw [c_wid (p - q) (by omega) (by omega), c_wid (-1) (by omega) (by omega)]
  by_cases h : p - q < -1
  · rw [if_pos h, decide_eq_true (by omega)]
  · rw [if_neg h]; congr 1; simp only [decide_eq_decide]; omega
theorem c_mem (w : List Int) (i : Nat) (h : i < w.length) : w.getD i 0 ∈ w := by
  rw [List.getD_eq_getElem?_getD, List.getElem?_eq_getElem h]; exact List.getElem_mem _

def cx_CommuteAt (n : Int) (w : List Int) (i : Int) : List Int × Bool :=
  if cIsW n w = true ∧ 0 ≤ i ∧ i ≤ (w.length : Int) - 2 ∧ (w.getD i.toNat 0 > w.getD (i.toNat + 1) 0 + 1 ∨ w.getD (i.toNat + 1) 0 > w.getD i.toNat 0 + 1) then
    ((w.set i.toNat (w.getD (i.toNat + 1) 0)).set (i.toNat + 1) (w.getD i.toNat 0), true) else ([], false)
theorem cx_CommuteAt_len (n : Int) (w : List Int) (i : Int) (hl : w.length ≤ 1048576) : (cx_CommuteAt n w i).1.length ≤ 1099511627776 := by
  unfold cx_CommuteAt; split
  · simp; omega
  · simp
theorem cS_CommuteAt (n : Int) (w : List Int) (i : Int) (hl : w.length ≤ 1048576) : Ev (fun k => spec_CommuteAt.f k n w i) (cx_CommuteAt n w i) := by
  unfold spec_CommuteAt.f spec_l1In.f
  refine Ev.bind (c_isWiring n w (by omega)) ?_
  by_cases h : cIsW n w = true
  · have hlen := c_isW_len h
    have hp := c_isW_places h
    have hs := c_isW_spec h
    simp only [if_pos h, c_wid ((w.length : Int) - 2) (by omega) (by omega)]
    by_cases h0 : i ≥ 0
    · by_cases h1 : i ≤ (w.length : Int) - 2
      · obtain ⟨q, rfl⟩ : ∃ q : Nat, i = (q : Int) := ⟨i.toNat, by omega⟩
        have g1 : (q : Int) < (w.length : Int) := by omega
        have g2 : (0 : Int) ≤ ((q + 1 : Nat) : Int) := by omega
        have g3 : ((q + 1 : Nat) : Int) < (w.length : Int) := by omega
        have g4 : 0 + w.length < 17592186044416 := by omega
        have e1 := hp _ (c_mem w q (by omega))
        have e2 := hp _ (c_mem w (q + 1) (by omega))
        simp only [if_pos h0, decide_eq_true h1, Option.bind_some, if_true, c_w1 q (by omega), if_pos g1, if_pos g2, if_pos g3, c_rd, c_specFar _ _ (show 0 ≤ w.getD q 0 ∧ w.getD q 0 ≤ 1000 by omega) (show 0 ≤ w.getD (q + 1) 0 ∧ w.getD (q + 1) 0 ≤ 1000 by omega), List.length_nil, if_pos g4, List.nil_append]
        by_cases hf : w.getD q 0 > w.getD (q + 1) 0 + 1 ∨ w.getD (q + 1) 0 > w.getD q 0 + 1
        · rw [show cx_CommuteAt n w q = _ from if_pos ⟨h, h0, h1, by simpa using hf⟩]
          simp only [decide_eq_true hf, if_true, Int.toNat_natCast]; exact Ev.now _
        · rw [show cx_CommuteAt n w q = _ from if_neg (fun hh => hf (by simpa using hh.2.2.2))]
          simp only [decide_eq_false hf, Bool.false_eq_true, if_false]; exact Ev.now _
      · rw [show cx_CommuteAt n w i = _ from if_neg (fun hh => h1 hh.2.2.1)]
        simp only [if_pos h0, decide_eq_false h1, Option.bind_some, Bool.false_eq_true, if_false]; exact Ev.now _
    · rw [show cx_CommuteAt n w i = _ from if_neg (fun hh => h0 hh.2.1)]
      simp only [if_neg h0, Option.bind_some, Bool.false_eq_true, if_false]; exact Ev.now _
  · rw [show cx_CommuteAt n w i = _ from if_neg (fun hh => h hh.1)]
    simp only [if_neg h]; exact Ev.now _
theorem cI_CommuteAt (n : Int) (w : List Int) (i : Int) (hl : w.length ≤ 1048576) : Ev (fun k => impl_CommuteAt.f k n w i) (cx_CommuteAt n w i) := by
  unfold impl_CommuteAt.f slices_Clone_int_int.f
  refine Ev.bind (c_isW n w (by omega)) ?_
  by_cases h : cIsW n w = true
  · have hlen := c_isW_len h
    have hp := c_isW_places h
    have hs := c_isW_spec h
    simp only [if_pos h, c_wid ((w.length : Int) - 2) (by omega) (by omega)]
    by_cases h0 : i < 0
    · rw [show cx_CommuteAt n w i = _ from if_neg (fun hh => by omega)]
      simp only [if_pos h0]; exact Ev.now _
    · by_cases h1 : i > (w.length : Int) - 2
      · rw [show cx_CommuteAt n w i = _ from if_neg (fun hh => by omega)]
        simp only [if_neg h0, if_pos h1]; exact Ev.now _
      · obtain ⟨q, rfl⟩ : ∃ q : Nat, i = (q : Int) := ⟨i.toNat, by omega⟩
        have g0 : (0 : Int) ≤ (q : Int) := by omega
        have g1 : (q : Int) < (w.length : Int) := by omega
        have g2 : (0 : Int) ≤ ((q + 1 : Nat) : Int) := by omega
        have g3 : ((q + 1 : Nat) : Int) < (w.length : Int) := by omega
        have g4 : w.length < 17592186044416 := by omega
        have e1 := hp _ (c_mem w q (by omega))
        have e2 := hp _ (c_mem w (q + 1) (by omega))
        simp only [if_neg h0, if_neg h1, Option.bind_some, c_w1 q (by omega), if_pos g0, if_pos g1, if_pos g2, if_pos g3, c_rd, c_implFar _ _ (show 0 ≤ w.getD q 0 ∧ w.getD q 0 ≤ 1000 by omega) (show 0 ≤ w.getD (q + 1) 0 ∧ w.getD (q + 1) 0 ≤ 1000 by omega), if_pos g4]
        by_cases hf : w.getD q 0 > w.getD (q + 1) 0 + 1 ∨ w.getD (q + 1) 0 > w.getD q 0 + 1
        · rw [show cx_CommuteAt n w q = _ from if_pos ⟨h, g0, by omega, by simpa using hf⟩]
          simp only [decide_eq_true hf, if_true, Int.toNat_natCast]; exact Ev.now _
        · rw [show cx_CommuteAt n w q = _ from if_neg (fun hh => hf (by simpa using hh.2.2.2))]
          simp only [decide_eq_false hf, Bool.false_eq_true, if_false]; exact Ev.now _
  · rw [show cx_CommuteAt n w i = _ from if_neg (fun hh => h hh.1)]
    simp only [if_neg h]; exact Ev.now _

end Go.Proofs.Ytdjaiedfcmjblaa.P
namespace Go.Proofs.Ytdjaiedfcmjblaa.Pure
open Go.RowKit Go.Proofs.Ytdjaiedfcmjblaa.P Go.Proofs.YtdjaiedfcmjblaaW.PrintWords Go.Proofs.YtdjaiedfcmjblaaW.PrintLast
set_option linter.unusedVariables false
set_option linter.unusedSimpArgs false
set_option maxRecDepth 100000 in
theorem FnExactCommuteAt : laws_FnExactCommuteAt.Pure := by
  intro n w i wf_n hm_w hb_w hw_w wf_i
  apply Ev.rounds
  by_cases hl : (w.length : Int) > 1048576
  · refine Ev.congr (f := fun _ => some true) (fun k => ?_) (Ev.now _)
    simp only [laws_FnExactCommuteAt.f]; rw [if_pos hl]
  have hl2 : w.length ≤ 1048576 := by omega
  have hT := c_toIntS w (by omega) (by omega)
  have hE1 := c_eqIntS_self w (by omega)
  have hS := cS_CommuteAt n w i hl2
  have hI := cI_CommuteAt n w i hl2
  have hlen : (cx_CommuteAt n w i).1.length ≤ 1099511627776 := cx_CommuteAt_len n w i hl2
  generalize cx_CommuteAt n w i = rb at hS hI hlen
  obtain ⟨r, b⟩ := rb
  dsimp only at hlen
  have hE2 := c_eqIntS_self r hlen
  have hM2 := c_markIntS r 1 (by omega) (by omega) hlen
  have hH := c_heldIntS 1 r.length (by omega) (by omega) hlen
  have hn2 : ¬ (1 + (r.length : Int) < 0) := by omega
  have hM1 := c_markIntS w 1 (by omega) (by omega) (by omega)
  have hn1 : ¬ (1 + (w.length : Int) < 0) := by omega
  unfold laws_FnExactCommuteAt.f
  refine Ev.congr (fun k => if_neg hl) ?_
  repeat' first
    | exact Ev.now _
    | (refine Ev.bind hT ?_; try dsimp only)
    | (refine Ev.bind hE1 ?_; try dsimp only)
    | (refine Ev.bind hM1 ?_; try dsimp only)
    | (refine Ev.bind hS ?_; try dsimp only)
    | (refine Ev.bind hI ?_; try dsimp only)
    | (refine Ev.bind hE2 ?_; try dsimp only)
    | (refine Ev.bind hM2 ?_; try dsimp only)
    | (refine Ev.bind hH ?_; try dsimp only)
    | (simp only [Bool.false_eq_true, if_true, if_false, bne_self_eq_false, Bool.not_true, Bool.not_false, ne_eq, not_true_eq_false, not_false_eq_true, reduceIte, hn1, hn2])
    | (refine Ev.step (fun k => by simp only [laws_FnExactCommuteAt.j0]; rfl) ?_)
    | (refine Ev.step (fun k => by simp only [laws_FnExactCommuteAt.j1]; rfl) ?_)
    | (refine Ev.step (fun k => by simp only [laws_FnExactCommuteAt.j2]; rfl) ?_)
end Go.Proofs.Ytdjaiedfcmjblaa.Pure
