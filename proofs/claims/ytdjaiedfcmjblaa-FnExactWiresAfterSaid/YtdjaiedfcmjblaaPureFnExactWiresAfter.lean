/- For every n, every list of at most 2^20 places and every number of exchanges the program's WiresAfter returns what the reference's returns, in new memory, and leaves its list alone; longer lists are passed by the law itself. Conditions: none. -/
import Derived.Test.YtdjaiedfcmjblaaCBase
import Derived.Test.YtdjaiedfcmjblaaCWiring
import Derived.Test.YtdjaiedfcmjblaaP27
import Derived.Test.YtdjaiedfcmjblaaP28
namespace Go.Proofs.Ytdjaiedfcmjblaa.P
open Go.RowKit Go.Proofs.YtdjaiedfcmjblaaW.PrintWords Go.Proofs.YtdjaiedfcmjblaaW.PrintLast
set_option linter.unusedVariables false
set_option linter.unusedSimpArgs false

def cx_WiresAfter (n : Int) (w : List Int) (i : Int) : List Int := if cIsW n w = true ∧ 0 ≤ i ∧ i ≤ (w.length : Int) then cAfter (cStart n.toNat) (w.take i.toNat) else []
theorem cx_WiresAfter_len (n : Int) (w : List Int) (i : Int) (hl : w.length ≤ 1048576) : (cx_WiresAfter n w i).length ≤ 1099511627776 := by
  unfold cx_WiresAfter; split
  · rename_i h; have := c_isW_spec h.1; rw [cAfter_length, cStart_length]; omega
  · simp
theorem c_take_drop (w : List Int) (m i : Nat) (hm : m ≤ w.length) (h : i < m) : (w.take m).drop i = w.getD i 0 :: (w.take m).drop (i + 1) := by
  have := c_drop (w.take m) i (by simp; omega)
  rw [this]; congr 1
  simp only [List.getD_eq_getElem?_getD, List.getElem?_take_of_lt h]
theorem c_run_after : ∀ (w ws : List Int), cRun ws w = true → ∀ i, i < w.length → cOk (cAfter ws (w.take i)) (w.getD i 0) := by
  intro w
  induction w with
  | nil => intro ws h i hi; simp at hi
  | cons q w ih =>
    intro ws h i hi
    simp only [cRun] at h
    by_cases hq : cOk ws q
    · rw [if_pos hq] at h
      cases i with
      | zero => simpa [cAfter] using hq
      | succ i =>
        have := ih _ h i (by simpa using hi)
        simpa [cAfter] using this
    · rw [if_neg hq] at h; cases h
theorem c_after_snoc : ∀ (w ws : List Int) (p : Int), cAfter ws (w ++ [p]) = cSwap (cAfter ws w) p.toNat := by
  intro w
  induction w with
  | nil => intro ws p; rfl
  | cons q w ih => intro ws p; simp only [List.cons_append, cAfter]; exact ih _ _
theorem c_take_succ (w : List Int) (i : Nat) (h : i < w.length) : w.take (i + 1) = w.take i ++ [w.getD i 0] := by
  rw [List.take_succ_eq_append_getElem h, List.getD_eq_getElem?_getD, List.getElem?_eq_getElem h]; rfl
theorem cS_wires_l (n : Int) (w : List Int) (hl : w.length ≤ 1048576) (hr : cRun (cStart n.toNat) w = true) (h3 : 3 ≤ n) (h6 : n ≤ 6) (m : Nat) (hm : m ≤ w.length) : ∀ (d i : Nat), i + d = m →
    Ev (fun k => spec_WiresAfter.l0 k w (m : Int) (cAfter (cStart n.toNat) (w.take i)) (i : Int)) (cAfter (cStart n.toNat) (w.take m)) := by
  intro d
  induction d with
  | zero =>
    intro i hi
    refine Ev.step (f := fun _ => some (cAfter (cStart n.toNat) (w.take i))) (fun k => ?_) ?_
    · simp only [spec_WiresAfter.l0]; rw [if_neg (by omega)]
    · rw [show i = m by omega]; exact Ev.now _
  | succ d ih =>
    intro i hi
    have hlen : (cAfter (cStart n.toNat) (w.take i)).length = n.toNat := by rw [cAfter_length, cStart_length]
    refine Ev.step (f := fun k => spec_WiresAfter.l0 k w (m : Int) (cAfter (cStart n.toNat) (w.take (i + 1))) ((i + 1 : Nat) : Int)) (fun k => ?_) (ih (i + 1) (by omega))
    simp only [spec_WiresAfter.l0]
    rw [if_pos (by omega), if_pos (by omega), if_pos (by omega), c_rd, c_swap _ _ (by omega) (by omega), if_pos (c_run_after w _ hr i (by omega)), c_w1 i (by omega), c_take_succ w i (by omega), c_after_snoc]; rfl
theorem cI_wires_l (n : Int) (w : List Int) (hl : w.length ≤ 1048576) (hr : cRun (cStart n.toNat) w = true) (h3 : 3 ≤ n) (h6 : n ≤ 6) (m : Nat) (hm : m ≤ w.length) : ∀ (d i : Nat), i + d = m →
    Ev (fun k => impl_WiresAfter.l0 k (cAfter (cStart n.toNat) (w.take i)) (w.take m) ((w.take m).length : Int) (i : Int)) (cAfter (cStart n.toNat) (w.take m)) := by
  intro d
  have hml : (w.take m).length = m := by simp; omega
  induction d with
  | zero =>
    intro i hi
    refine Ev.step (f := fun _ => some (cAfter (cStart n.toNat) (w.take i))) (fun k => ?_) ?_
    · simp only [impl_WiresAfter.l0]; rw [if_neg (by omega)]
    · rw [show i = m by omega]; exact Ev.now _
  | succ d ih =>
    intro i hi
    have hlen : (cAfter (cStart n.toNat) (w.take i)).length = n.toNat := by rw [cAfter_length, cStart_length]
    have hok := c_run_after w _ hr i (by omega)
    have eg : (w.take m).getD i 0 = w.getD i 0 := by simp only [List.getD_eq_getElem?_getD, List.getElem?_take_of_lt (show i < m by omega)]
    refine Ev.step (f := fun k => impl_WiresAfter.l0 k (cAfter (cStart n.toNat) (w.take (i + 1))) (w.take m) ((w.take m).length : Int) ((i + 1 : Nat) : Int)) (fun k => ?_) (ih (i + 1) (by omega))
    unfold cOk at hok
    obtain ⟨q, hq⟩ : ∃ q : Nat, w.getD i 0 = (q : Int) := ⟨(w.getD i 0).toNat, by omega⟩
    rw [hq] at hok eg
    simp only [Int.toNat_natCast] at hok
    simp only [impl_WiresAfter.l0]
    rw [if_pos (by omega), if_pos (by omega), if_pos (by omega), c_rd, eg, c_w1 q (by omega), if_pos (by omega), if_pos (by omega), if_pos (by omega), if_pos (by omega), c_w1 i (by omega), c_take_succ w i (by omega), c_after_snoc, hq, c_rd, c_rd]
    simp [cSwap]
theorem cS_WiresAfter (n : Int) (w : List Int) (i : Int) (hl : w.length ≤ 1048576) : Ev (fun k => spec_WiresAfter.f k n w i) (cx_WiresAfter n w i) := by
  unfold spec_WiresAfter.f spec_l1In.f
  refine Ev.bind (c_isWiring n w (by omega)) ?_
  by_cases h : cIsW n w = true
  · obtain ⟨h3, h6, hlen, hr⟩ := c_isW_spec h
    simp only [if_pos h]
    by_cases h0 : i ≥ 0
    · by_cases h1 : i ≤ (w.length : Int)
      · rw [show cx_WiresAfter n w i = _ from if_pos ⟨h, h0, h1⟩]
        simp only [if_pos h0, decide_eq_true h1, Option.bind_some]
        refine Ev.step (fun k => by simp only [spec_WiresAfter.j0]; rfl) ?_
        simp only [Bool.not_true, Bool.false_eq_true, if_false]
        refine Ev.bind (c_start n h3 h6) ?_
        have := cS_wires_l n w hl hr h3 h6 i.toNat (by omega) i.toNat 0 (by omega)
        rw [Int.toNat_of_nonneg h0] at this
        simpa [cAfter] using this
      · rw [show cx_WiresAfter n w i = _ from if_neg (fun hh => h1 hh.2.2)]
        simp only [if_pos h0, decide_eq_false h1, Option.bind_some]
        refine Ev.step (fun k => by simp only [spec_WiresAfter.j0]; rfl) ?_
        simp only [Bool.not_false, if_true]; exact Ev.now _
    · rw [show cx_WiresAfter n w i = _ from if_neg (fun hh => h0 hh.2.1)]
      simp only [if_neg h0, Option.bind_some]
      refine Ev.step (fun k => by simp only [spec_WiresAfter.j0]; rfl) ?_
      simp only [Bool.not_false, if_true]; exact Ev.now _
  · rw [show cx_WiresAfter n w i = _ from if_neg (fun hh => h hh.1)]
    simp only [if_neg h]
    refine Ev.step (fun k => by simp only [spec_WiresAfter.j0]; rfl) ?_
    simp only [if_true]; exact Ev.now _
theorem cI_WiresAfter (n : Int) (w : List Int) (i : Int) (hl : w.length ≤ 1048576) : Ev (fun k => impl_WiresAfter.f k n w i) (cx_WiresAfter n w i) := by
  unfold impl_WiresAfter.f
  refine Ev.bind (c_isW n w (by omega)) ?_
  by_cases h : cIsW n w = true
  · obtain ⟨h3, h6, hlen, hr⟩ := c_isW_spec h
    simp only [if_pos h]
    by_cases h0 : i < 0
    · rw [show cx_WiresAfter n w i = _ from if_neg (fun hh => by omega)]
      simp only [if_pos h0]
      refine Ev.step (fun k => by simp only [impl_WiresAfter.j0]; rfl) ?_
      simp only [if_true]; exact Ev.now _
    · by_cases h1 : i > (w.length : Int)
      · rw [show cx_WiresAfter n w i = _ from if_neg (fun hh => by omega)]
        simp only [if_neg h0, decide_eq_true h1]
        refine Ev.step (fun k => by simp only [impl_WiresAfter.j0]; rfl) ?_
        simp only [if_true]; exact Ev.now _
      · rw [show cx_WiresAfter n w i = _ from if_pos ⟨h, by omega, by omega⟩]
        simp only [if_neg h0, decide_eq_false h1]
        refine Ev.step (fun k => by simp only [impl_WiresAfter.j0]; rfl) ?_
        simp only [Bool.false_eq_true, if_false]
        refine Ev.bind (c_upTo n h3 h6) ?_
        have g1 : (0 : Int) ≤ i := by omega
        have g2 : i ≤ (w.length : Int) := by omega
        simp only [if_pos g1, if_pos g2]
        have := cI_wires_l n w hl hr h3 h6 i.toNat (by omega) i.toNat 0 (by omega)
        simpa [cAfter] using this
  · rw [show cx_WiresAfter n w i = _ from if_neg (fun hh => h hh.1)]
    simp only [if_neg h]
    refine Ev.step (fun k => by simp only [impl_WiresAfter.j0]; rfl) ?_
    simp only [if_true]; exact Ev.now _

end Go.Proofs.Ytdjaiedfcmjblaa.P
namespace Go.Proofs.Ytdjaiedfcmjblaa.Pure
open Go.RowKit Go.Proofs.Ytdjaiedfcmjblaa.P Go.Proofs.YtdjaiedfcmjblaaW.PrintWords Go.Proofs.YtdjaiedfcmjblaaW.PrintLast
set_option linter.unusedVariables false
set_option linter.unusedSimpArgs false
set_option maxRecDepth 100000 in
theorem FnExactWiresAfter : laws_FnExactWiresAfter.Pure := by
  intro n w i wf_n hm_w hb_w hw_w wf_i
  apply Ev.rounds
  by_cases hl : (w.length : Int) > 1048576
  · refine Ev.congr (f := fun _ => some true) (fun k => ?_) (Ev.now _)
    simp only [laws_FnExactWiresAfter.f]; rw [if_pos hl]
  have hl2 : w.length ≤ 1048576 := by omega
  have hT := c_toIntS w (by omega) (by omega)
  have hE1 := c_eqIntS_self w (by omega)
  have hS := cS_WiresAfter n w i hl2
  have hI := cI_WiresAfter n w i hl2
  have hlen : (cx_WiresAfter n w i).length ≤ 1099511627776 := cx_WiresAfter_len n w i hl2
  generalize cx_WiresAfter n w i = r at hS hI hlen
  have hE2 := c_eqIntS_self r hlen
  have hM2 := c_markIntS r 1 (by omega) (by omega) hlen
  have hH := c_heldIntS 1 r.length (by omega) (by omega) hlen
  have hn2 : ¬ (1 + (r.length : Int) < 0) := by omega
  have hM1 := c_markIntS w 1 (by omega) (by omega) (by omega)
  have hn1 : ¬ (1 + (w.length : Int) < 0) := by omega
  unfold laws_FnExactWiresAfter.f
  refine Ev.congr (fun k => if_neg hl) ?_
  repeat' first
    | exact Ev.now _
    | (refine Ev.bind hT ?_; try dsimp only)
    | (refine Ev.bind hE1 ?_; try dsimp only)
    | (refine Ev.bind hM1 ?_; try dsimp only)
    | (refine Ev.bind hS ?_; try dsimp only)
    | (refine Ev.bind hI ?_; try dsimp only)
    | (refine Ev.bind hE2 ?_; try dsimp only)
    | (refine Ev.bind hM2 ?_; try dsimp only)
    | (refine Ev.bind hH ?_; try dsimp only)
    | (simp only [Bool.false_eq_true, if_true, if_false, bne_self_eq_false, Bool.not_true, Bool.not_false, ne_eq, not_true_eq_false, not_false_eq_true, reduceIte, hn1, hn2])
    | (refine Ev.step (fun k => by simp only [laws_FnExactWiresAfter.j0]; rfl) ?_)
end Go.Proofs.Ytdjaiedfcmjblaa.Pure
