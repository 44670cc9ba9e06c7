/- For every n, every list of at most 2^20 places and every number of a place the program's BraidAt returns what the reference's returns, in new memory, and leaves its list alone; longer lists are passed by the law itself. Conditions: none. -/
import Derived.Test.YtdjaiedfcmjblaaCBase
import Derived.Test.YtdjaiedfcmjblaaCWiring
import Derived.Test.YtdjaiedfcmjblaaP33
import Derived.Test.YtdjaiedfcmjblaaP34
import Derived.Test.YtdjaiedfcmjblaaOClone
import Derived.Test.YtdjaiedfcmjblaaP56
import Derived.Test.YtdjaiedfcmjblaaP10
namespace Go.Proofs.Ytdjaiedfcmjblaa.P
open Go.RowKit Go.Proofs.YtdjaiedfcmjblaaW.PrintWords Go.Proofs.YtdjaiedfcmjblaaW.PrintLast
set_option linter.unusedVariables false
set_option linter.unusedSimpArgs false

theorem c_specFar (p q : Int) (hp : 0 ≤ p ∧ p ≤ 1000) (hq : 0 ≤ q ∧ q ≤ 1000) : spec_l14Far.f p q = some (decide (p > q + 1 ∨ q > p + 1)) := by
  unfold spec_l14Far.f
  rw [c_wid (q + 1) (by omega) (by omega), c_wid (p + 1) (by omega) (by omega)]
  by_cases h : p > q + 1
  · rw [if_pos h, decide_eq_true (Or.inl h)]
  · rw [if_neg h]; congr 1; simp only [decide_eq_decide]; omega
theorem c_implFar (p q : Int) (hp : 0 ≤ p ∧ p ≤ 1000) (hq : 0 ≤ q ∧ q ≤ 1000) : impl_isFar.f (wrap64 (p - q)) 1 = some (decide (p > q + 1 ∨ q > p + 1)) := by
  unfold impl_isFar.f
  rw [c_wid (p - q) (by omega) (by omega), c_wid (-1) (by omega) (by omega)]
  by_cases h : p - q < -1
  · rw [if_pos h, decide_eq_true (by omega)]
  · rw [if_neg h]; congr 1; simp only [decide_eq_decide]; omega
theorem c_mem (w : List Int) (i : Nat) (h : i < w.length) : w.getD i 0 ∈ w := by
  rw [List.getD_eq_getElem?_getD, List.getElem?_eq_getElem h]; exact List.getElem_mem _

theorem cSwap_getD (ws : List Int) (p i : Nat) (hp : p + 1 < ws.length) : (cSwap ws p).getD i 0 = ws.getD (if i = p then p + 1 else if i = p + 1 then p else i) 0 := by
  unfold cSwap
  simp only [List.getD_eq_getElem?_getD]
  by_cases h1 : i = p + 1
  · subst h1
    rw [List.getElem?_set_self (by simpa using hp), if_neg (by omega), if_pos rfl]
    simp
  · rw [List.getElem?_set_ne (by omega)]
    by_cases h0 : i = p
    · subst h0; rw [List.getElem?_set_self (by omega), if_pos rfl]; simp
    · rw [List.getElem?_set_ne (by omega), if_neg h0, if_neg h1]
def cInj (ws : List Int) : Prop := ∀ i j, i < ws.length → j < ws.length → ws.getD i 0 = ws.getD j 0 → i = j
theorem cInj_swap (ws : List Int) (p : Nat) (hp : p + 1 < ws.length) (h : cInj ws) : cInj (cSwap ws p) := by
  intro i j hi hj he
  rw [cSwap_length] at hi hj
  rw [cSwap_getD _ _ _ hp, cSwap_getD _ _ _ hp] at he
  have := h _ _ (by split <;> (try split) <;> omega) (by split <;> (try split) <;> omega) he
  split at this <;> split at this <;> (try split at this) <;> (try split at this) <;> omega
theorem c_run_ne : ∀ (w ws : List Int), cInj ws → cRun ws w = true → ∀ i, i + 1 < w.length → w.getD i 0 ≠ w.getD (i + 1) 0 := by
  intro w
  induction w with
  | nil => intro ws _ _ i hi; simp at hi
  | cons q w ih =>
    intro ws hinj h i hi
    simp only [cRun] at h
    by_cases hq : cOk ws q
    · rw [if_pos hq] at h
      have hq' := hq
      unfold cOk at hq'
      cases i with
      | zero =>
        intro he
        cases w with
        | nil => simp at hi
        | cons p w =>
          simp only [cRun] at h
          have e : q = p := by simpa using he
          subst e
          by_cases hp : cOk (cSwap ws q.toNat) q
          · unfold cOk at hp
            rw [cSwap_length, cSwap_getD _ _ _ (by omega), cSwap_getD _ _ _ (by omega), if_pos rfl, if_neg (by omega), if_pos rfl] at hp
            have := hinj q.toNat (q.toNat + 1) (by omega) (by omega) (by omega)
            omega
          · rw [if_neg hp] at h; cases h
      | succ i =>
        have := ih _ (cInj_swap ws q.toNat (by omega) hinj) h i (by simpa using hi)
        simpa using this
    · rw [if_neg hq] at h; cases h
theorem cInj_start (n : Nat) : cInj (cStart n) := by
  intro i j hi hj he
  rw [cStart_length] at hi hj
  simp only [cStart, List.getD_eq_getElem?_getD, List.getElem?_map, List.getElem?_range hi, List.getElem?_range hj, Option.map_some, Option.getD_some] at he
  omega
theorem c_isW_ne {n : Int} {w : List Int} (h : cIsW n w = true) (i : Nat) (hi : i + 1 < w.length) : w.getD i 0 ≠ w.getD (i + 1) 0 :=
  c_run_ne w _ (cInj_start _) (c_isW_spec h).2.2.2 i hi
theorem c_w2 (i : Nat) (h : i < 4611686018427387904) : wrap64 ((i : Int) + 2) = ((i + 2 : Nat) : Int) := by
  unfold wrap64; omega
def cx_BraidAt (n : Int) (w : List Int) (i : Int) : List Int × Bool :=
  if cIsW n w = true ∧ 0 ≤ i ∧ i ≤ (w.length : Int) - 3 ∧ w.getD i.toNat 0 = w.getD (i.toNat + 2) 0 ∧ ¬ (w.getD i.toNat 0 > w.getD (i.toNat + 1) 0 + 1 ∨ w.getD (i.toNat + 1) 0 > w.getD i.toNat 0 + 1) then
    (((w.set i.toNat (w.getD (i.toNat + 1) 0)).set (i.toNat + 1) (w.getD i.toNat 0)).set (i.toNat + 2) (w.getD (i.toNat + 1) 0), true) else ([], false)
theorem cx_BraidAt_len (n : Int) (w : List Int) (i : Int) (hl : w.length ≤ 1048576) : (cx_BraidAt n w i).1.length ≤ 1099511627776 := by
  unfold cx_BraidAt; split
  · simp; omega
  · simp
theorem cS_BraidAt (n : Int) (w : List Int) (i : Int) (hl : w.length ≤ 1048576) : Ev (fun k => spec_BraidAt.f k n w i) (cx_BraidAt n w i) := by
  unfold spec_BraidAt.f spec_l1In.f
  refine Ev.bind (c_isWiring n w (by omega)) ?_
  by_cases h : cIsW n w = true
  · have hlen := c_isW_len h
    have hp := c_isW_places h
    have hs := c_isW_spec h
    simp only [if_pos h, c_wid ((w.length : Int) - 3) (by omega) (by omega)]
    by_cases h0 : i ≥ 0
    · by_cases h1 : i ≤ (w.length : Int) - 3
      · obtain ⟨q, rfl⟩ : ∃ q : Nat, i = (q : Int) := ⟨i.toNat, by omega⟩
        have g1 : (q : Int) < (w.length : Int) := by omega
        have g2 : (0 : Int) ≤ ((q + 1 : Nat) : Int) := by omega
        have g3 : ((q + 1 : Nat) : Int) < (w.length : Int) := by omega
        have g2' : (0 : Int) ≤ ((q + 2 : Nat) : Int) := by omega
        have g3' : ((q + 2 : Nat) : Int) < (w.length : Int) := by omega
        have g4 : 0 + w.length < 17592186044416 := by omega
        have e1 := hp _ (c_mem w q (by omega))
        have e2 := hp _ (c_mem w (q + 1) (by omega))
        simp only [if_pos h0, decide_eq_true h1, Option.bind_some, if_true, c_w1 q (by omega), c_w2 q (by omega), if_pos g1, if_pos g2, if_pos g3, if_pos g2', if_pos g3', c_rd, c_specFar _ _ (show 0 ≤ w.getD q 0 ∧ w.getD q 0 ≤ 1000 by omega) (show 0 ≤ w.getD (q + 1) 0 ∧ w.getD (q + 1) 0 ≤ 1000 by omega), List.length_nil, if_pos g4, List.nil_append]
        by_cases he : w.getD q 0 = w.getD (q + 2) 0
        · by_cases hf : w.getD q 0 > w.getD (q + 1) 0 + 1 ∨ w.getD (q + 1) 0 > w.getD q 0 + 1
          · rw [show cx_BraidAt n w q = _ from if_neg (fun hh => hh.2.2.2.2 (by simpa using hf))]
            simp only [if_pos he, decide_eq_true hf, if_true]; exact Ev.now _
          · rw [show cx_BraidAt n w q = _ from if_pos ⟨h, h0, h1, by simpa using he, by simpa using hf⟩]
            simp only [if_pos he, decide_eq_false hf, Bool.false_eq_true, if_false, Int.toNat_natCast]; exact Ev.now _
        · rw [show cx_BraidAt n w q = _ from if_neg (fun hh => he (by simpa using hh.2.2.2.1))]
          simp only [if_neg he]; exact Ev.now _
      · rw [show cx_BraidAt n w i = _ from if_neg (fun hh => h1 hh.2.2.1)]
        simp only [if_pos h0, decide_eq_false h1, Option.bind_some, Bool.false_eq_true, if_false]; exact Ev.now _
    · rw [show cx_BraidAt n w i = _ from if_neg (fun hh => h0 hh.2.1)]
      simp only [if_neg h0, Option.bind_some, Bool.false_eq_true, if_false]; exact Ev.now _
  · rw [show cx_BraidAt n w i = _ from if_neg (fun hh => h hh.1)]
    simp only [if_neg h]; exact Ev.now _
theorem cI_BraidAt (n : Int) (w : List Int) (i : Int) (hl : w.length ≤ 1048576) : Ev (fun k => impl_BraidAt.f k n w i) (cx_BraidAt n w i) := by
  unfold impl_BraidAt.f slices_Clone_int_int.f
  refine Ev.bind (c_isW n w (by omega)) ?_
  by_cases h : cIsW n w = true
  · have hlen := c_isW_len h
    have hp := c_isW_places h
    have hs := c_isW_spec h
    simp only [if_pos h, c_wid ((w.length : Int) - 3) (by omega) (by omega)]
    by_cases h0 : i < 0
    · rw [show cx_BraidAt n w i = _ from if_neg (fun hh => by omega)]
      simp only [if_pos h0]; exact Ev.now _
    · by_cases h1 : i > (w.length : Int) - 3
      · rw [show cx_BraidAt n w i = _ from if_neg (fun hh => by omega)]
        simp only [if_neg h0, if_pos h1]; exact Ev.now _
      · obtain ⟨q, rfl⟩ : ∃ q : Nat, i = (q : Int) := ⟨i.toNat, by omega⟩
        have g0 : (0 : Int) ≤ (q : Int) := by omega
        have g1 : (q : Int) < (w.length : Int) := by omega
        have g2 : (0 : Int) ≤ ((q + 1 : Nat) : Int) := by omega
        have g3 : ((q + 1 : Nat) : Int) < (w.length : Int) := by omega
        have g2' : (0 : Int) ≤ ((q + 2 : Nat) : Int) := by omega
        have g3' : ((q + 2 : Nat) : Int) < (w.length : Int) := by omega
        have g4 : w.length < 17592186044416 := by omega
        have e1 := hp _ (c_mem w q (by omega))
        have e2 := hp _ (c_mem w (q + 1) (by omega))
        have hne := c_isW_ne h q (by omega)
        simp only [if_neg h0, if_neg h1, Option.bind_some, c_w1 q (by omega), c_w2 q (by omega), if_pos g0, if_pos g1, if_pos g2, if_pos g3, if_pos g2', if_pos g3', c_rd, c_implFar _ _ (show 0 ≤ w.getD q 0 ∧ w.getD q 0 ≤ 1000 by omega) (show 0 ≤ w.getD (q + 1) 0 ∧ w.getD (q + 1) 0 ≤ 1000 by omega), if_neg hne, if_pos g4]
        by_cases he : w.getD q 0 = w.getD (q + 2) 0
        · by_cases hf : w.getD q 0 > w.getD (q + 1) 0 + 1 ∨ w.getD (q + 1) 0 > w.getD q 0 + 1
          · rw [show cx_BraidAt n w q = _ from if_neg (fun hh => hh.2.2.2.2 (by simpa using hf))]
            simp only [if_pos he, decide_eq_true hf, if_true]; exact Ev.now _
          · rw [show cx_BraidAt n w q = _ from if_pos ⟨h, g0, by omega, by simpa using he, by simpa using hf⟩]
            simp only [if_pos he, decide_eq_false hf, Bool.false_eq_true, if_false, Int.toNat_natCast]; exact Ev.now _
        · rw [show cx_BraidAt n w q = _ from if_neg (fun hh => he (by simpa using hh.2.2.2.1))]
          simp only [if_neg he]; exact Ev.now _
  · rw [show cx_BraidAt n w i = _ from if_neg (fun hh => h hh.1)]
    simp only [if_neg h]; exact Ev.now _

end Go.Proofs.Ytdjaiedfcmjblaa.P
namespace Go.Proofs.Ytdjaiedfcmjblaa.Pure
open Go.RowKit Go.Proofs.Ytdjaiedfcmjblaa.P Go.Proofs.YtdjaiedfcmjblaaW.PrintWords Go.Proofs.YtdjaiedfcmjblaaW.PrintLast
set_option linter.unusedVariables false
set_option linter.unusedSimpArgs false
set_option maxRecDepth 100000 in
theorem FnExactBraidAt : laws_FnExactBraidAt.Pure := by
  intro n w i wf_n hm_w hb_w hw_w wf_i
  apply Ev.rounds
  by_cases hl : (w.length : Int) > 1048576
  · refine Ev.congr (f := fun _ => some true) (fun k => ?_) (Ev.now _)
    simp only [laws_FnExactBraidAt.f]; rw [if_pos hl]
  have hl2 : w.length ≤ 1048576 := by omega
  have hT := c_toIntS w (by omega) (by omega)
  have hE1 := c_eqIntS_self w (by omega)
  have hS := cS_BraidAt n w i hl2
  have hI := cI_BraidAt n w i hl2
  have hlen : (cx_BraidAt n w i).1.length ≤ 1099511627776 := cx_BraidAt_len n w i hl2
  generalize cx_BraidAt n w i = rb at hS hI hlen
  obtain ⟨r, b⟩ := rb
  dsimp only at hlen
  have hE2 := c_eqIntS_self r hlen
  have hM2 := c_markIntS r 1 (by omega) (by omega) hlen
  have hH := c_heldIntS 1 r.length (by omega) (by omega) hlen
  have hn2 : ¬ (1 + (r.length : Int) < 0) := by omega
  have hM1 := c_markIntS w 1 (by omega) (by omega) (by omega)
  have hn1 : ¬ (1 + (w.length : Int) < 0) := by omega
  unfold laws_FnExactBraidAt.f
  refine Ev.congr (fun k => if_neg hl) ?_
  repeat' first
    | exact Ev.now _
    | (refine Ev.bind hT ?_; try dsimp only)
    | (refine Ev.bind hE1 ?_; try dsimp only)
    | (refine Ev.bind hM1 ?_; try dsimp only)
    | (refine Ev.bind hS ?_; try dsimp only)
    | (refine Ev.bind hI ?_; try dsimp only)
    | (refine Ev.bind hE2 ?_; try dsimp only)
    | (refine Ev.bind hM2 ?_; try dsimp only)
    | (refine Ev.bind hH ?_; try dsimp only)
    | (simp only [Bool.false_eq_true, if_true, if_false, bne_self_eq_false, Bool.not_true, Bool.not_false, ne_eq, not_true_eq_false, not_false_eq_true, reduceIte, hn1, hn2])
    | (refine Ev.step (fun k => by simp only [laws_FnExactBraidAt.j0]; rfl) ?_)
    | (refine Ev.step (fun k => by simp only [laws_FnExactBraidAt.j1]; rfl) ?_)
    | (refine Ev.step (fun k => by simp only [laws_FnExactBraidAt.j2]; rfl) ?_)
end Go.Proofs.Ytdjaiedfcmjblaa.Pure
