/- For every n, every list of at most 2^20 places and every i the program's WalkOf returns what the reference's returns, in new memory, and leaves its list alone; longer lists are passed by the law itself. Conditions: none. -/
import Derived.Test.YtdjaiedfcmjblaaCBase
import Derived.Test.YtdjaiedfcmjblaaCSwaps
import Derived.Test.YtdjaiedfcmjblaaP42
namespace Go.Proofs.Ytdjaiedfcmjblaa.P
open Go.RowKit Go.Proofs.YtdjaiedfcmjblaaW.PrintWords Go.Proofs.YtdjaiedfcmjblaaW.PrintLast
set_option linter.unusedVariables false
set_option linter.unusedSimpArgs false

/-- The wires that one wire meets, out of the exchanged pairs. -/
def cWalk (i : Int) : List (List Int) → List Int
  | [] => []
  | r :: rows => (if r.getD 0 0 = i then [r.getD 1 0] else if r.getD 1 0 = i then [r.getD 0 0] else []) ++ cWalk i rows
theorem cWalk_length (i : Int) : ∀ rows, (cWalk i rows).length ≤ rows.length
  | [] => by simp [cWalk]
  | r :: rows => by
    have := cWalk_length i rows
    simp only [cWalk, List.length_append, List.length_cons]
    split
    · simp; omega
    · split <;> simp <;> omega
theorem c_dropL (w : List (List Int)) (i : Nat) (h : i < w.length) : w.drop i = w.getD i [] :: w.drop (i + 1) := by
  rw [List.drop_eq_getElem_cons h, List.getD_eq_getElem?_getD, List.getElem?_eq_getElem h]; rfl
def cx_WalkOf (n : Int) (w : List Int) (i : Int) : List Int := if cIsW n w = true ∧ 0 ≤ i ∧ i < n then cWalk i (cSwaps (cStart n.toNat) w) else []
theorem cx_WalkOf_len (n : Int) (w : List Int) (i : Int) (hl : w.length ≤ 1048576) : (cx_WalkOf n w i).length ≤ 1099511627776 := by
  unfold cx_WalkOf; split
  · have := cWalk_length i (cSwaps (cStart n.toNat) w)
    rw [cSwaps_length] at this
    omega
  · simp
def cPair (n : Int) (r : List Int) : Prop := ∃ a b : Int, r = [a, b] ∧ 0 ≤ a ∧ a < b ∧ b < n
theorem cS_walk_l (n i : Int) (rows : List (List Int)) (hl : rows.length ≤ 1048576) (hp : ∀ r ∈ rows, cPair n r) : ∀ (d j : Nat) (acc : List Int), j + d = rows.length → acc.length ≤ j →
    Ev (fun k => spec_WalkOf.l0 k i acc rows (j : Int)) (acc ++ cWalk i (rows.drop j)) := by
  intro d
  induction d with
  | zero =>
    intro j acc hj ha
    rw [List.drop_eq_nil_of_le (by omega)]
    refine Ev.step (f := fun _ => some acc) (fun k => ?_) (by simpa [cWalk] using Ev.now _)
    simp only [spec_WalkOf.l0]; rw [if_neg (by omega)]
  | succ d ih =>
    intro j acc hj ha
    rw [c_dropL rows j (by omega)]
    have hm : rows.getD j [] ∈ rows := by rw [List.getD_eq_getElem?_getD, List.getElem?_eq_getElem (by omega)]; exact List.getElem_mem _
    obtain ⟨a, b, hr, h0, h1, h2⟩ := hp _ hm
    have hrd : rd_L1 rows (j : Int) = [a, b] := by rw [c_rdL, hr]
    have e0 : rd [a, b] 0 = a := rfl
    have e1 : rd [a, b] 1 = b := rfl
    rw [hr]
    have hg0 : ([a, b] : List Int).getD 0 0 = a := rfl
    have hg1 : ([a, b] : List Int).getD 1 0 = b := rfl
    simp only [cWalk, hg0, hg1]
    have hL0 : (0 : Int) < (([a, b] : List Int).length : Int) := by simp
    have hL1 : (1 : Int) < (([a, b] : List Int).length : Int) := by simp
    by_cases ca : a = i
    · have cb : ¬ b = i := by omega
      refine Ev.step (f := fun k => spec_WalkOf.l0 k i (acc ++ [b]) rows ((j + 1 : Nat) : Int)) (fun k => ?_) ?_
      · simp only [spec_WalkOf.l0, hrd]
        rw [if_pos (by omega), if_pos (by omega), if_pos hL0, e0, if_pos ca, if_pos hL1, if_pos (by omega), e1]
        simp only [Option.bind_some]
        rw [if_neg cb, c_w1 j (by omega)]
      · rw [if_pos ca]
        have := ih (j + 1) (acc ++ [b]) (by omega) (by simp; omega)
        simpa using this
    · by_cases cb : b = i
      · refine Ev.step (f := fun k => spec_WalkOf.l0 k i (acc ++ [a]) rows ((j + 1 : Nat) : Int)) (fun k => ?_) ?_
        · simp only [spec_WalkOf.l0, hrd]
          rw [if_pos (by omega), if_pos (by omega), if_pos hL0, e0, if_neg ca, if_pos hL1, e1, if_pos cb, if_pos (by omega), c_w1 j (by omega)]
        · rw [if_neg ca, if_pos cb]
          have := ih (j + 1) (acc ++ [a]) (by omega) (by simp; omega)
          simpa using this
      · refine Ev.step (f := fun k => spec_WalkOf.l0 k i acc rows ((j + 1 : Nat) : Int)) (fun k => ?_) ?_
        · simp only [spec_WalkOf.l0, hrd]
          rw [if_pos (by omega), if_pos (by omega), if_pos hL0, e0, if_neg ca, if_pos hL1, e1, if_neg cb, c_w1 j (by omega)]
        · rw [if_neg ca, if_neg cb]
          have := ih (j + 1) acc (by omega) (by omega)
          simpa using this
theorem c_contains2 (a b x : Int) : Ev (fun k => slices_Contains_int_int.f k [a, b] x) (decide (a = x ∨ b = x)) := by
  unfold slices_Contains_int_int.f slices_Index_int_int.f
  have e0 : rd [a, b] 0 = a := rfl
  have e1 : rd [a, b] 1 = b := rfl
  have w0 : wrap64 (0 + 1) = 1 := by decide +kernel
  have w1 : wrap64 (1 + 1) = 2 := by decide +kernel
  by_cases ca : a = x
  · have : Ev (fun k => slices_Index_int_int.l0 k [a, b] x (([a, b] : List Int).length : Int) 0) 0 := by
      refine Ev.step (f := fun _ => some 0) (fun k => ?_) (Ev.now _)
      simp only [slices_Index_int_int.l0, e0]
      simp [ca]
    refine Ev.bind this ?_
    simp only [ca, true_or, decide_true]; exact Ev.now _
  · by_cases cb : b = x
    · have : Ev (fun k => slices_Index_int_int.l0 k [a, b] x (([a, b] : List Int).length : Int) 0) 1 := by
        refine Ev.step (f := fun k => slices_Index_int_int.l0 k [a, b] x (([a, b] : List Int).length : Int) 1) (fun k => ?_) ?_
        · conv => lhs; rw [slices_Index_int_int.l0]
          simp only [e0, w0]
          simp [ca, show ¬ x = a from fun h => ca h.symm]
        refine Ev.step (f := fun _ => some 1) (fun k => ?_) (Ev.now _)
        simp only [slices_Index_int_int.l0, e1]
        simp [cb]
      refine Ev.bind this ?_
      simp only [cb, or_true, decide_true]; exact Ev.now _
    · have : Ev (fun k => slices_Index_int_int.l0 k [a, b] x (([a, b] : List Int).length : Int) 0) (-1) := by
        refine Ev.step (f := fun k => slices_Index_int_int.l0 k [a, b] x (([a, b] : List Int).length : Int) 1) (fun k => ?_) ?_
        · conv => lhs; rw [slices_Index_int_int.l0]
          simp only [e0, w0]
          simp [ca, show ¬ x = a from fun h => ca h.symm]
        refine Ev.step (f := fun k => slices_Index_int_int.l0 k [a, b] x (([a, b] : List Int).length : Int) 2) (fun k => ?_) ?_
        · conv => lhs; rw [slices_Index_int_int.l0]
          simp only [e1, w1]
          simp [cb, show ¬ x = b from fun h => cb h.symm]
        refine Ev.step (f := fun _ => some (-1)) (fun k => ?_) (Ev.now _)
        simp only [slices_Index_int_int.l0]
        simp
      refine Ev.bind this ?_
      have : decide ((-1 : Int) ≥ 0) = decide (a = x ∨ b = x) := by simp [ca, cb]
      rw [this]; exact Ev.now _
theorem cI_walk_l (n i : Int) (hn : n ≤ 6) (h0i : 0 ≤ i) (hin : i < n) (rows : List (List Int)) (hl : rows.length ≤ 1048576) (hp : ∀ r ∈ rows, cPair n r) : ∀ (d j : Nat) (acc : List Int), j + d = rows.length → acc.length ≤ j →
    Ev (fun k => impl_WalkOf.l0 k i acc rows (rows.length : Int) (j : Int)) (acc ++ cWalk i (rows.drop j)) := by
  intro d
  induction d with
  | zero =>
    intro j acc hj ha
    rw [List.drop_eq_nil_of_le (by omega)]
    refine Ev.step (f := fun _ => some acc) (fun k => ?_) (by simpa [cWalk] using Ev.now _)
    simp only [impl_WalkOf.l0]; rw [if_neg (by omega)]
  | succ d ih =>
    intro j acc hj ha
    rw [c_dropL rows j (by omega)]
    have hm : rows.getD j [] ∈ rows := by rw [List.getD_eq_getElem?_getD, List.getElem?_eq_getElem (by omega)]; exact List.getElem_mem _
    obtain ⟨a, b, hr, h0, h1, h2⟩ := hp _ hm
    have hrd : rd_L1 rows (j : Int) = [a, b] := by rw [c_rdL, hr]
    have e0 : rd [a, b] 0 = a := rfl
    have e1 : rd [a, b] 1 = b := rfl
    rw [hr]
    have hg0 : ([a, b] : List Int).getD 0 0 = a := rfl
    have hg1 : ([a, b] : List Int).getD 1 0 = b := rfl
    simp only [cWalk, hg0, hg1]
    have hL0 : (0 : Int) < (([a, b] : List Int).length : Int) := by simp
    have hL1 : (1 : Int) < (([a, b] : List Int).length : Int) := by simp
    refine Ev.step (f := fun k => (slices_Contains_int_int.f k [a, b] i).bind fun t => if t = true then impl_WalkOf.l0 k i (acc ++ [wrap64 (wrap64 (a + b) - i)]) rows (rows.length : Int) ((j + 1 : Nat) : Int) else impl_WalkOf.l0 k i acc rows (rows.length : Int) ((j + 1 : Nat) : Int)) (fun k => ?_) ?_
    · simp only [impl_WalkOf.l0, hrd]
      rw [if_pos (by omega), if_pos (by omega), if_pos (by omega), if_pos hL0, if_pos hL1, if_pos (by omega), e0, e1, c_w1 j (by omega)]
    · refine Ev.bind (c_contains2 a b i) ?_
      rw [c_wid (a + b) (by omega) (by omega), c_wid (a + b - i) (by omega) (by omega)]
      by_cases ca : a = i
      · simp only [ca, true_or, decide_true, if_true]
        have := ih (j + 1) (acc ++ [b]) (by omega) (by simp; omega)
        rw [show i + b - i = b by omega]
        simpa using this
      · by_cases cb : b = i
        · simp only [cb, or_true, decide_true, if_true, if_neg ca]
          have := ih (j + 1) (acc ++ [a]) (by omega) (by simp; omega)
          rw [show a + i - i = a by omega]
          simpa using this
        · simp only [ca, cb, or_self, decide_false, Bool.false_eq_true, if_false]
          have := ih (j + 1) acc (by omega) (by omega)
          simpa using this
theorem cS_WalkOf (n : Int) (w : List Int) (i : Int) (hl : w.length ≤ 1048576) : Ev (fun k => spec_WalkOf.f k n w i) (cx_WalkOf n w i) := by
  unfold spec_WalkOf.f cx_WalkOf
  simp only [Option.bind_some]
  refine Ev.bind (c_isWiring n w (by omega)) ?_
  by_cases h : cIsW n w = true
  · have hs := c_isW_spec h
    simp only [if_pos h]
    have hin : spec_l1In.f i 0 (wrap64 (n - 1)) = some (decide (0 ≤ i ∧ i < n)) := by
      unfold spec_l1In.f
      rw [c_wid (n - 1) (by omega) (by omega)]
      by_cases g0 : i ≥ 0
      · rw [if_pos g0]; congr 1; simp only [decide_eq_decide]; omega
      · rw [if_neg g0, decide_eq_false (by omega)]
    simp only [hin, Option.bind_some]
    by_cases hi : 0 ≤ i ∧ i < n
    · simp only [decide_eq_true hi, Bool.not_true]
      rw [if_pos ⟨h, hi⟩]
      refine Ev.step (f := fun k => (spec_l12Swaps.f k n w).bind fun t => spec_WalkOf.l0 k i [] t 0) (fun k => ?_) ?_
      · simp only [spec_WalkOf.j0]; rfl
      · refine Ev.bind (cS_swaps n w hl h) ?_
        have := cS_walk_l n i (cSwaps (cStart n.toNat) w) (by rw [cSwaps_length]; exact hl) (cSwaps_pairs h) _ 0 [] (Nat.zero_add _) (by simp)
        simpa using this
    · simp only [decide_eq_false hi, Bool.not_false]
      rw [if_neg (fun hh => hi hh.2)]
      refine Ev.step (f := fun k => some []) (fun k => ?_) (Ev.now _)
      simp only [spec_WalkOf.j0]; rfl
  · simp only [if_neg h]
    rw [if_neg (fun hh => h hh.1)]
    refine Ev.step (f := fun k => some []) (fun k => ?_) (Ev.now _)
    simp only [spec_WalkOf.j0]; rfl
theorem cI_WalkOf (n : Int) (w : List Int) (i : Int) (hl : w.length ≤ 1048576) : Ev (fun k => impl_WalkOf.f k n w i) (cx_WalkOf n w i) := by
  unfold impl_WalkOf.f cx_WalkOf
  refine Ev.bind (c_isW n w (by omega)) ?_
  by_cases h : cIsW n w = true
  · have hs := c_isW_spec h
    simp only [if_pos h]
    have hin : impl_isElement.f n i = some (decide (0 ≤ i ∧ i < n)) := by
      unfold impl_isElement.f
      by_cases g0 : i ≥ 0
      · rw [if_pos g0]; congr 1; simp only [decide_eq_decide]; omega
      · rw [if_neg g0, decide_eq_false (by omega)]
    simp only [hin, Option.bind_some]
    by_cases hi : 0 ≤ i ∧ i < n
    · simp only [decide_eq_true hi, Bool.not_true]
      rw [if_pos ⟨h, hi⟩]
      refine Ev.step (f := fun k => (impl_SwapsOf.f k n w).bind fun t => impl_WalkOf.l0 k i [] t (t.length : Int) 0) (fun k => ?_) ?_
      · simp only [impl_WalkOf.j0]; rfl
      · have h2 := cI_swaps n w hl
        rw [if_pos h] at h2
        refine Ev.bind h2 ?_
        have := cI_walk_l n i (by omega) hi.1 hi.2 (cSwaps (cStart n.toNat) w) (by rw [cSwaps_length]; exact hl) (cSwaps_pairs h) _ 0 [] (Nat.zero_add _) (by simp)
        simpa using this
    · simp only [decide_eq_false hi, Bool.not_false]
      rw [if_neg (fun hh => hi hh.2)]
      refine Ev.step (f := fun k => some []) (fun k => ?_) (Ev.now _)
      simp only [impl_WalkOf.j0]; rfl
  · simp only [if_neg h]
    rw [if_neg (fun hh => h hh.1)]
    refine Ev.step (f := fun k => some []) (fun k => ?_) (Ev.now _)
    simp only [impl_WalkOf.j0]; rfl

end Go.Proofs.Ytdjaiedfcmjblaa.P
namespace Go.Proofs.Ytdjaiedfcmjblaa.Pure
open Go.RowKit Go.Proofs.Ytdjaiedfcmjblaa.P Go.Proofs.YtdjaiedfcmjblaaW.PrintWords Go.Proofs.YtdjaiedfcmjblaaW.PrintLast
set_option linter.unusedVariables false
set_option linter.unusedSimpArgs false
set_option maxRecDepth 100000 in
theorem FnExactWalkOf : laws_FnExactWalkOf.Pure := by
  intro n w i wf_n hm_w hb_w hw_w wf_i
  apply Ev.rounds
  by_cases hl : (w.length : Int) > 1048576
  · refine Ev.congr (f := fun _ => some true) (fun k => ?_) (Ev.now _)
    simp only [laws_FnExactWalkOf.f]; rw [if_pos hl]
  have hl2 : w.length ≤ 1048576 := by omega
  have hT := c_toIntS w (by omega) (by omega)
  have hE1 := c_eqIntS_self w (by omega)
  have hS := cS_WalkOf n w i hl2
  have hI := cI_WalkOf n w i hl2
  have hlen : (cx_WalkOf n w i).length ≤ 1099511627776 := cx_WalkOf_len n w i hl2
  generalize cx_WalkOf n w i = r at hS hI hlen
  have hE2 := c_eqIntS_self r hlen
  have hM2 := c_markIntS r 1 (by omega) (by omega) hlen
  have hH := c_heldIntS 1 r.length (by omega) (by omega) hlen
  have hn2 : ¬ (1 + (r.length : Int) < 0) := by omega
  have hM1 := c_markIntS w 1 (by omega) (by omega) (by omega)
  have hn1 : ¬ (1 + (w.length : Int) < 0) := by omega
  unfold laws_FnExactWalkOf.f
  refine Ev.congr (fun k => if_neg hl) ?_
  repeat' first
    | exact Ev.now _
    | (refine Ev.bind hT ?_; try dsimp only)
    | (refine Ev.bind hE1 ?_; try dsimp only)
    | (refine Ev.bind hM1 ?_; try dsimp only)
    | (refine Ev.bind hS ?_; try dsimp only)
    | (refine Ev.bind hI ?_; try dsimp only)
    | (refine Ev.bind hE2 ?_; try dsimp only)
    | (refine Ev.bind hM2 ?_; try dsimp only)
    | (refine Ev.bind hH ?_; try dsimp only)
    | (simp only [Bool.false_eq_true, if_true, if_false, bne_self_eq_false, Bool.not_true, Bool.not_false, ne_eq, not_true_eq_false, not_false_eq_true, reduceIte, hn1, hn2])
    | (refine Ev.step (fun k => by simp only [laws_FnExactWalkOf.j0]; rfl) ?_)
end Go.Proofs.Ytdjaiedfcmjblaa.Pure
