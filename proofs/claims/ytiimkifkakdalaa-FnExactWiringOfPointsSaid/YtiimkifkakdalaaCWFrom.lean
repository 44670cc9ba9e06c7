/- Plain laws of WiringFrom: the reference's and the program's both tell 'cWFrom'. Conditions: at most 2^20 rows. -/
import Derived.Test.YtiimkifkakdalaaCStart
import Derived.Test.YtiimkifkakdalaaP54
import Derived.Test.YtiimkifkakdalaaP62
namespace Go.Proofs.Ytiimkifkakdalaa.P
open Go.RowKit Go.Proofs.YtiimkifkakdalaaW.PrintWords Go.Proofs.YtiimkifkakdalaaW.PrintLast
set_option linter.unusedVariables false
set_option linter.unusedSimpArgs false

/-- The place of a number, or -1. -/
def cIdx (x : Int) : List Int → Nat → Int
  | [], _ => -1
  | y :: l, i => if y = x then (i : Int) else cIdx x l (i + 1)
theorem cIdx_spec (x : Int) : ∀ (l : List Int) (i : Nat), cIdx x l i = -1 ∨ ∃ p : Nat, cIdx x l i = ((i + p : Nat) : Int) ∧ p < l.length ∧ l.getD p 0 = x
  | [], _ => .inl rfl
  | y :: l, i => by
    by_cases h : y = x
    · exact .inr ⟨0, by simp [cIdx, h], by simp, by simpa using h⟩
    · rcases cIdx_spec x l (i + 1) with h1 | ⟨p, h1, h2, h3⟩
      · exact .inl (by simp only [cIdx]; rw [if_neg h]; exact h1)
      · exact .inr ⟨p + 1, by simp only [cIdx]; rw [if_neg h, h1]; congr 1; omega, by simpa using h2, by simpa using h3⟩
theorem c_place_l (ws : List Int) (x : Int) (hl : ws.length ≤ 1000) : ∀ (d i : Nat), i + d = ws.length → Ev (fun k => spec_l12Place.l0 k ws x (i : Int)) (cIdx x (ws.drop i) i) := by
  intro d
  induction d with
  | zero =>
    intro i hi
    rw [List.drop_eq_nil_of_le (by omega)]
    refine Ev.step (f := fun _ => some (-1)) (fun k => ?_) (Ev.now _)
    simp only [spec_l12Place.l0]; rw [if_neg (by omega)]
  | succ d ih =>
    intro i hi
    rw [c_drop ws i (by omega)]
    by_cases h : ws.getD i 0 = x
    · refine Ev.step (f := fun _ => some (i : Int)) (fun k => ?_) (by simp only [cIdx]; rw [if_pos h]; exact Ev.now _)
      simp only [spec_l12Place.l0]; rw [if_pos (by omega), if_pos (by omega), c_rd, if_pos h]
    · refine Ev.step (f := fun k => spec_l12Place.l0 k ws x ((i + 1 : Nat) : Int)) (fun k => ?_) (by simp only [cIdx]; rw [if_neg h]; exact ih (i + 1) (by omega))
      simp only [spec_l12Place.l0]; rw [if_pos (by omega), if_pos (by omega), c_rd, if_neg h, c_w1 i (by omega)]
theorem c_place (ws : List Int) (x : Int) (hl : ws.length ≤ 1000) : Ev (fun k => spec_l12Place.f k ws x) (cIdx x ws 0) := by
  have := c_place_l ws x hl ws.length 0 (Nat.zero_add _)
  exact this
theorem c_index_l (ws : List Int) (x : Int) (hl : ws.length ≤ 1000) : ∀ (d i : Nat), i + d = ws.length → Ev (fun k => slices_Index_int_int.l0 k ws x (ws.length : Int) (i : Int)) (cIdx x (ws.drop i) i) := by
  intro d
  induction d with
  | zero =>
    intro i hi
    rw [List.drop_eq_nil_of_le (by omega)]
    refine Ev.step (f := fun _ => some (-1)) (fun k => ?_) (Ev.now _)
    simp only [slices_Index_int_int.l0]; rw [if_neg (by omega)]
  | succ d ih =>
    intro i hi
    rw [c_drop ws i (by omega)]
    by_cases h : ws.getD i 0 = x
    · refine Ev.step (f := fun _ => some (i : Int)) (fun k => ?_) (by simp only [cIdx]; rw [if_pos h]; exact Ev.now _)
      simp only [slices_Index_int_int.l0]; rw [if_pos (by omega), if_pos (by omega), if_pos (by omega), c_rd, if_pos h.symm]
    · refine Ev.step (f := fun k => slices_Index_int_int.l0 k ws x (ws.length : Int) ((i + 1 : Nat) : Int)) (fun k => ?_) (by simp only [cIdx]; rw [if_neg h]; exact ih (i + 1) (by omega))
      simp only [slices_Index_int_int.l0]; rw [if_pos (by omega), if_pos (by omega), if_pos (by omega), c_rd, if_neg (fun e => h e.symm), c_w1 i (by omega)]
theorem c_index (ws : List Int) (x : Int) (hl : ws.length ≤ 1000) : Ev (fun k => slices_Index_int_int.f k ws x) (cIdx x ws 0) := by
  have := c_index_l ws x hl ws.length 0 (Nat.zero_add _)
  exact this
/-- The exchanges that pairs tell. -/
def cWF (n : Int) : List (List Int) → List Int → List Int → List Int × Bool
  | [], _, acc => (acc, true)
  | r :: rows, ws, acc =>
    if r.length = 2 ∧ r.getD 0 0 < r.getD 1 0 then
      (if cIdx (r.getD 0 0) ws 0 < 0 ∨ cIdx (r.getD 0 0) ws 0 + 1 ≥ n then ([], false)
      else if ws.getD ((cIdx (r.getD 0 0) ws 0).toNat + 1) 0 = r.getD 1 0 then cWF n rows (cSwap ws (cIdx (r.getD 0 0) ws 0).toNat) (acc ++ [cIdx (r.getD 0 0) ws 0]) else ([], false))
    else ([], false)
theorem cWF_len (n : Int) : ∀ (rows : List (List Int)) (ws acc : List Int), (cWF n rows ws acc).1.length ≤ acc.length + rows.length
  | [], _, _ => by simp [cWF]
  | r :: rows, ws, acc => by
    simp only [cWF, List.length_cons]
    split
    · split
      · simp
      · split
        · have := cWF_len n rows (cSwap ws (cIdx (r.getD 0 0) ws 0).toNat) (acc ++ [cIdx (r.getD 0 0) ws 0])
          rw [List.length_append, List.length_singleton] at this
          omega
        · simp
    · simp
theorem cS_wf_l (n : Int) (h6 : n ≤ 6) (rows : List (List Int)) (hr : rows.length ≤ 1048576) : ∀ (d i : Nat) (ws acc : List Int), i + d = rows.length → (ws.length : Int) = n → 3 ≤ n → acc.length ≤ i →
    Ev (fun k => spec_WiringFrom.l0 k n rows acc ws (i : Int)) (cWF n (rows.drop i) ws acc) := by
  intro d
  induction d with
  | zero =>
    intro i ws acc hi hw h3 ha
    rw [List.drop_eq_nil_of_le (by omega)]
    refine Ev.step (f := fun _ => some (acc, true)) (fun k => ?_) (Ev.now _)
    simp only [spec_WiringFrom.l0]; rw [if_neg (by omega)]
  | succ d ih =>
    intro i ws acc hi hw h3 ha
    have hlt : i < rows.length := by omega
    have hrd : rd_L8 rows (i : Int) = rows[i] := by simp [rd_L8, List.getD_eq_getElem?_getD, hlt]
    rw [List.drop_eq_getElem_cons hlt]
    generalize hrow : rows[i] = r at hrd
    by_cases hl : r.length = 2
    · obtain ⟨x0, x1, rfl⟩ : ∃ x0 x1, r = [x0, x1] := by
        match r, hl with
        | [a, b], _ => exact ⟨a, b, rfl⟩
      have e0 : rd [x0, x1] 0 = x0 := rfl
      have e1 : rd [x0, x1] 1 = x1 := rfl
      have g0 : ([x0, x1] : List Int).getD 0 0 = x0 := rfl
      have g1 : ([x0, x1] : List Int).getD 1 0 = x1 := rfl
      have l2 : ((([x0, x1] : List Int).length : Nat) : Int) = 2 := rfl
      have l0 : (0 : Int) < ((([x0, x1] : List Int).length : Nat) : Int) := by simp
      have l1 : (1 : Int) < ((([x0, x1] : List Int).length : Nat) : Int) := by simp
      simp only [cWF, g0, g1]
      refine Ev.step (f := fun k => spec_WiringFrom.j2 k n rows acc ws (i : Int) (decide (x0 ≥ x1))) (fun k => ?_) ?_
      · simp only [spec_WiringFrom.l0, hrd, e0, e1]
        rw [if_pos (by omega), if_pos (by omega), if_pos l2, if_pos l0, if_pos l1]
      by_cases hx : x0 < x1
      · rw [if_pos ⟨rfl, hx⟩, decide_eq_false (by omega)]
        have hp := c_place ws x0 (by omega)
        refine Ev.step (f := fun k => (spec_l12Place.f k ws x0).bind fun t => if t < 0 then some ([], false) else (if wrap64 (t + 1) ≥ n then some ([], false) else (if 0 ≤ wrap64 (t + 1) then (if wrap64 (t + 1) < (ws.length : Int) then (if rd ws (wrap64 (t + 1)) = x1 then ((spec_l12Swap.f ws t).bind fun b => if acc.length < 17592186044416 then spec_WiringFrom.l0 k n rows (acc ++ [t]) b.2 ((i + 1 : Nat) : Int) else none) else some ([], false)) else none) else none))) (fun k => ?_) ?_
        · simp only [spec_WiringFrom.j2, hrd, e0, e1]
          rw [if_neg (by decide), if_pos (by omega), if_pos (by omega), if_pos l0, c_w1 i (by omega)]
          simp only [if_pos l1]
        · refine Ev.bind hp ?_
          rcases cIdx_spec x0 ws 0 with hq | ⟨p, hq, hpl, hpx⟩
          · rw [hq]
            simp only [show ((-1 : Int) < 0) by decide, if_true, true_or]
            exact Ev.now _
          · rw [hq, Nat.zero_add]
            have q0 : ¬ ((p : Int) < 0) := by omega
            simp only [if_neg q0, c_w1 p (by omega), Int.toNat_natCast]
            by_cases hpn : ((p + 1 : Nat) : Int) ≥ n
            · rw [if_pos (.inr (by omega))]; simp only [if_pos hpn]; exact Ev.now _
            · rw [if_neg (by omega)]
              have q1 : (0 : Int) ≤ ((p + 1 : Nat) : Int) := by omega
              have q2 : ((p + 1 : Nat) : Int) < (ws.length : Int) := by omega
              simp only [if_neg hpn, if_pos q1, if_pos q2, c_rd]
              by_cases hx1 : ws.getD (p + 1) 0 = x1
              · rw [if_pos hx1]
                simp only [if_pos hx1]
                have hok : cOk ws (p : Int) := by unfold cOk; rw [Int.toNat_natCast]; exact ⟨by omega, by omega, by rw [hpx, hx1]; omega⟩
                rw [c_swap ws (p : Int) (by omega) (by omega), if_pos hok]
                simp only [Option.bind_some, Int.toNat_natCast]
                have q3 : acc.length < 17592186044416 := by omega
                simp only [if_pos q3]
                exact ih (i + 1) _ _ (by omega) (by rw [cSwap_length]; exact hw) h3 (by rw [List.length_append, List.length_singleton]; omega)
              · rw [if_neg hx1]
                simp only [if_neg hx1]
                exact Ev.now _
      · rw [if_neg (fun h => hx h.2), decide_eq_true (by omega)]
        refine Ev.step (f := fun k => some ([], false)) (fun k => ?_) (Ev.now _)
        simp only [spec_WiringFrom.j2]; exact if_pos trivial
    · have hn : ¬ ((r.length : Int) = 2) := by omega
      simp only [cWF]
      rw [if_neg (fun h => hl h.1)]
      refine Ev.step (f := fun k => spec_WiringFrom.j2 k n rows acc ws (i : Int) true) (fun k => ?_) ?_
      · simp only [spec_WiringFrom.l0, hrd]
        rw [if_pos (by omega), if_pos (by omega), if_neg hn]
      · refine Ev.step (f := fun k => some ([], false)) (fun k => ?_) (Ev.now _)
        simp only [spec_WiringFrom.j2]; exact if_pos trivial
theorem cI_wf_l (n : Int) (h6 : n ≤ 6) (rows : List (List Int)) (hr : rows.length ≤ 1048576) : ∀ (d i : Nat) (ws acc : List Int), i + d = rows.length → (ws.length : Int) = n → 3 ≤ n → acc.length ≤ i →
    Ev (fun k => impl_WiringFrom.l0 k n ws acc rows (rows.length : Int) (i : Int)) (cWF n (rows.drop i) ws acc) := by
  intro d
  induction d with
  | zero =>
    intro i ws acc hi hw h3 ha
    rw [List.drop_eq_nil_of_le (by omega)]
    refine Ev.step (f := fun _ => some (acc, true)) (fun k => ?_) (Ev.now _)
    simp only [impl_WiringFrom.l0]; rw [if_neg (by omega)]
  | succ d ih =>
    intro i ws acc hi hw h3 ha
    have hlt : i < rows.length := by omega
    have hrd : rd_L8 rows (i : Int) = rows[i] := by simp [rd_L8, List.getD_eq_getElem?_getD, hlt]
    rw [List.drop_eq_getElem_cons hlt]
    generalize hrow : rows[i] = r at hrd
    by_cases hl : r.length = 2
    · obtain ⟨x0, x1, rfl⟩ : ∃ x0 x1, r = [x0, x1] := by
        match r, hl with
        | [a, b], _ => exact ⟨a, b, rfl⟩
      have e0 : rd [x0, x1] 0 = x0 := rfl
      have e1 : rd [x0, x1] 1 = x1 := rfl
      have g0 : ([x0, x1] : List Int).getD 0 0 = x0 := rfl
      have g1 : ([x0, x1] : List Int).getD 1 0 = x1 := rfl
      have l2 : ((([x0, x1] : List Int).length : Nat) : Int) = 2 := rfl
      have l0 : (0 : Int) < ((([x0, x1] : List Int).length : Nat) : Int) := by simp
      have l1 : (1 : Int) < ((([x0, x1] : List Int).length : Nat) : Int) := by simp
      simp only [cWF, g0, g1]
      refine Ev.step (f := fun k => impl_WiringFrom.j2 k n ws acc [x0, x1] (-1) rows (rows.length : Int) (i : Int) (decide (x0 < x1))) (fun k => ?_) ?_
      · simp only [impl_WiringFrom.l0, hrd, e0, e1]
        rw [if_pos (by omega), if_pos (by omega), if_pos (by omega), if_pos l2, if_pos l0, if_pos l1]
      by_cases hx : x0 < x1
      · rw [if_pos ⟨rfl, hx⟩, decide_eq_true hx]
        have hp := c_index ws x0 (by omega)
        refine Ev.step (f := fun k => (slices_Index_int_int.f k ws x0).bind fun t => if t < 0 then some ([], false) else (if t = wrap64 (n - 1) then some ([], false) else (if 0 ≤ wrap64 (t + 1) then (if wrap64 (t + 1) < (ws.length : Int) then (if rd ws (wrap64 (t + 1)) = x1 then (if acc.length < 17592186044416 then (if 0 ≤ t then (if t < (ws.length : Int) then impl_WiringFrom.l0 k n ((ws.set t.toNat (rd ws (wrap64 (t + 1)))).set (wrap64 (t + 1)).toNat (rd ws t)) (acc ++ [t]) rows (rows.length : Int) ((i + 1 : Nat) : Int) else none) else none) else none) else some ([], false)) else none) else none))) (fun k => ?_) ?_
        · simp only [impl_WiringFrom.j2, e0, e1]
          rw [if_pos trivial, if_pos l0, c_w1 i (by omega)]
          simp only [if_pos l1]
        · refine Ev.bind hp ?_
          rcases cIdx_spec x0 ws 0 with hq | ⟨p, hq, hpl, hpx⟩
          · rw [hq]
            simp only [show ((-1 : Int) < 0) by decide, if_true, true_or]
            exact Ev.now _
          · rw [hq, Nat.zero_add]
            have q0 : ¬ ((p : Int) < 0) := by omega
            simp only [if_neg q0, c_w1 p (by omega), Int.toNat_natCast, c_wid (n - 1) (by omega) (by omega)]
            by_cases hpn : (p : Int) = n - 1
            · rw [if_pos (.inr (by omega))]; simp only [if_pos hpn]; exact Ev.now _
            · rw [if_neg (by omega)]
              have q1 : (0 : Int) ≤ ((p + 1 : Nat) : Int) := by omega
              have q2 : ((p + 1 : Nat) : Int) < (ws.length : Int) := by omega
              simp only [if_neg hpn, if_pos q1, if_pos q2, c_rd, Int.toNat_natCast]
              by_cases hx1 : ws.getD (p + 1) 0 = x1
              · rw [if_pos hx1]
                simp only [if_pos hx1]
                have q3 : acc.length < 17592186044416 := by omega
                have q4 : (0 : Int) ≤ (p : Int) := by omega
                have q5 : (p : Int) < (ws.length : Int) := by omega
                simp only [if_pos q3, if_pos q4, if_pos q5]
                have hsw : (ws.set p (ws.getD (p + 1) 0)).set (p + 1) (ws.getD p 0) = cSwap ws p := rfl
                rw [hx1] at hsw
                have h := ih (i + 1) (cSwap ws p) (acc ++ [(p : Int)]) (by omega) (by rw [cSwap_length]; exact hw) h3 (by rw [List.length_append, List.length_singleton]; omega)
                rw [← hsw] at h ⊢
                first | exact h | (rw [hx1]; exact h)
              · rw [if_neg hx1]
                simp only [if_neg hx1]
                exact Ev.now _
      · rw [if_neg (fun h => hx h.2), decide_eq_false hx]
        refine Ev.step (f := fun k => some ([], false)) (fun k => ?_) (Ev.now _)
        simp only [impl_WiringFrom.j2]; rw [if_neg (by decide), if_pos (by decide)]
    · have hn : ¬ ((r.length : Int) = 2) := by omega
      simp only [cWF]
      rw [if_neg (fun h => hl h.1)]
      refine Ev.step (f := fun k => impl_WiringFrom.j2 k n ws acc r (-1) rows (rows.length : Int) (i : Int) false) (fun k => ?_) ?_
      · simp only [impl_WiringFrom.l0, hrd]
        rw [if_pos (by omega), if_pos (by omega), if_pos (by omega), if_neg hn]
      · refine Ev.step (f := fun k => some ([], false)) (fun k => ?_) (Ev.now _)
        simp only [impl_WiringFrom.j2]; rw [if_neg (by decide), if_pos (by decide)]
def cWFrom (n : Int) (rows : List (List Int)) : List Int × Bool := if (3 ≤ n ∧ n ≤ 6) ∧ (rows.length : Int) = n * (n - 1) / 2 then cWF n rows (cStart n.toNat) [] else ([], false)
theorem cWFrom_len (n : Int) (rows : List (List Int)) (hr : rows.length ≤ 1048576) : (cWFrom n rows).1.length ≤ 1099511627776 := by
  unfold cWFrom
  split
  · have := cWF_len n rows (cStart n.toNat) []
    simp only [List.length_nil] at this
    omega
  · simp
theorem cS_WFrom (n : Int) (rows : List (List Int)) (hr : rows.length ≤ 1048576) : Ev (fun k => spec_WiringFrom.f k n rows) (cWFrom n rows) := by
  unfold spec_WiringFrom.f cWFrom
  have hin : spec_l1In.f n 3 6 = some (decide (3 ≤ n ∧ n ≤ 6)) := by
    unfold spec_l1In.f
    by_cases g0 : n ≥ 3
    · rw [if_pos g0]; congr 1; simp only [decide_eq_decide]; omega
    · rw [if_neg g0, decide_eq_false (by omega)]
  simp only [hin, Option.bind_some]
  by_cases h : 3 ≤ n ∧ n ≤ 6
  · simp only [decide_eq_true h, if_true]
    rw [c_pairs n h.1 h.2]
    by_cases hl : (rows.length : Int) = n * (n - 1) / 2
    · rw [show ((rows.length : Int) != n * (n - 1) / 2) = false by simpa using hl, if_pos ⟨h, hl⟩]
      refine Ev.step (f := fun k => (spec_l12Start.f k n).bind fun t => spec_WiringFrom.l0 k n rows [] t 0) (fun k => ?_) ?_
      · simp only [spec_WiringFrom.j0]; rw [if_neg (by decide)]
      · refine Ev.bind (c_start n h.1 h.2) ?_
        have := cS_wf_l n h.2 rows hr rows.length 0 (cStart n.toNat) [] (Nat.zero_add _) (by rw [cStart_length]; omega) h.1 (by simp)
        exact this
    · rw [show ((rows.length : Int) != n * (n - 1) / 2) = true by simpa using hl, if_neg (fun e => hl e.2)]
      refine Ev.step (f := fun k => some ([], false)) (fun k => ?_) (Ev.now _)
      simp only [spec_WiringFrom.j0]; exact if_pos trivial
  · simp only [decide_eq_false h, Bool.false_eq_true, if_false]
    rw [if_neg (fun e => h e.1)]
    refine Ev.step (f := fun k => some ([], false)) (fun k => ?_) (Ev.now _)
    simp only [spec_WiringFrom.j0]; exact if_pos trivial
theorem cI_WFrom (n : Int) (rows : List (List Int)) (hr : rows.length ≤ 1048576) : Ev (fun k => impl_WiringFrom.f k n rows) (cWFrom n rows) := by
  unfold impl_WiringFrom.f cWFrom
  have hin : impl_isWires.f n = some (decide (3 ≤ n ∧ n ≤ 6)) := by
    unfold impl_isWires.f
    by_cases g0 : n ≥ 3
    · rw [if_pos g0]; congr 1; simp only [decide_eq_decide]; omega
    · rw [if_neg g0, decide_eq_false (by omega)]
  simp only [hin, Option.bind_some]
  by_cases h : 3 ≤ n ∧ n ≤ 6
  · simp only [decide_eq_true h, if_true]
    rw [c_pairs n h.1 h.2]
    by_cases hl : (rows.length : Int) = n * (n - 1) / 2
    · rw [show ((rows.length : Int) != n * (n - 1) / 2) = false by simpa using hl, if_pos ⟨h, hl⟩]
      refine Ev.step (f := fun k => (impl_upTo.f k n).bind fun t => impl_WiringFrom.l0 k n t [] rows (rows.length : Int) 0) (fun k => ?_) ?_
      · simp only [impl_WiringFrom.j0]; rw [if_neg (by decide)]
      · refine Ev.bind (c_upTo n h.1 h.2) ?_
        have := cI_wf_l n h.2 rows hr rows.length 0 (cStart n.toNat) [] (Nat.zero_add _) (by rw [cStart_length]; omega) h.1 (by simp)
        exact this
    · rw [show ((rows.length : Int) != n * (n - 1) / 2) = true by simpa using hl, if_neg (fun e => hl e.2)]
      refine Ev.step (f := fun k => some ([], false)) (fun k => ?_) (Ev.now _)
      simp only [impl_WiringFrom.j0]; exact if_pos trivial
  · simp only [decide_eq_false h, Bool.false_eq_true, if_false]
    rw [if_neg (fun e => h e.1)]
    refine Ev.step (f := fun k => some ([], false)) (fun k => ?_) (Ev.now _)
    simp only [impl_WiringFrom.j0]; exact if_pos trivial

end Go.Proofs.Ytiimkifkakdalaa.P
