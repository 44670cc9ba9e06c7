/- For all four points the program's SlopeBefore returns what the reference's returns. Conditions: none. -/
import Derived.Test.YtfgnijcclnleaaaOSlope
import Derived.Test.YtfgnijcclnleaaaP35
import Derived.Test.YtfgnijcclnleaaaP30
import Derived.Test.YtfgnijcclnleaaaP5
namespace Go.Proofs.Ytfgnijcclnleaaa.P
open Go.RowKit Go.Proofs.YtfgnijcclnleaaaW.PrintWords Go.Proofs.YtfgnijcclnleaaaW.PrintLast
set_option linter.unusedVariables false
set_option linter.unusedSimpArgs false

def cNear (x y : Int) : Bool := decide ((-1000 ≤ x ∧ x ≤ 1000) ∧ (-1000 ≤ y ∧ y ≤ 1000))
theorem c_m1000 : wrap64 (-1000) = -1000 := by decide +kernel
theorem c_isFar (x : Int) : impl_isFar.f x 1000 = some (!decide (-1000 ≤ x ∧ x ≤ 1000)) := by
  unfold impl_isFar.f
  rw [c_m1000]
  by_cases h : x < -1000
  · rw [if_pos h, decide_eq_false (by omega)]; rfl
  · rw [if_neg h]
    by_cases h2 : x > 1000
    · rw [decide_eq_true h2, decide_eq_false (by omega)]; rfl
    · rw [decide_eq_false h2, decide_eq_true (by omega)]; rfl
theorem c_far (x y : Int) : dFar 1000 (x, y) = some (!cNear x y) := by
  unfold dFar cNear
  rw [c_isFar, Option.bind_some]
  by_cases h : -1000 ≤ x ∧ x ≤ 1000
  · rw [decide_eq_true h]
    simp only [Bool.not_true, Bool.false_eq_true, if_false, c_isFar, h, true_and]
  · rw [decide_eq_false h, decide_eq_false (fun h2 => h h2.1)]; rfl
theorem c_in1000 (x : Int) : spec_l1In.f x (-1000) 1000 = some (decide (-1000 ≤ x ∧ x ≤ 1000)) := by
  unfold spec_l1In.f
  by_cases h : x ≥ -1000
  · rw [if_pos h]; congr 1; rw [decide_eq_decide]; omega
  · rw [if_neg h, decide_eq_false (by omega)]
theorem c_fits2 (x y : Int) : spec_l2Fits.f x y 1000 = some (cNear x y) := by
  unfold spec_l2Fits.f cNear
  rw [c_m1000, c_in1000, Option.bind_some]
  by_cases h : -1000 ≤ x ∧ x ≤ 1000
  · rw [decide_eq_true h, if_pos rfl, c_in1000, Option.bind_some]
    simp only [h, true_and]
  · rw [decide_eq_false h, decide_eq_false (fun h2 => h h2.1)]; rfl
theorem c_cmpLt (a b : Int) : (cmp_Compare_int.f a b).bind (fun t => some (decide (t < 0))) = some (decide (a < b)) := by
  unfold cmp_Compare_int.f cmp_isNaN_int.f
  by_cases h : a < b
  · simp [h]
  · by_cases h2 : a > b
    · simp [h, h2]
    · simp [h, h2]
theorem c_slope (a0 a1 b0 b1 c0 c1 d0 d1 : Int) : impl_SlopeBefore.f a0 a1 b0 b1 c0 c1 d0 d1 = spec_SlopeBefore.f a0 a1 b0 b1 c0 c1 d0 d1 := by
  unfold impl_SlopeBefore.f spec_SlopeBefore.f impl_slopes.f
  simp only [dIdx, c_far, c_fits2, Option.bind_some]
  cases ha : cNear a0 a1 with
  | false => simp
  | true =>
    cases hb : cNear b0 b1 with
    | false => simp
    | true =>
      cases hc : cNear c0 c1 with
      | false => simp
      | true =>
        cases hd : cNear d0 d1 with
        | false => simp
        | true =>
          simp only [Bool.not_true, Bool.false_eq_true, if_false, if_true, Option.bind_some, show ¬ (0 : Int) ≤ -1 by decide]
          by_cases h1 : a0 < b0
          · rw [if_pos h1, if_neg (show ¬ a0 ≥ b0 by omega)]
            by_cases h2 : c0 < d0
            · rw [if_pos h2, if_neg (show ¬ c0 ≥ d0 by omega)]
              have := c_cmpLt (wrap64 (wrap64 (b1 - a1) * wrap64 (d0 - c0))) (wrap64 (wrap64 (d1 - c1) * wrap64 (b0 - a0)))
              rw [Option.bind_assoc]
              simpa using this
            · rw [if_neg h2, if_pos (show c0 ≥ d0 by omega)]
          · rw [if_neg h1, if_pos (show a0 ≥ b0 by omega)]
theorem c_specSlope (a0 a1 b0 b1 c0 c1 d0 d1 : Int) : ∃ r, spec_SlopeBefore.f a0 a1 b0 b1 c0 c1 d0 d1 = some r := by
  unfold spec_SlopeBefore.f
  simp only [c_fits2, Option.bind_some]
  repeat' split
  all_goals exact ⟨_, rfl⟩

end Go.Proofs.Ytfgnijcclnleaaa.P
namespace Go.Proofs.Ytfgnijcclnleaaa.Pure
open Go.RowKit Go.Proofs.Ytfgnijcclnleaaa.P Go.Proofs.YtfgnijcclnleaaaW.PrintWords Go.Proofs.YtfgnijcclnleaaaW.PrintLast
set_option linter.unusedVariables false

theorem FnExactSlopeBefore : laws_FnExactSlopeBefore.Pure := by
  intro a0 a1 b0 b1 c0 c1 d0 d1
  intros
  unfold laws_FnExactSlopeBefore.f laws_toPoint.f
  obtain ⟨r, hr⟩ := c_specSlope a0 a1 b0 b1 c0 c1 d0 d1
  have hI := (c_slope a0 a1 b0 b1 c0 c1 d0 d1).trans hr
  simp only [Option.bind_some, hr, hI]
  cases r <;> rfl

end Go.Proofs.Ytfgnijcclnleaaa.Pure
