/- What the program's planeOf computes. Conditions: none. -/
import Derived.Test.YtiimkifkakdalaaCFits
import Derived.Test.YtiimkifkakdalaaOPlane
namespace Go.Proofs.Ytiimkifkakdalaa.P
open Go.RowKit Go.Proofs.YtiimkifkakdalaaW.PrintWords Go.Proofs.YtiimkifkakdalaaW.PrintLast
set_option linter.unusedVariables false
set_option linter.unusedSimpArgs false

theorem c_planeOf (n : Int) (s : ByteArray) (hs : s.size ≤ 1099511627776) : Ev (fun k => impl_planeOf.f k n s) (if cFits n s = true then ((cRows n.toNat s, 2 ^ (cPairs n.toNat).length - 1), true) else (([], 0), false)) := by
  unfold impl_planeOf.f
  refine Ev.bind (c_orderOf n s hs) ?_
  by_cases h : cAcy n s = true
  · obtain ⟨m, rfl, h3, h7, hz⟩ := c_acy_open n s h
    simp only [h, if_true, Int.toNat_natCast]
    by_cases h6 : (m : Int) > 6
    · have hf : ¬ cFits (m : Int) s = true := by unfold cFits; rw [decide_eq_false (by omega)]; simp
      simp only [if_pos h6, if_neg hf]; exact Ev.now _
    · have hf : cFits (m : Int) s = true := by unfold cFits; rw [decide_eq_true (by omega), h]; rfl
      simp only [if_neg h6, if_pos hf]
      refine Ev.bind (c_crossings m h3 h7 s) ?_
      rw [c_implAll (m : Int) (by omega) (by omega)]
      simp only [Option.bind_some, Int.toNat_natCast]; exact Ev.now _
  · have hf : ¬ cFits n s = true := by unfold cFits; rw [Bool.not_eq_true] at h; rw [h]; simp
    simp only [h, Bool.false_eq_true, if_false, if_neg hf]; exact Ev.now _
theorem c_andN (a b : Nat) (ha : a < 1099511627776) (hb : b < 1099511627776) : Go.bits .and .i64 (a : Int) (b : Int) = ((a &&& b : Nat) : Int) := (bits_nat .i64 40 (by decide) (fun n h0 h1 => by rw [IntKind.wrap_i64]; omega) a b (by omega) (by omega)).1
theorem c_pairs6 (n : Nat) (h3 : 3 ≤ n) (h6 : n ≤ 6) : (cPairs n).length ≤ 15 := by
  have : n = 3 ∨ n = 4 ∨ n = 5 ∨ n = 6 := by omega
  rcases this with rfl | rfl | rfl | rfl <;> decide
theorem c_set_lt6 (n : Nat) (h3 : 3 ≤ n) (h6 : n ≤ 6) (e : Int) (h : cES (n : Int) e) : 0 ≤ e ∧ e < 2 ^ (cPairs n).length ∧ e < 32768 := by
  have hle := c_pairs6 n h3 h6
  unfold cES at h
  rw [Int.toNat_natCast] at h
  have : (2 : Int) ^ (cPairs n).length ≤ 2 ^ 15 := by
    have := Nat.pow_le_pow_right (show 0 < 2 by decide) hle
    exact_mod_cast this
  omega

end Go.Proofs.Ytiimkifkakdalaa.P
