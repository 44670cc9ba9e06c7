/- Plane matchings: what the program and the reference list. Conditions: none. -/
import Derived.Test.YtiimkifkakdalaaCPlS
import Derived.Test.YtiimkifkakdalaaOPlM
import Derived.Test.YtiimkifkakdalaaP17
namespace Go.Proofs.Ytiimkifkakdalaa.P
open Go.RowKit Go.Proofs.YtiimkifkakdalaaW.PrintWords Go.Proofs.YtiimkifkakdalaaW.PrintLast
set_option linter.unusedVariables false
set_option linter.unusedSimpArgs false

theorem p_odd3 : ∀ e < 8, cPop e = 1 → pIn 3 1 1 (e : Nat) = false := by decide +kernel
theorem p_odd5 : ∀ e < 1024, cPop e = 2 → pIn 5 1 1 (e : Nat) = false := by decide +kernel
/-- What PlaneMatchings lists. -/
def pMat (n : Int) (s : ByteArray) : List Int := if cFits n s = true then pS n.toNat s (n.toNat / 2) (fun e => pIn n.toNat 1 1 (e : Int)) 0 (2 ^ (cPairs n.toNat).length) else []
theorem p_mat_len (n : Int) (s : ByteArray) : (pMat n s).length ≤ 1099511627776 := by
  unfold pMat
  split
  · rename_i h
    obtain ⟨m, rfl, h3, h6, hz, hA⟩ := c_fits_open n s h
    rw [Int.toNat_natCast]
    have h15 := c_pairs6 m h3 h6
    have hp15 : 2 ^ (cPairs m).length ≤ 2 ^ 15 := Nat.pow_le_pow_right (by decide) h15
    have := p_s_len m s (m / 2) (fun e => pIn m 1 1 (e : Int)) 0 (2 ^ (cPairs m).length)
    omega
  · simp
theorem p_mat_odd (n : Int) (s : ByteArray) (h : ¬ Int.tmod n 2 = 0) : pMat n s = [] := by
  unfold pMat
  split
  · rename_i hf
    obtain ⟨m, rfl, h3, h6, hz, hA⟩ := c_fits_open n s hf
    rw [Int.toNat_natCast]
    have hm : m = 3 ∨ m = 5 := by
      rw [Int.tmod_eq_emod_of_nonneg (a := (m : Int)) (by omega)] at h
      omega
    unfold pS
    rw [List.map_eq_nil_iff, List.filter_eq_nil_iff]
    intro e he
    rw [List.mem_range'_1] at he
    rcases hm with rfl | rfl
    · have h1 := p_odd3 e (by have : (cPairs 3).length = 3 := by decide
                              rw [this] at he; omega)
      by_cases hc : cPop e = 1
      · simp only [h1 hc, Bool.and_false, Bool.false_eq_true, not_false_eq_true]
      · intro hh
        simp only [Bool.and_eq_true, decide_eq_true_eq] at hh
        exact hc (by omega)
    · have h1 := p_odd5 e (by have : (cPairs 5).length = 10 := by decide
                              rw [this] at he; omega)
      by_cases hc : cPop e = 2
      · simp only [h1 hc, Bool.and_false, Bool.false_eq_true, not_false_eq_true]
      · intro hh
        simp only [Bool.and_eq_true, decide_eq_true_eq] at hh
        exact hc (by omega)
  · rfl
theorem p_half (m : Nat) (h : m ≤ 6) : wrap64 (Int.tdiv (m : Int) 2) = ((m / 2 : Nat) : Int) := by
  rw [Int.tdiv_eq_ediv_of_nonneg (a := (m : Int)) (by omega), c_wid _ (by omega) (by omega)]; omega
theorem p_specMat (n : Int) (s : ByteArray) (hs : s.size ≤ 1099511627776) : Ev (fun k => spec_PlaneMatchings.f k n s) (pMat n s) := by
  unfold spec_PlaneMatchings.f
  by_cases h2 : Int.tmod n 2 = 0
  · simp only [if_pos h2]
    unfold pMat
    cases hf : cFits n s with
    | false => simp only [Bool.false_eq_true, if_false]; exact Ev.bind (p_specSets_no n s hs hf _ _ _ _) (Ev.now _)
    | true =>
      simp only [if_true]
      obtain ⟨m, rfl, h3, h6, hz, hA⟩ := c_fits_open n s hf
      rw [p_half m h6, Int.toNat_natCast]
      exact Ev.bind (p_specSets m s hs hf (m / 2) (by omega) 1 1 false) (Ev.now _)
  · simp only [if_neg h2]
    rw [p_mat_odd n s h2]; exact Ev.now _
theorem p_implMat (n : Int) (s : ByteArray) (hs : s.size ≤ 1099511627776) : Ev (fun k => impl_PlaneMatchings.f k n s) (pMat n s) := by
  unfold impl_PlaneMatchings.f pMat
  cases hf : cFits n s with
  | false => simp only [Bool.false_eq_true, if_false]; exact p_implSets_no n s hs hf _ _
  | true =>
    obtain ⟨m, rfl, h3, h6, hz, hA⟩ := c_fits_open n s hf
    simp only [if_true, Int.toNat_natCast]
    rw [p_half m h6]
    exact p_implSets m h3 h6 s hs hf (m / 2) _ _ (fun e _ _ => p_implHas m h3 (by omega) (e : Int) 1 1)

end Go.Proofs.Ytiimkifkakdalaa.P
