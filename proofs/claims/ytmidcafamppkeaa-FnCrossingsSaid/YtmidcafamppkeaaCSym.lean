/- Crossing is symmetric. Conditions: order signs. -/
import Derived.Test.YtmidcafamppkeaaCXing
namespace Go.Proofs.Ytmidcafamppkeaa.P
open Go.RowKit Go.Proofs.YtmidcafamppkeaaW.PrintWords Go.Proofs.YtmidcafamppkeaaW.PrintLast
set_option linter.unusedVariables false

theorem c_pos_cyc : ∀ n ∈ [3, 4, 5, 6, 7], ∀ a ∈ List.range n, ∀ b ∈ List.range n, ∀ c ∈ List.range n, (a ≠ b ∧ a ≠ c ∧ b ≠ c) → cPos n a b c = cPos n b c a := by decide +kernel
theorem c_at_cyc (n : Nat) (h3 : 3 ≤ n) (h7 : n ≤ 7) (s : ByteArray) (a b c : Nat) (h : cD3 n a b c) : cAt n s a b c = cAt n s b c a := by
  obtain ⟨ha, hb, hc, hab, hac, hbc⟩ := h
  unfold cAt
  rw [c_pos_cyc n (c_five n h3 h7) a (by simpa using ha) b (by simpa using hb) c (by simpa using hc) ⟨hab, hac, hbc⟩]
theorem c_cr_sym : ∀ x ∈ [(1 : Int), -1], ∀ y ∈ [(1 : Int), -1], ∀ z ∈ [(1 : Int), -1], ∀ u ∈ [(1 : Int), -1], ∀ a ∈ List.range 7, ∀ b ∈ List.range 7, ∀ c ∈ List.range 7, ∀ d ∈ List.range 7, (a ≠ b ∧ a ≠ c ∧ a ≠ d ∧ b ≠ c ∧ b ≠ d ∧ c ≠ d) → cCr (cCirc z u x y) (c, d, a, b) = cCr (cCirc x y z u) (a, b, c, d) := by decide +kernel
theorem c_cx_sym (n : Nat) (h3 : 3 ≤ n) (h7 : n ≤ 7) (s : ByteArray) (p r : Nat × Nat) : cCx n s p r = cCx n s r p := by
  obtain ⟨a, b⟩ := p
  obtain ⟨c, d⟩ := r
  unfold cCx
  by_cases h : cD4 n (a, b, c, d)
  · have h' := h
    simp only [cD4] at h'
    have h2 : cD4 n (c, d, a, b) := by simp only [cD4]; omega
    rw [if_pos h, if_pos h2]
    have e : cCq n s (c, d, a, b) = cCirc (cAt n s a b d) (cAt n s a b c) (cAt n s b c d) (cAt n s a c d) := by
      unfold cCq
      simp only
      rw [c_at_cyc n h3 h7 s d a b ⟨by omega, by omega, by omega, by omega, by omega, by omega⟩, c_at_cyc n h3 h7 s c a b ⟨by omega, by omega, by omega, by omega, by omega, by omega⟩, ← c_at_cyc n h3 h7 s b c d ⟨by omega, by omega, by omega, by omega, by omega, by omega⟩, ← c_at_cyc n h3 h7 s a c d ⟨by omega, by omega, by omega, by omega, by omega, by omega⟩]
    rw [e]
    exact (c_cr_sym _ (c_pm_mem n s b c d) _ (c_pm_mem n s a c d) _ (c_pm_mem n s a b d) _ (c_pm_mem n s a b c) a (by simp; omega) b (by simp; omega) c (by simp; omega) d (by simp; omega) (by omega)).symm
  · have h2 : ¬ cD4 n (c, d, a, b) := by
      simp only [cD4] at h ⊢
      omega
    rw [if_neg h, if_neg h2]

end Go.Proofs.Ytmidcafamppkeaa.P
