/- For all signs and every four numbers the program's DoCross returns what the reference's returns. Conditions: none. -/
import Derived.Test.YtjjfjdejhddcnaaCCross
import Derived.Test.YtjjfjdejhddcnaaCDiff
import Derived.Test.YtjjfjdejhddcnaaP20
import Derived.Test.YtjjfjdejhddcnaaP50
namespace Go.Proofs.Ytjjfjdejhddcnaa.Pure
open Go.RowKit Go.Proofs.Ytjjfjdejhddcnaa.P Go.Proofs.YtjjfjdejhddcnaaW.PrintWords Go.Proofs.YtjjfjdejhddcnaaW.PrintLast
set_option linter.unusedVariables false

theorem c_diff_four (n a b c d : Int) (h : cDiff n [] [a, b, c, d] = true) : (0 ≤ a ∧ a < n) ∧ (0 ≤ b ∧ b < n) ∧ (0 ≤ c ∧ c < n) ∧ (0 ≤ d ∧ d < n) ∧ a ≠ b ∧ a ≠ c ∧ a ≠ d ∧ b ≠ c ∧ b ≠ d ∧ c ≠ d := by
  simp only [cDiff] at h
  by_cases h1 : 0 ≤ a ∧ a < n
  · rw [if_pos h1, if_neg (by simp)] at h
    by_cases h2 : 0 ≤ b ∧ b < n
    · rw [if_pos h2] at h
      by_cases e2 : b ∈ ([] ++ [a] : List Int)
      · rw [if_pos e2] at h; cases h
      rw [if_neg e2] at h
      by_cases h3 : 0 ≤ c ∧ c < n
      · rw [if_pos h3] at h
        by_cases e3 : c ∈ ([] ++ [a] ++ [b] : List Int)
        · rw [if_pos e3] at h; cases h
        rw [if_neg e3] at h
        by_cases h4 : 0 ≤ d ∧ d < n
        · rw [if_pos h4] at h
          by_cases e4 : d ∈ ([] ++ [a] ++ [b] ++ [c] : List Int)
          · rw [if_pos e4] at h; cases h
          simp at e2 e3 e4
          exact ⟨h1, h2, h3, h4, by omega, by omega, by omega, by omega, by omega, by omega⟩
        · rw [if_neg h4] at h; cases h
      · rw [if_neg h3] at h; cases h
    · rw [if_neg h2] at h; cases h
  · rw [if_neg h1] at h; cases h
theorem FnExactDoCross : laws_FnExactDoCross.Pure := by
  intro n s a b c d _ hs0 _ _ _ _
  apply Ev.rounds
  unfold laws_FnExactDoCross.f laws_szSigns.f laws_toSigns.f
  by_cases hz : wrap64 (1048576 - (s.size : Int)) < 0
  · simp only [if_pos hz, Option.bind_some, show ((-1 : Int) < 0) by decide, if_true]
    exact Ev.now _
  · simp only [if_neg hz, Option.bind_some]
    have hs : s.size ≤ 1099511627776 := by rw [c_wid _ (by omega) (by omega)] at hz; omega
    unfold spec_DoCross.f impl_DoCross.f
    have hA := c_specAcy n s hs
    have hO := c_orderOf n s hs
    by_cases h : cAcy n s = true
    · rw [h] at hA
      rw [if_pos h] at hO
      obtain ⟨m, rfl, h3, h7, hz2⟩ := c_acy_open n s h
      have hd1 := c_specDiff (m : Int) (by omega) (by omega) [a, b, c, d] (by simp)
      have hd2 := c_implDiff (m : Int) [a, b, c, d] (by simp)
      by_cases hd : cDiff (m : Int) [] [a, b, c, d] = true
      · rw [hd] at hd1 hd2
        obtain ⟨ha, hb, hc, hdd, hne⟩ := c_diff_four _ a b c d hd
        obtain ⟨a, rfl⟩ : ∃ x : Nat, a = (x : Int) := ⟨a.toNat, by omega⟩
        obtain ⟨b, rfl⟩ : ∃ x : Nat, b = (x : Int) := ⟨b.toNat, by omega⟩
        obtain ⟨c, rfl⟩ : ∃ x : Nat, c = (x : Int) := ⟨c.toNat, by omega⟩
        obtain ⟨d, rfl⟩ : ∃ x : Nat, d = (x : Int) := ⟨d.toNat, by omega⟩
        have h4 : cD4 m (a, b, c, d) := by unfold cD4; simp only; omega
        refine Ev.bind (a := cCr (cCq m s (a, b, c, d)) (a, b, c, d)) (Ev.bind hA ?_) (Ev.bind (a := cCr (cCq m s (a, b, c, d)) (a, b, c, d)) (Ev.bind hO ?_) ?_)
        · simp only [if_true]
          refine Ev.bind hd1 ?_
          simp only [if_true]
          exact Ev.bind (c_specCross m h3 h7 s hz2 a b c d h4) (Ev.now _)
        · simp only [if_true]
          refine Ev.bind hd2 ?_
          simp only [if_true]
          exact Ev.bind (c_implCross m h3 h7 s a b c d h4) (Ev.now _)
        · simp only [bne_self_eq_false, Bool.false_eq_true, if_false]
          exact Ev.now _
      · rw [Bool.not_eq_true] at hd
        rw [hd] at hd1 hd2
        refine Ev.bind (a := false) (Ev.bind hA ?_) (Ev.bind (a := false) (Ev.bind hO ?_) ?_)
        · simp only [if_true]
          refine Ev.bind hd1 ?_
          simp only [Bool.false_eq_true, if_false]; exact Ev.now _
        · simp only [if_true]
          refine Ev.bind hd2 ?_
          simp only [Bool.false_eq_true, if_false]; exact Ev.now _
        · simp only [bne_self_eq_false, Bool.false_eq_true, if_false]
          exact Ev.now _
    · rw [if_neg h] at hO
      rw [Bool.not_eq_true] at h
      rw [h] at hA
      refine Ev.bind (a := false) (Ev.bind hA ?_) (Ev.bind (a := false) (Ev.bind hO ?_) ?_)
      · simp only [Bool.false_eq_true, if_false]; exact Ev.now _
      · simp only [Bool.false_eq_true, if_false]; exact Ev.now _
      · simp only [bne_self_eq_false, Bool.false_eq_true, if_false]
        exact Ev.now _

end Go.Proofs.Ytjjfjdejhddcnaa.Pure
