/- How many elements lie inside a triangle: what the program and the reference count. Conditions: order signs. -/
import Derived.Test.YtjjfjdejhddcnaaCInn
import Derived.Test.YtjjfjdejhddcnaaP79
import Derived.Test.YtjjfjdejhddcnaaP75
namespace Go.Proofs.Ytjjfjdejhddcnaa.P
open Go.RowKit Go.Proofs.YtjjfjdejhddcnaaW.PrintWords Go.Proofs.YtjjfjdejhddcnaaW.PrintLast
set_option linter.unusedVariables false
set_option linter.unusedSimpArgs false

def cCb (n : Nat) (s : ByteArray) (a b c p : Nat) : Nat := if (decide (p ≠ a) && decide (p ≠ b) && decide (p ≠ c) && cInn n s p (a, b, c)) = true then 1 else 0
def cCnt (n : Nat) (s : ByteArray) (a b c : Nat) : Nat := cRg (cCb n s a b c) 0 n
theorem c_cb_le (n : Nat) (s : ByteArray) (a b c p : Nat) : cCb n s a b c p ≤ 1 := by unfold cCb; split <;> omega
section
variable (n : Nat) (h3 : 3 ≤ n) (h7 : n ≤ 7) (s : ByteArray) (a b c : Nat) (hab : a < b) (hbc : b < c) (hc : c < n)
include h3 h7 hab hbc hc
theorem c_implCnt_l : ∀ (d p acc : Nat), p + d = n → acc ≤ p →
    Ev (fun k => impl_chi_countInside.l0 k (cTab n s) (a : Int) (b : Int) (c : Int) (acc : Int) (p : Int)) ((acc + cRg (cCb n s a b c) p d : Nat) : Int) := by
  have hl := c_tab_len n s
  have h344 : (344 : Int) ≤ ((cTab n s).length : Int) := by omega
  have hn0 := c_tab_n n h3 h7 s
  intro d
  induction d with
  | zero =>
    intro p acc hp ha
    rw [show cRg (cCb n s a b c) p 0 = 0 from rfl, Nat.add_zero]
    refine Ev.step (f := fun _ => some (acc : Int)) (fun k => ?_) (Ev.now _)
    simp only [impl_chi_countInside.l0]; rw [if_pos h344, hn0, if_neg (by omega)]
  | succ d ih =>
    intro p acc hp ha
    rw [c_rg_succ]
    have hle := c_cb_le n s a b c p
    have hn := ih (p + 1) (acc + cCb n s a b c p) (by omega) (by omega)
    rw [Nat.add_assoc] at hn
    have hpre : ∀ k, impl_chi_countInside.l0 (k + 1) (cTab n s) (a : Int) (b : Int) (c : Int) (acc : Int) (p : Int) = if p = a then impl_chi_countInside.l0 k (cTab n s) (a : Int) (b : Int) (c : Int) (acc : Int) ((p + 1 : Nat) : Int) else if p = b then impl_chi_countInside.l0 k (cTab n s) (a : Int) (b : Int) (c : Int) (acc : Int) ((p + 1 : Nat) : Int) else if p = c then impl_chi_countInside.l0 k (cTab n s) (a : Int) (b : Int) (c : Int) (acc : Int) ((p + 1 : Nat) : Int) else (impl_chi_isInside.f k (cTab n s) (p : Int) (a : Int) (b : Int) (c : Int)).bind (fun t => if t = true then impl_chi_countInside.l0 k (cTab n s) (a : Int) (b : Int) (c : Int) ((acc + 1 : Nat) : Int) ((p + 1 : Nat) : Int) else impl_chi_countInside.l0 k (cTab n s) (a : Int) (b : Int) (c : Int) (acc : Int) ((p + 1 : Nat) : Int)) := by
      intro k
      simp only [impl_chi_countInside.l0]
      rw [if_pos h344, hn0, if_pos (show (p : Int) < (n : Int) by omega), c_w1 p (by omega), c_w1 acc (by omega)]
      simp only [Int.ofNat_inj]
    by_cases h1 : p = a
    · have e : cCb n s a b c p = 0 := by unfold cCb; simp [h1]
      rw [e, Nat.add_zero] at hn; rw [e]
      exact Ev.step (fun k => by rw [hpre, if_pos h1]) hn
    · by_cases h2 : p = b
      · have e : cCb n s a b c p = 0 := by unfold cCb; simp [h2]
        rw [e, Nat.add_zero] at hn; rw [e]
        exact Ev.step (fun k => by rw [hpre, if_neg h1, if_pos h2]) hn
      · by_cases h4 : p = c
        · have e : cCb n s a b c p = 0 := by unfold cCb; simp [h4]
          rw [e, Nat.add_zero] at hn; rw [e]
          exact Ev.step (fun k => by rw [hpre, if_neg h1, if_neg h2, if_pos h4]) hn
        · have e : cCb n s a b c p = if cInn n s p (a, b, c) = true then 1 else 0 := by unfold cCb; simp [h1, h2, h4]
          rw [e] at hn; rw [e]
          refine Ev.step (fun k => by rw [hpre, if_neg h1, if_neg h2, if_neg h4]) (Ev.bind (c_implInside n h3 h7 s p a b c (by simp only [cD4]; omega)) ?_)
          cases hi : cInn n s p (a, b, c) with
          | true => rw [hi] at hn; simp only [if_true] at hn ⊢; exact hn
          | false => rw [hi] at hn; simp only [Bool.false_eq_true, if_false, Nat.add_zero] at hn ⊢; exact hn
theorem c_implCnt : Ev (fun k => impl_chi_countInside.f k (cTab n s) (a : Int) (b : Int) (c : Int)) ((cCnt n s a b c : Nat) : Int) := by
  have h := c_implCnt_l n h3 h7 s a b c hab hbc hc n 0 0 (by omega) (by omega)
  rw [Nat.zero_add] at h
  exact h
theorem c_specCnt_l (hs : s.size = (cTrips n).length) : ∀ (d p acc : Nat), p + d = n → acc ≤ p →
    Ev (fun k => spec_l5Inside.l0 k (a : Int) (b : Int) (c : Int) (acc : Int) (p : Int) (n : Int) s) ((acc + cRg (cCb n s a b c) p d : Nat) : Int) := by
  intro d
  induction d with
  | zero =>
    intro p acc hp ha
    rw [show cRg (cCb n s a b c) p 0 = 0 from rfl, Nat.add_zero]
    refine Ev.step (f := fun _ => some (acc : Int)) (fun k => ?_) (Ev.now _)
    simp only [spec_l5Inside.l0]; rw [if_neg (by omega)]
  | succ d ih =>
    intro p acc hp ha
    rw [c_rg_succ]
    have hle := c_cb_le n s a b c p
    have hn := ih (p + 1) (acc + cCb n s a b c p) (by omega) (by omega)
    rw [Nat.add_assoc] at hn
    have hpre : ∀ k, spec_l5Inside.l0 (k + 1) (a : Int) (b : Int) (c : Int) (acc : Int) (p : Int) (n : Int) s = if p = a then spec_l5Inside.l0 k (a : Int) (b : Int) (c : Int) (acc : Int) ((p + 1 : Nat) : Int) (n : Int) s else if p = b then spec_l5Inside.l0 k (a : Int) (b : Int) (c : Int) (acc : Int) ((p + 1 : Nat) : Int) (n : Int) s else if p = c then spec_l5Inside.l0 k (a : Int) (b : Int) (c : Int) (acc : Int) ((p + 1 : Nat) : Int) (n : Int) s else (spec_l5Inner.f k (n : Int) s [(p : Int), (a : Int), (b : Int), (c : Int)]).bind (fun t => if t = (p : Int) then spec_l5Inside.l0 k (a : Int) (b : Int) (c : Int) ((acc + 1 : Nat) : Int) ((p + 1 : Nat) : Int) (n : Int) s else spec_l5Inside.l0 k (a : Int) (b : Int) (c : Int) (acc : Int) ((p + 1 : Nat) : Int) (n : Int) s) := by
      intro k
      simp only [spec_l5Inside.l0]
      rw [if_pos (show (p : Int) < (n : Int) by omega), c_w1 p (by omega), c_w1 acc (by omega)]
      simp only [Int.ofNat_inj]
    by_cases h1 : p = a
    · have e : cCb n s a b c p = 0 := by unfold cCb; simp [h1]
      rw [e, Nat.add_zero] at hn; rw [e]
      exact Ev.step (fun k => by rw [hpre, if_pos h1]) hn
    · by_cases h2 : p = b
      · have e : cCb n s a b c p = 0 := by unfold cCb; simp [h2]
        rw [e, Nat.add_zero] at hn; rw [e]
        exact Ev.step (fun k => by rw [hpre, if_neg h1, if_pos h2]) hn
      · by_cases h4 : p = c
        · have e : cCb n s a b c p = 0 := by unfold cCb; simp [h4]
          rw [e, Nat.add_zero] at hn; rw [e]
          exact Ev.step (fun k => by rw [hpre, if_neg h1, if_neg h2, if_pos h4]) hn
        · have e : cCb n s a b c p = if cIv n s (p, a, b, c) = (p : Int) then 1 else 0 := by
            unfold cCb cInn; simp [h1, h2, h4]
          rw [e] at hn; rw [e]
          refine Ev.step (fun k => by rw [hpre, if_neg h1, if_neg h2, if_neg h4]) (Ev.bind (c_specInner n h3 h7 s hs p a b c (by simp only [cD4]; omega)) ?_)
          by_cases hi : cIv n s (p, a, b, c) = (p : Int)
          · rw [if_pos hi] at hn; simp only [if_pos hi]; exact hn
          · rw [if_neg hi, Nat.add_zero] at hn; simp only [if_neg hi]; exact hn
theorem c_specCnt (hs : s.size = (cTrips n).length) : Ev (fun k => spec_l5Inside.f k (n : Int) s (a : Int) (b : Int) (c : Int)) ((cCnt n s a b c : Nat) : Int) := by
  have h := c_specCnt_l n h3 h7 s a b c hab hbc hc hs n 0 0 (by omega) (by omega)
  rw [Nat.zero_add] at h
  exact h
end

end Go.Proofs.Ytjjfjdejhddcnaa.P
