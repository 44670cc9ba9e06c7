/- For all pairs of signs the program's SignDistance returns what the reference's returns. Conditions: none. -/
import Derived.Test.YtfgnijcclnleaaaCText
import Derived.Test.YtfgnijcclnleaaaOSDist
import Derived.Test.YtfgnijcclnleaaaP17
import Derived.Test.YtfgnijcclnleaaaP6
namespace Go.Proofs.Ytfgnijcclnleaaa.P
open Go.RowKit Go.Proofs.YtfgnijcclnleaaaW.PrintWords Go.Proofs.YtfgnijcclnleaaaW.PrintLast
set_option linter.unusedVariables false
set_option linter.unusedSimpArgs false

/-- The number of different signs from p on. -/
def cDs (s t : ByteArray) : Nat → Nat → Nat → Nat
  | 0, _, c => c
  | d + 1, p, c => cDs s t d (p + 1) (if bt s (p : Int) = bt t (p : Int) then c else c + 1)
theorem c_specDs (n m : Int) (s t : ByteArray) (hs : s.size ≤ 1099511627776) (ht : t.size = s.size) : ∀ (d p c : Nat), p + d = s.size → c ≤ p → Ev (fun k => spec_SignDistance.l0 k (c : Int) (p : Int) n s m t) ((cDs s t d p c : Nat) : Int)
  | 0, p, c, h, hc => by
    refine Ev.step (f := fun _ => some (c : Int)) (fun k => ?_) (Ev.now _)
    simp only [spec_SignDistance.l0]; rw [if_neg (by omega)]
  | d + 1, p, c, h, hc => by
    by_cases e : bt s (p : Int) = bt t (p : Int)
    · have ih := c_specDs n m s t hs ht d (p + 1) c (by omega) (by omega)
      have e1 : (bt s (p : Int) != bt t (p : Int)) = false := bne_eq_false_iff_eq.mpr e
      simp only [cDs, if_pos e]
      refine Ev.step (f := fun k => spec_SignDistance.l0 k (c : Int) ((p + 1 : Nat) : Int) n s m t) (fun k => ?_) ih
      simp only [spec_SignDistance.l0, e1, spec_l1Bit.f, Bool.false_eq_true, if_false, Option.bind_some]
      rw [if_pos (by omega), if_pos (by omega), if_pos (by omega), c_w1 p (by omega), Int.add_zero, c_wid _ (by omega) (by omega)]
    · have ih := c_specDs n m s t hs ht d (p + 1) (c + 1) (by omega) (by omega)
      have e1 : (bt s (p : Int) != bt t (p : Int)) = true := bne_iff_ne.mpr e
      simp only [cDs, if_neg e]
      refine Ev.step (f := fun k => spec_SignDistance.l0 k ((c + 1 : Nat) : Int) ((p + 1 : Nat) : Int) n s m t) (fun k => ?_) ih
      simp only [spec_SignDistance.l0, e1, spec_l1Bit.f, if_true, Option.bind_some]
      rw [if_pos (by omega), if_pos (by omega), if_pos (by omega), c_w1 p (by omega), c_w1 c (by omega)]
theorem c_implDs (s t : ByteArray) (hs : s.size ≤ 1099511627776) (ht : t.size = s.size) (ha : ∀ p, p < s.size → bt s (p : Int) < 128) : ∀ (d p c : Nat), p + d = s.size → c ≤ p → Ev (fun k => impl_SignDistance.l0 k s t p (c : Int)) ((cDs s t d p c : Nat) : Int)
  | 0, p, c, h, hc => by
    refine Ev.step (f := fun _ => some (c : Int)) (fun k => ?_) (Ev.now _)
    simp only [impl_SignDistance.l0]; rw [if_neg (by omega)]
  | d + 1, p, c, h, hc => by
    have h128 := ha p (by omega)
    by_cases e : bt s (p : Int) = bt t (p : Int)
    · have ih := c_implDs s t hs ht ha d (p + 1) c (by omega) (by omega)
      simp only [cDs, if_pos e]
      refine Ev.step (f := fun k => impl_SignDistance.l0 k s t (p + 1) (c : Int)) (fun k => ?_) ih
      simp only [impl_SignDistance.l0]
      rw [if_pos (by omega), if_pos h128, if_pos (by omega), if_pos e]
    · have ih := c_implDs s t hs ht ha d (p + 1) (c + 1) (by omega) (by omega)
      simp only [cDs, if_neg e]
      refine Ev.step (f := fun k => impl_SignDistance.l0 k s t (p + 1) ((c + 1 : Nat) : Int)) (fun k => ?_) ih
      simp only [impl_SignDistance.l0]
      rw [if_pos (by omega), if_pos h128, if_pos (by omega), if_neg e, c_w1 c (by omega)]
def cSd (n : Int) (s : ByteArray) (m : Int) (t : ByteArray) : Int := if cSigns n s = true ∧ cSigns m t = true ∧ n = m then ((cDs s t s.size 0 0 : Nat) : Int) else -1
theorem c_signs_lt (n : Int) (s : ByteArray) (h : cSigns n s = true) (p : Nat) (hp : p < s.size) : bt s (p : Int) < 128 := by
  unfold cSigns at h
  rw [Bool.and_eq_true] at h
  have := List.all_eq_true.mp h.2 p (List.mem_range'_1.mpr (by omega))
  rw [decide_eq_true_eq] at this
  omega
theorem c_implSd (n : Int) (s : ByteArray) (m : Int) (t : ByteArray) (hs : s.size ≤ 1099511627776) (ht : t.size ≤ 1099511627776) : Ev (fun k => impl_SignDistance.f k n s m t) (cSd n s m t) := by
  unfold impl_SignDistance.f cSd
  refine Ev.bind (c_implSigns n s hs) ?_
  by_cases h1 : cSigns n s = true
  · simp only [h1, if_true, true_and]
    refine Ev.bind (c_implSigns m t ht) ?_
    by_cases h2 : cSigns m t = true
    · simp only [h2, if_true, true_and]
      by_cases h3 : n = m
      · obtain ⟨a, ha, _, _, hz1⟩ := c_signs_open n s h1
        obtain ⟨b, hb, _, _, hz2⟩ := c_signs_open m t h2
        have hab : a = b := by omega
        simp only [if_pos h3, if_pos (show s.size < 4611686018427387904 by omega)]
        exact c_implDs s t hs (by rw [hz1, hz2, hab]) (c_signs_lt n s h1) s.size 0 0 (by omega) (by omega)
      · simp only [if_neg h3]; exact Ev.now _
    · simp only [h2, Bool.false_eq_true, if_false, false_and]; exact Ev.now _
  · simp only [h1, Bool.false_eq_true, if_false, false_and]; exact Ev.now _
theorem c_specSd (n : Int) (s : ByteArray) (m : Int) (t : ByteArray) (hs : s.size ≤ 1099511627776) (ht : t.size ≤ 1099511627776) : Ev (fun k => spec_SignDistance.f k n s m t) (cSd n s m t) := by
  unfold spec_SignDistance.f cSd
  have hno : Ev (fun k => spec_SignDistance.j0 k true n s m t) (-1) := by
    refine Ev.step (f := fun _ => some (-1 : Int)) (fun k => ?_) (Ev.now _)
    simp only [spec_SignDistance.j0, if_true]
  refine Ev.bind (c_specSigns n s hs) ?_
  by_cases h1 : cSigns n s = true
  · simp only [h1, if_true, true_and]
    refine Ev.bind (c_specSigns m t ht) ?_
    by_cases h2 : cSigns m t = true
    · simp only [h2, if_true, true_and]
      by_cases h3 : n = m
      · obtain ⟨a, ha, _, _, hz1⟩ := c_signs_open n s h1
        obtain ⟨b, hb, _, _, hz2⟩ := c_signs_open m t h2
        have hab : a = b := by omega
        simp only [if_pos h3, show (n != m) = false from bne_eq_false_iff_eq.mpr h3]
        refine Ev.step (f := fun k => spec_SignDistance.l0 k 0 0 n s m t) (fun k => by simp only [spec_SignDistance.j0, Bool.false_eq_true, if_false]) ?_
        exact c_specDs n m s t hs (by rw [hz1, hz2, hab]) s.size 0 0 (by omega) (by omega)
      · simp only [if_neg h3, show (n != m) = true from bne_iff_ne.mpr h3]; exact hno
    · simp only [h2, Bool.false_eq_true, if_false, false_and]; exact hno
  · simp only [h1, Bool.false_eq_true, if_false, false_and]; exact hno

end Go.Proofs.Ytfgnijcclnleaaa.P
namespace Go.Proofs.Ytfgnijcclnleaaa.Pure
open Go.RowKit Go.Proofs.Ytfgnijcclnleaaa.P Go.Proofs.YtfgnijcclnleaaaW.PrintWords Go.Proofs.YtfgnijcclnleaaaW.PrintLast
set_option linter.unusedVariables false

theorem FnExactSignDistance : laws_FnExactSignDistance.Pure := by
  intro n s m t
  intros
  apply Ev.rounds
  unfold laws_FnExactSignDistance.f laws_szSigns.f laws_toSigns.f
  by_cases hz : wrap64 (1048576 - (s.size : Int)) < 0
  · simp only [if_pos hz, Option.bind_some, show ((-1 : Int) < 0) by decide, if_true]
    exact Ev.now _
  · simp only [if_neg hz, Option.bind_some]
    have hs : s.size ≤ 1048576 := by
      rw [c_wid _ (by omega) (by omega)] at hz; omega
    by_cases hy : wrap64 (wrap64 (1048576 - (s.size : Int)) - (t.size : Int)) < 0
    · simp only [if_pos hy, Option.bind_some, show ((-1 : Int) < 0) by decide, if_true]
      exact Ev.now _
    · simp only [if_neg hy, Option.bind_some]
      have ht : t.size ≤ 1099511627776 := by
        rw [c_wid (1048576 - (s.size : Int)) (by omega) (by omega), c_wid _ (by omega) (by omega)] at hy; omega
      have hS := c_specSd n s m t (by omega) ht
      have hI := c_implSd n s m t (by omega) ht
      repeat' first
        | exact Ev.now _
        | (refine Ev.bind hS ?_; try dsimp only)
        | (refine Ev.bind hI ?_; try dsimp only)
        | (simp only [if_true])

end Go.Proofs.Ytfgnijcclnleaaa.Pure
