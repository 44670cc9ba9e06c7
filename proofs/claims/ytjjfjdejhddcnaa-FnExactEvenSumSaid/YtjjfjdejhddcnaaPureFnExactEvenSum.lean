/- For all signs the program's EvenSum returns what the reference's returns. Conditions: none. -/
import Derived.Test.YtjjfjdejhddcnaaCEmpty
import Derived.Test.YtjjfjdejhddcnaaP38
import Derived.Test.YtjjfjdejhddcnaaP12
namespace Go.Proofs.Ytjjfjdejhddcnaa.P
open Go.RowKit Go.Proofs.YtjjfjdejhddcnaaW.PrintWords Go.Proofs.YtjjfjdejhddcnaaW.PrintLast
set_option linter.unusedVariables false
set_option linter.unusedSimpArgs false

/-- The sum from c on: d numbers. -/
def cEv (n : Int) (s : ByteArray) : Nat → Int → Int → Nat → Int
  | 0, x, _, _ => x
  | d + 1, x, y, c => cEv n s d (wrap64 (x + wrap64 (y * ((cCs n s (c : Int) true).length : Int)))) (wrap64 (-y)) (c + 1)
theorem c_implEv (n : Nat) (hn : n ≤ 7) (s : ByteArray) (hs : s.size ≤ 1099511627776) : ∀ (d : Nat) (x y : Int) (c : Nat), c + d = n + 1 → Ev (fun k => impl_EvenSum.l0 k (n : Int) s x y (c : Int)) (cEv (n : Int) s d x y c)
  | 0, x, y, c, h => by
    refine Ev.step (f := fun _ => some x) (fun k => ?_) (Ev.now _)
    simp only [impl_EvenSum.l0]; rw [if_neg (by omega)]
  | d + 1, x, y, c, h => by
    have ih := c_implEv n hn s hs d (wrap64 (x + wrap64 (y * ((cCs n s (c : Int) true).length : Int)))) (wrap64 (-y)) (c + 1) (by omega)
    refine Ev.step (fun k => by simp only [impl_EvenSum.l0]; rw [if_pos (show (c : Int) ≤ (n : Int) by omega), c_w1 c (by omega)]) (Ev.bind (c_implEmptySets (n : Int) s hs (c : Int)) ?_)
    exact ih
theorem c_specEv (n : Nat) (hn : n ≤ 7) (s : ByteArray) (hs : s.size ≤ 1099511627776) : ∀ (d : Nat) (x y : Int) (c : Nat), c + d = n + 1 → Ev (fun k => spec_EvenSum.l0 k x y (c : Int) (n : Int) s) (cEv (n : Int) s d x y c)
  | 0, x, y, c, h => by
    refine Ev.step (f := fun _ => some x) (fun k => ?_) (Ev.now _)
    simp only [spec_EvenSum.l0]; rw [if_neg (by omega)]
  | d + 1, x, y, c, h => by
    have ih := c_specEv n hn s hs d (wrap64 (x + wrap64 (y * ((cCs n s (c : Int) true).length : Int)))) (wrap64 (-y)) (c + 1) (by omega)
    refine Ev.step (fun k => by simp only [spec_EvenSum.l0]; rw [if_pos (show (c : Int) ≤ (n : Int) by omega), c_w1 c (by omega)]) (Ev.bind (c_specL8 (n : Int) s hs (c : Int) true) ?_)
    exact ih
def cEvs (n : Int) (s : ByteArray) : Int := if cAcy n s = true then cEv n s (n.toNat - 2) 0 1 3 else -1
theorem c_implEvenSum (n : Int) (s : ByteArray) (hs : s.size ≤ 1099511627776) : Ev (fun k => impl_EvenSum.f k n s) (cEvs n s) := by
  unfold impl_EvenSum.f cEvs
  refine Ev.bind (c_implAcy n s hs) ?_
  by_cases h : cAcy n s = true
  · obtain ⟨m, rfl, h3, h7, hz2⟩ := c_acy_open n s h
    simp only [h, if_true, Int.toNat_natCast]
    exact c_implEv m h7 s hs (m - 2) 0 1 3 (by omega)
  · simp only [h, Bool.false_eq_true, if_false]; exact Ev.now _
theorem c_specEvenSum (n : Int) (s : ByteArray) (hs : s.size ≤ 1099511627776) : Ev (fun k => spec_EvenSum.f k n s) (cEvs n s) := by
  unfold spec_EvenSum.f cEvs
  refine Ev.bind (c_specAcy n s hs) ?_
  by_cases h : cAcy n s = true
  · obtain ⟨m, rfl, h3, h7, hz2⟩ := c_acy_open n s h
    simp only [h, if_true, Int.toNat_natCast]
    exact c_specEv m h7 s hs (m - 2) 0 1 3 (by omega)
  · simp only [h, Bool.false_eq_true, if_false]; exact Ev.now _

end Go.Proofs.Ytjjfjdejhddcnaa.P
namespace Go.Proofs.Ytjjfjdejhddcnaa.Pure
open Go.RowKit Go.Proofs.Ytjjfjdejhddcnaa.P Go.Proofs.YtjjfjdejhddcnaaW.PrintWords Go.Proofs.YtjjfjdejhddcnaaW.PrintLast
set_option linter.unusedVariables false

theorem FnExactEvenSum : laws_FnExactEvenSum.Pure := by
  intro n s _ hs0
  apply Ev.rounds
  unfold laws_FnExactEvenSum.f laws_szSigns.f laws_toSigns.f
  by_cases hz : wrap64 (1048576 - (s.size : Int)) < 0
  · simp only [if_pos hz, Option.bind_some, show ((-1 : Int) < 0) by decide, if_true]
    exact Ev.now _
  · simp only [if_neg hz, Option.bind_some]
    have hs : s.size ≤ 1099511627776 := by rw [c_wid _ (by omega) (by omega)] at hz; omega
    have hS := c_specEvenSum n s hs
    have hI := c_implEvenSum n s hs
    repeat' first
      | exact Ev.now _
      | (refine Ev.bind hS ?_; try dsimp only)
      | (refine Ev.bind hI ?_; try dsimp only)
      | (simp only [if_true])

end Go.Proofs.Ytjjfjdejhddcnaa.Pure
