/- The reference's count of the elements of a set. Conditions: a number below 2^24. -/
import Derived.Test.YtjjfjdejhddcnaaCPop
import Derived.Laws.BitsLemmas
import Derived.Test.YtjjfjdejhddcnaaP92
namespace Go.Proofs.Ytjjfjdejhddcnaa.P
open Go.RowKit Go.Proofs.YtjjfjdejhddcnaaW.PrintWords Go.Proofs.YtjjfjdejhddcnaaW.PrintLast
set_option linter.unusedVariables false

/-- The reference's count of one bits. -/
theorem c_bits_l : ∀ (x : Nat) (acc : Nat), acc + x < 33554432 → Ev (fun k => spec_l7Bits.l0 k (x : Int) (acc : Int)) ((acc + cPop x : Nat) : Int) := by
  intro x
  induction x using Nat.strongRecOn with
  | _ x ih =>
    intro acc hx
    by_cases h0 : x = 0
    · subst h0
      refine Ev.step (f := fun k => some (acc : Int)) (fun k => ?_) ?_
      · simp only [spec_l7Bits.l0]; rw [if_neg (by omega)]
      · simp only [cPop, Nat.add_zero]; exact Ev.now _
    · have hb : Go.bits .and .i64 (x : Int) 1 = ((x % 2 : Nat) : Int) := by
        have u : Go.bits .and .i64 (x : Int) 1 = ((x &&& 1 : Nat) : Int) := (bits_nat .i64 63 (by decide) (fun n h0 h1 => by rw [IntKind.wrap_i64]; omega) x 1 (by omega) (by omega)).1
        rw [u, Nat.and_one_is_mod]
      refine Ev.step (f := fun k => spec_l7Bits.l0 k ((x / 2 : Nat) : Int) ((acc + x % 2 : Nat) : Int)) (fun k => ?_) ?_
      · simp only [spec_l7Bits.l0]; rw [if_pos (by omega), hb, c_wid _ (by omega) (by omega)]
        rw [show (x : Int) / 2 = ((x / 2 : Nat) : Int) by omega, show (acc : Int) + ((x % 2 : Nat) : Int) = ((acc + x % 2 : Nat) : Int) by omega]
      · have := ih (x / 2) (by omega) (acc + x % 2) (by omega)
        rw [cPop_eq x, ← Nat.add_assoc]; exact this
theorem c_bits7 (x : Nat) (hx : x < 16777216) : Ev (fun k => spec_l7Bits.f k (x : Int)) (cPop x : Int) := by
  unfold spec_l7Bits.f
  have := c_bits_l x 0 (by omega)
  simpa using this

end Go.Proofs.Ytjjfjdejhddcnaa.P
