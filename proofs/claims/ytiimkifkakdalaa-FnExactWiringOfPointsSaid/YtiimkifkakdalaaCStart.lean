/- The wires' first order, an exchange, and lists of exchanges. Conditions: none. -/
import Derived.Test.YtiimkifkakdalaaCBase
import Derived.Test.YtiimkifkakdalaaOSwap
import Derived.Test.YtiimkifkakdalaaP53
namespace Go.Proofs.Ytiimkifkakdalaa.P
open Go.RowKit Go.Proofs.YtiimkifkakdalaaW.PrintWords Go.Proofs.YtiimkifkakdalaaW.PrintLast
set_option linter.unusedVariables false

/-- The wires in their first order. -/
def cStart (n : Nat) : List Int := (List.range n).map fun (i : Nat) => (i : Int)
/-- The exchange at a place. -/
def cSwap (ws : List Int) (p : Nat) : List Int := (ws.set p (ws.getD (p + 1) 0)).set (p + 1) (ws.getD p 0)
/-- Whether the exchange at a place can be done. -/
def cOk (ws : List Int) (p : Int) : Prop := 0 ≤ p ∧ p ≤ (ws.length : Int) - 2 ∧ ws.getD p.toNat 0 ≤ ws.getD (p.toNat + 1) 0
instance (ws : List Int) (p : Int) : Decidable (cOk ws p) := by unfold cOk; exact inferInstance
/-- Whether a list of exchanges can be done. -/
def cRun : List Int → List Int → Bool
  | _, [] => true
  | ws, p :: w => if cOk ws p then cRun (cSwap ws p.toNat) w else false
/-- The wires behind a list of exchanges. -/
def cAfter : List Int → List Int → List Int
  | ws, [] => ws
  | ws, p :: w => cAfter (cSwap ws p.toNat) w
def cIsW (n : Int) (w : List Int) : Bool := decide (3 ≤ n ∧ n ≤ 6 ∧ (w.length : Int) = n * (n - 1) / 2) && cRun (cStart n.toNat) w
theorem cSwap_length (ws : List Int) (p : Nat) : (cSwap ws p).length = ws.length := by simp [cSwap]
theorem cStart_length (n : Nat) : (cStart n).length = n := by simp [cStart]
theorem cAfter_length (w : List Int) : ∀ ws, (cAfter ws w).length = ws.length := by
  induction w with
  | nil => intro ws; rfl
  | cons p w ih => intro ws; simp only [cAfter]; rw [ih, cSwap_length]

theorem c_swap (ws : List Int) (p : Int) (hn : 2 ≤ ws.length) (hl : ws.length ≤ 1099511627776) :
    spec_l12Swap.f ws p = some (if cOk ws p then (true, cSwap ws p.toNat) else (false, ws)) := by
  unfold spec_l12Swap.f spec_l1In.f
  rw [c_wid ((ws.length : Int) - 2) (by omega) (by omega)]
  by_cases h0 : p ≥ 0
  · rw [if_pos h0]; simp only [Option.bind_some]
    by_cases h1 : p ≤ (ws.length : Int) - 2
    · obtain ⟨q, rfl⟩ : ∃ q : Nat, p = (q : Int) := ⟨p.toNat, by omega⟩
      rw [if_pos (decide_eq_true h1), if_pos h0, if_pos (by omega), c_w1 q (by omega), if_pos (by omega), if_pos (by omega), c_rd, c_rd]
      by_cases h2 : ws.getD q 0 > ws.getD (q + 1) 0
      · rw [if_pos h2, if_neg (by unfold cOk; simp only [Int.toNat_natCast]; omega)]
      · rw [if_neg h2, if_pos (by unfold cOk; simp only [Int.toNat_natCast]; omega)]
        simp [cSwap]
    · rw [if_neg (by simpa using h1), if_neg (by unfold cOk; omega)]
  · rw [if_neg h0]; simp only [Option.bind_some]
    rw [if_neg (by simp), if_neg (by unfold cOk; omega)]

theorem c_start (n : Int) (h3 : 3 ≤ n) (h6 : n ≤ 6) : Ev (fun k => spec_l12Start.f k n) (cStart n.toNat) := by
  have : n = 3 ∨ n = 4 ∨ n = 5 ∨ n = 6 := by omega
  rcases this with rfl | rfl | rfl | rfl <;> exact Ev.of (spec_l12Start.mono _) (k := 12) (by decide +kernel)
theorem c_upTo (n : Int) (h3 : 3 ≤ n) (h6 : n ≤ 6) : Ev (fun k => impl_upTo.f k n) (cStart n.toNat) := by
  have : n = 3 ∨ n = 4 ∨ n = 5 ∨ n = 6 := by omega
  rcases this with rfl | rfl | rfl | rfl <;> exact Ev.of (impl_upTo.mono _) (k := 12) (by decide +kernel)
theorem c_pairs (n : Int) (h3 : 3 ≤ n) (h6 : n ≤ 6) : wrap64 (Int.tdiv (wrap64 (n * (wrap64 (n - 1)))) 2) = n * (n - 1) / 2 := by
  have : n = 3 ∨ n = 4 ∨ n = 5 ∨ n = 6 := by omega
  rcases this with rfl | rfl | rfl | rfl <;> decide +kernel

theorem c_drop (w : List Int) (i : Nat) (h : i < w.length) : w.drop i = w.getD i 0 :: w.drop (i + 1) := by
  rw [List.drop_eq_getElem_cons h, List.getD_eq_getElem?_getD, List.getElem?_eq_getElem h]; rfl


end Go.Proofs.Ytiimkifkakdalaa.P
