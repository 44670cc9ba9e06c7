/- Plain laws of sets of edges: both tests of a set, both answers of AllEdges, both degrees. Conditions: three to seven elements. -/
import Derived.Test.YtmidcafamppkeaaCEdges
import Derived.Test.YtmidcafamppkeaaP58
import Derived.Test.YtmidcafamppkeaaP48
import Derived.Test.YtmidcafamppkeaaP40
import Derived.Test.YtmidcafamppkeaaP16
namespace Go.Proofs.Ytmidcafamppkeaa.P
open Go.RowKit Go.Proofs.YtmidcafamppkeaaW.PrintWords Go.Proofs.YtmidcafamppkeaaW.PrintLast
set_option linter.unusedVariables false

theorem c_specAll (n : Int) (h3 : 3 ≤ n) (h7 : n ≤ 7) : spec_AllEdges.f n = some (2 ^ (cPairs n.toNat).length - 1) := by
  rcases c_three7 n h3 h7 with rfl | rfl | rfl | rfl | rfl <;> decide +kernel
theorem c_implAll (n : Int) (h3 : 3 ≤ n) (h7 : n ≤ 7) : impl_AllEdges.f n = some (2 ^ (cPairs n.toNat).length - 1) := by
  rcases c_three7 n h3 h7 with rfl | rfl | rfl | rfl | rfl <;> decide +kernel
/-- A set of edges. -/
def cES (n : Int) (e : Int) : Prop := 0 ≤ e ∧ e ≤ 2 ^ (cPairs n.toNat).length - 1
instance (n e : Int) : Decidable (cES n e) := by unfold cES; exact inferInstance
theorem c_areEdges (n : Int) (h3 : 3 ≤ n) (h7 : n ≤ 7) (e : Int) : impl_areEdges.f n e = some (decide (cES n e)) := by
  unfold impl_areEdges.f
  by_cases h : e ≥ 0
  · rw [if_pos h, c_implAll n h3 h7]
    simp only [Option.bind_some]; congr 1; simp only [decide_eq_decide]
    exact ⟨fun hh => ⟨h, hh⟩, fun hh => hh.2⟩
  · rw [if_neg h, decide_eq_false (fun (hh : cES n e) => h hh.1)]
theorem c_l1InSet (n : Int) (h3 : 3 ≤ n) (h7 : n ≤ 7) (e : Int) : ((spec_AllEdges.f n).bind fun t => spec_l1In.f e 0 t) = some (decide (cES n e)) := by
  rw [c_specAll n h3 h7]
  simp only [Option.bind_some]
  unfold spec_l1In.f
  by_cases h : e ≥ 0
  · rw [if_pos h]; congr 1; simp only [decide_eq_decide]
    exact ⟨fun hh => ⟨h, hh⟩, fun hh => hh.2⟩
  · rw [if_neg h, decide_eq_false (fun (hh : cES n e) => h hh.1)]
/-- Whether a number is in a set. -/
def cBit (e : Int) (q : Nat) : Bool := (Go.bits .and .i64 (shr .i64 e (q : Int)) 1) == 1
theorem c_has (e : Int) (q : Nat) (hq : q < 1000) : spec_l6Has.f e (q : Int) = some (cBit e q) := by
  unfold spec_l6Has.f cBit
  have e1 : IntKind.u64.wrap (q : Int) = (q : Int) := IntWalk.u64_in _ ⟨by omega, by omega⟩
  rw [e1, if_pos (by omega)]

end Go.Proofs.Ytmidcafamppkeaa.P
