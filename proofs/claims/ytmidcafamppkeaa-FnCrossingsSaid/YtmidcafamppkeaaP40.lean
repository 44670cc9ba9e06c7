-- Printed by a program of this session (wip/tools/myprint.py, over the kit's print.py); not trusted: Lean checks it.
import Derived.Test.YtmidcafamppkeaaSq
import Derived.Test.YtmidcafamppkeaaP0
import Derived.Test.YtmidcafamppkeaaP48
namespace Go.Proofs.Ytmidcafamppkeaa.P
open Go.RowKit Go.Proofs.YtmidcafamppkeaaW.PrintWords Go.Proofs.YtmidcafamppkeaaW.PrintLast Go.Proofs.YtmidcafamppkeaaW.PrintMore
attribute [local go_sem] max2_int min2_int max_two min_two max_three min_three max_four min_four   -- for this text's walks alone
set_option linter.unusedVariables false
set_option linter.unusedSimpArgs false

/-! ### impl_areEdges: function 40 -/
def impl_areEdges.f (a0 : Int) (a1 : Int) : Option (Bool) := if a1 ≥ 0 then ((impl_AllEdges.f a0).bind fun t489 => (some (decide (a1 ≤ t489)))) else (some false)
set_option maxHeartbeats 8000000 in
set_option maxRecDepth 100000 in
theorem impl_areEdges.calls (a0 a1 : Int) (r : Bool) (w : World) (h : impl_areEdges.f a0 a1 = some r) :
  Calls Try.prog 40 #[.int .i64 a0, .int .i64 a1] w fun e w' => e = .returned (.bool r) ∧ Drawn0 w w' := by
 have H := h; unfold impl_areEdges.f at H; clear h; by_cases c3 : a1 ≥ 0; rotate_left
 ·rw [if_neg c3] at H; have c3b0 : decide (0 ≤ a1) = false := decide_eq_false c3; clear c3; obtain rfl := Option.some.inj H; go_enter Try.func40, Try.ntmps40; go_wp2; go_ret; exact ⟨by rfl, by repeat (exact Drawn0.refl _)⟩
 rw [if_pos c3] at H; have c3b0 : decide (0 ≤ a1) = true := decide_eq_true c3; clear c3; obtain ⟨t489, A4, H⟩ := bnd H; obtain rfl := Option.some.inj H; go_enter Try.func40, Try.ntmps40; go_wp2_with ((go_at_call 18; (with_reducible refine (impl_AllEdges.calls a0 t489 _ A4.out).mono ?_); rintro e w' ⟨rfl, ⟨nd, rfl⟩⟩)); go_ret; exact ⟨by rfl, by repeat (first | exact Drawn0.refl _ | apply Drawn0.step)⟩

end Go.Proofs.Ytmidcafamppkeaa.P
