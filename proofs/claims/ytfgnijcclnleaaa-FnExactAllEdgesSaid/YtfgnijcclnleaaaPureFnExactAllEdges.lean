/- For every n the program's AllEdges returns the number that the reference's AllEdges returns. Conditions: none. -/
import Derived.Test.YtfgnijcclnleaaaPFnExactAllEdgesx1
namespace Go.Proofs.Ytfgnijcclnleaaa.Pure
open Go.RowKit Go.Proofs.Ytfgnijcclnleaaa.PFnExactAllEdges Go.Proofs.YtfgnijcclnleaaaW.PrintWords Go.Proofs.YtfgnijcclnleaaaW.PrintLast

theorem FnExactAllEdges : laws_FnExactAllEdges.Pure := by
  intro a0 h
  unfold laws_FnExactAllEdges.f spec_AllEdges.f spec_l1In.f impl_AllEdges.f impl_isCount.f impl_fullSet.f
  by_cases h1 : a0 ≥ 3
  · by_cases h2 : a0 ≤ 7
    · have : a0 = 3 ∨ a0 = 4 ∨ a0 = 5 ∨ a0 = 6 ∨ a0 = 7 := by omega
      rcases this with rfl | rfl | rfl | rfl | rfl <;> decide +kernel
    · simp [h1, h2]
  · simp [h1]

end Go.Proofs.Ytfgnijcclnleaaa.Pure
