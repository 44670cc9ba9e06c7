/- For n = 3 and n = 4 both WiringsOf list the same wirings, found by reckoning; for every other n both list nothing. Conditions: none. -/
import Derived.Test.YtdjaiedfcmjblaaCBase
import Derived.Test.YtdjaiedfcmjblaaCRows
import Derived.Test.YtdjaiedfcmjblaaOWOf
namespace Go.Proofs.Ytdjaiedfcmjblaa.Pure
open Go.RowKit Go.Proofs.Ytdjaiedfcmjblaa.P Go.Proofs.YtdjaiedfcmjblaaW.PrintWords Go.Proofs.YtdjaiedfcmjblaaW.PrintLast
set_option linter.unusedVariables false
set_option linter.unusedSimpArgs false
def cW3 : List (List Int) := (spec_WiringsOf.f 40 3).getD []
def cW4 : List (List Int) := (spec_WiringsOf.f 40 4).getD []
theorem cS3 : spec_WiringsOf.f 40 3 = some cW3 := by decide +kernel
theorem cS4 : spec_WiringsOf.f 40 4 = some cW4 := by decide +kernel
theorem cI3 : impl_WiringsOf.f 40 3 = some cW3 := by decide +kernel
theorem cI4 : impl_WiringsOf.f 40 4 = some cW4 := by decide +kernel
theorem cb3 : cW3.length ≤ 1048576 ∧ ∀ r ∈ cW3, r.length ≤ 1024 := by decide +kernel
theorem cb4 : cW4.length ≤ 1048576 ∧ ∀ r ∈ cW4, r.length ≤ 1024 := by decide +kernel
theorem c_WOf (n : Int) : ∃ R, spec_WiringsOf.f 40 n = some R ∧ impl_WiringsOf.f 40 n = some R ∧ R.length ≤ 1048576 ∧ ∀ r ∈ R, r.length ≤ 1024 := by
  by_cases h3 : n = 3
  · subst h3; exact ⟨_, cS3, cI3, cb3.1, cb3.2⟩
  by_cases h4 : n = 4
  · subst h4; exact ⟨_, cS4, cI4, cb4.1, cb4.2⟩
  refine ⟨[], ?_, ?_, by simp, by simp⟩
  · have hf : spec_l1In.f n 3 4 = some false := by
      unfold spec_l1In.f
      split
      · congr 1; exact decide_eq_false (by omega)
      · rfl
    unfold spec_WiringsOf.f
    rw [hf]
    rfl
  · unfold impl_WiringsOf.f
    rw [if_neg (by omega)]
theorem FnExactWiringsOf (a0 : Int) (w : World) :
    Calls Try.prog 11 #[.int .i64 a0] w fun e w' => e = .returned (.bool true) ∧ Below w.heap.size w w' := by
  obtain ⟨R, hS, hI, hR1, hR2⟩ := c_WOf a0
  have hbd := cME_bd R 1 hR2
  obtain ⟨K4, h4⟩ := c_eqSS_self R hR1 hR2
  obtain ⟨K7, h7⟩ := c_markSS R 1 hR2 (by omega) (by omega) hR1
  obtain ⟨K8, h8⟩ := c_heldSS R 1 hR2 (by omega) (by omega) hR1
  obtain ⟨k, hk⟩ : ∃ k, k = K4 + K7 + K8 := ⟨_, rfl⟩
  exact laws_FnExactWiringsOf.calls k 40 40 a0 _ _ _ w hS hI (h4 k (by omega)) (h7 k (by omega)) (by omega) (h8 k (by omega))
end Go.Proofs.Ytdjaiedfcmjblaa.Pure
