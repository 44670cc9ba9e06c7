/- For every n and every list of at most 2^20 places the program's BraidsFrom returns what the reference's returns, in new memory, and leaves its list alone; longer lists are passed by the law itself. Conditions: none. -/
import Derived.Test.YthibphndihjcaaaWAll2
import Derived.Test.YthibphndihjcaaaCBase
import Derived.Test.YthibphndihjcaaaCRows
import Derived.Test.YthibphndihjcaaaCBraW
import Derived.Test.YthibphndihjcaaaOLBraid
namespace Go.Proofs.Ythibphndihjcaaa.Pure
open Go.RowKit Go.Proofs.Ythibphndihjcaaa.P Go.Proofs.YthibphndihjcaaaW.PrintWords Go.Proofs.YthibphndihjcaaaW.PrintLast
set_option linter.unusedVariables false
set_option linter.unusedSimpArgs false
set_option maxRecDepth 100000 in
theorem FnExactBraidsFrom (a0 : Int) (a1 : Option Addr) (len1 cap1 : Nat) (z1 : List Int) (w : World) (w0 : (Lit.int .i64 a0).wf = true) (w1 : (a1 = none ∧ len1 = 0 ∧ cap1 = 0 ∧ z1 = []) ∨ ∃ x, a1 = some x ∧ len1 ≤ cap1 ∧ cap1 ≤ maxLen ∧ z1.length = cap1 ∧ (∀ i, i < z1.length → w.cell? (x.add i) = some (.int .i64 (z1.getD i 0))) ∧ ∀ n ∈ z1, (Lit.int .i64 n).wf = true) (y1 : len1 * 8 ≤ 140737488351232) :
    Calls Try.prog 13 #[.int .i64 a0, .slice a1 len1 cap1] w fun e w' => e = .returned (.bool true) ∧ Below w.heap.size w w' := by
  obtain ⟨l1, rfl, hr1, hm1, hw1, hc1⟩ := ReadsInt.ofRowC w1
  have hr := Kd.C_of_reads (d := (0 : Int)) (h1 := fun _ => rfl) hr1
  by_cases hl : (l1.length : Int) > 1048576
  · exact laws_FnExactBraidsFrom.long a0 a1 cap1 l1 w hl
  · have hl2 : l1.length ≤ 1048576 := by omega
    obtain ⟨hR1, hR2⟩ := cBr_rows a0 l1
    have hbd := cME_bd (cBr a0 l1) 1 hR2
    obtain ⟨K1, h1⟩ := c_toIntS l1 (by omega) (by omega)
    obtain ⟨K2, h2⟩ := cS_Br a0 l1 hl2
    obtain ⟨K3, h3⟩ := cI_Br a0 l1 hl2
    obtain ⟨K4, h4⟩ := c_eqSS_self (cBr a0 l1) hR1 hR2
    obtain ⟨K5, h5⟩ := c_eqIntS_self l1 (by omega)
    obtain ⟨K6, h6⟩ := c_markIntS l1 1 (by omega) (by omega) (by omega)
    obtain ⟨K7, h7⟩ := c_markSS (cBr a0 l1) 1 hR2 (by omega) (by omega) hR1
    obtain ⟨K8, h8⟩ := c_heldSS (cBr a0 l1) 1 hR2 (by omega) (by omega) hR1
    obtain ⟨k, hk⟩ : ∃ k, k = K1 + K2 + K3 + K4 + K5 + K6 + K7 + K8 := ⟨_, rfl⟩
    exact laws_FnExactBraidsFrom.calls k a0 a1 cap1 l1 _ _ _ _ _ w hr hc1 hl (h1 k (by omega)) (h2 k (by omega)) (h3 k (by omega)) (h4 k (by omega)) (h5 k (by omega)) (h6 k (by omega)) (by omega) (h7 k (by omega)) (by omega) (h8 k (by omega))
end Go.Proofs.Ythibphndihjcaaa.Pure
