/- For every n and all slices of slices with at most 2^20 rows and numbers the program's WiringFrom returns what the reference's returns, in new memory, and leaves its rows alone; longer ones are passed by the law itself. Conditions: none. -/
import Derived.Test.YtdjaiedfcmjblaaCBase
import Derived.Test.YtdjaiedfcmjblaaCRowsT
import Derived.Test.YtdjaiedfcmjblaaCWFrom
import Derived.Test.YtdjaiedfcmjblaaOLWFrom
namespace Go.Proofs.Ytdjaiedfcmjblaa.Pure
open Go.RowKit Go.Proofs.Ytdjaiedfcmjblaa.P Go.Proofs.YtdjaiedfcmjblaaW.PrintWords Go.Proofs.YtdjaiedfcmjblaaW.PrintLast
set_option linter.unusedVariables false
set_option linter.unusedSimpArgs false
set_option maxRecDepth 100000 in
theorem FnExactWiringFrom (a0 : Int) (A1 : Option Addr) (c1 : Nat) (l1 : List (List Int)) (w : World) (hr1 : Kd.C (Kd.slice 3 (Kd.int .i64)) w A1 l1.length l1) (hc1 : l1.length ≤ c1) (hm : l1.length ≤ 9223372036854775807) (hr : ∀ r ∈ l1, r.length ≤ 9223372036854775807) :
    Calls Try.prog 14 #[.int .i64 a0, .slice A1 l1.length c1] w fun e w' => e = .returned (.bool true) ∧ Below w.heap.size w w' := by
  obtain ⟨z, ⟨K0, h0⟩, hz⟩ := c_szSS l1 hm hr
  by_cases hl : z < 0
  · exact laws_FnExactWiringFrom.long K0 a0 A1 c1 l1 z w hr1 hc1 (h0 K0 (Nat.le_refl _)) hl
  · obtain ⟨hx, ht⟩ := hz hl
    have hlen := cWFrom_len a0 l1 hx
    have hS := cS_WFrom a0 l1 hx
    have hI := cI_WFrom a0 l1 hx
    generalize cWFrom a0 l1 = q at hlen hS hI
    obtain ⟨R, b⟩ := q
    dsimp only at hlen
    have htot := cME_tot l1 1
    obtain ⟨K1, h1⟩ := c_toSS l1 hx ht
    obtain ⟨K2, h2⟩ := hS
    obtain ⟨K3, h3⟩ := hI
    obtain ⟨K4, h4⟩ := c_eqSST l1 hx ht
    obtain ⟨K5, h5⟩ := c_eqIntS_self R hlen
    obtain ⟨K6, h6⟩ := c_markSST l1 1 (by omega) (by omega) hx
    obtain ⟨K7, h7⟩ := c_markIntS R 1 (by omega) (by omega) hlen
    obtain ⟨K8, h8⟩ := c_heldIntS 1 R.length (by omega) (by omega) hlen
    obtain ⟨k, hk⟩ : ∃ k, k = K0 + K1 + K2 + K3 + K4 + K5 + K6 + K7 + K8 := ⟨_, rfl⟩
    exact laws_FnExactWiringFrom.calls_ k a0 A1 c1 l1 _ R _ b _ _ z w hr1 hc1 (h0 k (by omega)) hl (h1 k (by omega)) (h2 k (by omega)) (h3 k (by omega)) (h5 k (by omega)) (h4 k (by omega)) (h6 k (by omega)) (by omega) (h7 k (by omega)) (by omega) (h8 k (by omega))
end Go.Proofs.Ytdjaiedfcmjblaa.Pure
