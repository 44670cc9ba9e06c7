/- What the program's IsTriangulation computes. Conditions: none. -/
import Derived.Test.YtiimkifkakdalaaCFull
import Derived.Test.YtiimkifkakdalaaCPlaneOf
import Derived.Test.YtiimkifkakdalaaOTri
namespace Go.Proofs.Ytiimkifkakdalaa.P
open Go.RowKit Go.Proofs.YtiimkifkakdalaaW.PrintWords Go.Proofs.YtiimkifkakdalaaW.PrintLast
set_option linter.unusedVariables false
set_option linter.unusedSimpArgs false

theorem c_implTri (n : Int) (s : ByteArray) (hs : s.size ≤ 1099511627776) (e : Int) : Ev (fun k => impl_IsTriangulation.f k n s e) (cTri n s e) := by
  unfold impl_IsTriangulation.f cTri
  refine Ev.bind (c_planeOf n s hs) ?_
  by_cases h : cFits n s = true
  · obtain ⟨m, rfl, h3, h6, hz, hA⟩ := c_fits_open n s h
    simp only [h, if_true, Bool.true_and, c_areEdges (m : Int) (by omega) (by omega), Option.bind_some, Int.toNat_natCast]
    by_cases he : cES (m : Int) e
    · simp only [he, decide_true, if_true, Bool.true_and]
      exact Ev.bind (c_implFull _ e (c_rows_len m h3 (by omega) s).2) (Ev.now _)
    · simp only [he, decide_false, Bool.false_eq_true, if_false, Bool.false_and]; exact Ev.now _
  · rw [Bool.not_eq_true] at h
    simp only [h, Bool.false_eq_true, if_false, Bool.false_and]; exact Ev.now _
theorem c_tri_open (n : Int) (s : ByteArray) (e : Int) (h : cTri n s e = true) : ∃ m x : Nat, n = (m : Int) ∧ e = (x : Int) ∧ 3 ≤ m ∧ m ≤ 6 ∧ s.size = (cTrips m).length ∧ cFits n s = true ∧ cES n e ∧ cFull (cRows m s) e = true ∧ x < 2 ^ (cPairs m).length ∧ x < 32768 := by
  unfold cTri at h
  rw [Bool.and_eq_true, Bool.and_eq_true, decide_eq_true_eq] at h
  obtain ⟨m, rfl, h3, h6, hz, hA⟩ := c_fits_open n s h.1.1
  have hr := c_set_lt6 m h3 h6 e h.1.2
  obtain ⟨x, rfl⟩ : ∃ x : Nat, e = (x : Int) := ⟨e.toNat, by omega⟩
  refine ⟨m, x, rfl, rfl, h3, h6, hz, h.1.1, h.1.2, by simpa using h.2, ?_, by omega⟩
  have := hr.2.1
  exact_mod_cast this

end Go.Proofs.Ytiimkifkakdalaa.P
