/- What the program's planeOf and IsTriangulation compute. Conditions: none. -/
import Derived.Test.YtjjfjdejhddcnaaCFull
import Derived.Test.YtjjfjdejhddcnaaOTri
namespace Go.Proofs.Ytjjfjdejhddcnaa.P
open Go.RowKit Go.Proofs.YtjjfjdejhddcnaaW.PrintWords Go.Proofs.YtjjfjdejhddcnaaW.PrintLast
set_option linter.unusedVariables false
set_option linter.unusedSimpArgs false

theorem c_planeOf (n : Int) (s : ByteArray) (hs : s.size ≤ 1099511627776) : Ev (fun k => impl_planeOf.f k n s) (if cFits n s = true then ((cRows n.toNat s, 2 ^ (cPairs n.toNat).length - 1), true) else (([], 0), false)) := by
  unfold impl_planeOf.f
  refine Ev.bind (c_orderOf n s hs) ?_
  by_cases h : cAcy n s = true
  · obtain ⟨m, rfl, h3, h7, hz⟩ := c_acy_open n s h
    simp only [h, if_true, Int.toNat_natCast]
    by_cases h6 : (m : Int) > 6
    · have hf : ¬ cFits (m : Int) s = true := by unfold cFits; rw [decide_eq_false (by omega)]; simp
      simp only [if_pos h6, if_neg hf]; exact Ev.now _
    · have hf : cFits (m : Int) s = true := by unfold cFits; rw [decide_eq_true (by omega), h]; rfl
      simp only [if_neg h6, if_pos hf]
      refine Ev.bind (c_crossings m h3 h7 s) ?_
      rw [c_implAll (m : Int) (by omega) (by omega)]
      simp only [Option.bind_some, Int.toNat_natCast]; exact Ev.now _
  · have hf : ¬ cFits n s = true := by unfold cFits; rw [Bool.not_eq_true] at h; rw [h]; simp
    simp only [h, Bool.false_eq_true, if_false, if_neg hf]; exact Ev.now _
theorem c_implTri (n : Int) (s : ByteArray) (hs : s.size ≤ 1099511627776) (e : Int) : Ev (fun k => impl_IsTriangulation.f k n s e) (cTri n s e) := by
  unfold impl_IsTriangulation.f cTri
  refine Ev.bind (c_planeOf n s hs) ?_
  by_cases h : cFits n s = true
  · obtain ⟨m, rfl, h3, h6, hz, hA⟩ := c_fits_open n s h
    simp only [h, if_true, Bool.true_and, c_areEdges (m : Int) (by omega) (by omega), Option.bind_some, Int.toNat_natCast]
    by_cases he : cES (m : Int) e
    · simp only [he, decide_true, if_true, Bool.true_and]
      exact Ev.bind (c_implFull _ e (c_rows_len m h3 (by omega) s).2) (Ev.now _)
    · simp only [he, decide_false, Bool.false_eq_true, if_false, Bool.false_and]; exact Ev.now _
  · rw [Bool.not_eq_true] at h
    simp only [h, Bool.false_eq_true, if_false, Bool.false_and]; exact Ev.now _

end Go.Proofs.Ytjjfjdejhddcnaa.P
