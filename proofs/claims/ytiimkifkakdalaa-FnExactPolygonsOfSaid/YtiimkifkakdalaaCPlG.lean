/- Polygons: what the program and the reference list. Conditions: none. -/
import Derived.Test.YtiimkifkakdalaaCPlS
import Derived.Test.YtiimkifkakdalaaOPlG
import Derived.Test.YtiimkifkakdalaaP19
namespace Go.Proofs.Ytiimkifkakdalaa.P
open Go.RowKit Go.Proofs.YtiimkifkakdalaaW.PrintWords Go.Proofs.YtiimkifkakdalaaW.PrintLast
set_option linter.unusedVariables false
set_option linter.unusedSimpArgs false

/-- What PolygonsOf lists. -/
def pPoly (n : Int) (s : ByteArray) : List Int := if cFits n s = true then pS n.toNat s n.toNat (fun e => pFine n.toNat 2 2 true (e : Int)) 0 (2 ^ (cPairs n.toNat).length) else []
theorem p_poly_len (n : Int) (s : ByteArray) : (pPoly n s).length ≤ 1099511627776 := by
  unfold pPoly
  split
  · rename_i h
    obtain ⟨m, rfl, h3, h6, hz, hA⟩ := c_fits_open n s h
    rw [Int.toNat_natCast]
    have h15 := c_pairs6 m h3 h6
    have hp15 : 2 ^ (cPairs m).length ≤ 2 ^ 15 := Nat.pow_le_pow_right (by decide) h15
    have := p_s_len m s m (fun e => pFine m 2 2 true (e : Int)) 0 (2 ^ (cPairs m).length)
    omega
  · simp
theorem p_specPoly (n : Int) (s : ByteArray) (hs : s.size ≤ 1099511627776) : Ev (fun k => spec_PolygonsOf.f k n s) (pPoly n s) := by
  unfold spec_PolygonsOf.f pPoly
  cases hf : cFits n s with
  | false => simp only [Bool.false_eq_true, if_false]; exact Ev.bind (p_specSets_no n s hs hf _ _ _ _) (Ev.now _)
  | true =>
    simp only [if_true]
    obtain ⟨m, rfl, h3, h6, hz, hA⟩ := c_fits_open n s hf
    rw [Int.toNat_natCast]
    exact Ev.bind (p_specSets m s hs hf m (by omega) 2 2 true) (Ev.now _)
theorem p_implPoly (n : Int) (s : ByteArray) (hs : s.size ≤ 1099511627776) : Ev (fun k => impl_PolygonsOf.f k n s) (pPoly n s) := by
  unfold impl_PolygonsOf.f pPoly
  cases hf : cFits n s with
  | false => simp only [Bool.false_eq_true, if_false]; exact p_implSets_no n s hs hf _ _
  | true =>
    obtain ⟨m, rfl, h3, h6, hz, hA⟩ := c_fits_open n s hf
    simp only [if_true, Int.toNat_natCast]
    refine p_implSets m h3 h6 s hs hf m _ _ (fun e _ _ => ?_)
    unfold impl_PolygonsOf_2.f pFine
    rw [Bool.not_true, Bool.false_or]
    refine Ev.bind (p_implHas m h3 (by omega) (e : Int) 2 2) ?_
    cases hp : pIn m 2 2 (e : Int) with
    | true => simp only [if_true, Bool.and_true]; exact c_implCon (m : Int) (by omega) (by omega) (e : Int)
    | false => simp only [Bool.false_eq_true, if_false, Bool.and_false]; exact Ev.now _

end Go.Proofs.Ytiimkifkakdalaa.P
