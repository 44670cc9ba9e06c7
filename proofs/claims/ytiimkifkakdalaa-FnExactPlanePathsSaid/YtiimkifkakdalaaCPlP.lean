/- Plane paths: what the program and the reference list. Conditions: none. -/
import Derived.Test.YtiimkifkakdalaaCPlT
import Derived.Test.YtiimkifkakdalaaOPlP
import Derived.Test.YtiimkifkakdalaaP21
namespace Go.Proofs.Ytiimkifkakdalaa.P
open Go.RowKit Go.Proofs.YtiimkifkakdalaaW.PrintWords Go.Proofs.YtiimkifkakdalaaW.PrintLast
set_option linter.unusedVariables false
set_option linter.unusedSimpArgs false

/-- What PlanePaths lists. -/
def pPaths (n : Int) (s : ByteArray) : List Int := if cFits n s = true then pS n.toNat s (n.toNat - 1) (fun e => cCon n (e : Int) && pIn n.toNat 1 2 (e : Int)) 0 (2 ^ (cPairs n.toNat).length) else []
theorem p_paths_len (n : Int) (s : ByteArray) : (pPaths n s).length ≤ 1099511627776 := by
  unfold pPaths
  split
  · rename_i h
    obtain ⟨m, rfl, h3, h6, hz, hA⟩ := c_fits_open n s h
    rw [Int.toNat_natCast]
    exact p_s_small m h3 h6 s _ _
  · simp
theorem p_specPaths (n : Int) (s : ByteArray) (hs : s.size ≤ 1099511627776) : Ev (fun k => spec_PlanePaths.f k n s) (pPaths n s) := by
  unfold spec_PlanePaths.f pPaths
  refine Ev.bind (c_specFits n s hs) ?_
  cases hf : cFits n s with
  | false => simp only [Bool.false_eq_true, if_false]; exact Ev.now _
  | true =>
    simp only [if_true]
    obtain ⟨m, rfl, h3, h6, hz, hA⟩ := c_fits_open n s hf
    have hw : wrap64 ((m : Int) - 1) = ((m - 1 : Nat) : Int) := by rw [c_wid _ (by omega) (by omega)]; omega
    have h := p_specSets m s hs hf (m - 1) (by omega) 1 2 true
    rw [p_s_congr m s (m - 1) _ (fun e => cCon (m : Int) (e : Int) && pIn m 1 2 (e : Int)) 0 _ (fun e => by
      unfold pFine
      rw [Bool.not_true, Bool.false_or])] at h
    rw [hw, Int.toNat_natCast]
    exact Ev.bind h (Ev.now _)
theorem p_del (n : Nat) (h3 : 3 ≤ n) (h7 : n ≤ 7) : ∀ xs : List Int, Ev (fun k => impl_PlanePaths_1.del k (n : Int) xs) (xs.filter fun x => pIn n 1 2 x)
  | [] => Ev.now _
  | x :: r => by
    have ih := p_del n h3 h7 r
    unfold impl_PlanePaths_1.del
    refine Ev.bind (p_implHas n h3 h7 x 1 2) (Ev.bind ih ?_)
    rw [List.filter_cons]
    exact Ev.now _
theorem p_implPaths (n : Int) (s : ByteArray) (hs : s.size ≤ 1099511627776) : Ev (fun k => impl_PlanePaths.f k n s) (pPaths n s) := by
  unfold impl_PlanePaths.f
  refine Ev.bind (p_implTrees n s hs) ?_
  have hl := p_trees_len n s
  simp only [if_pos (show (pTrees n s).length < 4611686018427387904 by omega)]
  unfold pTrees pPaths
  cases hf : cFits n s with
  | false => simp only [Bool.false_eq_true, if_false]; exact Ev.now _
  | true =>
    obtain ⟨m, rfl, h3, h6, hz, hA⟩ := c_fits_open n s hf
    simp only [if_true, Int.toNat_natCast]
    have h := p_del m h3 (by omega) (pS m s (m - 1) (fun e => cCon (m : Int) (e : Int)) 0 (2 ^ (cPairs m).length))
    have e : (pS m s (m - 1) (fun e => cCon (m : Int) (e : Int)) 0 (2 ^ (cPairs m).length)).filter (fun x => pIn m 1 2 x) = pS m s (m - 1) (fun e => cCon (m : Int) (e : Int) && pIn m 1 2 (e : Int)) 0 (2 ^ (cPairs m).length) := by
      unfold pS
      rw [List.filter_map, List.filter_filter]
      congr 2
      funext x
      simp only [Function.comp]
      rw [Bool.and_comm, Bool.and_assoc]
    rw [e] at h
    exact h

end Go.Proofs.Ytiimkifkakdalaa.P
