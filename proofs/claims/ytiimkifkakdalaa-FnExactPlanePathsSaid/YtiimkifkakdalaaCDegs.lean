/- The degrees of a set of edges: what the program and the reference list. Conditions: none. -/
import Derived.Test.YtiimkifkakdalaaCBase
import Derived.Test.YtiimkifkakdalaaCDeg
import Derived.Test.YtiimkifkakdalaaP65
import Derived.Test.YtiimkifkakdalaaP73
namespace Go.Proofs.Ytiimkifkakdalaa.P
open Go.RowKit Go.Proofs.YtiimkifkakdalaaW.PrintWords Go.Proofs.YtiimkifkakdalaaW.PrintLast
set_option linter.unusedVariables false

/-- One more edge at an element. -/
def cBump (xs : List Int) (i : Nat) : List Int := xs.set i (wrap64 (xs.getD i 0 + 1))
theorem cBump_length (xs : List Int) (i : Nat) : (cBump xs i).length = xs.length := by simp [cBump]
/-- The degrees behind the edges of a list, the first of which has an index. -/
def cDegs (e : Int) : List (Nat × Nat) → Nat → List Int → List Int
  | [], _, xs => xs
  | p :: r, q, xs => cDegs e r (q + 1) (if cBit e q = true then cBump (cBump xs p.1) p.2 else xs)
theorem cDegs_length (e : Int) : ∀ (l : List (Nat × Nat)) (q : Nat) (xs : List Int), (cDegs e l q xs).length = xs.length := by
  intro l
  induction l with
  | nil => intro q xs; rfl
  | cons p r ih =>
    intro q xs; simp only [cDegs]; rw [ih]
    split
    · rw [cBump_length, cBump_length]
    · rfl
theorem c_drop_pair (l : List (Nat × Nat)) (i : Nat) (h : i < l.length) : l.drop i = l.getD i (0, 0) :: l.drop (i + 1) := by
  rw [List.drop_eq_getElem_cons h, List.getD_eq_getElem?_getD, List.getElem?_eq_getElem h]; rfl
theorem c_pair_mem (l : List (Nat × Nat)) (i : Nat) (h : i < l.length) : l.getD i (0, 0) ∈ l := by
  rw [List.getD_eq_getElem?_getD, List.getElem?_eq_getElem h]; exact List.getElem_mem _
theorem c_bumps (xs : List Int) (a b : Nat) (h : a < xs.length) (h2 : b < xs.length) (hab : a ≠ b) : (cBump xs a).set b (wrap64 ((cBump xs a).getD b 0 + 1)) = cBump (cBump xs a) b := rfl
theorem c_implDeg_l (n : Int) (h3 : 3 ≤ n) (h7 : n ≤ 7) (e : Int) : ∀ (d q : Nat) (xs : List Int), q + d = (cPairs n.toNat).length → (xs.length : Int) = n →
    Ev (fun k => impl_degrees.l0 k e xs (cEdges n.toNat) ((cEdges n.toNat).length : Int) (q : Int)) (cDegs e ((cPairs n.toNat).drop q) q xs) := by
  intro d
  have hle := c_pairs_le n h3 h7
  induction d with
  | zero =>
    intro q xs hq hx
    rw [List.drop_eq_nil_of_le (by omega)]
    refine Ev.step (f := fun k => some xs) (fun k => ?_) (Ev.now _)
    simp only [impl_degrees.l0]; rw [if_neg (by rw [c_edges_length]; omega)]
  | succ d ih =>
    intro q xs hq hx
    rw [c_drop_pair _ q (by omega)]
    have hp := c_pairs_get n h3 h7 _ (c_pair_mem _ q (show q < (cPairs n.toNat).length by omega))
    generalize hpp : (cPairs n.toNat).getD q (0, 0) = p at hp
    have g0 : (q : Int) < ((cEdges n.toNat).length : Int) := by rw [c_edges_length]; omega
    have g1 : (0 : Int) ≤ (q : Int) := by omega
    simp only [cDegs]
    by_cases hb : cBit e q = true
    · rw [if_pos hb]
      have hb' : Go.bits .and .i64 (shr .i64 e (q : Int)) 1 = 1 := by simpa [cBit] using hb
      refine Ev.step (f := fun k => impl_degrees.l0 k e (cBump (cBump xs p.1) p.2) (cEdges n.toNat) ((cEdges n.toNat).length : Int) ((q + 1 : Nat) : Int)) (fun k => ?_) (ih (q + 1) _ (by omega) (by rw [cBump_length, cBump_length]; exact hx))
      simp only [impl_degrees.l0]
      rw [if_pos g0, if_pos g1, if_pos g0, if_pos hb', c_rdE n.toNat q (by omega), hpp]
      have a1 : (0 : Int) ≤ (p.1 : Int) := by omega
      have a2 : (p.1 : Int) < (xs.length : Int) := by omega
      have a3 : (0 : Int) ≤ (p.2 : Int) := by omega
      have a4 : (p.2 : Int) < (xs.length : Int) := by omega
      simp only [cE, if_pos a1, if_pos a2, Option.bind_some, if_pos a3, if_pos a4, c_rd, Int.toNat_natCast, c_w1 q (show q < 4611686018427387904 by omega)]
      rfl
    · rw [if_neg hb]
      have hb' : ¬ Go.bits .and .i64 (shr .i64 e (q : Int)) 1 = 1 := by simpa [cBit] using hb
      refine Ev.step (f := fun k => impl_degrees.l0 k e xs (cEdges n.toNat) ((cEdges n.toNat).length : Int) ((q + 1 : Nat) : Int)) (fun k => ?_) (ih (q + 1) _ (by omega) hx)
      simp only [impl_degrees.l0]
      rw [if_pos g0, if_pos g1, if_pos g0, if_neg hb', c_w1 q (by omega)]
theorem c_specDeg_l (n : Int) (h3 : 3 ≤ n) (h7 : n ≤ 7) (e : Int) : ∀ (d q : Nat) (xs : List Int), q + d = (cPairs n.toNat).length → (xs.length : Int) = n →
    Ev (fun k => spec_DegreesOf.l0 k n e xs (q : Int)) (cDegs e ((cPairs n.toNat).drop q) q xs) := by
  intro d
  have hle := c_pairs_le n h3 h7
  induction d with
  | zero =>
    intro q xs hq hx
    rw [List.drop_eq_nil_of_le (by omega)]
    refine Ev.step (f := fun k => some xs) (fun k => ?_) (Ev.now _)
    simp only [spec_DegreesOf.l0]; rw [c_pairs7 n h3 h7, if_neg (by omega)]
  | succ d ih =>
    intro q xs hq hx
    rw [c_drop_pair _ q (by omega)]
    have hp := c_pairs_get n h3 h7 _ (c_pair_mem _ q (show q < (cPairs n.toNat).length by omega))
    generalize hpp : (cPairs n.toNat).getD q (0, 0) = p at hp
    have g0 : (q : Int) < ((cPairs n.toNat).length : Int) := by omega
    simp only [cDegs]
    by_cases hb : cBit e q = true
    · rw [if_pos hb]
      refine Ev.step (f := fun k => (spec_EdgeAt.f k n (q : Int)).bind fun bt => (if 0 ≤ bt.1 then (if bt.1 < (xs.length : Int) then ((some (xs.set (bt.1 : Int).toNat (wrap64 ((rd xs bt.1) + 1)) : List Int)).bind fun y => (if 0 ≤ bt.2 then (if bt.2 < (xs.length : Int) then (spec_DegreesOf.l0 k n e (y.set (bt.2 : Int).toNat (wrap64 ((rd y bt.2) + 1))) ((q + 1 : Nat) : Int)) else (none)) else (none))) else (none)) else (none))) (fun k => ?_) ?_
      · simp only [spec_DegreesOf.l0]
        rw [c_pairs7 n h3 h7, if_pos g0, c_has e q (by omega), hb, c_w1 q (by omega)]; rfl
      · refine Ev.bind (c_specEdgeAt n h3 h7 (q : Int)) ?_
        have hE : cEdgeAt n (q : Int) = ((p.1 : Int), (p.2 : Int)) := by
          unfold cEdgeAt; rw [if_pos ⟨by omega, g0⟩]; simp only [Int.toNat_natCast, hpp]
        rw [hE]
        have a1 : (0 : Int) ≤ (p.1 : Int) := by omega
        have a2 : (p.1 : Int) < (xs.length : Int) := by omega
        have a3 : (0 : Int) ≤ (p.2 : Int) := by omega
        have a4 : (p.2 : Int) < (xs.length : Int) := by omega
        simp only [if_pos a1, if_pos a2, Option.bind_some, if_pos a3, if_pos a4, c_rd, Int.toNat_natCast]
        exact ih (q + 1) (cBump (cBump xs p.1) p.2) (by omega) (by rw [cBump_length, cBump_length]; exact hx)
    · rw [if_neg hb]
      refine Ev.step (f := fun k => spec_DegreesOf.l0 k n e xs ((q + 1 : Nat) : Int)) (fun k => ?_) (ih (q + 1) _ (by omega) hx)
      simp only [spec_DegreesOf.l0]
      rw [Bool.not_eq_true] at hb
      rw [c_pairs7 n h3 h7, if_pos g0, c_has e q (by omega), hb, c_w1 q (by omega)]; rfl
def cx_DegreesOf (n e : Int) : List Int := if 3 ≤ n ∧ n ≤ 7 ∧ cES n e then cDegs e (cPairs n.toNat) 0 (List.replicate n.toNat 0) else []
theorem cx_DegreesOf_len (n e : Int) : (cx_DegreesOf n e).length ≤ 1099511627776 := by
  unfold cx_DegreesOf; split
  · rename_i h; rw [cDegs_length]; simp; omega
  · simp
theorem c_implDegrees (n : Int) (h3 : 3 ≤ n) (h7 : n ≤ 7) (e : Int) : Ev (fun k => impl_degrees.f k n e) (cDegs e (cPairs n.toNat) 0 (List.replicate n.toNat 0)) := by
  unfold impl_degrees.f
  have g0 : 0 ≤ n := by omega
  have g1 : n.toNat ≤ 35184372088832 := by omega
  simp only [if_pos g0, if_pos g1]
  refine Ev.bind (c_edgesOf n h3 h7) ?_
  have := c_implDeg_l n h3 h7 e (cPairs n.toNat).length 0 (List.replicate n.toNat 0) (by omega) (by simp; omega)
  simpa using this
theorem cS_DegreesOf (n e : Int) : Ev (fun k => spec_DegreesOf.f k n e) (cx_DegreesOf n e) := by
  unfold spec_DegreesOf.f
  by_cases h : 3 ≤ n ∧ n ≤ 7
  · have hl := c_l1InSet n h.1 h.2 e
    rw [c_specAll n h.1 h.2] at hl
    simp only [Option.bind_some] at hl
    simp only [c_in37, decide_eq_true h, Option.bind_some, if_true, c_specAll n h.1 h.2, hl]
    by_cases hs : cES n e
    · rw [show cx_DegreesOf n e = _ from if_pos ⟨h.1, h.2, hs⟩]
      simp only [decide_eq_true hs]
      refine Ev.step (fun k => by simp only [spec_DegreesOf.j0]; rfl) ?_
      have g0 : 0 ≤ n := by omega
      have g1 : n.toNat ≤ 35184372088832 := by omega
      simp only [Bool.not_true, Bool.false_eq_true, if_false, if_pos g0, if_pos g1]
      have := c_specDeg_l n h.1 h.2 e (cPairs n.toNat).length 0 (List.replicate n.toNat 0) (by omega) (by simp; omega)
      simpa using this
    · rw [show cx_DegreesOf n e = _ from if_neg (fun hh => hs hh.2.2)]
      simp only [decide_eq_false hs]
      refine Ev.step (fun k => by simp only [spec_DegreesOf.j0]; rfl) ?_
      simp only [Bool.not_false, if_true]; exact Ev.now _
  · rw [show cx_DegreesOf n e = _ from if_neg (fun hh => h ⟨hh.1, hh.2.1⟩)]
    simp only [c_in37, decide_eq_false h, Option.bind_some, Bool.false_eq_true, if_false]
    refine Ev.step (fun k => by simp only [spec_DegreesOf.j0]; rfl) ?_
    simp only [if_true]; exact Ev.now _

end Go.Proofs.Ytiimkifkakdalaa.P
