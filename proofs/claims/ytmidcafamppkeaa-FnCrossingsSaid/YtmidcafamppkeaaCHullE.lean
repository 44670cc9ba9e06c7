/- HullEdges: what the reference and the program compute. Conditions: the text is at most 2^40 long. -/
import Derived.Test.YtmidcafamppkeaaCLeft
import Derived.Test.YtmidcafamppkeaaP20
import Derived.Test.YtmidcafamppkeaaP16
namespace Go.Proofs.Ytmidcafamppkeaa.P
open Go.RowKit Go.Proofs.YtmidcafamppkeaaW.PrintWords Go.Proofs.YtmidcafamppkeaaW.PrintLast
set_option linter.unusedVariables false

theorem c_shl_allH : ∀ q ∈ List.range 22, shl .i64 1 (q : Nat) = ((2 ^ q : Nat) : Int) ∧ 2 ^ q ≤ 2097152 := by decide +kernel
theorem c_shlH (q : Nat) (hq : q < 22) : shl .i64 1 (q : Int) = ((2 ^ q : Nat) : Int) := (c_shl_allH q (by simpa using hq)).1
theorem c_orH (acc q : Nat) (hq : q < 22) (ha : acc < 2 ^ q) : Go.bits .or .i64 (acc : Int) (shl .i64 1 (q : Int)) = ((acc + 2 ^ q : Nat) : Int) := by
  have hp := (c_shl_allH q (by simpa using hq)).2
  rw [c_shlH q hq, (bits_nat .i64 40 (by decide) (fun n h0 h1 => by rw [IntKind.wrap_i64]; omega) acc (2 ^ q) (by omega) (by omega)).2]
  have h := Nat.two_pow_add_eq_or_of_lt ha 1
  rw [Nat.mul_one, Nat.or_comm] at h
  rw [← h, Nat.add_comm]
theorem c_plusH (acc q : Nat) (hq : q < 22) (ha : acc < 2 ^ q) : wrap64 ((acc : Int) + shl .i64 1 (IntKind.u64.wrap (q : Int))) = ((acc + 2 ^ q : Nat) : Int) := by
  have hp := (c_shl_allH q (by simpa using hq)).2
  rw [IntWalk.u64_in _ ⟨by omega, by omega⟩, c_shlH q hq, c_wid _ (by omega) (by omega)]
  omega
def cHe (n : Nat) (s : ByteArray) (p : Nat × Nat) : Prop := cLeft n s p.1 p.2 = 0 ∨ cLeft n s p.2 p.1 = 0
instance (n : Nat) (s : ByteArray) (p : Nat × Nat) : Decidable (cHe n s p) := by unfold cHe; exact inferInstance
/-- The hull's edges from position q on. -/
def cHs (n : Nat) (s : ByteArray) (q d : Nat) : Nat := ((List.range' q d).map fun q => if cHe n s ((cPairs n).getD q (0, 0)) then 2 ^ q else 0).sum
theorem c_hs_succ (n : Nat) (s : ByteArray) (q d : Nat) : cHs n s q (d + 1) = (if cHe n s ((cPairs n).getD q (0, 0)) then 2 ^ q else 0) + cHs n s (q + 1) d := by
  unfold cHs; rw [List.range'_succ, List.map_cons, List.sum_cons]
theorem c_implHull (n : Nat) (h3 : 3 ≤ n) (h7 : n ≤ 7) (s : ByteArray) : ∀ (d q acc : Nat), q + d = (cPairs n).length → acc < 2 ^ q →
    Ev (fun k => impl_HullEdges.l0 k (cTab n s) (acc : Int) (cEdges n) ((cEdges n).length : Int) (q : Int)) ((acc + cHs n s q d : Nat) : Int) := by
  have hle := c_pairs_le (n : Int) (by omega) (by omega)
  rw [Int.toNat_natCast] at hle
  intro d
  induction d with
  | zero =>
    intro q acc hq ha
    refine Ev.step (f := fun _ => some (acc : Int)) (fun k => ?_) (Ev.now _)
    simp only [impl_HullEdges.l0]; rw [c_edges_length, if_neg (by omega)]
  | succ d ih =>
    intro q acc hq ha
    have hql : q < (cPairs n).length := by omega
    have hmem : (cPairs n).getD q (0, 0) ∈ cPairs n := by rw [List.getD_eq_getElem?_getD, List.getElem?_eq_getElem hql]; exact List.getElem_mem _
    have hp := c_pairs_get (n : Int) (by omega) (by omega) ((cPairs n).getD q (0, 0)) (by rw [Int.toNat_natCast]; exact hmem)
    rw [Int.toNat_natCast] at hp
    have hL1 := c_implLeft n h3 h7 s ((cPairs n).getD q (0, 0)).1 ((cPairs n).getD q (0, 0)).2 (by omega) (by omega) (by omega)
    have hL2 := c_implLeft n h3 h7 s ((cPairs n).getD q (0, 0)).2 ((cPairs n).getD q (0, 0)).1 (by omega) (by omega) (by omega)
    rw [c_hs_succ]
    refine Ev.step (f := fun k => (impl_chi_left.f k (cTab n s) ((((cPairs n).getD q (0, 0)).1 : Nat) : Int) ((((cPairs n).getD q (0, 0)).2 : Nat) : Int)).bind fun t280 => (if t280 = 0 then (impl_HullEdges.l0 k (cTab n s) (Go.bits .or .i64 (acc : Int) (shl .i64 1 (q : Int))) (cEdges n) ((cEdges n).length : Int) ((q + 1 : Nat) : Int)) else ((impl_chi_left.f k (cTab n s) ((((cPairs n).getD q (0, 0)).2 : Nat) : Int) ((((cPairs n).getD q (0, 0)).1 : Nat) : Int)).bind fun t281 => (if t281 = 0 then (impl_HullEdges.l0 k (cTab n s) (Go.bits .or .i64 (acc : Int) (shl .i64 1 (q : Int))) (cEdges n) ((cEdges n).length : Int) ((q + 1 : Nat) : Int)) else (impl_HullEdges.l0 k (cTab n s) (acc : Int) (cEdges n) ((cEdges n).length : Int) ((q + 1 : Nat) : Int)))))) (fun k => ?_) (Ev.bind hL1 ?_)
    · simp only [impl_HullEdges.l0]
      rw [c_rdE n q hql, c_edges_length, if_pos (by omega), if_pos (by omega), if_pos (by omega), c_w1 q (by omega)]
      rfl
    · have hyes : cHe n s ((cPairs n).getD q (0, 0)) → Ev (fun k => impl_HullEdges.l0 k (cTab n s) (Go.bits .or .i64 (acc : Int) (shl .i64 1 (q : Int))) (cEdges n) ((cEdges n).length : Int) ((q + 1 : Nat) : Int)) ((acc + ((if cHe n s ((cPairs n).getD q (0, 0)) then 2 ^ q else 0) + cHs n s (q + 1) d) : Nat) : Int) := by
        intro hh
        rw [if_pos hh, c_orH acc q (by omega) ha, ← Nat.add_assoc]
        exact ih (q + 1) (acc + 2 ^ q) (by omega) (by rw [Nat.pow_succ]; omega)
      by_cases e1 : cLeft n s ((cPairs n).getD q (0, 0)).1 ((cPairs n).getD q (0, 0)).2 = 0
      · simp only [if_pos (show ((cLeft n s ((cPairs n).getD q (0, 0)).1 ((cPairs n).getD q (0, 0)).2 : Nat) : Int) = 0 by omega)]
        exact hyes (Or.inl e1)
      · simp only [if_neg (show ¬ ((cLeft n s ((cPairs n).getD q (0, 0)).1 ((cPairs n).getD q (0, 0)).2 : Nat) : Int) = 0 by omega)]
        refine Ev.bind hL2 ?_
        by_cases e2 : cLeft n s ((cPairs n).getD q (0, 0)).2 ((cPairs n).getD q (0, 0)).1 = 0
        · simp only [if_pos (show ((cLeft n s ((cPairs n).getD q (0, 0)).2 ((cPairs n).getD q (0, 0)).1 : Nat) : Int) = 0 by omega)]
          exact hyes (Or.inr e2)
        · simp only [if_neg (show ¬ ((cLeft n s ((cPairs n).getD q (0, 0)).2 ((cPairs n).getD q (0, 0)).1 : Nat) : Int) = 0 by omega)]
          rw [if_neg (show ¬ cHe n s ((cPairs n).getD q (0, 0)) from fun h => h.elim e1 e2), Nat.zero_add]
          exact ih (q + 1) acc (by omega) (by rw [Nat.pow_succ]; omega)
/-- Where the edges of an element begin. -/
def cStH (n i : Nat) : Nat := i * (2 * n - i - 1) / 2
theorem c_st_allH : ∀ n ∈ [3, 4, 5, 6, 7], cStH n 0 = 0 ∧ cStH n n = (cPairs n).length ∧ ∀ i ∈ List.range n, cIdx n i n = cStH n (i + 1) ∧ cIdx n i (i + 1) = cStH n i ∧ cStH n i ≤ (cPairs n).length := by decide +kernel
section
variable (n : Nat) (h3 : 3 ≤ n) (h7 : n ≤ 7) (s : ByteArray) (hs : s.size = (cTrips n).length)
include h3 h7 hs
theorem c_specHull1 (i : Nat) (hi : i < n) (hr : ∀ acc : Nat, acc < 2 ^ cStH n (i + 1) → Ev (fun k => spec_HullEdges.l0 k (acc : Int) ((i + 1 : Nat) : Int) (n : Int) s) ((acc + cHs n s (cStH n (i + 1)) ((cPairs n).length - cStH n (i + 1)) : Nat) : Int)) : ∀ (d j acc : Nat), j + d = n → i < j → acc < 2 ^ cIdx n i j →
    Ev (fun k => spec_HullEdges.l1 k (acc : Int) (i : Int) (j : Int) (n : Int) s) ((acc + cHs n s (cIdx n i j) ((cPairs n).length - cIdx n i j) : Nat) : Int) := by
  have hle := c_pairs_le (n : Int) (by omega) (by omega)
  rw [Int.toNat_natCast] at hle
  intro d
  induction d with
  | zero =>
    intro j acc hj hij ha
    obtain rfl : j = n := by omega
    have hc := ((c_st_allH j (c_five j h3 h7)).2.2 i (by simpa using hi)).1
    rw [hc] at ha ⊢
    refine Ev.step (fun k => ?_) (hr acc ha)
    simp only [spec_HullEdges.l1]; rw [if_neg (by omega), c_w1 i (by omega)]
  | succ d ih =>
    intro j acc hj hij ha
    have hjn : j < n := by omega
    have hq := c_idx_lt n h3 h7 i j hij hjn
    have hget : (cPairs n).getD (cIdx n i j) (0, 0) = (i, j) := (c_l9_all n (c_five n h3 h7) j (by simpa using hjn) i (by simpa using hij)).2.2
    have hnext : cIdx n i (j + 1) = cIdx n i j + 1 := by unfold cIdx; omega
    have hL1 := c_specLeft n h3 h7 s hs i j hi hjn (by omega)
    have hL2 := c_specLeft n h3 h7 s hs j i hjn hi (by omega)
    have h9 := c_l9 n h3 h7 i j hij hjn
    rw [show (cPairs n).length - cIdx n i j = ((cPairs n).length - (cIdx n i j + 1)) + 1 by omega, c_hs_succ, hget]
    have hyes : cHe n s (i, j) → Ev (fun k => (spec_l9Index.f k (n : Int) (i : Int) (j : Int)).bind fun t => if 0 ≤ IntKind.u64.wrap t then spec_HullEdges.l1 k (wrap64 ((acc : Int) + shl .i64 1 (IntKind.u64.wrap t))) (i : Int) ((j + 1 : Nat) : Int) (n : Int) s else none) ((acc + ((if cHe n s (i, j) then 2 ^ cIdx n i j else 0) + cHs n s (cIdx n i j + 1) ((cPairs n).length - (cIdx n i j + 1))) : Nat) : Int) := by
      intro hh
      rw [if_pos hh]
      refine Ev.bind h9 ?_
      have hu : (0 : Int) ≤ IntKind.u64.wrap ((cIdx n i j : Nat) : Int) := by rw [IntWalk.u64_in _ ⟨by omega, by omega⟩]; omega
      simp only [if_pos hu]
      rw [c_plusH acc (cIdx n i j) (by omega) ha, ← Nat.add_assoc]
      have h := ih (j + 1) (acc + 2 ^ cIdx n i j) (by omega) (by omega) (by rw [hnext, Nat.pow_succ]; omega)
      rw [hnext] at h
      exact h
    refine Ev.step (f := fun k => (spec_l7Left.f k (n : Int) s (i : Int) (j : Int)).bind fun t165 => (if t165 = 0 then ((spec_l9Index.f k (n : Int) (i : Int) (j : Int)).bind fun t => if 0 ≤ IntKind.u64.wrap t then spec_HullEdges.l1 k (wrap64 ((acc : Int) + shl .i64 1 (IntKind.u64.wrap t))) (i : Int) ((j + 1 : Nat) : Int) (n : Int) s else none) else ((spec_l7Left.f k (n : Int) s (j : Int) (i : Int)).bind fun t167 => (if t167 = 0 then ((spec_l9Index.f k (n : Int) (i : Int) (j : Int)).bind fun t => if 0 ≤ IntKind.u64.wrap t then spec_HullEdges.l1 k (wrap64 ((acc : Int) + shl .i64 1 (IntKind.u64.wrap t))) (i : Int) ((j + 1 : Nat) : Int) (n : Int) s else none) else spec_HullEdges.l1 k (acc : Int) (i : Int) ((j + 1 : Nat) : Int) (n : Int) s)))) (fun k => ?_) (Ev.bind hL1 ?_)
    · simp only [spec_HullEdges.l1]; rw [if_pos (by omega), c_w1 j (by omega)]
    · by_cases e1 : cLeft n s i j = 0
      · simp only [if_pos (show ((cLeft n s i j : Nat) : Int) = 0 by omega)]
        exact hyes (Or.inl e1)
      · simp only [if_neg (show ¬ ((cLeft n s i j : Nat) : Int) = 0 by omega)]
        refine Ev.bind hL2 ?_
        by_cases e2 : cLeft n s j i = 0
        · simp only [if_pos (show ((cLeft n s j i : Nat) : Int) = 0 by omega)]
          exact hyes (Or.inr e2)
        · simp only [if_neg (show ¬ ((cLeft n s j i : Nat) : Int) = 0 by omega)]
          rw [if_neg (show ¬ cHe n s (i, j) from fun h => h.elim e1 e2), Nat.zero_add]
          have h := ih (j + 1) acc (by omega) (by omega) (by rw [hnext, Nat.pow_succ]; omega)
          rw [hnext] at h
          exact h
theorem c_specHull0 (hA : Ev (fun k => spec_IsAcyclic.f k (n : Int) s) true) : ∀ (d i acc : Nat), i + d = n → acc < 2 ^ cStH n i →
    Ev (fun k => spec_HullEdges.l0 k (acc : Int) (i : Int) (n : Int) s) ((acc + cHs n s (cStH n i) ((cPairs n).length - cStH n i) : Nat) : Int) := by
  intro d
  induction d with
  | zero =>
    intro i acc hi ha
    obtain rfl : i = n := by omega
    have hc := (c_st_allH i (c_five i h3 h7)).2.1
    rw [hc, Nat.sub_self]
    refine Ev.step (f := fun k => spec_HullEdges.j1 k (acc : Int) (i : Int) false (i : Int) s) (fun k => ?_) (Ev.step (f := fun _ => some (acc : Int)) (fun k => ?_) (Ev.now _))
    · simp only [spec_HullEdges.l0]; rw [if_neg (by omega)]
    · simp only [spec_HullEdges.j1, Bool.false_eq_true, if_false]
  | succ d ih =>
    intro i acc hi ha
    have hin : i < n := by omega
    have hc := ((c_st_allH n (c_five n h3 h7)).2.2 i (by simpa using hin)).2.1
    have h1 := c_specHull1 n h3 h7 s hs i hin (fun (acc : Nat) h => ih (i + 1) acc (by omega) h) d (i + 1) acc (by omega) (by omega) (by rw [hc]; exact ha)
    rw [hc] at h1
    refine Ev.step (f := fun k => (spec_IsAcyclic.f k (n : Int) s).bind fun t => spec_HullEdges.j1 k (acc : Int) (i : Int) t (n : Int) s) (fun k => ?_) (Ev.bind hA (Ev.step (fun k => ?_) h1))
    · simp only [spec_HullEdges.l0]; rw [if_pos (by omega)]
    · simp only [spec_HullEdges.j1, if_true]; rw [c_w1 i (by omega)]
end
def cHullEdges (n : Int) (s : ByteArray) : Int := if cAcy n s = true then ((cHs n.toNat s 0 (cPairs n.toNat).length : Nat) : Int) else 0
theorem c_specHullEdges (n : Int) (s : ByteArray) (hs : s.size ≤ 1099511627776) : Ev (fun k => spec_HullEdges.f k n s) (cHullEdges n s) := by
  have hA := c_specAcy n s hs
  unfold spec_HullEdges.f cHullEdges
  by_cases h : cAcy n s = true
  · rw [h] at hA
    rw [if_pos h]
    obtain ⟨m, rfl, h3, h7, hz2⟩ := c_acy_open n s h
    have hst := (c_st_allH m (c_five m h3 h7)).1
    have hS := c_specHull0 m h3 h7 s hz2 hA m 0 0 (by omega) (by rw [hst]; decide)
    rw [hst, Nat.zero_add, Nat.sub_zero] at hS
    rw [Int.toNat_natCast]; exact hS
  · rw [if_neg h]
    rw [Bool.not_eq_true] at h
    rw [h] at hA
    by_cases h0 : (0 : Int) < n
    · refine Ev.step (f := fun k => (spec_IsAcyclic.f k n s).bind fun t => spec_HullEdges.j1 k 0 0 t n s) (fun k => by simp only [spec_HullEdges.l0]; rw [if_pos h0]) (Ev.bind hA (Ev.step (f := fun _ => some 0) (fun k => ?_) (Ev.now _)))
      simp only [spec_HullEdges.j1, Bool.false_eq_true, if_false]
    · refine Ev.step (f := fun k => spec_HullEdges.j1 k 0 0 false n s) (fun k => by simp only [spec_HullEdges.l0]; rw [if_neg h0]) (Ev.step (f := fun _ => some 0) (fun k => ?_) (Ev.now _))
      simp only [spec_HullEdges.j1, Bool.false_eq_true, if_false]
theorem c_implHullEdges (n : Int) (s : ByteArray) (hs : s.size ≤ 1099511627776) : Ev (fun k => impl_HullEdges.f k n s) (cHullEdges n s) := by
  have hO := c_orderOf n s hs
  unfold impl_HullEdges.f cHullEdges
  by_cases h : cAcy n s = true
  · rw [if_pos h] at hO
    rw [if_pos h]
    obtain ⟨m, rfl, h3, h7, hz2⟩ := c_acy_open n s h
    have hI := c_implHull m h3 h7 s (cPairs m).length 0 0 (by omega) (by decide)
    rw [Nat.zero_add] at hI
    refine Ev.bind hO ?_
    simp only [if_true, Int.toNat_natCast]
    have he := c_edgesOf (m : Int) (by omega) (by omega)
    rw [Int.toNat_natCast] at he
    exact Ev.bind he hI
  · rw [if_neg h] at hO
    rw [if_neg h]
    refine Ev.bind hO ?_
    simp only [Bool.false_eq_true, if_false]; exact Ev.now _

end Go.Proofs.Ytmidcafamppkeaa.P
