/- For each edge the set of the edges that cross it: what the program computes, and the reference's test of two edges. Conditions: order signs. -/
import Derived.Test.YtmidcafamppkeaaCCross
import Derived.Test.YtmidcafamppkeaaCDiff
import Derived.Test.YtmidcafamppkeaaCEdges
import Derived.Laws.BitsLemmas
import Derived.Test.YtmidcafamppkeaaP41
namespace Go.Proofs.Ytmidcafamppkeaa.P
open Go.RowKit Go.Proofs.YtmidcafamppkeaaW.PrintWords Go.Proofs.YtmidcafamppkeaaW.PrintLast
set_option linter.unusedVariables false

theorem c_xshl_all : ∀ q ∈ List.range 22, shl .i64 1 (q : Nat) = ((2 ^ q : Nat) : Int) ∧ 2 ^ q ≤ 2097152 := by decide +kernel
theorem c_xshl (q : Nat) (hq : q < 22) : shl .i64 1 (q : Int) = ((2 ^ q : Nat) : Int) := (c_xshl_all q (by simpa using hq)).1
theorem c_xor (acc q : Nat) (hq : q < 22) (ha : acc < 2 ^ q) : Go.bits .or .i64 (acc : Int) (shl .i64 1 (q : Int)) = ((acc + 2 ^ q : Nat) : Int) := by
  have hp := (c_xshl_all q (by simpa using hq)).2
  rw [c_xshl q hq, (bits_nat .i64 40 (by decide) (fun n h0 h1 => by rw [IntKind.wrap_i64]; omega) acc (2 ^ q) (by omega) (by omega)).2]
  have h := Nat.two_pow_add_eq_or_of_lt ha 1
  rw [Nat.mul_one, Nat.or_comm] at h
  rw [← h, Nat.add_comm]
/-- The set of the places at which f holds, from q on. -/
def cSum (f : Nat → Bool) (q d : Nat) : Nat := ((List.range' q d).map fun q => if f q = true then 2 ^ q else 0).sum
theorem c_sum_succ (f : Nat → Bool) (q d : Nat) : cSum f q (d + 1) = (if f q = true then 2 ^ q else 0) + cSum f (q + 1) d := by
  unfold cSum; rw [List.range'_succ, List.map_cons, List.sum_cons]
instance (n : Nat) (q : Nat × Nat × Nat × Nat) : Decidable (cD4 n q) := by unfold cD4; exact inferInstance
/-- Do two edges cross? -/
def cCx (n : Nat) (s : ByteArray) (p r : Nat × Nat) : Bool := if cD4 n (p.1, p.2, r.1, r.2) then cCr (cCq n s (p.1, p.2, r.1, r.2)) (p.1, p.2, r.1, r.2) else false
theorem c_specCx (n : Nat) (h3 : 3 ≤ n) (h7 : n ≤ 7) (s : ByteArray) (hs : s.size = (cTrips n).length) (a b c d : Nat) (hab : a < b) (hb : b < n) (hcd : c < d) (hd : d < n) :
    Ev (fun k => spec_l9Cross.f k (n : Int) s (a : Int) (b : Int) (c : Int) (d : Int)) (cCx n s (a, b) (c, d)) := by
  unfold cCx
  by_cases h : cD4 n (a, b, c, d)
  · simp only [if_pos h]
    exact c_specCross n h3 h7 s hs a b c d h
  · simp only [if_neg h]
    refine Ev.congr (f := fun _ => some false) (fun k => ?_) (Ev.now _)
    unfold spec_l9Cross.f
    simp only [cD4] at h
    by_cases e1 : (a : Int) = (c : Int)
    · rw [if_pos e1]
    rw [if_neg e1]
    by_cases e2 : (a : Int) = (d : Int)
    · rw [if_pos e2]
    rw [if_neg e2]
    by_cases e3 : (b : Int) = (c : Int)
    · rw [if_pos e3]
    rw [if_neg e3]
    by_cases e4 : (b : Int) = (d : Int)
    · rw [if_pos e4]
    exact absurd (show _ ∧ _ ∧ _ ∧ _ ∧ _ ∧ _ ∧ _ ∧ _ ∧ _ ∧ _ from ⟨by omega, hb, by omega, hd, by omega, by omega, by omega, by omega, by omega, by omega⟩) h
theorem c_diff_cD4 : ∀ n ∈ [3, 4, 5, 6, 7], ∀ p ∈ cPairs n, ∀ r ∈ cPairs n, cDiff (n : Nat) [] [(p.1 : Nat), (p.2 : Nat), (r.1 : Nat), (r.2 : Nat)] = decide (cD4 n (p.1, p.2, r.1, r.2)) := by decide +kernel
/-- The edges that cross an edge. -/
def cRow (n : Nat) (s : ByteArray) (p : Nat × Nat) (q d : Nat) : Nat := cSum (fun q => cCx n s p ((cPairs n).getD q (0, 0))) q d
def cRows (n : Nat) (s : ByteArray) : List Int := (cPairs n).map fun p => ((cRow n s p 0 (cPairs n).length : Nat) : Int)
theorem c_row_succ (n : Nat) (s : ByteArray) (p : Nat × Nat) (q d : Nat) : cRow n s p q (d + 1) = (if cCx n s p ((cPairs n).getD q (0, 0)) = true then 2 ^ q else 0) + cRow n s p (q + 1) d := c_sum_succ _ _ _
theorem c_set_same (L : List Int) (m : Nat) : L.set m (L.getD m 0) = L := by
  apply List.ext_getElem?
  intro i
  rw [List.getElem?_set]
  by_cases h : m = i
  · subst h
    by_cases hl : m < L.length
    · rw [if_pos rfl, if_pos hl, List.getD_eq_getElem?_getD, List.getElem?_eq_getElem hl]; rfl
    · rw [if_pos rfl, if_neg hl, List.getElem?_eq_none (by omega)]
  · rw [if_neg h]
theorem c_xing1 (n : Nat) (h3 : 3 ≤ n) (h7 : n ≤ 7) (s : ByteArray) (m : Nat) (hm : m < (cPairs n).length) (p : Nat × Nat) (hp : (cPairs n).getD m (0, 0) = p) (r : List Int) : ∀ (d q acc : Nat) (L : List Int), q + d = (cPairs n).length → acc < 2 ^ q → L.length = (cPairs n).length → L.getD m 0 = (acc : Int) →
    Ev (fun k => impl_chi_crossings.l0 k (cTab n s) (cEdges n) (L.set m ((acc + cRow n s p q d : Nat) : Int)) (cEdges n) ((cEdges n).length : Int) ((m + 1 : Nat) : Int)) r →
    Ev (fun k => impl_chi_crossings.l1 k (cTab n s) (cEdges n) L (m : Int) (cEdges n) ((cEdges n).length : Int) (m : Int) (cEdges n) ((cEdges n).length : Int) (q : Int) (p.1 : Int) (p.2 : Int)) r := by
  have hle := c_pairs_le (n : Int) (by omega) (by omega)
  rw [Int.toNat_natCast] at hle
  have hl := c_tab_len n s
  have hn0 := c_tab_n n h3 h7 s
  have hmem : ∀ q, q < (cPairs n).length → (cPairs n).getD q (0, 0) ∈ cPairs n := fun q hq => by rw [List.getD_eq_getElem?_getD, List.getElem?_eq_getElem hq]; exact List.getElem_mem _
  have hpm := hmem m hm
  rw [hp] at hpm
  intro d
  induction d with
  | zero =>
    intro q acc L hq ha hL hacc hr
    have e : L.set m ((acc + cRow n s p q 0 : Nat) : Int) = L := by
      have h0 : cRow n s p q 0 = 0 := rfl
      rw [h0, Nat.add_zero, ← hacc]; exact c_set_same L m
    rw [e] at hr
    refine Ev.step (fun k => ?_) hr
    simp only [impl_chi_crossings.l1]; rw [c_edges_length, if_neg (by omega), c_w1 m (by omega)]
  | succ d ih =>
    intro q acc L hq ha hL hacc hr
    have hql : q < (cPairs n).length := by omega
    have hrm := hmem q hql
    have hdiff := c_implDiff (n : Int) [(p.1 : Int), (p.2 : Int), ((((cPairs n).getD q (0, 0)).1 : Nat) : Int), ((((cPairs n).getD q (0, 0)).2 : Nat) : Int)] (by simp)
    rw [c_diff_cD4 n (c_five n h3 h7) p hpm _ hrm] at hdiff
    rw [c_row_succ] at hr
    refine Ev.step (f := fun k => (impl_areDifferent.f k (n : Int) [(p.1 : Int), (p.2 : Int), ((((cPairs n).getD q (0, 0)).1 : Nat) : Int), ((((cPairs n).getD q (0, 0)).2 : Nat) : Int)]).bind fun t365 => (if t365 = true then ((impl_chi_cross.f k (cTab n s) (p.1 : Int) (p.2 : Int) ((((cPairs n).getD q (0, 0)).1 : Nat) : Int) ((((cPairs n).getD q (0, 0)).2 : Nat) : Int)).bind fun t366 => (if t366 = true then (impl_chi_crossings.l1 k (cTab n s) (cEdges n) (L.set m (Go.bits .or .i64 (acc : Int) (shl .i64 1 (q : Int)))) (m : Int) (cEdges n) ((cEdges n).length : Int) (m : Int) (cEdges n) ((cEdges n).length : Int) ((q + 1 : Nat) : Int) (p.1 : Int) (p.2 : Int)) else (impl_chi_crossings.l1 k (cTab n s) (cEdges n) L (m : Int) (cEdges n) ((cEdges n).length : Int) (m : Int) (cEdges n) ((cEdges n).length : Int) ((q + 1 : Nat) : Int) (p.1 : Int) (p.2 : Int)))) else (impl_chi_crossings.l1 k (cTab n s) (cEdges n) L (m : Int) (cEdges n) ((cEdges n).length : Int) (m : Int) (cEdges n) ((cEdges n).length : Int) ((q + 1 : Nat) : Int) (p.1 : Int) (p.2 : Int)))) (fun k => ?_) (Ev.bind hdiff ?_)
    · have hrd : rd L (m : Int) = (acc : Int) := by rw [c_rd]; exact hacc
      simp only [impl_chi_crossings.l1]
      rw [c_rdE n q hql, c_edges_length, if_pos (by omega), if_pos (by omega), if_pos (by omega), if_pos (by omega), hn0, c_w1 q (by omega), hrd, if_pos (show (0 : Int) ≤ (m : Int) by omega), if_pos (show (m : Int) < (L.length : Int) by omega), Int.toNat_natCast]
      rfl
    · by_cases hD : cD4 n (p.1, p.2, ((cPairs n).getD q (0, 0)).1, ((cPairs n).getD q (0, 0)).2)
      · simp only [decide_eq_true hD, if_true]
        refine Ev.bind (c_implCross n h3 h7 s p.1 p.2 _ _ hD) ?_
        have hcx : cCx n s p ((cPairs n).getD q (0, 0)) = cCr (cCq n s (p.1, p.2, ((cPairs n).getD q (0, 0)).1, ((cPairs n).getD q (0, 0)).2)) (p.1, p.2, ((cPairs n).getD q (0, 0)).1, ((cPairs n).getD q (0, 0)).2) := by unfold cCx; rw [if_pos hD]
        rw [← hcx]
        by_cases hc : cCx n s p ((cPairs n).getD q (0, 0)) = true
        · rw [if_pos hc] at hr
          simp only [if_pos hc]
          rw [c_xor acc q (by omega) ha]
          refine ih (q + 1) (acc + 2 ^ q) _ (by omega) (by rw [Nat.pow_succ]; omega) (by rw [List.length_set]; exact hL) (by rw [c_getD_set _ _ _ _ (by omega), if_pos rfl]) ?_
          rw [List.set_set, Nat.add_assoc]
          exact hr
        · rw [if_neg hc, Nat.zero_add] at hr
          simp only [if_neg hc]
          exact ih (q + 1) acc L (by omega) (by rw [Nat.pow_succ]; omega) hL hacc hr
      · have hc : ¬ cCx n s p ((cPairs n).getD q (0, 0)) = true := by unfold cCx; rw [if_neg hD]; simp
        rw [if_neg hc, Nat.zero_add] at hr
        simp only [decide_eq_false hD, Bool.false_eq_true, if_false]
        exact ih (q + 1) acc L (by omega) (by rw [Nat.pow_succ]; omega) hL hacc hr
theorem c_xing0 (n : Nat) (h3 : 3 ≤ n) (h7 : n ≤ 7) (s : ByteArray) : ∀ (d m : Nat), m + d = (cPairs n).length →
    Ev (fun k => impl_chi_crossings.l0 k (cTab n s) (cEdges n) ((cRows n s).take m ++ List.replicate d 0) (cEdges n) ((cEdges n).length : Int) (m : Int)) (cRows n s) := by
  have hle := c_pairs_le (n : Int) (by omega) (by omega)
  rw [Int.toNat_natCast] at hle
  have hlr : (cRows n s).length = (cPairs n).length := by simp [cRows]
  intro d
  induction d with
  | zero =>
    intro m hm
    rw [List.take_of_length_le (by omega), List.replicate_zero, List.append_nil]
    refine Ev.step (f := fun _ => some (cRows n s)) (fun k => ?_) (Ev.now _)
    simp only [impl_chi_crossings.l0]; rw [c_edges_length, if_neg (by omega)]
  | succ d ih =>
    intro m hm
    have hml : m < (cPairs n).length := by omega
    have htl : ((cRows n s).take m).length = m := by rw [List.length_take]; omega
    have hget : (cRows n s)[m]? = some ((cRow n s ((cPairs n).getD m (0, 0)) 0 (cPairs n).length : Nat) : Int) := by
      unfold cRows
      rw [List.getElem?_map, List.getD_eq_getElem?_getD, List.getElem?_eq_getElem hml]; rfl
    refine Ev.step (f := fun k => impl_chi_crossings.l1 k (cTab n s) (cEdges n) ((cRows n s).take m ++ List.replicate (d + 1) 0) (m : Int) (cEdges n) ((cEdges n).length : Int) (m : Int) (cEdges n) ((cEdges n).length : Int) ((0 : Nat) : Int) ((((cPairs n).getD m (0, 0)).1 : Nat) : Int) ((((cPairs n).getD m (0, 0)).2 : Nat) : Int)) (fun k => ?_) ?_
    · simp only [impl_chi_crossings.l0]
      rw [c_rdE n m hml, c_edges_length, if_pos (by omega), if_pos (by omega), if_pos (by omega)]
      rfl
    · refine c_xing1 n h3 h7 s m hml _ rfl _ (cPairs n).length 0 0 _ (by omega) (by decide) (by rw [List.length_append, htl, List.length_replicate]; omega) ?_ ?_
      · rw [List.getD_eq_getElem?_getD, List.getElem?_append_right (by omega), htl, Nat.sub_self, List.getElem?_replicate]; simp
      · have e : ((cRows n s).take m ++ List.replicate (d + 1) 0).set m ((0 + cRow n s ((cPairs n).getD m (0, 0)) 0 (cPairs n).length : Nat) : Int) = (cRows n s).take (m + 1) ++ List.replicate d 0 := by
          rw [List.set_append_right _ _ (by omega), htl, Nat.sub_self, List.replicate_succ, List.set_cons_zero, Nat.zero_add, List.take_add_one, hget]
          simp
        rw [e]
        exact ih (m + 1) (by omega)
theorem c_crossings (n : Nat) (h3 : 3 ≤ n) (h7 : n ≤ 7) (s : ByteArray) : Ev (fun k => impl_chi_crossings.f k (cTab n s)) (cRows n s) := by
  have hle := c_pairs_le (n : Int) (by omega) (by omega)
  rw [Int.toNat_natCast] at hle
  have hl := c_tab_len n s
  unfold impl_chi_crossings.f
  have h344 : (344 : Int) ≤ ((cTab n s).length : Int) := by omega
  simp only [if_pos h344, c_tab_n n h3 h7 s]
  have he := c_edgesOf (n : Int) (by omega) (by omega)
  rw [Int.toNat_natCast] at he
  refine Ev.bind he ?_
  have hz : (0 : Int) ≤ ((cEdges n).length : Int) := by omega
  have hz2 : (cEdges n).length ≤ 35184372088832 := by rw [c_edges_length]; omega
  simp only [if_pos hz, Int.toNat_natCast, if_pos hz2]
  have h := c_xing0 n h3 h7 s (cPairs n).length 0 (by omega)
  rw [List.take_zero, List.nil_append, ← c_edges_length] at h
  exact h

end Go.Proofs.Ytmidcafamppkeaa.P
