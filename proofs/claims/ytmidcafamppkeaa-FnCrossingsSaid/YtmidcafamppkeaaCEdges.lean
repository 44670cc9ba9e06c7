/- Plain laws of the edges of at most seven elements: the program's list of them, the reference's index and edge. Conditions: three to seven elements. -/
import Derived.Test.YtmidcafamppkeaaCNum
import Derived.Test.YtmidcafamppkeaaP4
namespace Go.Proofs.Ytmidcafamppkeaa.P
open Go.RowKit Go.Proofs.YtmidcafamppkeaaW.PrintWords Go.Proofs.YtmidcafamppkeaaW.PrintLast
set_option linter.unusedVariables false

/-- The edges in order. -/
def cPairs (n : Nat) : List (Nat × Nat) := (List.range n).flatMap fun i => (List.range' (i + 1) (n - (i + 1))).map fun j => (i, j)
def cE (p : Nat × Nat) : S49 := ⟨(p.1 : Int), (p.2 : Int)⟩
def cEdges (n : Nat) : List S49 := (cPairs n).map cE
theorem c_three7 (n : Int) (h3 : 3 ≤ n) (h7 : n ≤ 7) : n = 3 ∨ n = 4 ∨ n = 5 ∨ n = 6 ∨ n = 7 := by omega
theorem c_edgesOf (n : Int) (h3 : 3 ≤ n) (h7 : n ≤ 7) : Ev (fun k => impl_edgesOf.f k n) (cEdges n.toNat) := by
  rcases c_three7 n h3 h7 with rfl | rfl | rfl | rfl | rfl <;> exact Ev.of (impl_edgesOf.mono _) (k := 60) (by kernel_rfl)
theorem c_pairs7 (n : Int) (h3 : 3 ≤ n) (h7 : n ≤ 7) : wrap64 (Int.tdiv (wrap64 (n * (wrap64 (n - 1)))) 2) = ((cPairs n.toNat).length : Int) := by
  rcases c_three7 n h3 h7 with rfl | rfl | rfl | rfl | rfl <;> decide +kernel
theorem c_pairs_le (n : Int) (h3 : 3 ≤ n) (h7 : n ≤ 7) : (cPairs n.toNat).length ≤ 21 := by
  rcases c_three7 n h3 h7 with rfl | rfl | rfl | rfl | rfl <;> decide +kernel
theorem c_pairs_get (n : Int) (h3 : 3 ≤ n) (h7 : n ≤ 7) : ∀ p ∈ cPairs n.toNat, p.1 < p.2 ∧ p.2 < n.toNat := by
  rcases c_three7 n h3 h7 with rfl | rfl | rfl | rfl | rfl <;> decide +kernel
theorem c_edges_length (n : Nat) : (cEdges n).length = (cPairs n).length := by simp [cEdges]
theorem c_rdE (n : Nat) (q : Nat) (h : q < (cPairs n).length) : rd_T49 (cEdges n) (q : Int) = cE ((cPairs n).getD q (0, 0)) := by
  simp [rd_T49, cEdges, List.getD_eq_getElem?_getD, List.getElem?_eq_getElem h]
/-- The index of an edge. -/
def cIdx (n i j : Nat) : Nat := i * (2 * n - i - 1) / 2 + (j - i - 1)
theorem c_l9_all : ∀ n ∈ [3, 4, 5, 6, 7], ∀ j ∈ List.range n, ∀ i ∈ List.range j, spec_l9Index.f 12 (n : Nat) (i : Nat) (j : Nat) = some ((cIdx n i j : Nat) : Int) ∧ cIdx n i j < (cPairs n).length ∧ (cPairs n).getD (cIdx n i j) (0, 0) = (i, j) := by decide +kernel
theorem c_l9 (n : Nat) (h3 : 3 ≤ n) (h7 : n ≤ 7) (i j : Nat) (hij : i < j) (hj : j < n) : Ev (fun k => spec_l9Index.f k (n : Int) (i : Int) (j : Int)) ((cIdx n i j : Nat) : Int) :=
  Ev.of (spec_l9Index.mono _ _ _) (k := 12) (c_l9_all n (by simp; omega) j (by simpa using hj) i (by simpa using hij)).1
theorem c_idx_lt (n : Nat) (h3 : 3 ≤ n) (h7 : n ≤ 7) (i j : Nat) (hij : i < j) (hj : j < n) : cIdx n i j < (cPairs n).length :=
  (c_l9_all n (by simp; omega) j (by simpa using hj) i (by simpa using hij)).2.1
theorem c_l9_val (n : Nat) (h3 : 3 ≤ n) (h7 : n ≤ 7) (i j : Nat) (hij : i < j) (hj : j < n) (k : Nat) (t : Int) (h : spec_l9Index.f k (n : Int) (i : Int) (j : Int) = some t) : t = ((cIdx n i j : Nat) : Int) := by
  obtain ⟨K, hK⟩ := c_l9 n h3 h7 i j hij hj
  have h1 := at_rounds (g := fun k => spec_l9Index.f k (n : Int) (i : Int) (j : Int)) (spec_l9Index.mono _ _ _) (Nat.le_max_left k K) h
  have h2 := hK (max k K) (Nat.le_max_right k K)
  exact Option.some.inj (h1.symm.trans h2)
/-- The edge of an index. -/
def cEdgeAt (n : Int) (q : Int) : Int × Int := if 0 ≤ q ∧ q < ((cPairs n.toNat).length : Int) then ((((cPairs n.toNat).getD q.toNat (0, 0)).1 : Int), (((cPairs n.toNat).getD q.toNat (0, 0)).2 : Int)) else (-1, -1)
theorem c_edgeAt_in : ∀ n ∈ [3, 4, 5, 6, 7], ∀ q ∈ List.range (cPairs n).length, spec_EdgeAt.f 60 (n : Nat) (q : Nat) = some ((((cPairs n).getD q (0, 0)).1 : Int), (((cPairs n).getD q (0, 0)).2 : Int)) := by decide +kernel
theorem c_edgeAt_none : ∀ n ∈ [3, 4, 5, 6, 7], spec_EdgeAt.f 60 (n : Nat) (-1) = some (-1, -1) := by decide +kernel
theorem c_edgeAt_out (n : Nat) (h3 : 3 ≤ n) (h7 : n ≤ 7) (q : Int) (hq : ¬ (0 ≤ q ∧ q < ((cPairs n).length : Int))) : ∀ k,
    (∀ i : Nat, spec_EdgeAt.l0 k (n : Int) q (i : Int) = spec_EdgeAt.l0 k (n : Int) (-1) (i : Int)) ∧
    (∀ i j : Nat, i < j → j ≤ 100 → spec_EdgeAt.l1 k (n : Int) q (i : Int) (j : Int) = spec_EdgeAt.l1 k (n : Int) (-1) (i : Int) (j : Int)) := by
  intro k
  induction k with
  | zero => exact ⟨fun _ => rfl, fun _ _ _ _ => rfl⟩
  | succ k ih =>
    refine ⟨fun i => ?_, fun i j hij hj100 => ?_⟩
    · simp only [spec_EdgeAt.l0]
      by_cases hi : (i : Int) < (n : Int)
      · rw [if_pos hi, if_pos hi, c_w1 i (by omega)]; exact ih.2 i (i + 1) (by omega) (by omega)
      · rw [if_neg hi, if_neg hi]
    · simp only [spec_EdgeAt.l1]
      by_cases hj : (j : Int) < (n : Int)
      · rw [if_pos hj, if_pos hj, c_w1 j (by omega)]
        cases h : spec_l9Index.f k (n : Int) (i : Int) (j : Int) with
        | none => rfl
        | some t =>
          have e := c_l9_val n h3 h7 i j hij (by omega) k t h
          have hlt := c_idx_lt n h3 h7 i j hij (by omega)
          simp only [Option.bind_some]
          rw [if_neg (by omega), if_neg (by omega)]; exact ih.2 i (j + 1) (by omega) (by omega)
      · rw [if_neg hj, if_neg hj, c_w1 i (by omega)]; exact ih.1 (i + 1)
theorem c_specEdgeAt (n : Int) (h3 : 3 ≤ n) (h7 : n ≤ 7) (q : Int) : Ev (fun k => spec_EdgeAt.f k n q) (cEdgeAt n q) := by
  refine Ev.of (spec_EdgeAt.mono _ _) (k := 60) ?_
  obtain ⟨m, rfl⟩ : ∃ m : Nat, n = (m : Int) := ⟨n.toNat, by omega⟩
  have hm : m ∈ [3, 4, 5, 6, 7] := by simp; omega
  unfold cEdgeAt
  by_cases hq : 0 ≤ q ∧ q < ((cPairs m).length : Int)
  · obtain ⟨r, rfl⟩ : ∃ r : Nat, q = (r : Int) := ⟨q.toNat, by omega⟩
    rw [if_pos (by simpa using hq)]
    have := c_edgeAt_in m hm r (by simp; omega)
    simpa using this
  · rw [if_neg (by simpa using hq)]
    have h1 := c_edgeAt_none m hm
    unfold spec_EdgeAt.f at h1 ⊢
    have h2 := (c_edgeAt_out m (by omega) (by omega) q hq 60).1 0
    rw [show ((0 : Nat) : Int) = 0 from rfl] at h2
    rw [h2]; exact h1
end Go.Proofs.Ytmidcafamppkeaa.P
