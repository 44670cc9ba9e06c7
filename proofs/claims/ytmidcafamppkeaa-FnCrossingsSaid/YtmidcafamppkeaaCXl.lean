/- Crossings of order signs of at most six elements: free edges and hull edges are plane, crossing pairs are convex fours, what crosses once does not cross otherwise. Conditions: order signs. -/
import Derived.Test.YtmidcafamppkeaaCHx
import Derived.Test.YtmidcafamppkeaaCQd
import Derived.Test.YtmidcafamppkeaaCFreeE
import Derived.Test.YtmidcafamppkeaaCDiff
import Derived.Test.YtmidcafamppkeaaCSDiff
import Derived.Test.YtmidcafamppkeaaP41
import Derived.Test.YtmidcafamppkeaaP16
import Derived.Test.YtmidcafamppkeaaP48
import Derived.Test.YtmidcafamppkeaaP48
import Derived.Test.YtmidcafamppkeaaP4
import Derived.Test.YtmidcafamppkeaaP20
namespace Go.Proofs.Ytmidcafamppkeaa.P
open Go.RowKit Go.Proofs.YtmidcafamppkeaaW.PrintWords Go.Proofs.YtmidcafamppkeaaW.PrintLast
set_option linter.unusedVariables false
set_option linter.unusedSimpArgs false

/-! ### when two edges cross -/
theorem x_cr_all : ∀ t ∈ cTexts, ∀ a ∈ List.range 6, ∀ b ∈ List.range 6, ∀ c ∈ List.range 6, ∀ d ∈ List.range 6, (a ≠ b ∧ a ≠ c ∧ a ≠ d ∧ b ≠ c ∧ b ≠ d ∧ c ≠ d) → cCr t (a, b, c, d) = decide (t.toList = ([43, 43, 45, 45] : List UInt8)) := by decide +kernel
theorem x_circ (x y z u : Int) (hx : x = 1 ∨ x = -1) (hy : y = 1 ∨ y = -1) (hz : z = 1 ∨ z = -1) (hu : u = 1 ∨ u = -1) : (cCirc x y z u).toList = ([43, 43, 45, 45] : List UInt8) ↔ y = -x ∧ z = -x ∧ u = x := by
  rcases hx with rfl | rfl <;> rcases hy with rfl | rfl <;> rcases hz with rfl | rfl <;> rcases hu with rfl | rfl <;> decide +kernel
theorem x_cr (n : Nat) (h6 : n ≤ 6) (s : ByteArray) (a b c d : Nat) (h : cD4 n (a, b, c, d)) : cCr (cCq n s (a, b, c, d)) (a, b, c, d) = true ↔ cAt n s a c d = -cAt n s b c d ∧ cAt n s a b d = -cAt n s b c d ∧ cAt n s a b c = cAt n s b c d := by
  simp only [cD4] at h
  rw [x_cr_all _ (c_text n s _) a (by simp; omega) b (by simp; omega) c (by simp; omega) d (by simp; omega) (by omega), decide_eq_true_eq]
  unfold cCq
  exact x_circ _ _ _ _ (c_at_pm _ _ _ _ _) (c_at_pm _ _ _ _ _) (c_at_pm _ _ _ _ _) (c_at_pm _ _ _ _ _)
section
variable (n : Nat) (h3 : 3 ≤ n) (h6 : n ≤ 6) (s : ByteArray)
include h3 h6
theorem x_cyc (a b c : Nat) (h : cD3 n a b c) : cAt n s b c a = cAt n s a b c := (c_at_cyc n h3 (by omega) s a b c h).symm
theorem x_rev (a b c : Nat) (h : cD3 n a b c) : cAt n s c b a = -cAt n s a b c := by
  have h1 := hx_at_swap n s b c a (by unfold cD3 at *; omega)
  rw [h1, x_cyc n h3 h6 s a b c h]
/-- What crosses once does not cross otherwise, and crosses told the other way round. -/
theorem x_once (a b c d : Nat) (h : cD4 n (a, b, c, d)) (hc : cCr (cCq n s (a, b, c, d)) (a, b, c, d) = true) : cCr (cCq n s (a, c, b, d)) (a, c, b, d) = false ∧ cCr (cCq n s (c, d, b, a)) (c, d, b, a) = true := by
  rw [x_cr n h6 s a b c d h] at hc
  simp only [cD4] at h
  obtain ⟨e1, e2, e3⟩ := hc
  have hp := c_at_pm n s b c d
  constructor
  · rw [← Bool.not_eq_true, x_cr n h6 s a c b d (by unfold cD4; simp only; omega)]
    have k1 : cAt n s c b d = -cAt n s b c d := hx_at_swap n s b c d (by unfold cD3; omega)
    rw [k1, e2]
    rintro ⟨k, -, -⟩; omega
  · rw [x_cr n h6 s c d b a (by unfold cD4; simp only; omega)]
    have k1 : cAt n s d b a = -cAt n s a b d := x_rev n h3 h6 s a b d (by unfold cD3; omega)
    have k2 : cAt n s c b a = -cAt n s a b c := x_rev n h3 h6 s a b c (by unfold cD3; omega)
    have k3 : cAt n s c d a = cAt n s a c d := x_cyc n h3 h6 s a c d (by unfold cD3; omega)
    have k4 : cAt n s c d b = cAt n s b c d := x_cyc n h3 h6 s b c d (by unfold cD3; omega)
    rw [k1, k2, k3, k4]; omega
/-! ### free edges and hull edges -/
omit h3 in
theorem x_hull_free (i j : Nat) (hi : i < n) (hj : j < n) (hij : i ≠ j) (h : cHe n s (i, j)) (r : Nat × Nat) : cCx n s (i, j) r = false := by
  unfold cCx
  by_cases hd : cD4 n (i, j, r.1, r.2)
  · rw [if_pos hd, ← Bool.not_eq_true, x_cr n h6 s i j r.1 r.2 hd]
    simp only [cD4] at hd
    rintro ⟨e1, e2, e3⟩
    unfold cHe at h
    simp only [hx_left] at h
    have hp := c_at_pm n s j r.1 r.2
    rcases h with h | h
    · have a1 := h r.1 (by omega) (by omega) (by omega)
      have a2 := h r.2 (by omega) (by omega) (by omega)
      omega
    · have a1 := h r.1 (by omega) (by omega) (by omega)
      have a2 := h r.2 (by omega) (by omega) (by omega)
      have b1 := hx_at_swap n s i j r.1 (by unfold cD3; omega)
      have b2 := hx_at_swap n s i j r.2 (by unfold cD3; omega)
      omega
  · rw [if_neg hd]
theorem x_pair (q : Nat) (hq : q < (cPairs n).length) : ((cPairs n).getD q (0, 0)).1 < ((cPairs n).getD q (0, 0)).2 ∧ ((cPairs n).getD q (0, 0)).2 < n ∧ (cPairs n).getD q (0, 0) ∈ cPairs n := by
  have hm : (cPairs n).getD q (0, 0) ∈ cPairs n := by rw [show (cPairs n).getD q (0, 0) = (cPairs n)[q] by simp [List.getD, hq]]; exact List.getElem_mem hq
  have hg := c_pairs_get (n : Int) (by omega) (by omega) ((cPairs n).getD q (0, 0)) (by rw [Int.toNat_natCast]; exact hm)
  rw [Int.toNat_natCast] at hg
  exact ⟨hg.1, hg.2, hm⟩
theorem x_plane (e : Nat) (he : ∀ x, e.testBit x = true → x < (cPairs n).length ∧ ∀ r ∈ cPairs n, cCx n s ((cPairs n).getD x (0, 0)) r = false) : cCpairs n s e = 0 := by
  unfold cCpairs cRg
  rw [hx_sum0]
  intro x hx
  rw [hx_sum0]
  intro y hy
  unfold cG2
  rw [if_neg]
  intro h
  simp only [Bool.and_eq_true] at h
  have := (he x h.1.1).2 _ (x_pair n h3 h6 y (he y h.1.2).1).2.2
  rw [this] at h
  exact absurd h.2 (by decide)
omit h3 h6 in
theorem x_fs_bit (y : Nat) : (cFs n s 0 (cPairs n).length).testBit y = (decide (y < (cPairs n).length) && cFr n s ((cPairs n).getD y (0, 0))) := (c_sum_lt _ _).2 y
omit h3 h6 in
theorem x_hs_bit (y : Nat) : (cHs n s 0 (cPairs n).length).testBit y = (decide (y < (cPairs n).length) && decide (cHe n s ((cPairs n).getD y (0, 0)))) := by
  rw [hx_cs]; exact (c_sum_lt _ _).2 y
omit h3 h6 in
theorem x_fs_lt : cFs n s 0 (cPairs n).length < 2 ^ (cPairs n).length := (c_sum_lt _ _).1
omit h3 h6 in
theorem x_hs_lt : cHs n s 0 (cPairs n).length < 2 ^ (cPairs n).length := by rw [hx_cs]; exact (c_sum_lt _ _).1
theorem x_free_plane : cCpairs n s (cFs n s 0 (cPairs n).length) = 0 := by
  refine x_plane n h3 h6 s _ fun x hx => ?_
  rw [x_fs_bit n s, Bool.and_eq_true, decide_eq_true_eq] at hx
  refine ⟨hx.1, fun r hr => ?_⟩
  have := hx.2
  unfold cFr at this
  rw [Bool.not_eq_true', List.any_eq_false] at this
  have := this r hr
  rwa [Bool.not_eq_true] at this
theorem x_hull_plane : cCpairs n s (cHs n s 0 (cPairs n).length) = 0 := by
  refine x_plane n h3 h6 s _ fun x hx => ?_
  rw [x_hs_bit n s, Bool.and_eq_true, decide_eq_true_eq, decide_eq_true_eq] at hx
  refine ⟨hx.1, fun r hr => ?_⟩
  have hp := x_pair n h3 h6 x hx.1
  exact x_hull_free n h6 s ((cPairs n).getD x (0, 0)).1 ((cPairs n).getD x (0, 0)).2 (by omega) hp.2.1 (by omega) hx.2 r
theorem x_hull_in_free : ∀ y, (cHs n s 0 (cPairs n).length).testBit y = true → (cFs n s 0 (cPairs n).length).testBit y = true := by
  intro y hy
  rw [x_hs_bit n s, Bool.and_eq_true, decide_eq_true_eq, decide_eq_true_eq] at hy
  rw [x_fs_bit n s, decide_eq_true hy.1, Bool.true_and]
  unfold cFr
  rw [Bool.not_eq_true', List.any_eq_false]
  intro r hr
  have hp := x_pair n h3 h6 y hy.1
  have := x_hull_free n h6 s ((cPairs n).getD y (0, 0)).1 ((cPairs n).getD y (0, 0)).2 (by omega) hp.2.1 (by omega) hy.2 r
  rw [this]; decide
end
/-! ### crossing pairs are convex fours -/
def xG (n : Nat) (s : ByteArray) (p : (Nat × Nat) × (Nat × Nat)) : Nat := if cCx n s p.1 p.2 = true then 1 else 0
def xLL (n : Nat) : List ((Nat × Nat) × (Nat × Nat)) := (List.range' 0 (cPairs n).length).flatMap fun x => (List.range' 0 x).map fun y => ((cPairs n).getD x (0, 0), (cPairs n).getD y (0, 0))
def xRR (n : Nat) : List ((Nat × Nat) × (Nat × Nat)) := (cQuads n).flatMap fun q => [((q.2.2.1, q.2.2.2), (q.1, q.2.1)), ((q.2.1, q.2.2.2), (q.1, q.2.2.1)), ((q.2.1, q.2.2.1), (q.1, q.2.2.2))]
def xDj (n : Nat) (p : (Nat × Nat) × (Nat × Nat)) : Bool := decide (p.1.1 ≠ p.2.1) && decide (p.1.1 ≠ p.2.2) && decide (p.1.2 ≠ p.2.1) && decide (p.1.2 ≠ p.2.2)
theorem x_perm : ∀ n ∈ [3, 4, 5, 6], ((xLL n).filter (xDj n)).isPerm (xRR n) = true := by decide +kernel
theorem x_sum_flat {α β : Type} (f : α → List β) (g : β → Nat) : ∀ l : List α, ((l.flatMap f).map g).sum = (l.map fun x => ((f x).map g).sum).sum
  | [] => rfl
  | a :: l => by rw [List.flatMap_cons, List.map_append, List.sum_append, x_sum_flat f g l, List.map_cons, List.sum_cons]
theorem x_ll (n : Nat) (s : ByteArray) : cCpairs n s (2 ^ (cPairs n).length - 1) = ((xLL n).map (xG n s)).sum := by
  unfold cCpairs cRg xLL
  rw [x_sum_flat]
  congr 1
  apply List.map_congr_left
  intro x hx
  rw [List.map_map]
  congr 1
  apply List.map_congr_left
  intro y hy
  have hx' : x < (cPairs n).length := by simpa using hx
  have hy' : y < x := by simpa using hy
  unfold cG2 xG
  simp only [Function.comp]
  rw [Nat.testBit_two_pow_sub_one, Nat.testBit_two_pow_sub_one, decide_eq_true hx', decide_eq_true (show y < (cPairs n).length by omega), Bool.true_and, Bool.true_and]
theorem x_filter (n : Nat) (s : ByteArray) : ∀ L : List ((Nat × Nat) × (Nat × Nat)), (L.map (xG n s)).sum = ((L.filter (xDj n)).map (xG n s)).sum
  | [] => rfl
  | p :: L => by
    rw [List.map_cons, List.sum_cons, x_filter n s L, List.filter_cons]
    by_cases h : xDj n p = true
    · rw [if_pos h, List.map_cons, List.sum_cons]
    · rw [if_neg h]
      have : xG n s p = 0 := by
        unfold xG cCx
        rw [if_neg]
        intro hc
        by_cases hd : cD4 n (p.1.1, p.1.2, p.2.1, p.2.2)
        · apply h
          simp only [cD4] at hd
          unfold xDj
          simp only [Bool.and_eq_true, decide_eq_true_eq]
          omega
        · rw [if_neg hd] at hc; exact absurd hc (by decide)
      omega
theorem x_iv_all : ∀ n ∈ [3, 4, 5, 6], ∀ t ∈ cTexts, ∀ q ∈ cQuads n, t.toList = ([43, 43, 43, 43] : List UInt8) ∨ decide (mx (cOnly (cSp t q).1) (cOnly (cSp t q).2) < 0) = decide (t.toList = ([43, 43, 45, 45] : List UInt8) ∨ t.toList = ([43, 45, 43, 45] : List UInt8) ∨ t.toList = ([43, 45, 45, 43] : List UInt8)) := by decide +kernel
theorem x_two (x y z u : Int) (hx : x = 1 ∨ x = -1) (hy : y = 1 ∨ y = -1) (hz : z = 1 ∨ z = -1) (hu : u = 1 ∨ u = -1) : ((cCirc x y z u).toList = ([43, 43, 45, 45] : List UInt8) ∨ (cCirc x y z u).toList = ([43, 45, 43, 45] : List UInt8) ∨ (cCirc x y z u).toList = ([43, 45, 45, 43] : List UInt8)) ↔ ((y = -x ∧ z = -x ∧ u = x) ∨ (y = x ∧ z = x ∧ u = x) ∨ (y = x ∧ z = -x ∧ u = -x)) := by
  rcases hx with rfl | rfl <;> rcases hy with rfl | rfl <;> rcases hz with rfl | rfl <;> rcases hu with rfl | rfl <;> decide +kernel
theorem x_noplus (n : Nat) (s : ByteArray) (hA : cAcy (n : Int) s = true) (q : Nat × Nat × Nat × Nat) (hq : q ∈ cQuads n) : ¬ (cCq n s q).toList = ([43, 43, 43, 43] : List UInt8) := by
  unfold cAcy at hA
  rw [Bool.and_eq_true] at hA
  have hN := hA.2
  unfold cNo at hN
  rw [Bool.not_eq_true', Int.toNat_natCast, List.any_eq_false] at hN
  intro h
  exact hN q hq (decide_eq_true h)
theorem x_quad (n : Nat) (h3 : 3 ≤ n) (h6 : n ≤ 6) (s : ByteArray) (hA : cAcy (n : Int) s = true) (a b c d : Nat) (hq : (a, b, c, d) ∈ cQuads n) : xG n s ((c, d), (a, b)) + (xG n s ((b, d), (a, c)) + xG n s ((b, c), (a, d))) = qB n s (a, b, c, d) := by
  have hn : n ∈ [3, 4, 5, 6] := by simp; omega
  have ho := (c_quads_asc n (c_five n h3 (by omega))).2 _ hq
  simp only at ho
  have d3 : ∀ {i j k : Nat}, i < n → j < n → k < n → i ≠ j → i ≠ k → j ≠ k → cD3 n i j k := fun a b c d e f => ⟨a, b, c, d, e, f⟩
  have cyc := x_cyc n h3 h6 s
  have sw := hx_at_swap n s
  have hB : qB n s (a, b, c, d) = if (cAt n s a c d = -cAt n s b c d ∧ cAt n s a b d = -cAt n s b c d ∧ cAt n s a b c = cAt n s b c d) ∨ (cAt n s a c d = cAt n s b c d ∧ cAt n s a b d = cAt n s b c d ∧ cAt n s a b c = cAt n s b c d) ∨ (cAt n s a c d = cAt n s b c d ∧ cAt n s a b d = -cAt n s b c d ∧ cAt n s a b c = -cAt n s b c d) then 1 else 0 := by
    have h := (x_iv_all n hn _ (c_text n s (a, b, c, d)) _ hq).resolve_left (x_noplus n s hA _ hq)
    rw [decide_eq_decide] at h
    have h2 := x_two (cAt n s b c d) (cAt n s a c d) (cAt n s a b d) (cAt n s a b c) (c_at_pm _ _ _ _ _) (c_at_pm _ _ _ _ _) (c_at_pm _ _ _ _ _) (c_at_pm _ _ _ _ _)
    unfold qB cIv
    by_cases hc : mx (cOnly (cSp (cCq n s (a, b, c, d)) (a, b, c, d)).1) (cOnly (cSp (cCq n s (a, b, c, d)) (a, b, c, d)).2) < 0
    · rw [if_pos hc, if_pos (h2.mp (h.mp hc))]
    · rw [if_neg hc, if_neg (fun hh => hc (h.mpr (h2.mpr hh)))]
  have g : ∀ i j k l : Nat, cD4 n (i, j, k, l) → xG n s ((i, j), (k, l)) = if cAt n s i k l = -cAt n s j k l ∧ cAt n s i j l = -cAt n s j k l ∧ cAt n s i j k = cAt n s j k l then 1 else 0 := by
    intro i j k l hd
    have h := x_cr n h6 s i j k l hd
    unfold xG cCx
    simp only
    rw [if_pos hd]
    by_cases hc : cCr (cCq n s (i, j, k, l)) (i, j, k, l) = true
    · rw [if_pos hc, if_pos (h.mp hc)]
    · rw [if_neg hc, if_neg (fun hh => hc (h.mpr hh))]
  rw [hB, g c d a b (by unfold cD4; simp only; omega), g b d a c (by unfold cD4; simp only; omega), g b c a d (by unfold cD4; simp only; omega)]
  have w1 : cAt n s d a b = cAt n s a b d := (c_at_cyc n h3 (by omega) s d a b (by unfold cD3; omega))
  have w2 : cAt n s c a b = cAt n s a b c := (c_at_cyc n h3 (by omega) s c a b (by unfold cD3; omega))
  have w3 : cAt n s c d b = cAt n s b c d := cyc b c d (by unfold cD3; omega)
  have w4 : cAt n s c d a = cAt n s a c d := cyc a c d (by unfold cD3; omega)
  have w5 : cAt n s d a c = cAt n s a c d := (c_at_cyc n h3 (by omega) s d a c (by unfold cD3; omega))
  have w6 : cAt n s b a c = -cAt n s a b c := sw a b c (by unfold cD3; omega)
  have w7 : cAt n s b d c = -cAt n s b c d := by
    have h1 := cyc b d c (by unfold cD3; omega)
    have h2 := sw c d b (by unfold cD3; omega)
    rw [← h1, h2, w3]
  have w8 : cAt n s b d a = cAt n s a b d := cyc a b d (by unfold cD3; omega)
  have w9 : cAt n s c a d = -cAt n s a c d := sw a c d (by unfold cD3; omega)
  have w10 : cAt n s b a d = -cAt n s a b d := sw a b d (by unfold cD3; omega)
  have w11 : cAt n s b c a = cAt n s a b c := cyc a b c (by unfold cD3; omega)
  rw [w1, w2, w3, w4, w5, w6, w7, w8, w9, w10, w11]
  have p1 := c_at_pm n s a b c; have p2 := c_at_pm n s a b d; have p3 := c_at_pm n s a c d; have p4 := c_at_pm n s b c d
  generalize cAt n s a b c = w at *
  generalize cAt n s a b d = x at *
  generalize cAt n s a c d = y at *
  generalize cAt n s b c d = z at *
  clear hB g w1 w2 w3 w4 w5 w6 w7 w8 w9 w10 w11 cyc sw
  rcases p1 with rfl | rfl <;> rcases p2 with rfl | rfl <;> rcases p3 with rfl | rfl <;> rcases p4 with rfl | rfl <;> decide
theorem x_rr (n : Nat) (h3 : 3 ≤ n) (h6 : n ≤ 6) (s : ByteArray) (hA : cAcy (n : Int) s = true) : ((xRR n).map (xG n s)).sum = qC n s (cQuads n) := by
  have : ∀ L : List (Nat × Nat × Nat × Nat), (∀ q ∈ L, q ∈ cQuads n) → ((L.flatMap fun q => [((q.2.2.1, q.2.2.2), (q.1, q.2.1)), ((q.2.1, q.2.2.2), (q.1, q.2.2.1)), ((q.2.1, q.2.2.1), (q.1, q.2.2.2))]).map (xG n s)).sum = qC n s L := by
    intro L
    induction L with
    | nil => intro _; rfl
    | cons q L ih =>
      intro h
      rw [List.flatMap_cons, List.map_append, List.sum_append, ih (fun q hq => h q (by simp [hq])), q_cons, ← x_quad n h3 h6 s hA q.1 q.2.1 q.2.2.1 q.2.2.2 (h _ (by simp))]
      simp only [List.map_cons, List.map_nil, List.sum_cons, List.sum_nil, Nat.add_zero]
  exact this (cQuads n) (fun q hq => hq)
/-- The crossing pairs of all edges are the convex fours. -/
theorem x_all (n : Nat) (h3 : 3 ≤ n) (h6 : n ≤ 6) (s : ByteArray) (hA : cAcy (n : Int) s = true) : cCpairs n s (2 ^ (cPairs n).length - 1) = qC n s (cQuads n) := by
  have hn : n ∈ [3, 4, 5, 6] := by simp; omega
  rw [x_ll, x_filter, ← x_rr n h3 h6 s hA]
  exact ((List.isPerm_iff.mp (x_perm n hn)).map (xG n s)).sum_nat
/-! ### DoCross -/
def cDc (n : Int) (s : ByteArray) (a b c d : Int) : Bool := if cAcy n s = true ∧ cDiff n [] [a, b, c, d] = true then cCr (cCq n.toNat s (a.toNat, b.toNat, c.toNat, d.toNat)) (a.toNat, b.toNat, c.toNat, d.toNat) else false
theorem x_diff_four (n a b c d : Int) : cDiff n [] [a, b, c, d] = true ↔ (0 ≤ a ∧ a < n) ∧ (0 ≤ b ∧ b < n) ∧ (0 ≤ c ∧ c < n) ∧ (0 ≤ d ∧ d < n) ∧ a ≠ b ∧ a ≠ c ∧ a ≠ d ∧ b ≠ c ∧ b ≠ d ∧ c ≠ d := by
  simp only [cDiff]
  by_cases h1 : 0 ≤ a ∧ a < n
  · by_cases h2 : 0 ≤ b ∧ b < n
    · by_cases h3 : 0 ≤ c ∧ c < n
      · by_cases h4 : 0 ≤ d ∧ d < n
        · simp [h1, h2, h3, h4]; omega
        · simp [h1, h2, h3, h4]
      · simp [h1, h2, h3]
    · simp [h1, h2]
  · simp [h1]
theorem c_specDoCross (n : Int) (s : ByteArray) (hs : s.size ≤ 1099511627776) (a b c d : Int) : Ev (fun k => spec_DoCross.f k n s a b c d) (cDc n s a b c d) ∧ Ev (fun k => impl_DoCross.f k n s a b c d) (cDc n s a b c d) := by
  have hA := c_specAcy n s hs
  have hO := c_orderOf n s hs
  unfold spec_DoCross.f impl_DoCross.f cDc
  by_cases h : cAcy n s = true
  · rw [h] at hA
    rw [if_pos h] at hO
    obtain ⟨m, rfl, h3, h7, hz2⟩ := c_acy_open n s h
    have hd1 := c_specDiff (m : Int) (by omega) (by omega) [a, b, c, d] (by simp)
    have hd2 := c_implDiff (m : Int) [a, b, c, d] (by simp)
    by_cases hd : cDiff (m : Int) [] [a, b, c, d] = true
    · rw [hd] at hd1 hd2
      rw [if_pos ⟨h, hd⟩]
      have hh := (x_diff_four _ a b c d).mp hd
      obtain ⟨a, rfl⟩ : ∃ x : Nat, a = (x : Int) := ⟨a.toNat, by omega⟩
      obtain ⟨b, rfl⟩ : ∃ x : Nat, b = (x : Int) := ⟨b.toNat, by omega⟩
      obtain ⟨c, rfl⟩ : ∃ x : Nat, c = (x : Int) := ⟨c.toNat, by omega⟩
      obtain ⟨d, rfl⟩ : ∃ x : Nat, d = (x : Int) := ⟨d.toNat, by omega⟩
      simp only [Int.toNat_natCast]
      have h4 : cD4 m (a, b, c, d) := by unfold cD4; simp only; omega
      refine ⟨Ev.bind hA ?_, Ev.bind hO ?_⟩
      · simp only [if_true]
        refine Ev.bind hd1 ?_
        simp only [if_true]
        exact Ev.bind (c_specCross m h3 h7 s hz2 a b c d h4) (Ev.now _)
      · simp only [if_true]
        refine Ev.bind hd2 ?_
        simp only [if_true]
        exact Ev.bind (c_implCross m h3 h7 s a b c d h4) (Ev.now _)
    · rw [if_neg (fun hh => hd hh.2)]
      rw [Bool.not_eq_true] at hd
      rw [hd] at hd1 hd2
      refine ⟨Ev.bind hA ?_, Ev.bind hO ?_⟩
      · simp only [if_true]
        refine Ev.bind hd1 ?_
        simp only [Bool.false_eq_true, if_false]; exact Ev.now _
      · simp only [if_true]
        refine Ev.bind hd2 ?_
        simp only [Bool.false_eq_true, if_false]; exact Ev.now _
  · rw [if_neg (fun hh => h hh.1)]
    rw [if_neg h] at hO
    rw [Bool.not_eq_true] at h
    rw [h] at hA
    refine ⟨Ev.bind hA ?_, Ev.bind hO ?_⟩
    · simp only [Bool.false_eq_true, if_false]; exact Ev.now _
    · simp only [Bool.false_eq_true, if_false]; exact Ev.now _
theorem x_do (n : Int) (hn : n ≤ 6 ∨ n = 8) (s : ByteArray) (a b c d : Int) (h : cDc n s a b c d = true) : cDc n s a c b d = false ∧ cDc n s c d b a = true := by
  unfold cDc at h
  by_cases hc : cAcy n s = true ∧ cDiff n [] [a, b, c, d] = true
  · rw [if_pos hc] at h
    obtain ⟨m, rfl, h3, h7, hz2⟩ := c_acy_open n s hc.1
    have hh := (x_diff_four _ a b c d).mp hc.2
    have h1 : cAcy (m : Int) s = true ∧ cDiff (m : Int) [] [a, c, b, d] = true := ⟨hc.1, (x_diff_four _ a c b d).mpr (by omega)⟩
    have h2 : cAcy (m : Int) s = true ∧ cDiff (m : Int) [] [c, d, b, a] = true := ⟨hc.1, (x_diff_four _ c d b a).mpr (by omega)⟩
    unfold cDc
    rw [if_pos h1, if_pos h2]
    rw [Int.toNat_natCast] at h ⊢
    exact x_once m h3 (by omega) s _ _ _ _ (by unfold cD4; simp only; omega) h
  · rw [if_neg hc] at h; exact absurd h (by decide)
/-! ### edges by number -/
def xIx (n i j : Nat) : Bool := decide (spec_EdgeIndex.f 80 (n : Int) ((i : Int) - 1) (j : Int) = impl_EdgeIndex.f 80 (n : Int) ((i : Int) - 1) (j : Int) ∧ spec_EdgeIndex.f 80 (n : Int) ((i : Int) - 1) (j : Int) = impl_EdgeIndex.f 80 (n : Int) (j : Int) ((i : Int) - 1) ∧ (spec_EdgeIndex.f 80 (n : Int) ((i : Int) - 1) (j : Int)).isSome = true)
theorem x_ix_all : ∀ n ∈ [2, 3, 4, 5, 6, 7, 8], ∀ i ∈ List.range 8, ∀ j ∈ List.range 7, xIx n i j = true := by decide +kernel
theorem x_ix (n i j : Int) (hn : 2 ≤ n ∧ n ≤ 8) (hi : -1 ≤ i ∧ i ≤ 6) (hj : 0 ≤ j ∧ j ≤ 6) : ∃ v, spec_EdgeIndex.f 80 n i j = some v ∧ impl_EdgeIndex.f 80 n i j = some v ∧ impl_EdgeIndex.f 80 n j i = some v := by
  obtain ⟨m, rfl⟩ : ∃ m : Nat, n = (m : Int) := ⟨n.toNat, by omega⟩
  obtain ⟨a, rfl⟩ : ∃ a : Nat, i = (a : Int) - 1 := ⟨(i + 1).toNat, by omega⟩
  obtain ⟨b, rfl⟩ : ∃ b : Nat, j = (b : Int) := ⟨j.toNat, by omega⟩
  have h := x_ix_all m (by simp; omega) a (by simp; omega) b (by simp; omega)
  unfold xIx at h
  rw [decide_eq_true_eq] at h
  obtain ⟨v, hv⟩ := Option.isSome_iff_exists.mp h.2.2
  exact ⟨v, hv, by rw [← h.1]; exact hv, by rw [← h.2.1]; exact hv⟩
def xEa (n q : Nat) : Bool := match spec_EdgeAt.f 80 (n : Int) ((q : Int) - 1), impl_EdgeAt.f 80 (n : Int) ((q : Int) - 1) with
  | some x, some y => decide (x = y) && (decide (x.1 < 0) || decide (impl_EdgeIndex.f 80 (n : Int) x.2 x.1 = some ((q : Int) - 1)))
  | _, _ => false
theorem x_ea_all : ∀ n ∈ [2, 3, 4, 5, 6, 7, 8], ∀ q ∈ List.range 22, xEa n q = true := by decide +kernel
theorem x_ea (n q : Int) (hn : 2 ≤ n ∧ n ≤ 8) (hq : -1 ≤ q ∧ q ≤ 20) : ∃ v, spec_EdgeAt.f 80 n q = some v ∧ impl_EdgeAt.f 80 n q = some v ∧ (v.1 < 0 ∨ impl_EdgeIndex.f 80 n v.2 v.1 = some q) := by
  obtain ⟨m, rfl⟩ : ∃ m : Nat, n = (m : Int) := ⟨n.toNat, by omega⟩
  obtain ⟨a, rfl⟩ : ∃ a : Nat, q = (a : Int) - 1 := ⟨(q + 1).toNat, by omega⟩
  have h := x_ea_all m (by simp; omega) a (by simp; omega)
  unfold xEa at h
  cases hs : spec_EdgeAt.f 80 (m : Int) ((a : Int) - 1) with
  | none => rw [hs] at h; simp at h
  | some x =>
    cases hi : impl_EdgeAt.f 80 (m : Int) ((a : Int) - 1) with
    | none => rw [hs, hi] at h; simp at h
    | some y =>
      rw [hs, hi] at h
      simp only [Bool.and_eq_true, Bool.or_eq_true, decide_eq_true_eq] at h
      exact ⟨x, rfl, by rw [h.1], h.2⟩
theorem x_ae (n : Int) (h1 : -1 ≤ n) (h2 : n ≤ 9) : ∃ v, spec_AllEdges.f n = some v ∧ impl_AllEdges.f n = some v := by
  have : ∀ a ∈ List.range 11, spec_AllEdges.f ((a : Nat) - 1 : Int) = impl_AllEdges.f ((a : Nat) - 1 : Int) ∧ (spec_AllEdges.f ((a : Nat) - 1 : Int)).isSome = true := by decide +kernel
  obtain ⟨a, rfl⟩ : ∃ a : Nat, n = (a : Int) - 1 := ⟨(n + 1).toNat, by omega⟩
  have h := this a (by simp; omega)
  obtain ⟨v, hv⟩ := Option.isSome_iff_exists.mp h.2
  exact ⟨v, hv, by rw [← h.1]; exact hv⟩

end Go.Proofs.Ytmidcafamppkeaa.P
