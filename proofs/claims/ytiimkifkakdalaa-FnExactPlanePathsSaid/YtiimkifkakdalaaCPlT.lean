/- Plane trees: what the program and the reference list. Conditions: none. -/
import Derived.Test.YtiimkifkakdalaaCPlS
import Derived.Test.YtiimkifkakdalaaOPlT
import Derived.Test.YtiimkifkakdalaaP11
namespace Go.Proofs.Ytiimkifkakdalaa.P
open Go.RowKit Go.Proofs.YtiimkifkakdalaaW.PrintWords Go.Proofs.YtiimkifkakdalaaW.PrintLast
set_option linter.unusedVariables false
set_option linter.unusedSimpArgs false

/-- The edges of a set that meet v. -/
def pCnt (e : Int) (v : Nat) : List (Nat × Nat) → Nat → Nat
  | [], _ => 0
  | p :: l, q => (if cBit e q = true ∧ (p.1 = v ∨ p.2 = v) then 1 else 0) + pCnt e v l (q + 1)
def pAll (v : Nat) : List (Nat × Nat) → Nat
  | [] => 0
  | p :: l => (if p.1 = v ∨ p.2 = v then 1 else 0) + pAll v l
theorem p_cnt_le (e : Int) (v : Nat) : ∀ (l : List (Nat × Nat)) (q : Nat), pCnt e v l q ≤ pAll v l
  | [], _ => Nat.le_refl _
  | p :: l, q => by
    have := p_cnt_le e v l (q + 1)
    simp only [pCnt, pAll]
    split <;> split <;> first | omega | (exfalso; rename_i h1 h2; exact h2 h1.2)
theorem p_all6 : ∀ n ∈ [3, 4, 5, 6], ∀ v ∈ List.range n, pAll v (cPairs n) ≤ 6 := by decide +kernel
theorem p_bump (xs : List Int) (i v : Nat) (hi : i < xs.length) (h : 0 ≤ xs.getD i 0 ∧ xs.getD i 0 ≤ 1000) : (cBump xs i).getD v 0 = xs.getD v 0 + (if i = v then 1 else 0) := by
  unfold cBump
  rw [List.getD_eq_getElem?_getD, List.getElem?_set]
  by_cases hiv : i = v
  · subst hiv
    rw [if_pos rfl, if_pos hi, if_pos rfl, Option.getD_some, c_wid _ (by omega) (by omega)]
  · rw [if_neg hiv, if_neg hiv, List.getD_eq_getElem?_getD, Int.add_zero]
theorem p_degs (n : Nat) (e : Int) (v : Nat) : ∀ (l : List (Nat × Nat)) (q B : Nat) (xs : List Int), (∀ p ∈ l, p.1 < p.2 ∧ p.2 < n) → xs.length = n → (∀ u, 0 ≤ xs.getD u 0 ∧ xs.getD u 0 ≤ (B : Int)) → B + 2 * l.length ≤ 500 →
    (cDegs e l q xs).getD v 0 = xs.getD v 0 + (pCnt e v l q : Int) := by
  intro l
  induction l with
  | nil => intro q B xs _ _ _ _; simp [cDegs, pCnt]
  | cons p l ih =>
    intro q B xs hp hx hB hl
    have hp0 := hp p (by simp)
    rw [List.length_cons] at hl
    simp only [cDegs, pCnt]
    by_cases hb : cBit e q = true
    · rw [if_pos hb]
      have hB1 := hB p.1
      have h1 : ∀ u, (cBump xs p.1).getD u 0 = xs.getD u 0 + (if p.1 = u then 1 else 0) := fun u => p_bump xs p.1 u (by omega) ⟨hB1.1, by omega⟩
      have hB2 := hB p.2
      have h12 := h1 p.2
      rw [if_neg (by omega)] at h12
      have h2 : ∀ u, (cBump (cBump xs p.1) p.2).getD u 0 = (cBump xs p.1).getD u 0 + (if p.2 = u then 1 else 0) := fun u => p_bump _ p.2 u (by rw [cBump_length]; omega) ⟨by omega, by omega⟩
      rw [ih (q + 1) (B + 2) _ (fun x hx => hp x (by simp [hx])) (by rw [cBump_length, cBump_length]; exact hx) (fun u => by
        rw [h2, h1]
        have := hB u
        constructor
        · split <;> split <;> omega
        · split <;> split <;> omega) (by omega), h2, h1]
      have hne := hp0.1
      by_cases a1 : p.1 = v
      · rw [if_pos a1, if_neg (by omega), if_pos ⟨hb, .inl a1⟩]; omega
      · by_cases a2 : p.2 = v
        · rw [if_neg a1, if_pos a2, if_pos ⟨hb, .inr a2⟩]; omega
        · rw [if_neg a1, if_neg a2, if_neg (fun h => by rcases h.2 with h | h <;> contradiction)]; omega
    · rw [if_neg hb, if_neg (fun h => hb h.1), ih (q + 1) B xs (fun x hx => hp x (by simp [hx])) hx hB (by omega)]
      omega
/-- An element that no edge meets is not reached, and reaches nothing. -/
theorem p_pass_off (e : Int) (v : Nat) (hv : 0 < v) : ∀ (l : List (Nat × Nat)) (q r : Nat), pCnt e v l q = 0 → r.testBit v = false → (cPass e l q r).testBit v = false := by
  intro l
  induction l with
  | nil => intro q r _ hr; exact hr
  | cons p l ih =>
    intro q r hc hr
    simp only [pCnt] at hc
    simp only [cPass]
    refine ih (q + 1) _ (by omega) ?_
    by_cases hb : cBit e q = true
    · rw [if_pos hb]
      have hno : ¬ (p.1 = v ∨ p.2 = v) := fun h => by rw [if_pos ⟨hb, h⟩] at hc; omega
      unfold cLStep
      split
      · rw [Nat.testBit_or, Nat.testBit_or, hr, Nat.testBit_two_pow, Nat.testBit_two_pow, decide_eq_false (fun h => hno (.inl h)), decide_eq_false (fun h => hno (.inr h))]; rfl
      · exact hr
    · rw [if_neg hb]; exact hr
theorem p_pass_one (e : Int) : ∀ (l : List (Nat × Nat)) (q : Nat), pCnt e 0 l q = 0 → cPass e l q 1 = 1 := by
  intro l
  induction l with
  | nil => intro q _; rfl
  | cons p l ih =>
    intro q hc
    simp only [pCnt] at hc
    simp only [cPass]
    have h1 := ih (q + 1) (by omega)
    by_cases hb : cBit e q = true
    · rw [if_pos hb]
      have hno : ¬ (p.1 = 0 ∨ p.2 = 0) := fun h => by rw [if_pos ⟨hb, h⟩] at hc; omega
      have hz : ∀ i, i ≠ 0 → ¬ (1 / 2 ^ i % 2 = 1) := by
        intro i hi h
        have : 1 / 2 ^ i = 0 := Nat.div_eq_of_lt (Nat.one_lt_two_pow hi)
        rw [this] at h; omega
      have : cLStep 1 p = 1 := by
        unfold cLStep
        rw [if_neg]
        rintro (h | h)
        · exact hz p.1 (fun h0 => hno (.inl h0)) h
        · exact hz p.2 (fun h0 => hno (.inr h0)) h
      rw [this]; exact h1
    · rw [if_neg hb]; exact h1
theorem p_iter_off (e : Int) (l : List (Nat × Nat)) (v : Nat) (hv : 0 < v) (hc : pCnt e v l 0 = 0) : ∀ (t r : Nat), r.testBit v = false → (cIter e l t r).testBit v = false := by
  intro t
  induction t with
  | zero => intro r hr; exact hr
  | succ t ih => intro r hr; simp only [cIter]; exact ih _ (p_pass_off e v hv l 0 r hc hr)
theorem p_iter_one (e : Int) (l : List (Nat × Nat)) (hc : pCnt e 0 l 0 = 0) : ∀ t, cIter e l t 1 = 1 := by
  intro t
  induction t with
  | zero => rfl
  | succ t ih => simp only [cIter]; rw [p_pass_one e l 0 hc]; exact ih
theorem p_conn_pos (n : Nat) (h3 : 3 ≤ n) (e : Int) (h : cCon (n : Int) e = true) (v : Nat) (hv : v < n) : 0 < pCnt e v (cPairs n) 0 := by
  apply Nat.pos_of_ne_zero
  intro hc
  unfold cCon at h
  rw [Int.toNat_natCast, beq_iff_eq] at h
  have hp : ((2 : Int) ^ n) = ((2 ^ n : Nat) : Int) := by rw [Int.natCast_pow]; rfl
  have h8 : 2 ^ 3 ≤ 2 ^ n := Nat.pow_le_pow_right (by decide) h3
  have h1 : cIter e (cPairs n) n 1 = 2 ^ n - 1 := by omega
  by_cases h0 : v = 0
  · subst h0
    rw [p_iter_one e _ hc] at h1
    omega
  · have h2 := p_iter_off e (cPairs n) v (by omega) hc n 1 (by
      rw [show (1 : Nat) = 2 ^ 0 from rfl, Nat.testBit_two_pow, decide_eq_false (by omega)])
    rw [h1, Nat.testBit_two_pow_sub_one, decide_eq_true hv] at h2
    exact Bool.noConfusion h2
theorem p_conn_deg (n : Nat) (h3 : 3 ≤ n) (h6 : n ≤ 6) (e : Int) (h : cCon (n : Int) e = true) : pIn n 1 6 e = true := by
  unfold pIn
  rw [List.all_eq_true]
  intro d hd
  obtain ⟨v, hv, rfl⟩ := List.getElem_of_mem hd
  have hv' : v < n := by rw [p_dg_len] at hv; exact hv
  have hl := c_pairs_le (n : Int) (by omega) (by omega)
  rw [Int.toNat_natCast] at hl
  have hg := c_pairs_get (n : Int) (by omega) (by omega)
  rw [Int.toNat_natCast] at hg
  have h1 := p_degs n e v (cPairs n) 0 0 (List.replicate n 0) hg (by simp) (fun u => by
    rw [List.getD_eq_getElem?_getD, List.getElem?_replicate]; split <;> simp) (by omega)
  have h0 : (List.replicate n (0 : Int)).getD v 0 = 0 := by rw [List.getD_eq_getElem?_getD, List.getElem?_replicate]; split <;> simp
  have h2 := p_conn_pos n h3 e h v hv'
  have hm : n ∈ [3, 4, 5, 6] := by
    have : n = 3 ∨ n = 4 ∨ n = 5 ∨ n = 6 := by omega
    rcases this with rfl | rfl | rfl | rfl <;> simp
  have h4 := Nat.le_trans (p_cnt_le e v (cPairs n) 0) (p_all6 n hm v (List.mem_range.2 hv'))
  have h5 : (pDg n e)[v] = (pDg n e).getD v 0 := by rw [List.getD_eq_getElem?_getD, List.getElem?_eq_getElem hv]; rfl
  rw [h0] at h1
  rw [h5]
  unfold pDg
  rw [h1]
  exact decide_eq_true (by omega)
/-- What PlaneTrees lists. -/
def pTrees (n : Int) (s : ByteArray) : List Int := if cFits n s = true then pS n.toNat s (n.toNat - 1) (fun e => cCon n (e : Int)) 0 (2 ^ (cPairs n.toNat).length) else []
theorem p_s_congr (n : Nat) (s : ByteArray) (m : Nat) (G G' : Nat → Bool) (q d : Nat) (h : ∀ e, G e = G' e) : pS n s m G q d = pS n s m G' q d := by
  have : G = G' := funext h
  rw [this]
theorem p_s_small (n : Nat) (h3 : 3 ≤ n) (h6 : n ≤ 6) (s : ByteArray) (m : Nat) (G : Nat → Bool) : (pS n s m G 0 (2 ^ (cPairs n).length)).length ≤ 1099511627776 := by
  have h15 := c_pairs6 n h3 h6
  have hp15 : 2 ^ (cPairs n).length ≤ 2 ^ 15 := Nat.pow_le_pow_right (by decide) h15
  have := p_s_len n s m G 0 (2 ^ (cPairs n).length)
  omega
theorem p_trees_len (n : Int) (s : ByteArray) : (pTrees n s).length ≤ 1099511627776 := by
  unfold pTrees
  split
  · rename_i h
    obtain ⟨m, rfl, h3, h6, hz, hA⟩ := c_fits_open n s h
    rw [Int.toNat_natCast]
    exact p_s_small m h3 h6 s _ _
  · simp
theorem p_specTrees (n : Int) (s : ByteArray) (hs : s.size ≤ 1099511627776) : Ev (fun k => spec_PlaneTrees.f k n s) (pTrees n s) := by
  unfold spec_PlaneTrees.f pTrees
  refine Ev.bind (c_specFits n s hs) ?_
  cases hf : cFits n s with
  | false => simp only [Bool.false_eq_true, if_false]; exact Ev.now _
  | true =>
    simp only [if_true]
    obtain ⟨m, rfl, h3, h6, hz, hA⟩ := c_fits_open n s hf
    have hw : wrap64 ((m : Int) - 1) = ((m - 1 : Nat) : Int) := by rw [c_wid _ (by omega) (by omega)]; omega
    have h := p_specSets m s hs hf (m - 1) (by omega) 1 6 true
    rw [p_s_congr m s (m - 1) _ (fun e => cCon (m : Int) (e : Int)) 0 _ (fun e => by
      unfold pFine
      rw [Bool.not_true, Bool.false_or]
      cases hc : cCon (m : Int) (e : Int) with
      | false => rfl
      | true => rw [p_conn_deg m h3 h6 _ hc]; rfl)] at h
    rw [hw, Int.toNat_natCast]
    exact Ev.bind h (Ev.now _)
theorem p_implTrees (n : Int) (s : ByteArray) (hs : s.size ≤ 1099511627776) : Ev (fun k => impl_PlaneTrees.f k n s) (pTrees n s) := by
  unfold impl_PlaneTrees.f pTrees
  cases hf : cFits n s with
  | false => simp only [Bool.false_eq_true, if_false]; exact p_implSets_no n s hs hf _ _
  | true =>
    obtain ⟨m, rfl, h3, h6, hz, hA⟩ := c_fits_open n s hf
    have hw : wrap64 ((m : Int) - 1) = ((m - 1 : Nat) : Int) := by rw [c_wid _ (by omega) (by omega)]; omega
    simp only [if_true, Int.toNat_natCast]
    rw [hw]
    exact p_implSets m h3 h6 s hs hf (m - 1) _ _ (fun e _ _ => c_implCon (m : Int) (by omega) (by omega) (e : Int))

end Go.Proofs.Ytiimkifkakdalaa.P
