/- Marks and wires along a run: what the wires tell of the pairs that are done. Conditions: none. -/
import Derived.Test.YthibphndihjcaaaCWos
namespace Go.Proofs.Ythibphndihjcaaa.P
open Go.RowKit Go.Proofs.YthibphndihjcaaaW.PrintWords Go.Proofs.YthibphndihjcaaaW.PrintLast
set_option linter.unusedVariables false
set_option linter.unusedSimpArgs false

theorem k_cnt_le : ∀ (a b : List Bool), a.length = b.length → (∀ i, a.getD i false = true → b.getD i false = true) → a.count true ≤ b.count true
  | [], [], _, _ => Nat.le_refl _
  | x :: a, y :: b, hl, h => by
    have ih := k_cnt_le a b (by simpa using hl) (fun i hi => by simpa using h (i + 1) (by simpa using hi))
    have h0 := h 0
    simp only [List.getD_cons_zero] at h0
    rw [List.count_cons, List.count_cons]
    cases x <;> cases y <;> simp_all <;> omega
theorem k_cnt_set : ∀ (a : List Bool) (i : Nat), i < a.length → a.getD i false = false → (a.set i true).count true = a.count true + 1
  | x :: a, 0, _, h => by
    simp only [List.getD_cons_zero] at h
    rw [h, List.set_cons_zero, List.count_cons, List.count_cons]
    simp
  | x :: a, i + 1, hl, h => by
    rw [List.getD_cons_succ] at h
    rw [List.set_cons_succ, List.count_cons, List.count_cons, k_cnt_set a i (by simpa using hl) h]
    omega
/-- The reference's marks, whole. -/
def kCD (n : Nat) (d : Nat → Nat → Bool) (Ds : List Bool) : Prop := Ds.length = n * n ∧ ∀ x y, x < n → y < n → Ds.getD (x * n + y) false = (decide (x < y) && d x y)
def kU (n : Nat) : List Bool := (List.range (n * n)).map fun q => decide (q / n < q % n)
theorem k_split (n : Nat) (hn : 0 < n) (q : Nat) (hq : q < n * n) : ∃ x y, x < n ∧ y < n ∧ q = x * n + y ∧ x = q / n ∧ y = q % n :=
  ⟨q / n, q % n, Nat.div_lt_of_lt_mul hq, Nat.mod_lt _ hn, by rw [Nat.mul_comm]; exact (Nat.div_add_mod q n).symm, rfl, rfl⟩
theorem k_cnt15 (n : Nat) (h3 : 3 ≤ n) (h6 : n ≤ 6) (d : Nat → Nat → Bool) (Ds : List Bool) (h : kCD n d Ds) : Ds.count true ≤ 15 := by
  have hU : (kU n).count true ≤ 15 := by
    have : n = 3 ∨ n = 4 ∨ n = 5 ∨ n = 6 := by omega
    rcases this with rfl | rfl | rfl | rfl <;> decide +kernel
  refine Nat.le_trans (k_cnt_le Ds (kU n) (by rw [h.1, kU, List.length_map, List.length_range]) (fun i hi => ?_)) hU
  by_cases hl : i < n * n
  · obtain ⟨x, y, hx, hy, e, ex, ey⟩ := k_split n (by omega) i hl
    rw [e, h.2 x y hx hy, Bool.and_eq_true] at hi
    rw [kU, List.getD_eq_getElem?_getD, List.getElem?_map, List.getElem?_range hl]
    show decide (i / n < i % n) = true
    rw [← ex, ← ey]; exact hi.1
  · rw [List.getD_eq_getElem?_getD, List.getElem?_eq_none (by rw [h.1]; omega)] at hi
    exact absurd hi (by simp)
theorem k_uniq (n : Nat) (hn : 0 < n) (d d' : Nat → Nat → Bool) (Ds Ds' : List Bool) (h : kCD n d Ds) (h' : kCD n d' Ds') (hd : ∀ x y, x < y → y < n → d x y = d' x y) : Ds = Ds' := by
  apply List.ext_getElem?
  intro q
  by_cases hq : q < n * n
  · obtain ⟨x, y, hx, hy, e, _, _⟩ := k_split n hn q hq
    have h1 := h.2 x y hx hy
    have h2 := h'.2 x y hx hy
    rw [← e] at h1 h2
    have h3 : Ds.getD q false = Ds'.getD q false := by
      rw [h1, h2]
      by_cases hxy : x < y
      · rw [hd x y hxy hy]
      · simp [hxy]
    rw [List.getD_eq_getElem?_getD, List.getD_eq_getElem?_getD, List.getElem?_eq_getElem (by rw [h.1]; exact hq), List.getElem?_eq_getElem (by rw [h'.1]; exact hq)] at h3
    rw [List.getElem?_eq_getElem (by rw [h.1]; exact hq), List.getElem?_eq_getElem (by rw [h'.1]; exact hq)]
    simpa using h3
  · rw [List.getElem?_eq_none (by rw [h.1]; omega), List.getElem?_eq_none (by rw [h'.1]; omega)]
theorem k_cd_set (n : Nat) (d : Nat → Nat → Bool) (Ds : List Bool) (h : kCD n d Ds) (a b : Nat) (hab : a < b) (hb : b < n) : kCD n (gSet d a b) (Ds.set (a * n + b) true) := by
  refine ⟨by rw [List.length_set]; exact h.1, fun x y hx hy => ?_⟩
  have hlt : a * n + b < Ds.length := by rw [h.1]; exact g_ix_lt (Nat.lt_trans hab hb) hb
  unfold gSet
  by_cases he : x = a ∧ y = b
  · rw [if_pos he, he.1, he.2, List.getD_eq_getElem?_getD, List.getElem?_set_self hlt, decide_eq_true hab]; rfl
  · rw [if_neg he, List.getD_eq_getElem?_getD, List.getElem?_set_ne (fun hh => he (g_inj hy hb hh.symm)), ← List.getD_eq_getElem?_getD]
    exact h.2 x y hx hy
/-- The wires tell what is done. -/
def kLnk (n : Nat) (d : Nat → Nat → Bool) (ws : List Int) : Prop := ∀ i j a b : Nat, i < j → j < n → ws.getD i 0 = (a : Int) → ws.getD j 0 = (b : Int) → (a < b → d a b = false) ∧ (b < a → d b a = true)
def kInj (n : Nat) (ws : List Int) : Prop := ∀ i j, i < n → j < n → ws.getD i 0 = ws.getD j 0 → i = j
theorem k_swap_at (n : Nat) (ws : List Int) (p : Nat) (hp : p + 1 < n) (hl : ws.length = n) (q : Nat) : (wgSwap ws p).getD q 0 = ws.getD (if q = p then p + 1 else if q = p + 1 then p else q) 0 := by
  unfold wgSwap
  rw [List.getD_eq_getElem?_getD]
  by_cases h1 : q = p + 1
  · rw [h1, List.getElem?_set_self (by rw [List.length_set, hl]; exact hp), if_neg (by omega), if_pos rfl]; rfl
  · rw [List.getElem?_set_ne (fun h => h1 h.symm)]
    by_cases h2 : q = p
    · rw [h2, List.getElem?_set_self (by rw [hl]; omega), if_pos rfl]; rfl
    · rw [List.getElem?_set_ne (fun h => h2 h.symm), ← List.getD_eq_getElem?_getD, if_neg h2, if_neg h1]
theorem k_inj_swap (n : Nat) (ws : List Int) (p : Nat) (hp : p + 1 < n) (hl : ws.length = n) (h : kInj n ws) : kInj n (wgSwap ws p) := by
  intro i j hi hj he
  rw [k_swap_at n ws p hp hl, k_swap_at n ws p hp hl] at he
  have := h _ _ (by split <;> (try split) <;> omega) (by split <;> (try split) <;> omega) he
  split at this <;> split at this <;> (try split at this) <;> (try split at this) <;> omega
theorem k_lnk_swap (n : Nat) (d : Nat → Nat → Bool) (ws : List Int) (p : Nat) (hp : p + 1 < n) (hl : ws.length = n) (hI : kInj n ws) (h : kLnk n d ws) (va vb : Nat) (hva : ws.getD p 0 = (va : Int)) (hvb : ws.getD (p + 1) 0 = (vb : Int)) (hab : va < vb) : kLnk n (gSet d va vb) (wgSwap ws p) := by
  intro i j a b hij hj ha hb
  rw [k_swap_at n ws p hp hl] at ha hb
  by_cases hc : i = p ∧ j = p + 1
  · rw [if_pos hc.1, hvb] at ha
    rw [if_neg (by omega), if_pos hc.2, hva] at hb
    have e1 : vb = a := Int.ofNat.inj ha
    have e2 : va = b := Int.ofNat.inj hb
    subst e1; subst e2
    exact ⟨fun hh => by omega, fun _ => by unfold gSet; rw [if_pos ⟨rfl, rfl⟩]⟩
  · obtain ⟨i', hi'⟩ : ∃ z, (if i = p then p + 1 else if i = p + 1 then p else i) = z := ⟨_, rfl⟩
    obtain ⟨j', hj'⟩ : ∃ z, (if j = p then p + 1 else if j = p + 1 then p else j) = z := ⟨_, rfl⟩
    rw [hi'] at ha
    rw [hj'] at hb
    have hij' : i' < j' ∧ j' < n := by
      rw [← hi', ← hj']
      split <;> split <;> (try split) <;> (try split) <;> omega
    have hne : ¬ (i' = p ∧ j' = p + 1) := by
      rw [← hi', ← hj']
      split <;> split <;> (try split) <;> (try split) <;> omega
    have hh := h i' j' a b hij'.1 hij'.2 ha hb
    have k1 : ∀ x y, (x = va ∧ y = vb) → ¬ (ws.getD i' 0 = (x : Int) ∧ ws.getD j' 0 = (y : Int)) := by
      rintro x y ⟨rfl, rfl⟩ ⟨q1, q2⟩
      exact hne ⟨hI _ _ (by omega) (by omega) (q1.trans hva.symm), hI _ _ (by omega) (by omega) (q2.trans hvb.symm)⟩
    have k2 : ∀ x y, (x = va ∧ y = vb) → ¬ (ws.getD j' 0 = (x : Int) ∧ ws.getD i' 0 = (y : Int)) := by
      rintro x y ⟨rfl, rfl⟩ ⟨q1, q2⟩
      have e1 := hI _ _ (by omega) (by omega) (q1.trans hva.symm)
      have e2 := hI _ _ (by omega) (by omega) (q2.trans hvb.symm)
      omega
    unfold gSet
    exact ⟨fun hlt => by rw [if_neg (fun he => k1 a b he ⟨ha, hb⟩)]; exact hh.1 hlt, fun hlt => by rw [if_neg (fun he => k2 b a he ⟨hb, ha⟩)]; exact hh.2 hlt⟩
end Go.Proofs.Ythibphndihjcaaa.P
