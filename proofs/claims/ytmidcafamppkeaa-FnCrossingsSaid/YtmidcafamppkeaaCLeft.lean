/- How many elements lie to the left of two: the reference and the program tell the same. Conditions: order signs. -/
import Derived.Test.YtmidcafamppkeaaCAcy
import Derived.Test.YtmidcafamppkeaaCEdges
import Derived.Laws.BitsLemmas
import Derived.Test.YtmidcafamppkeaaP16
import Derived.Test.YtmidcafamppkeaaP4
namespace Go.Proofs.Ytmidcafamppkeaa.P
open Go.RowKit Go.Proofs.YtmidcafamppkeaaW.PrintWords Go.Proofs.YtmidcafamppkeaaW.PrintLast
set_option linter.unusedVariables false

/-! ### elements to the left -/
def cLb (n : Nat) (s : ByteArray) (i j k : Nat) : Nat := if k = i ∨ k = j then 0 else if cAt n s i j k = 1 then 1 else 0
def cLs (n : Nat) (s : ByteArray) (i j k d : Nat) : Nat := ((List.range' k d).map (cLb n s i j)).sum
theorem c_lb_le (n : Nat) (s : ByteArray) (i j k : Nat) : cLb n s i j k ≤ 1 := by unfold cLb; split; omega; split <;> omega
theorem c_ls_succ (n : Nat) (s : ByteArray) (i j k d : Nat) : cLs n s i j k (d + 1) = cLb n s i j k + cLs n s i j (k + 1) d := by
  unfold cLs; rw [List.range'_succ, List.map_cons, List.sum_cons]
theorem c_specLeft_l (n : Nat) (h3 : 3 ≤ n) (h7 : n ≤ 7) (s : ByteArray) (hs : s.size = (cTrips n).length) (i j : Nat) (hi : i < n) (hj : j < n) (hij : i ≠ j) : ∀ (d k acc : Nat), k + d = n → acc ≤ 100 + k →
    Ev (fun q => spec_l7Left.l0 q (i : Int) (j : Int) (acc : Int) (k : Int) (n : Int) s) ((acc + cLs n s i j k d : Nat) : Int) := by
  intro d
  induction d with
  | zero =>
    intro k acc hk hacc
    refine Ev.step (f := fun _ => some (acc : Int)) (fun q => ?_) (Ev.now _)
    simp only [spec_l7Left.l0]; rw [if_neg (by omega)]
  | succ d ih =>
    intro k acc hk hacc
    have hw : wrap64 ((acc : Int) + 0) = ((acc : Nat) : Int) := by rw [c_wid _ (by omega) (by omega)]; omega
    have hw1 : wrap64 ((acc : Int) + 1) = ((acc + 1 : Nat) : Int) := c_w1 acc (by omega)
    rw [c_ls_succ]
    by_cases h1 : k = i
    · have hb : cLb n s i j k = 0 := by unfold cLb; rw [if_pos (Or.inl h1)]
      rw [hb, show acc + (0 + cLs n s i j (k + 1) d) = acc + cLs n s i j (k + 1) d by omega]
      refine Ev.step (fun q => ?_) (ih (k + 1) acc (by omega) (by omega))
      simp only [spec_l7Left.l0, spec_l1Bit.f, Bool.false_eq_true, if_false, Option.bind_some]; rw [if_pos (by omega), if_pos (by omega), hw, c_w1 k (by omega)]
    by_cases h2 : k = j
    · have hb : cLb n s i j k = 0 := by unfold cLb; rw [if_pos (Or.inr h2)]
      rw [hb, show acc + (0 + cLs n s i j (k + 1) d) = acc + cLs n s i j (k + 1) d by omega]
      refine Ev.step (fun q => ?_) (ih (k + 1) acc (by omega) (by omega))
      simp only [spec_l7Left.l0, spec_l1Bit.f, Bool.false_eq_true, if_false, Option.bind_some]; rw [if_pos (by omega), if_neg (by omega), if_pos (by omega), hw, c_w1 k (by omega)]
    have hat := c_specAt n h3 h7 s hs i j k ⟨hi, hj, by omega, hij, fun h => h1 h.symm, fun h => h2 h.symm⟩
    refine Ev.step (f := fun q => (spec_l3At.f q (n : Int) s (i : Int) (j : Int) (k : Int)).bind fun t => (spec_l1Bit.f (decide (t > 0))).bind fun t162 => spec_l7Left.l0 q (i : Int) (j : Int) (wrap64 ((acc : Int) + t162)) ((k + 1 : Nat) : Int) (n : Int) s) (fun q => ?_) (Ev.bind hat ?_)
    · simp only [spec_l7Left.l0]; rw [if_pos (by omega), if_neg (by omega), if_neg (by omega), c_w1 k (by omega)]
    · rcases c_at_pm n s i j k with hp | hp
      · have hb : cLb n s i j k = 1 := by unfold cLb; rw [if_neg (by simp [h1, h2]), if_pos hp]
        rw [hb, hp, show acc + (1 + cLs n s i j (k + 1) d) = (acc + 1) + cLs n s i j (k + 1) d by omega]
        simp only [spec_l1Bit.f, show decide ((1 : Int) > 0) = true by decide, if_true, Option.bind_some, hw1]
        exact ih (k + 1) (acc + 1) (by omega) (by omega)
      · have hb : cLb n s i j k = 0 := by unfold cLb; rw [if_neg (by simp [h1, h2]), if_neg (by rw [hp]; decide)]
        rw [hb, hp, show acc + (0 + cLs n s i j (k + 1) d) = acc + cLs n s i j (k + 1) d by omega]
        simp only [spec_l1Bit.f, show decide ((-1 : Int) > 0) = false by decide, Bool.false_eq_true, if_false, Option.bind_some, hw]
        exact ih (k + 1) acc (by omega) (by omega)
theorem c_look_twice : ∀ n ∈ [3, 4, 5, 6, 7], ∀ i ∈ List.range n, ∀ j ∈ List.range n, (cTrips n).zipIdx.foldl (cLk (cIx i j i)) none = none ∧ (cTrips n).zipIdx.foldl (cLk (cIx i j j)) none = none := by decide +kernel
theorem c_chi0_rest (n : Int) (q : Nat) : (chi0 n).getD (q + 1) 0 = 0 := by
  unfold chi0
  rw [List.getD_cons_succ, List.getD_eq_getElem?_getD, List.getElem?_replicate]
  split <;> rfl
theorem c_tab_twice (n : Nat) (h3 : 3 ≤ n) (h7 : n ≤ 7) (s : ByteArray) (i j k : Nat) (hi : i < n) (hj : j < n) (hk : k = i ∨ k = j) : rd (cTab n s) (cidx (i : Int) (j : Int) (k : Int)) = 0 := by
  have hc : cIx i j k = (i * 49 + j * 7 + k) + 1 := by unfold cIx; omega
  have h := c_fold_get s (cIx i j k) (cTrips n).zipIdx (chi0 (n : Int)) none ((chi0 (n : Int)).getD (cIx i j k) 0) (by rw [c_chi0_len]; unfold cIx; omega) rfl
  have hl := c_look_twice n (c_five n h3 h7) i (by simpa using hi) j (by simpa using hj)
  have hl2 : (cTrips n).zipIdx.foldl (cLk (cIx i j k)) none = none := by rcases hk with rfl | rfl; exact hl.1; exact hl.2
  rw [hl2] at h
  unfold rd
  rw [c_cidx]
  refine h.trans ?_
  show (chi0 (n : Int)).getD (cIx i j k) 0 = 0
  rw [hc]; exact c_chi0_rest _ _
theorem c_implLeft_l (n : Nat) (h3 : 3 ≤ n) (h7 : n ≤ 7) (s : ByteArray) (i j : Nat) (hi : i < n) (hj : j < n) (hij : i ≠ j) : ∀ (d k acc : Nat), k + d = n → acc ≤ 100 + k →
    Ev (fun q => impl_chi_left.l0 q (cTab n s) (i : Int) (j : Int) (acc : Int) (k : Int)) ((acc + cLs n s i j k d : Nat) : Int) := by
  have hl := c_tab_len n s
  have hn0 := c_tab_n n h3 h7 s
  intro d
  induction d with
  | zero =>
    intro k acc hk hacc
    refine Ev.step (f := fun _ => some (acc : Int)) (fun q => ?_) (Ev.now _)
    simp only [impl_chi_left.l0]; rw [if_pos (by omega), hn0, if_neg (by omega)]
  | succ d ih =>
    intro k acc hk hacc
    have hw1 : wrap64 ((acc : Int) + 1) = ((acc + 1 : Nat) : Int) := c_w1 acc (by omega)
    rw [c_ls_succ]
    by_cases hb : cLb n s i j k = 1
    · have hr : rd (cTab n s) (cidx (i : Int) (j : Int) (k : Int)) = 1 := by
        unfold cLb at hb
        by_cases hk2 : k = i ∨ k = j
        · rw [if_pos hk2] at hb; omega
        · rw [if_neg hk2] at hb
          rw [c_tab_at n h3 h7 s i j k ⟨hi, hj, by omega, hij, fun h => hk2 (Or.inl h.symm), fun h => hk2 (Or.inr h.symm)⟩]
          by_cases h1 : cAt n s i j k = 1
          · exact h1
          · rw [if_neg h1] at hb; omega
      rw [hb, show acc + (1 + cLs n s i j (k + 1) d) = (acc + 1) + cLs n s i j (k + 1) d by omega]
      refine Ev.step (fun q => ?_) (ih (k + 1) (acc + 1) (by omega) (by omega))
      simp only [impl_chi_left.l0]; rw [if_pos (by omega), hn0, if_pos (by omega), if_pos (by omega), if_pos (by omega), if_pos (by omega), if_pos (by omega), if_pos (by omega), if_pos (by omega), if_pos hr, hw1, c_w1 k (by omega)]
    · have hb0 : cLb n s i j k = 0 := by have := c_lb_le n s i j k; omega
      have hr : ¬ rd (cTab n s) (cidx (i : Int) (j : Int) (k : Int)) = 1 := by
        intro hr
        unfold cLb at hb0
        by_cases hk2 : k = i ∨ k = j
        · rw [c_tab_twice n h3 h7 s i j k hi hj hk2] at hr; omega
        · rw [if_neg hk2] at hb0
          rw [c_tab_at n h3 h7 s i j k ⟨hi, hj, by omega, hij, fun h => hk2 (Or.inl h.symm), fun h => hk2 (Or.inr h.symm)⟩] at hr
          rw [if_pos hr] at hb0; omega
      rw [hb0, show acc + (0 + cLs n s i j (k + 1) d) = acc + cLs n s i j (k + 1) d by omega]
      refine Ev.step (fun q => ?_) (ih (k + 1) acc (by omega) (by omega))
      simp only [impl_chi_left.l0]; rw [if_pos (by omega), hn0, if_pos (by omega), if_pos (by omega), if_pos (by omega), if_pos (by omega), if_pos (by omega), if_pos (by omega), if_pos (by omega), if_neg hr, c_w1 k (by omega)]
/-- How many lie to the left. -/
def cLeft (n : Nat) (s : ByteArray) (i j : Nat) : Nat := cLs n s i j 0 n
theorem c_specLeft (n : Nat) (h3 : 3 ≤ n) (h7 : n ≤ 7) (s : ByteArray) (hs : s.size = (cTrips n).length) (i j : Nat) (hi : i < n) (hj : j < n) (hij : i ≠ j) : Ev (fun q => spec_l7Left.f q (n : Int) s (i : Int) (j : Int)) ((cLeft n s i j : Nat) : Int) := by
  have h := c_specLeft_l n h3 h7 s hs i j hi hj hij n 0 0 (by omega) (by omega)
  rw [Nat.zero_add] at h
  exact h
theorem c_implLeft (n : Nat) (h3 : 3 ≤ n) (h7 : n ≤ 7) (s : ByteArray) (i j : Nat) (hi : i < n) (hj : j < n) (hij : i ≠ j) : Ev (fun q => impl_chi_left.f q (cTab n s) (i : Int) (j : Int)) ((cLeft n s i j : Nat) : Int) := by
  have h := c_implLeft_l n h3 h7 s i j hi hj hij n 0 0 (by omega) (by omega)
  rw [Nat.zero_add] at h
  exact h

end Go.Proofs.Ytmidcafamppkeaa.P
