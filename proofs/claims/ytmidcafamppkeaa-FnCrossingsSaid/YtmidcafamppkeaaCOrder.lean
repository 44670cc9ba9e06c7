/- Order signs: which texts are signs, the exchange rule, circuits, and which signs are acyclic: the reference and the program tell the same. Conditions: the text is at most 2^40 long. -/
import Derived.Test.YtmidcafamppkeaaCSigns
import Derived.Test.YtmidcafamppkeaaP72
import Derived.Test.YtmidcafamppkeaaP4
import Derived.Test.YtmidcafamppkeaaP82
import Derived.Test.YtmidcafamppkeaaP84
import Derived.Test.YtmidcafamppkeaaP48
namespace Go.Proofs.Ytmidcafamppkeaa.P
open Go.RowKit Go.Proofs.YtmidcafamppkeaaW.PrintWords Go.Proofs.YtmidcafamppkeaaW.PrintLast
set_option linter.unusedVariables false

/-! ### signs -/
def cChs (s : ByteArray) (m d : Nat) : Bool := (List.range' m d).all fun j => decide (bt s (j : Int) = 43 ∨ bt s (j : Int) = 45)
def cSigns (n : Int) (s : ByteArray) : Bool := decide ((3 ≤ n ∧ n ≤ 7) ∧ s.size = (cTrips n.toNat).length) && cChs s 0 s.size
theorem c_sz (n : Int) (h3 : 3 ≤ n) (h7 : n ≤ 7) : wrap64 (Int.tdiv (wrap64 ((wrap64 (n * (wrap64 (n - 1)))) * (wrap64 (n - 2)))) 6) = ((cTrips n.toNat).length : Int) := by
  have hn : n = 3 ∨ n = 4 ∨ n = 5 ∨ n = 6 ∨ n = 7 := by omega
  rcases hn with rfl | rfl | rfl | rfl | rfl <;> decide +kernel
theorem c_specSigns_l (n : Int) (s : ByteArray) (hs : s.size ≤ 1099511627776) : ∀ (d m : Nat), m + d = s.size → Ev (fun k => spec_AreSigns.l0 k (m : Int) n s) (cChs s m d) := by
  intro d
  induction d with
  | zero =>
    intro m hm
    refine Ev.step (f := fun _ => some true) (fun k => ?_) (Ev.now _)
    simp only [spec_AreSigns.l0]; rw [if_neg (by omega)]
  | succ d ih =>
    intro m hm
    unfold cChs
    rw [List.range'_succ, List.all_cons]
    by_cases h : bt s (m : Int) = 43 ∨ bt s (m : Int) = 45
    · rw [decide_eq_true h, Bool.true_and]
      refine Ev.step (f := fun k => spec_AreSigns.l0 k ((m + 1 : Nat) : Int) n s) (fun k => ?_) (ih (m + 1) (by omega))
      simp only [spec_AreSigns.l0]; rw [if_pos (by omega), if_pos (by omega), c_w1 m (by omega)]
      by_cases h1 : bt s (m : Int) = 43
      · rw [if_pos h1]
      · rw [if_neg h1, if_pos (h.resolve_left h1)]
    · rw [decide_eq_false h, Bool.false_and]
      refine Ev.step (f := fun _ => some false) (fun k => ?_) (Ev.now _)
      simp only [spec_AreSigns.l0]; rw [if_pos (by omega), if_pos (by omega), if_neg (fun h1 => h (.inl h1)), if_neg (fun h1 => h (.inr h1))]
theorem c_implSigns_l (n : Int) (s : ByteArray) (hs : s.size ≤ 1099511627776) : ∀ (d m : Nat), m + d = s.size → Ev (fun k => impl_AreSigns.l0 k (m : Int) n s) (cChs s m d) := by
  intro d
  induction d with
  | zero =>
    intro m hm
    refine Ev.step (f := fun _ => some true) (fun k => ?_) (Ev.now _)
    simp only [impl_AreSigns.l0]; rw [if_neg (by omega)]
  | succ d ih =>
    intro m hm
    unfold cChs
    rw [List.range'_succ, List.all_cons]
    by_cases h : bt s (m : Int) = 43 ∨ bt s (m : Int) = 45
    · rw [decide_eq_true h, Bool.true_and]
      refine Ev.step (f := fun k => impl_AreSigns.l0 k ((m + 1 : Nat) : Int) n s) (fun k => ?_) (ih (m + 1) (by omega))
      simp only [impl_AreSigns.l0]; rw [if_pos (by omega), if_pos (by omega), c_w1 m (by omega)]
      by_cases h1 : bt s (m : Int) = 43
      · rw [if_pos h1]
      · rw [if_neg h1, if_pos (h.resolve_left h1)]
    · rw [decide_eq_false h, Bool.false_and]
      refine Ev.step (f := fun _ => some false) (fun k => ?_) (Ev.now _)
      simp only [impl_AreSigns.l0]; rw [if_pos (by omega), if_pos (by omega), if_neg (fun h1 => h (.inl h1)), if_neg (fun h1 => h (.inr h1))]
theorem c_specSigns (n : Int) (s : ByteArray) (hs : s.size ≤ 1099511627776) : Ev (fun k => spec_AreSigns.f k n s) (cSigns n s) := by
  unfold spec_AreSigns.f cSigns spec_l1In.f
  by_cases h3 : n ≥ 3
  · simp only [if_pos h3, Option.bind_some]
    by_cases h7 : n ≤ 7
    · simp only [decide_eq_true h7, if_true, c_sz n h3 h7]
      by_cases hz : s.size = (cTrips n.toNat).length
      · rw [decide_eq_true ⟨⟨h3, h7⟩, hz⟩, Bool.true_and]
        refine Ev.step (fun k => ?_) (c_specSigns_l n s hs s.size 0 (by omega))
        simp only [spec_AreSigns.j0]; rw [if_neg (by simp; omega)]; rfl
      · rw [decide_eq_false (by intro h; exact hz h.2), Bool.false_and]
        refine Ev.step (f := fun _ => some false) (fun k => ?_) (Ev.now _)
        simp only [spec_AreSigns.j0]; rw [if_pos (by simp; omega)]
    · simp only [decide_eq_false h7, Bool.false_eq_true, if_false]
      rw [decide_eq_false (by intro h; exact h7 h.1.2), Bool.false_and]
      refine Ev.step (f := fun _ => some false) (fun k => ?_) (Ev.now _)
      simp only [spec_AreSigns.j0, if_true]
  · simp only [if_neg h3, Option.bind_some, Bool.false_eq_true, if_false]
    rw [decide_eq_false (by intro h; exact h3 h.1.1), Bool.false_and]
    refine Ev.step (f := fun _ => some false) (fun k => ?_) (Ev.now _)
    simp only [spec_AreSigns.j0, if_true]
theorem c_implSigns (n : Int) (s : ByteArray) (hs : s.size ≤ 1099511627776) : Ev (fun k => impl_AreSigns.f k n s) (cSigns n s) := by
  unfold impl_AreSigns.f cSigns
  by_cases h3 : n < 3
  · simp only [if_pos h3]
    rw [decide_eq_false (by intro h; omega), Bool.false_and]
    refine Ev.step (f := fun _ => some false) (fun k => ?_) (Ev.now _)
    simp only [impl_AreSigns.j0, if_true]
  · simp only [if_neg h3]
    by_cases h7 : n > 7
    · simp only [if_pos h7]
      rw [decide_eq_false (by intro h; omega), Bool.false_and]
      refine Ev.step (f := fun _ => some false) (fun k => ?_) (Ev.now _)
      simp only [impl_AreSigns.j0, if_true]
    · simp only [if_neg h7, c_sz n (by omega) (by omega)]
      by_cases hz : s.size = (cTrips n.toNat).length
      · rw [decide_eq_true ⟨⟨by omega, by omega⟩, hz⟩, Bool.true_and]
        refine Ev.step (fun k => ?_) (c_implSigns_l n s hs s.size 0 (by omega))
        simp only [impl_AreSigns.j0]; rw [if_neg (by simp; omega)]; rfl
      · rw [decide_eq_false (by intro h; exact hz h.2), Bool.false_and]
        refine Ev.step (f := fun _ => some false) (fun k => ?_) (Ev.now _)
        simp only [impl_AreSigns.j0]; rw [if_pos (by simp; omega)]
theorem c_signs_open (n : Int) (s : ByteArray) (h : cSigns n s = true) : ∃ m : Nat, n = (m : Int) ∧ 3 ≤ m ∧ m ≤ 7 ∧ s.size = (cTrips m).length := by
  unfold cSigns at h
  rw [Bool.and_eq_true, decide_eq_true_eq] at h
  exact ⟨n.toNat, by omega, by omega, by omega, h.1.2⟩

/-! ### the rule -/
def cBr (n : Nat) (s : ByteArray) (t : Nat × Nat × Nat × Nat × Nat) : Bool :=
  let (a, b, c, d, e) := t
  if wrap64 (cAt n s a b c * cAt n s a d e) = wrap64 (cAt n s a b e * cAt n s a c d) then (wrap64 (cAt n s a b e * cAt n s a c d) == wrap64 (wrap64 (-(cAt n s a b d)) * cAt n s a c e)) else false
/-- Five different elements. -/
def cD5 (n : Nat) (t : Nat × Nat × Nat × Nat × Nat) : Bool := decide (t.1 < n ∧ t.2.1 < n ∧ t.2.2.1 < n ∧ t.2.2.2.1 < n ∧ t.2.2.2.2 < n ∧ t.1 ≠ t.2.1 ∧ t.1 ≠ t.2.2.1 ∧ t.1 ≠ t.2.2.2.1 ∧ t.1 ≠ t.2.2.2.2 ∧ t.2.1 ≠ t.2.2.1 ∧ t.2.1 ≠ t.2.2.2.1 ∧ t.2.1 ≠ t.2.2.2.2 ∧ t.2.2.1 ≠ t.2.2.2.1 ∧ t.2.2.1 ≠ t.2.2.2.2 ∧ t.2.2.2.1 ≠ t.2.2.2.2)
theorem c_specBreaks (n : Nat) (h3 : 3 ≤ n) (h7 : n ≤ 7) (s : ByteArray) (hs : s.size = (cTrips n).length) (t : Nat × Nat × Nat × Nat × Nat) (h : cD5 n t = true) :
    Ev (fun k => spec_l4Breaks.f k (n : Int) s (t.1 : Int) (t.2.1 : Int) (t.2.2.1 : Int) (t.2.2.2.1 : Int) (t.2.2.2.2 : Int)) (cBr n s t) := by
  obtain ⟨a, b, c, d, e⟩ := t
  simp only [cD5, decide_eq_true_eq] at h
  have hD := fun x y z hx => c_specAt n h3 h7 s hs x y z hx
  unfold spec_l4Breaks.f cBr
  refine Ev.bind (hD a b c ⟨by omega, by omega, by omega, by omega, by omega, by omega⟩) (Ev.bind (hD a d e ⟨by omega, by omega, by omega, by omega, by omega, by omega⟩) (Ev.bind (hD a b e ⟨by omega, by omega, by omega, by omega, by omega, by omega⟩) (Ev.bind (hD a c d ⟨by omega, by omega, by omega, by omega, by omega, by omega⟩) (Ev.bind (hD a b d ⟨by omega, by omega, by omega, by omega, by omega, by omega⟩) (Ev.bind (hD a c e ⟨by omega, by omega, by omega, by omega, by omega, by omega⟩) ?_)))))
  simp only
  split
  · exact Ev.now _
  · exact Ev.now _
theorem c_implBreaks (n : Nat) (h3 : 3 ≤ n) (h7 : n ≤ 7) (s : ByteArray) (t : Nat × Nat × Nat × Nat × Nat) (h : cD5 n t = true) :
    impl_chi_breaks.f (cTab n s) (t.1 : Int) (t.2.1 : Int) (t.2.2.1 : Int) (t.2.2.2.1 : Int) (t.2.2.2.2 : Int) = some (cBr n s t) := by
  obtain ⟨a, b, c, d, e⟩ := t
  simp only [cD5, decide_eq_true_eq] at h
  have hD := fun x y z hx => c_tab_at n h3 h7 s x y z hx
  have hl := c_tab_len n s
  unfold impl_chi_breaks.f cBr
  simp only
  rw [if_pos (by omega), if_pos (by omega), if_pos (by omega), if_pos (by omega), if_pos (by omega), if_pos (by omega), if_pos (by omega), if_pos (by omega), if_pos (by omega), if_pos (by omega), if_pos (by omega)]
  rw [hD a b c ⟨by omega, by omega, by omega, by omega, by omega, by omega⟩, hD a d e ⟨by omega, by omega, by omega, by omega, by omega, by omega⟩, hD a b e ⟨by omega, by omega, by omega, by omega, by omega, by omega⟩, hD a c d ⟨by omega, by omega, by omega, by omega, by omega, by omega⟩, hD a b d ⟨by omega, by omega, by omega, by omega, by omega, by omega⟩, hD a c e ⟨by omega, by omega, by omega, by omega, by omega, by omega⟩]
  split <;> rfl
/-- What a search for the first break ends in. -/
def cFb (n : Nat) (s : ByteArray) (L : List (Nat × Nat × Nat × Nat × Nat)) : List Int :=
  match L.find? (cBr n s) with
  | none => []
  | some t => [(t.1 : Int), (t.2.1 : Int), (t.2.2.1 : Int), (t.2.2.2.1 : Int), (t.2.2.2.2 : Int)]
theorem c_fb_cons (n : Nat) (s : ByteArray) (t : Nat × Nat × Nat × Nat × Nat) (L : List (Nat × Nat × Nat × Nat × Nat)) : cFb n s (t :: L) = if cBr n s t = true then [(t.1 : Int), (t.2.1 : Int), (t.2.2.1 : Int), (t.2.2.2.1 : Int), (t.2.2.2.2 : Int)] else cFb n s L := by
  unfold cFb
  rw [List.find?_cons]
  cases cBr n s t <;> rfl

end Go.Proofs.Ytmidcafamppkeaa.P
