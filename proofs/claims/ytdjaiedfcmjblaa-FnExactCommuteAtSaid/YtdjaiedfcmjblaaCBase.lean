/- Plain laws of the laws' helpers on slices of numbers: copying, comparing, marking and finding the marks again. Conditions: each says its own. -/
import Derived.Test.YtdjaiedfcmjblaaP0
import Derived.Test.YtdjaiedfcmjblaaP16
import Derived.Test.YtdjaiedfcmjblaaP48
import Derived.Test.YtdjaiedfcmjblaaP23
namespace Go.Proofs.Ytdjaiedfcmjblaa.P
open Go.RowKit Go.Proofs.YtdjaiedfcmjblaaW.PrintWords Go.Proofs.YtdjaiedfcmjblaaW.PrintLast
set_option linter.unusedVariables false

theorem c_w1 (i : Nat) (h : i < 4611686018427387904) : wrap64 ((i : Int) + 1) = ((i + 1 : Nat) : Int) := by
  unfold wrap64; omega
theorem c_wid (i : Int) (h : -9223372036854775808 ≤ i) (h2 : i ≤ 9223372036854775807) : wrap64 i = i := by
  unfold wrap64; omega
theorem c_rd (l : List Int) (i : Nat) : rd l (i : Int) = l.getD i 0 := by simp [rd]

theorem c_toIntS_l (l : List Int) (hl : l.length ≤ 1099511627776) : ∀ (d i : Nat) (ys : List Int), i + d = l.length → ys.length = l.length → (∀ j, j < i → ys[j]? = l[j]?) →
    Ev (fun k => laws_toIntS.l0 k l ys (i : Int)) l := by
  intro d
  induction d with
  | zero =>
    intro i ys hi hy h
    refine Ev.step (f := fun _ => some ys) (fun k => ?_) ?_
    · simp only [laws_toIntS.l0]; rw [if_neg (by omega)]
    · have : ys = l := by
        apply List.ext_getElem?
        intro j
        by_cases hj : j < i
        · exact h j hj
        · rw [List.getElem?_eq_none (by omega), List.getElem?_eq_none (by omega)]
      rw [this]; exact Ev.now _
  | succ d ih =>
    intro i ys hi hy h
    refine Ev.step (f := fun k => laws_toIntS.l0 k l (ys.set i (l.getD i 0)) ((i + 1 : Nat) : Int)) (fun k => ?_) ?_
    · simp only [laws_toIntS.l0]; rw [if_pos (by omega), if_pos (by omega), if_pos (by omega), c_w1 i (by omega), c_rd]; simp
    · refine ih (i + 1) _ (by omega) (by simpa using hy) ?_
      intro j hj
      by_cases e : j = i
      · subst e
        rw [List.getElem?_set_self (by omega), List.getD_eq_getElem?_getD, List.getElem?_eq_getElem (by omega)]; rfl
      · rw [List.getElem?_set_ne (by omega)]; exact h j (by omega)
theorem c_toIntS (l : List Int) (hl : l.length ≤ 35184372088832) (hl2 : l.length ≤ 1099511627776) : Ev (fun k => laws_toIntS.f k l) l := by
  unfold laws_toIntS.f
  refine Ev.congr (f := fun k => laws_toIntS.l0 k l (List.replicate l.length 0) ((0 : Nat) : Int)) (fun k => ?_) ?_
  · rw [if_pos (by omega), if_pos (by omega)]; simp
  · exact c_toIntS_l l hl2 l.length 0 _ (by omega) (by simp) (fun j hj => by omega)

theorem c_eqIntS_l (a b : List Int) (h : a.length = b.length) (hl : a.length ≤ 1099511627776) : ∀ (d i : Nat), i + d = a.length → (∀ j, j < i → a[j]? = b[j]?) →
    Ev (fun k => laws_eqIntS.l0 k a b (i : Int)) (decide (a = b)) := by
  intro d
  induction d with
  | zero =>
    intro i hi hj
    have e : a = b := by
      apply List.ext_getElem?
      intro j
      by_cases hj' : j < i
      · exact hj j hj'
      · rw [List.getElem?_eq_none (by omega), List.getElem?_eq_none (by omega)]
    refine Ev.step (f := fun _ => some true) (fun k => ?_) ?_
    · simp only [laws_eqIntS.l0]; rw [if_neg (by omega)]
    · rw [decide_eq_true e]; exact Ev.now _
  | succ d ih =>
    intro i hi hj
    by_cases e : a.getD i 0 = b.getD i 0
    · refine Ev.step (f := fun k => laws_eqIntS.l0 k a b ((i + 1 : Nat) : Int)) (fun k => ?_) ?_
      · simp only [laws_eqIntS.l0]; rw [if_pos (by omega), if_pos (by omega), if_pos (by omega), c_rd, c_rd, if_pos e, c_w1 i (by omega)]
      · refine ih (i + 1) (by omega) ?_
        intro j hj'
        by_cases ej : j = i
        · subst ej
          simp only [List.getD_eq_getElem?_getD, List.getElem?_eq_getElem (show j < a.length by omega), List.getElem?_eq_getElem (show j < b.length by omega), Option.getD_some] at e ⊢
          rw [e]
        · exact hj j (by omega)
    · refine Ev.step (f := fun _ => some false) (fun k => ?_) ?_
      · simp only [laws_eqIntS.l0]; rw [if_pos (by omega), if_pos (by omega), if_pos (by omega), c_rd, c_rd, if_neg e]
      · have : a ≠ b := fun h' => e (by rw [h'])
        rw [decide_eq_false this]; exact Ev.now _
theorem c_eqIntS (a b : List Int) (hl : a.length ≤ 1099511627776) : Ev (fun k => laws_eqIntS.f k a b) (decide (a = b)) := by
  unfold laws_eqIntS.f
  by_cases h : a.length = b.length
  · refine Ev.congr (f := fun k => laws_eqIntS.l0 k a b ((0 : Nat) : Int)) (fun k => ?_) ?_
    · rw [if_pos (by omega)]; rfl
    · exact c_eqIntS_l a b h hl a.length 0 (by omega) (fun j hj => by omega)
  · refine Ev.congr (f := fun _ => some false) (fun k => ?_) ?_
    · rw [if_neg (by omega)]
    · have : a ≠ b := fun h' => h (by rw [h'])
      rw [decide_eq_false this]; exact Ev.now _
theorem c_eqIntS_self (a : List Int) (hl : a.length ≤ 1099511627776) : Ev (fun k => laws_eqIntS.f k a a) true := by
  have := c_eqIntS a a hl
  rwa [decide_eq_true rfl] at this

/-- The marks a, a + 1, .. -/
def c_marks (a : Int) (n : Nat) : List Int := (List.range n).map fun (i : Nat) => a + (i : Int)
theorem c_marks_length (a : Int) (n : Nat) : (c_marks a n).length = n := by simp [c_marks]
theorem c_markIntS_l (l : List Int) (a : Int) (ha : 0 ≤ a) (ha2 : a ≤ 1099511627776) (hl : l.length ≤ 1099511627776) : ∀ (d i : Nat) (ys : List Int), i + d = l.length → ys.length = l.length → (∀ j, j < i → ys[j]? = some (a + (j : Int))) →
    Ev (fun k => laws_markIntS.l0 k ys (a + (i : Int)) (i : Int)) (a + (l.length : Int), c_marks a l.length) := by
  intro d
  induction d with
  | zero =>
    intro i ys hi hy h
    have e : ys = c_marks a l.length := by
      apply List.ext_getElem?
      intro j
      by_cases hj : j < i
      · rw [h j hj]; simp [c_marks, List.getElem?_range (show j < l.length by omega)]
      · rw [List.getElem?_eq_none (by omega), List.getElem?_eq_none (by rw [c_marks_length]; omega)]
    refine Ev.step (f := fun _ => some (a + (i : Int), ys)) (fun k => ?_) ?_
    · simp only [laws_markIntS.l0]; rw [if_neg (by omega)]
    · rw [e, show i = l.length by omega]; exact Ev.now _
  | succ d ih =>
    intro i ys hi hy h
    refine Ev.step (f := fun k => laws_markIntS.l0 k (ys.set i (a + (i : Int))) (a + ((i + 1 : Nat) : Int)) ((i + 1 : Nat) : Int)) (fun k => ?_) ?_
    · simp only [laws_markIntS.l0]; rw [if_pos (by omega), if_pos (by omega), c_w1 i (by omega), c_wid _ (by omega) (by omega)]
      simp only [Int.toNat_natCast]
      rw [show a + (i : Int) + 1 = a + ((i + 1 : Nat) : Int) by omega]
    · refine ih (i + 1) _ (by omega) (by simpa using hy) ?_
      intro j hj
      by_cases e : j = i
      · subst e; rw [List.getElem?_set_self (by omega)]
      · rw [List.getElem?_set_ne (by omega)]; exact h j (by omega)
theorem c_markIntS (l : List Int) (a : Int) (ha : 0 ≤ a) (ha2 : a ≤ 1099511627776) (hl : l.length ≤ 1099511627776) : Ev (fun k => laws_markIntS.f k l a) (a + (l.length : Int), c_marks a l.length) := by
  unfold laws_markIntS.f
  have := c_markIntS_l l a ha ha2 hl l.length 0 l (by omega) rfl (fun j hj => by omega)
  simpa using this
theorem c_heldIntS_l (a : Int) (n : Nat) (ha : 0 ≤ a) (ha2 : a ≤ 1099511627776) (hl : n ≤ 1099511627776) : ∀ (d i : Nat), i + d = n →
    Ev (fun k => laws_heldIntS.l0 k (c_marks a n) (a + (i : Int)) (i : Int)) (a + (n : Int)) := by
  intro d
  induction d with
  | zero =>
    intro i hi
    refine Ev.step (f := fun _ => some (a + (i : Int))) (fun k => ?_) ?_
    · simp only [laws_heldIntS.l0, c_marks_length]; rw [if_neg (by omega)]
    · rw [show i = n by omega]; exact Ev.now _
  | succ d ih =>
    intro i hi
    refine Ev.step (f := fun k => laws_heldIntS.l0 k (c_marks a n) (a + ((i + 1 : Nat) : Int)) ((i + 1 : Nat) : Int)) (fun k => ?_) ?_
    · simp only [laws_heldIntS.l0, c_marks_length]; rw [if_pos (by omega), if_pos (by omega), c_rd, if_pos (by simp [c_marks, List.getD_eq_getElem?_getD, List.getElem?_range (show i < n by omega)]), c_w1 i (by omega), c_wid _ (by omega) (by omega)]
      rw [show a + (i : Int) + 1 = a + ((i + 1 : Nat) : Int) by omega]
    · exact ih (i + 1) (by omega)
theorem c_heldIntS (a : Int) (n : Nat) (ha : 0 ≤ a) (ha2 : a ≤ 1099511627776) (hl : n ≤ 1099511627776) : Ev (fun k => laws_heldIntS.f k (c_marks a n) a) (a + (n : Int)) := by
  unfold laws_heldIntS.f
  have := c_heldIntS_l a n ha ha2 hl n 0 (by omega)
  simpa using this

end Go.Proofs.Ytdjaiedfcmjblaa.P
