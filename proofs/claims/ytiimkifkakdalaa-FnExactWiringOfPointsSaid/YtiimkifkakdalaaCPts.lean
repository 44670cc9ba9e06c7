/- Points: what the laws' helpers do with them, when a list of them is in general position for the program and for the reference, and the sorted list. Conditions: at most 2^20 points. -/
import Derived.Test.YtiimkifkakdalaaWAll2
import Derived.Test.YtiimkifkakdalaaCNum
import Derived.Test.YtiimkifkakdalaaCIns
import Derived.Test.YtiimkifkakdalaaOPts
import Derived.Test.YtiimkifkakdalaaOSortQ
import Derived.Test.YtiimkifkakdalaaP27
import Derived.Test.YtiimkifkakdalaaP53
import Derived.Test.YtiimkifkakdalaaP101
import Derived.Test.YtiimkifkakdalaaP54
import Derived.Test.YtiimkifkakdalaaP68
namespace Go.Proofs.Ytiimkifkakdalaa.P
open Go.RowKit Go.Sort Go.Proofs.YtiimkifkakdalaaW.PrintWords Go.Proofs.YtiimkifkakdalaaW.PrintLast Go.Proofs.YtiimkifkakdalaaW.PrintMore
set_option linter.unusedVariables false
set_option linter.unusedSimpArgs false

abbrev Pt := S64
theorem p_rd (l : List Pt) (i : Nat) : rd_T64 l (i : Int) = l.getD i z64 := by simp [rd_T64]
theorem p_rd2 (l : List S68) (i : Nat) : rd_T68 l (i : Int) = l.getD i z68 := by simp [rd_T68]
def p_to (p : S68) : Pt := ⟨p.f0, p.f1⟩
theorem p_sz (l : List S68) (h : l.length ≤ 9223372036854775807) : ∃ z, laws_szPointS.f l 1048576 = some z ∧ (¬ z < 0 → l.length ≤ 1048576) := by
  unfold laws_szPointS.f
  rw [c_wid _ (by omega) (by omega)]
  by_cases hz : (1048576 : Int) - (l.length : Int) < 0
  · exact ⟨-1, by rw [if_pos hz], fun h => absurd (by decide : (-1 : Int) < 0) h⟩
  · exact ⟨_, by rw [if_neg hz], fun _ => by omega⟩
theorem p_toS_l (l : List S68) (hl : l.length ≤ 1048576) : ∀ (d i : Nat) (ys : List Pt), i + d = l.length → ys.length = l.length → (∀ j, j < i → ys[j]? = (l.map p_to)[j]?) →
    Ev (fun k => laws_toPointS.l0 k l ys (i : Int)) (l.map p_to) := by
  intro d
  induction d with
  | zero =>
    intro i ys hi hy h
    refine Ev.step (f := fun _ => some ys) (fun k => ?_) ?_
    · simp only [laws_toPointS.l0]; rw [if_neg (by omega)]
    · have : ys = l.map p_to := by
        apply List.ext_getElem?
        intro j
        by_cases hj : j < i
        · exact h j hj
        · rw [List.getElem?_eq_none (by omega), List.getElem?_eq_none (by rw [List.length_map]; omega)]
      rw [this]; exact Ev.now _
  | succ d ih =>
    intro i ys hi hy h
    refine Ev.step (f := fun k => laws_toPointS.l0 k l (ys.set i (p_to (l.getD i z68))) ((i + 1 : Nat) : Int)) (fun k => ?_) ?_
    · simp only [laws_toPointS.l0, laws_toPoint.f]
      rw [if_pos (by omega), if_pos (by omega), p_rd2, Option.bind_some, if_pos (by omega), c_w1 i (by omega)]
      simp only [Int.toNat_natCast]
      rfl
    · refine ih (i + 1) _ (by omega) (by simpa using hy) ?_
      intro j hj
      by_cases e : j = i
      · subst e
        rw [List.getElem?_set_self (by omega), List.getElem?_map, List.getD_eq_getElem?_getD, List.getElem?_eq_getElem (by omega)]; rfl
      · rw [List.getElem?_set_ne (by omega)]; exact h j (by omega)
theorem p_toS (l : List S68) (hl : l.length ≤ 1048576) : Ev (fun k => laws_toPointS.f k l) (l.map p_to) := by
  unfold laws_toPointS.f
  refine Ev.congr (f := fun k => laws_toPointS.l0 k l (List.replicate l.length z64) ((0 : Nat) : Int)) (fun k => ?_) ?_
  · rw [if_pos (by omega), if_pos (by omega)]; simp
  · exact p_toS_l l hl l.length 0 _ (by omega) (by simp) (fun j hj => by omega)
theorem p_eqS_l (l : List Pt) (hl : l.length ≤ 1048576) : ∀ (d i : Nat), i + d = l.length → Ev (fun k => laws_eqPointS.l0 k l l (i : Int)) true := by
  intro d
  induction d with
  | zero =>
    intro i hi
    refine Ev.step (f := fun _ => some true) (fun k => ?_) (Ev.now _)
    simp only [laws_eqPointS.l0]; rw [if_neg (by omega)]
  | succ d ih =>
    intro i hi
    refine Ev.step (f := fun k => laws_eqPointS.l0 k l l ((i + 1 : Nat) : Int)) (fun k => ?_) (ih (i + 1) (by omega))
    simp only [laws_eqPointS.l0, laws_eqPoint.f]
    rw [if_pos (by omega), if_pos (by omega), if_pos (by omega), c_w1 i (by omega)]
    simp only [if_true, Option.bind_some]
theorem p_eqS (l : List Pt) (hl : l.length ≤ 1048576) : Ev (fun k => laws_eqPointS.f k l l) true := by
  unfold laws_eqPointS.f
  refine Ev.congr (f := fun k => laws_eqPointS.l0 k l l ((0 : Nat) : Int)) (fun k => by rw [if_pos rfl]; rfl) (p_eqS_l l hl l.length 0 (by omega))
theorem p_markS_l (n : Nat) (hn : n ≤ 1048576) : ∀ (d i : Nat) (a : Int) (l : List Pt), i + d = n → l.length = n → a = 1 + 2 * (i : Int) → ∃ r : List Pt, Ev (fun k => laws_markPointS.l0 k l a (i : Int)) (1 + 2 * (n : Int), r) := by
  intro d
  induction d with
  | zero =>
    intro i a l hi hl ha
    refine ⟨l, Ev.step (f := fun _ => some (a, l)) (fun k => ?_) ?_⟩
    · simp only [laws_markPointS.l0]; rw [if_neg (by omega)]
    · rw [ha, show i = n by omega]; exact Ev.now _
  | succ d ih =>
    intro i a l hi hl ha
    obtain ⟨r, hr⟩ := ih (i + 1) (a + 2) ((l.set i ⟨a, (l.getD i z64).f1⟩).set i ⟨((l.set i ⟨a, (l.getD i z64).f1⟩).getD i z64).f0, a + 1⟩) (by omega) (by simpa using hl) (by omega)
    refine ⟨r, Ev.step (f := fun k => laws_markPointS.l0 k ((l.set i ⟨a, (l.getD i z64).f1⟩).set i ⟨((l.set i ⟨a, (l.getD i z64).f1⟩).getD i z64).f0, a + 1⟩) (a + 2) ((i + 1 : Nat) : Int)) (fun k => ?_) hr⟩
    simp only [laws_markPointS.l0]
    rw [if_pos (by omega), if_pos (by omega), Option.bind_some, c_w1 i (by omega), c_wid (a + 1) (by omega) (by omega), c_wid (a + 1 + 1) (by omega) (by omega)]
    simp only [p_rd, Int.toNat_natCast]
    rw [show a + 1 + 1 = a + 2 by omega]
theorem p_markS (l : List Pt) (hl : l.length ≤ 1048576) : ∃ r : List Pt, Ev (fun k => laws_markPointS.f k l 1) (1 + 2 * (l.length : Int), r) := by
  unfold laws_markPointS.f
  exact p_markS_l l.length hl l.length 0 1 l (by omega) rfl (by omega)
/-- Coordinates within a bound. -/
def pFit (m : Int) (p : Pt) : Prop := (-m ≤ p.f0 ∧ p.f0 ≤ m) ∧ (-m ≤ p.f1 ∧ p.f1 ≤ m)
def pArea (a b c : Pt) : Int := wrap64 ((wrap64 ((wrap64 (b.f0 - a.f0)) * (wrap64 (c.f1 - a.f1)))) - (wrap64 ((wrap64 (b.f1 - a.f1)) * (wrap64 (c.f0 - a.f0)))))
theorem p_l1In (a m : Int) : spec_l1In.f a (-m) m = some (decide (-m ≤ a ∧ a ≤ m)) := by
  unfold spec_l1In.f
  by_cases h : a ≥ -m
  · rw [if_pos h]; congr 1; exact decide_eq_decide.mpr ⟨fun h2 => ⟨h, h2⟩, fun h2 => h2.2⟩
  · rw [if_neg h]; congr 1; exact (decide_eq_false (fun h2 => h h2.1)).symm
theorem p_fits (p : Pt) (m : Int) (hm : 0 ≤ m ∧ m ≤ 1000000) (b : Bool) (hb : b = true ↔ pFit m p) : spec_l2Fits.f p.f0 p.f1 m = some b := by
  unfold spec_l2Fits.f
  rw [c_wid (-m) (by omega) (by omega), p_l1In, p_l1In, Option.bind_some, Option.bind_some]
  unfold pFit at hb
  by_cases h1 : -m ≤ p.f0 ∧ p.f0 ≤ m
  · rw [if_pos (decide_eq_true h1)]
    congr 1
    by_cases h2 : -m ≤ p.f1 ∧ p.f1 ≤ m
    · rw [decide_eq_true h2, hb.mpr ⟨h1, h2⟩]
    · rw [decide_eq_false h2]
      cases b with
      | false => rfl
      | true => exact absurd (hb.mp rfl).2 h2
  · rw [if_neg (by rw [decide_eq_false h1]; simp)]
    cases b with
    | false => rfl
    | true => exact absurd (hb.mp rfl).1 h1
theorem p_far (p : Pt) (m : Int) (hm : 0 ≤ m ∧ m ≤ 1000000) (b : Bool) (hb : b = true ↔ ¬ pFit m p) : dFar m (p.f0, p.f1) = some b := by
  unfold dFar impl_isFar.f
  unfold pFit at hb
  rw [c_wid (-m) (by omega) (by omega)]
  simp only
  have e : ∀ x : Int, (if x < -m then some true else some (decide (x > m))) = some (decide (¬ (-m ≤ x ∧ x ≤ m))) := by
    intro x
    by_cases h : x < -m
    · rw [if_pos h, decide_eq_true (by omega)]
    · rw [if_neg h]; congr 1; exact decide_eq_decide.mpr (by omega)
  rw [e, e, Option.bind_some]
  by_cases h1 : -m ≤ p.f0 ∧ p.f0 ≤ m
  · rw [if_neg (by simp [h1])]
    congr 1
    by_cases h2 : -m ≤ p.f1 ∧ p.f1 ≤ m
    · rw [decide_eq_false (fun h => h h2)]
      cases b with
      | false => rfl
      | true => exact absurd ⟨h1, h2⟩ (hb.mp rfl)
    · rw [decide_eq_true h2, hb.mpr (fun h => h2 h.2)]
  · rw [if_pos (decide_eq_true h1), hb.mpr (fun h => h1 h.1)]
theorem p_idx (m : Int) (hm : 0 ≤ m ∧ m ≤ 1000000) : ∀ (l : List Pt) (x : Int), 0 ≤ x → ∃ r, dIdx m l x = some r ∧ (¬ 0 ≤ r ↔ ∀ p ∈ l, pFit m p)
  | [], x, _ => ⟨-1, rfl, by simp⟩
  | p :: l, x, hx => by
    obtain ⟨r, h1, h2⟩ := p_idx m hm l (x + 1) (by omega)
    by_cases hp : pFit m p
    · refine ⟨r, ?_, ?_⟩
      · rw [dIdx, p_far p m hm false (by simp [hp]), Option.bind_some, if_neg (by simp), h1]
      · rw [h2]; simp [hp]
    · refine ⟨x, ?_, ?_⟩
      · rw [dIdx, p_far p m hm true (by simp [hp]), Option.bind_some, if_pos rfl]
      · constructor
        · intro h; exact absurd hx h
        · intro h; exact absurd (h p (List.mem_cons_self ..)) hp
theorem p_near (m : Int) (hm : 0 ≤ m ∧ m ≤ 1000000) (l : List Pt) (b : Bool) (hb : b = true ↔ ∀ p ∈ l, pFit m p) : impl_areNear.f m l = some b := by
  obtain ⟨r, h1, h2⟩ := p_idx m hm l 0 (Int.le_refl _)
  unfold impl_areNear.f
  rw [h1, Option.bind_some]
  congr 1
  cases b with
  | true =>
    have := h2.mpr (hb.mp rfl)
    rw [decide_eq_false this]; rfl
  | false =>
    have h3 : ¬ ∀ p ∈ l, pFit m p := fun h => by have := hb.mpr h; cases this
    rw [decide_eq_true (Classical.byContradiction fun h => h3 (h2.mp h))]; rfl
theorem p_turn (a b c : Pt) (ha : pFit 1000 a) (hb : pFit 1000 b) (hc : pFit 1000 c) : ∃ s, impl_TurnOf.f a.f0 a.f1 b.f0 b.f1 c.f0 c.f1 = some s ∧ (s = 0 ↔ pArea a b c = 0) := by
  unfold impl_TurnOf.f
  obtain ⟨r, h1, h2⟩ := p_idx 1000 (by omega) [⟨a.f0, a.f1⟩, ⟨b.f0, b.f1⟩, ⟨c.f0, c.f1⟩] 0 (Int.le_refl _)
  rw [h1, Option.bind_some, if_neg (h2.mpr (by intro p hp; simp only [List.mem_cons, List.not_mem_nil, or_false] at hp; rcases hp with rfl | rfl | rfl <;> assumption))]
  have e : impl_area.f a.f0 a.f1 b.f0 b.f1 c.f0 c.f1 = some (pArea a b c) := rfl
  rw [e, Option.bind_some]
  unfold impl_signOf.f
  rw [cmpP, Option.bind_some]
  refine ⟨_, rfl, ?_⟩
  repeat' split
  all_goals omega
theorem p_areaS (a b c : Pt) : spec_l2Area.f a.f0 a.f1 b.f0 b.f1 c.f0 c.f1 = some (pArea a b c) := rfl
/-- One point fits, and lies on no line of two points ahead of it. -/
def pGood (l : List Pt) (k : Nat) : Prop := pFit 50 (l.getD k z64) ∧ ∀ j, j < k → ∀ i, i < j → pArea (l.getD i z64) (l.getD j z64) (l.getD k z64) ≠ 0
theorem p_spec_l (l : List Pt) (hl : l.length ≤ 7) : ∀ (d k0 : Nat), k0 + d = l.length → ∀ b : Bool, (b = true ↔ ∀ k, k0 ≤ k → k < l.length → pGood l k) → Ev (fun r => spec_ArePoints.l0 r l (k0 : Int)) b := by
  intro d
  induction d with
  | zero =>
    intro k0 hk b hb
    have : b = true := hb.mpr (fun k h1 h2 => by omega)
    subst this
    refine Ev.step (f := fun _ => some true) (fun r => ?_) (Ev.now _)
    simp only [spec_ArePoints.l0]; rw [if_neg (by omega)]
  | succ d ih =>
    intro k0 hk b hb
    have l2 : ∀ (j0 : Nat), j0 < k0 → (∀ b : Bool, (b = true ↔ (∀ j, j0 + 1 ≤ j → j < k0 → ∀ i, i < j → pArea (l.getD i z64) (l.getD j z64) (l.getD k0 z64) ≠ 0) ∧ ∀ k, k0 + 1 ≤ k → k < l.length → pGood l k) → Ev (fun r => spec_ArePoints.l1 r l (k0 : Int) ((j0 + 1 : Nat) : Int)) b) →
        ∀ (f i0 : Nat), i0 + f = j0 → ∀ b : Bool, (b = true ↔ (∀ i, i0 ≤ i → i < j0 → pArea (l.getD i z64) (l.getD j0 z64) (l.getD k0 z64) ≠ 0) ∧ (∀ j, j0 + 1 ≤ j → j < k0 → ∀ i, i < j → pArea (l.getD i z64) (l.getD j z64) (l.getD k0 z64) ≠ 0) ∧ ∀ k, k0 + 1 ≤ k → k < l.length → pGood l k) → Ev (fun r => spec_ArePoints.l2 r l (k0 : Int) (j0 : Int) (i0 : Int)) b := by
      intro j0 hj hn f
      induction f with
      | zero =>
        intro i0 hi b hb
        refine Ev.step (f := fun r => spec_ArePoints.l1 r l (k0 : Int) ((j0 + 1 : Nat) : Int)) (fun r => ?_) (hn b (by rw [hb]; exact ⟨fun h => h.2, fun h => ⟨fun i h1 h2 => by omega, h⟩⟩))
        simp only [spec_ArePoints.l2]; rw [if_neg (by omega), c_w1 j0 (by omega)]
      | succ f ihf =>
        intro i0 hi b hb
        by_cases ha : pArea (l.getD i0 z64) (l.getD j0 z64) (l.getD k0 z64) = 0
        · have : b = false := by
            cases b with
            | false => rfl
            | true => exact absurd ha ((hb.mp rfl).1 i0 (Nat.le_refl _) (by omega))
          subst this
          refine Ev.step (f := fun _ => some false) (fun r => ?_) (Ev.now _)
          simp only [spec_ArePoints.l2]
          rw [if_pos (by omega), if_pos (by omega), if_pos (by omega), if_pos (by omega), if_pos (by omega), if_pos (by omega), if_pos (by omega), p_areaS, Option.bind_some, p_rd, p_rd, p_rd, if_pos ha]
        · refine Ev.step (f := fun r => spec_ArePoints.l2 r l (k0 : Int) (j0 : Int) ((i0 + 1 : Nat) : Int)) (fun r => ?_) (ihf (i0 + 1) (by omega) b ?_)
          · simp only [spec_ArePoints.l2]
            rw [if_pos (by omega), if_pos (by omega), if_pos (by omega), if_pos (by omega), if_pos (by omega), if_pos (by omega), if_pos (by omega), p_areaS, Option.bind_some, p_rd, p_rd, p_rd, if_neg ha, c_w1 i0 (by omega)]
          · rw [hb]
            refine ⟨fun h => ⟨fun i h1 h2 => h.1 i (by omega) h2, h.2⟩, fun h => ⟨fun i h1 h2 => ?_, h.2⟩⟩
            by_cases e : i = i0
            · subst e; exact ha
            · exact h.1 i (by omega) h2
    have l1 : ∀ (e j0 : Nat), j0 + e = k0 → ∀ b : Bool, (b = true ↔ (∀ j, j0 ≤ j → j < k0 → ∀ i, i < j → pArea (l.getD i z64) (l.getD j z64) (l.getD k0 z64) ≠ 0) ∧ ∀ k, k0 + 1 ≤ k → k < l.length → pGood l k) → Ev (fun r => spec_ArePoints.l1 r l (k0 : Int) (j0 : Int)) b := by
      intro e
      induction e with
      | zero =>
        intro j0 hj b hb
        refine Ev.step (f := fun r => spec_ArePoints.l0 r l ((k0 + 1 : Nat) : Int)) (fun r => ?_) (ih (k0 + 1) (by omega) b (by rw [hb]; exact ⟨fun h => h.2, fun h => ⟨fun j h1 h2 => by omega, h⟩⟩))
        simp only [spec_ArePoints.l1]; rw [if_neg (by omega), c_w1 k0 (by omega)]
      | succ e ihe =>
        intro j0 hj b hb
        refine Ev.step (f := fun r => spec_ArePoints.l2 r l (k0 : Int) (j0 : Int) ((0 : Nat) : Int)) (fun r => ?_) (l2 j0 (by omega) (ihe (j0 + 1) (by omega)) j0 0 (by omega) b ?_)
        · simp only [spec_ArePoints.l1]; rw [if_pos (by omega)]; rfl
        · rw [hb]
          refine ⟨fun h => ⟨fun i _ h2 => h.1 j0 (Nat.le_refl _) (by omega) i h2, fun j h1 h2 => h.1 j (by omega) h2, h.2⟩, fun h => ⟨fun j h1 h2 i h3 => ?_, h.2.2⟩⟩
          by_cases e : j = j0
          · subst e; exact h.1 i (Nat.zero_le _) h3
          · exact h.2.1 j (by omega) h2 i h3
    by_cases hf : pFit 50 (l.getD k0 z64)
    · refine Ev.step (f := fun r => spec_ArePoints.l1 r l (k0 : Int) ((0 : Nat) : Int)) (fun r => ?_) (l1 k0 0 (by omega) b ?_)
      · simp only [spec_ArePoints.l0]
        rw [if_pos (by omega), if_pos (by omega), p_rd, p_fits _ 50 (by omega) true ⟨fun _ => hf, fun _ => rfl⟩, Option.bind_some, if_pos rfl]; rfl
      · rw [hb]
        refine ⟨fun h => ⟨fun j _ h2 i h3 => (h k0 (Nat.le_refl _) (by omega)).2 j h2 i h3, fun k h1 h2 => h k (by omega) h2⟩, fun h k h1 h2 => ?_⟩
        by_cases e : k = k0
        · subst e; exact ⟨hf, fun j h3 i h4 => h.1 j (Nat.zero_le _) h3 i h4⟩
        · exact h.2 k (by omega) h2
    · have : b = false := by
        cases b with
        | false => rfl
        | true => exact absurd ((hb.mp rfl) k0 (Nat.le_refl _) (by omega)).1 hf
      subst this
      refine Ev.step (f := fun _ => some false) (fun r => ?_) (Ev.now _)
      simp only [spec_ArePoints.l0]
      rw [if_pos (by omega), if_pos (by omega), p_rd, p_fits _ 50 (by omega) false ⟨fun h => by (cases h), fun h => absurd h hf⟩, Option.bind_some, if_neg (by simp)]
/-- When a list of points is one. -/
def pAll (l : List Pt) : Prop := 3 ≤ l.length ∧ l.length ≤ 7 ∧ ∀ k, k < l.length → pGood l k
theorem pS_are (l : List Pt) (hl : l.length ≤ 1048576) (b : Bool) (hb : b = true ↔ pAll l) : Ev (fun k => spec_ArePoints.f k l) b := by
  unfold spec_ArePoints.f
  by_cases h : 3 ≤ l.length ∧ l.length ≤ 7
  · have e : spec_l1In.f (l.length : Int) 3 7 = some true := by
      unfold spec_l1In.f; rw [if_pos (by omega), decide_eq_true (by omega)]
    refine Ev.congr (f := fun k => spec_ArePoints.l0 k l ((0 : Nat) : Int)) (fun k => by rw [e, Option.bind_some, if_pos rfl]; rfl) (p_spec_l l h.2 l.length 0 (by omega) b ?_)
    rw [hb]
    exact ⟨fun h2 k _ h3 => h2.2.2 k h3, fun h2 => ⟨h.1, h.2, fun k h3 => h2 k (Nat.zero_le _) h3⟩⟩
  · have e : spec_l1In.f (l.length : Int) 3 7 = some false := by
      unfold spec_l1In.f
      by_cases h3 : (l.length : Int) ≥ 3
      · rw [if_pos h3, decide_eq_false (by omega)]
      · rw [if_neg h3]
    have : b = false := by
      cases b with
      | false => rfl
      | true => exact absurd ⟨(hb.mp rfl).1, (hb.mp rfl).2.1⟩ h
    subst this
    exact Ev.congr (f := fun _ => some false) (fun k => by rw [e, Option.bind_some, if_neg (by simp)]) (Ev.now _)
/-- The triples in order. -/
def pTrips (n : Nat) : List (Nat × Nat × Nat) := (List.range n).flatMap fun i => (List.range' (i + 1) (n - (i + 1))).flatMap fun j => (List.range' (j + 1) (n - (j + 1))).map fun k => (i, j, k)
def pT3 (p : Nat × Nat × Nat) : S101 := ⟨(p.1 : Int), (p.2.1 : Int), (p.2.2 : Int)⟩
theorem p_triplesOf (n : Nat) (h3 : 3 ≤ n) (h7 : n ≤ 7) : Ev (fun k => impl_triplesOf.f k (n : Int)) ((pTrips n).map pT3) := by
  have hn : n = 3 ∨ n = 4 ∨ n = 5 ∨ n = 6 ∨ n = 7 := by omega
  rcases hn with rfl | rfl | rfl | rfl | rfl <;> exact Ev.of (impl_triplesOf.mono _) (k := 120) (by kernel_rfl)
theorem p_trips_all : ∀ n ∈ [3, 4, 5, 6, 7], (pTrips n).length ≤ 35 ∧ (∀ p ∈ pTrips n, p.1 < p.2.1 ∧ p.2.1 < p.2.2 ∧ p.2.2 < n) ∧ ∀ k ∈ List.range n, ∀ j ∈ List.range k, ∀ i ∈ List.range j, (i, j, k) ∈ pTrips n := by decide +kernel
theorem p_impl_l (l : List Pt) (hfit : ∀ p ∈ l, pFit 50 p) (ts : List (Nat × Nat × Nat)) (hts : ∀ p ∈ ts, p.1 < l.length ∧ p.2.1 < l.length ∧ p.2.2 < l.length) (htl : ts.length ≤ 35) : ∀ (d x : Nat), x + d = ts.length → ∀ b : Bool, (b = true ↔ ∀ p ∈ ts.drop x, pArea (l.getD p.1 z64) (l.getD p.2.1 z64) (l.getD p.2.2 z64) ≠ 0) → Ev (fun r => impl_ArePoints.l0 r l (ts.map pT3) ((ts.map pT3).length : Int) (x : Int)) b := by
  intro d
  induction d with
  | zero =>
    intro x hx b hb
    have : b = true := hb.mpr (fun p hp => by rw [List.drop_eq_nil_of_le (by omega)] at hp; cases hp)
    subst this
    refine Ev.step (f := fun _ => some true) (fun r => ?_) (Ev.now _)
    simp only [impl_ArePoints.l0]; rw [if_neg (by rw [List.length_map]; omega)]
  | succ d ih =>
    intro x hx b hb
    have hxl : x < ts.length := by omega
    obtain ⟨q, hq⟩ : ∃ q, ts[x] = q := ⟨_, rfl⟩
    have hqm : q ∈ ts := by rw [← hq]; exact List.getElem_mem hxl
    obtain ⟨b0, b1, b2⟩ := hts q hqm
    have er : rd_T101 (ts.map pT3) (x : Int) = pT3 q := by
      unfold rd_T101
      rw [List.getD_eq_getElem?_getD, List.getElem?_map, Int.toNat_natCast, List.getElem?_eq_getElem hxl, hq]; rfl
    have fit : ∀ i, i < l.length → pFit 1000 (l.getD i z64) := fun i hi => by
      have h := hfit (l[i]) (List.getElem_mem hi)
      rw [List.getD_eq_getElem?_getD, List.getElem?_eq_getElem hi, Option.getD_some]
      unfold pFit at h ⊢; omega
    obtain ⟨s, hs1, hs2⟩ := p_turn (l.getD q.1 z64) (l.getD q.2.1 z64) (l.getD q.2.2 z64) (fit _ b0) (fit _ b1) (fit _ b2)
    have hd : ts.drop x = q :: ts.drop (x + 1) := by rw [List.drop_eq_getElem_cons hxl, hq]
    rw [hd] at hb
    have open_ : ∀ r, impl_ArePoints.l0 (r + 1) l (ts.map pT3) ((ts.map pT3).length : Int) (x : Int) = if s = 0 then some false else impl_ArePoints.l0 r l (ts.map pT3) ((ts.map pT3).length : Int) ((x + 1 : Nat) : Int) := fun r => by
      simp only [impl_ArePoints.l0]
      rw [show (rd_T101 (ts.map pT3) (x : Int)).f0 = ((q.1 : Nat) : Int) by rw [er]; rfl, show (rd_T101 (ts.map pT3) (x : Int)).f1 = ((q.2.1 : Nat) : Int) by rw [er]; rfl, show (rd_T101 (ts.map pT3) (x : Int)).f2 = ((q.2.2 : Nat) : Int) by rw [er]; rfl]
      rw [if_pos (by rw [List.length_map]; omega), if_pos (by omega), if_pos (by rw [List.length_map]; omega), if_pos (by omega), if_pos (by omega), if_pos (by omega), if_pos (by omega), if_pos (by omega), if_pos (by omega), p_rd, p_rd, p_rd, hs1, Option.bind_some, c_w1 x (by omega)]
    by_cases ha : s = 0
    · have : b = false := by
        cases b with
        | false => rfl
        | true => exact absurd (hs2.mp ha) ((hb.mp rfl) q (List.mem_cons_self ..))
      subst this
      exact Ev.step (f := fun _ => some false) (fun r => by rw [open_, if_pos ha]) (Ev.now _)
    · refine Ev.step (f := fun r => impl_ArePoints.l0 r l (ts.map pT3) ((ts.map pT3).length : Int) ((x + 1 : Nat) : Int)) (fun r => by rw [open_, if_neg ha]) (ih (x + 1) (by omega) b ?_)
      rw [hb]
      refine ⟨fun h p hp => h p (List.mem_cons_of_mem _ hp), fun h p hp => ?_⟩
      rcases List.mem_cons.mp hp with rfl | hp
      · exact fun h2 => ha (hs2.mpr h2)
      · exact h p hp
theorem pI_are (l : List Pt) (hl : l.length ≤ 1048576) (b : Bool) (hb : b = true ↔ pAll l) : Ev (fun k => impl_ArePoints.f k l) b := by
  unfold impl_ArePoints.f
  have bad : (¬ pAll l) → Ev (fun k => impl_ArePoints.j0 k l true) b := fun h => by
    have : b = false := by
      cases b with
      | false => rfl
      | true => exact absurd (hb.mp rfl) h
    subst this
    exact Ev.step (f := fun _ => some false) (fun r => by simp only [impl_ArePoints.j0, if_true]) (Ev.now _)
  by_cases h3 : (l.length : Int) < 3
  · exact Ev.congr (fun k => by rw [if_pos h3]) (bad (fun h => by have := h.1; omega))
  by_cases h7 : (l.length : Int) > 7
  · exact Ev.congr (fun k => by rw [if_neg h3, if_pos h7]) (bad (fun h => by have := h.2.1; omega))
  by_cases hf : ∀ p ∈ l, pFit 50 p
  · have hn := p_near 50 (by omega) l true ⟨fun _ => hf, fun _ => rfl⟩
    refine Ev.congr (f := fun k => impl_ArePoints.j0 k l false) (fun k => by rw [if_neg h3, if_neg h7, hn, Option.bind_some]; rfl) ?_
    refine Ev.step (f := fun k => (impl_triplesOf.f k (l.length : Int)).bind fun t => impl_ArePoints.l0 k l t (t.length : Int) 0) (fun k => by simp only [impl_ArePoints.j0]; rw [if_neg (by simp)]) ?_
    refine Ev.bind (p_triplesOf l.length (by omega) (by omega)) ?_
    obtain ⟨a1, a2, a3⟩ := p_trips_all l.length (by simp; omega)
    have := p_impl_l l hf (pTrips l.length) (fun p hp => by have := a2 p hp; omega) a1 (pTrips l.length).length 0 (by omega) b (by
      rw [hb, List.drop_zero]
      refine ⟨fun h p hp => ?_, fun h => ⟨by omega, by omega, fun k hk => ⟨?_, fun j hj i hi => ?_⟩⟩⟩
      · have hp2 := a2 p hp
        exact (h.2.2 p.2.2 hp2.2.2).2 p.2.1 hp2.2.1 p.1 hp2.1
      · rw [List.getD_eq_getElem?_getD, List.getElem?_eq_getElem hk, Option.getD_some]
        exact hf _ (List.getElem_mem hk)
      · exact h (i, j, k) (a3 k (by simpa using hk) j (by simpa using hj) i (by simpa using hi)))
    exact this
  · have hn := p_near 50 (by omega) l false ⟨fun h => by (cases h), fun h => absurd h hf⟩
    exact Ev.congr (fun k => by rw [if_neg h3, if_neg h7, hn, Option.bind_some]; rfl) (bad (fun h => hf (fun p hp => by
      obtain ⟨i, hi, rfl⟩ := List.mem_iff_getElem.mp hp
      have := (h.2.2 i hi).1
      rw [List.getD_eq_getElem?_getD, List.getElem?_eq_getElem hi, Option.getD_some] at this
      exact this)))
end Go.Proofs.Ytiimkifkakdalaa.P
