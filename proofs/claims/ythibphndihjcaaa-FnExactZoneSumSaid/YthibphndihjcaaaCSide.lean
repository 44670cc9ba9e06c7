/- Plain laws of the sides of cells: the program's cells of a level, the reference's count. Conditions: a wiring. -/
import Derived.Test.YthibphndihjcaaaCCell
import Derived.Test.YthibphndihjcaaaP50
namespace Go.Proofs.Ythibphndihjcaaa.P
open Go.RowKit Go.Proofs.YthibphndihjcaaaW.PrintWords Go.Proofs.YthibphndihjcaaaW.PrintLast
set_option linter.unusedVariables false
set_option linter.unusedSimpArgs false

/-- The sides of one level's cells, from the open one on. -/
def cRowS (L : Nat) : List Int → Int → List Int
  | [], c => [c]
  | p :: w, c => if p.toNat + 1 = L then c :: cRowS L w 2 else if p.toNat = L ∨ p.toNat + 2 = L then cRowS L w (c + 1) else cRowS L w c
theorem cRowG_S (L : Nat) : ∀ (w ws : List Int) (c : Int), cRowG (fun _ _ => 2) (fun c _ => c + 1) L ws w c = cRowS L w c
  | [], _, _ => rfl
  | p :: w, ws, c => by
    simp only [cRowG, cRowS, cRowG_S L w]
    by_cases h1 : p.toNat + 1 = L
    · rw [if_pos h1, if_pos h1]
    · rw [if_neg h1, if_neg h1]
      by_cases h2 : p.toNat = L
      · rw [if_pos h2, if_pos (.inl h2)]
      · rw [if_neg h2]
        by_cases h3 : p.toNat + 2 = L
        · rw [if_pos h3, if_pos (.inr h3)]
        · rw [if_neg h3, if_neg (by omega)]
/-- How often a level is shut. -/
def cCnt (L : Nat) : List Int → Nat
  | [] => 0
  | p :: w => (if p.toNat + 1 = L then 1 else 0) + cCnt L w
theorem cCnt_le (L : Nat) : ∀ w : List Int, cCnt L w ≤ w.length
  | [] => Nat.le_refl _
  | p :: w => by have := cCnt_le L w; simp only [cCnt, List.length_cons]; split <;> omega
theorem cCnt_mem (L : Nat) : ∀ w : List Int, 0 < cCnt L w → ∃ p ∈ w, p.toNat + 1 = L
  | [], h => absurd h (by simp [cCnt])
  | p :: w, h => by
    simp only [cCnt] at h
    by_cases h1 : p.toNat + 1 = L
    · exact ⟨p, List.mem_cons_self, h1⟩
    · rw [if_neg h1] at h
      obtain ⟨q, hq, h2⟩ := cCnt_mem L w (by omega)
      exact ⟨q, List.mem_cons_of_mem _ hq, h2⟩
theorem cRowS_length (L : Nat) : ∀ (w : List Int) (c : Int), (cRowS L w c).length = cCnt L w + 1
  | [], _ => rfl
  | p :: w, c => by
    simp only [cRowS, cCnt]
    split
    · simp only [List.length_cons, cRowS_length L w]; omega
    · split <;> simp only [cRowS_length L w] <;> omega
/-- The reference's count of a cell's sides. -/
def cSd (L ix : Nat) : List Int → Nat → Int
  | [], _ => 0
  | p :: w, a => if p.toNat + 1 = L then cSd L ix w (a + 1) else (if a = ix ∧ (p.toNat = L ∨ p.toNat + 2 = L) then 1 else 0) + cSd L ix w a
theorem cSd_lt (L ix : Nat) : ∀ (w : List Int) (a : Nat), ix < a → cSd L ix w a = 0
  | [], _, _ => rfl
  | p :: w, a, h => by
    simp only [cSd]
    split
    · exact cSd_lt L ix w _ (by omega)
    · rw [if_neg (by omega), cSd_lt L ix w a h]; rfl
theorem cSd_bd (L ix : Nat) : ∀ (w : List Int) (a : Nat), 0 ≤ cSd L ix w a ∧ cSd L ix w a ≤ w.length
  | [], _ => ⟨Int.le_refl _, Int.le_refl _⟩
  | p :: w, a => by
    have h1 := cSd_bd L ix w a
    have h2 := cSd_bd L ix w (a + 1)
    simp only [cSd, List.length_cons]
    split
    · omega
    · split <;> omega
theorem cRowS_at (L ix : Nat) : ∀ (w : List Int) (c : Int) (a : Nat), a ≤ ix → ix ≤ a + cCnt L w → (cRowS L w c).getD (ix - a) 0 = (if ix = a then c else 2) + cSd L ix w a
  | [], c, a, h1, h2 => by
    have : ix = a := by simp only [cCnt] at h2; omega
    subst this
    simp [cRowS, cSd]
  | p :: w, c, a, h1, h2 => by
    simp only [cCnt] at h2
    simp only [cRowS, cSd]
    by_cases hp : p.toNat + 1 = L
    · rw [if_pos hp] at h2
      rw [if_pos hp, if_pos hp]
      by_cases he : ix = a
      · subst he
        rw [if_pos rfl, Nat.sub_self, cSd_lt L ix w _ (by omega)]
        simp
      · rw [if_neg he, show ix - a = (ix - (a + 1)) + 1 by omega, List.getD_cons_succ, cRowS_at L ix w 2 (a + 1) (by omega) (by omega)]
        split <;> rfl
    · rw [if_neg hp] at h2
      rw [if_neg hp, if_neg hp]
      by_cases h3 : p.toNat = L ∨ p.toNat + 2 = L
      · rw [if_pos h3, cRowS_at L ix w (c + 1) a h1 (by omega)]
        by_cases he : ix = a
        · have h5 : (if a = ix ∧ (p.toNat = L ∨ p.toNat + 2 = L) then (1 : Int) else 0) = 1 := if_pos ⟨he.symm, h3⟩
          rw [if_pos he, if_pos he, h5]; omega
        · have h5 : (if a = ix ∧ (p.toNat = L ∨ p.toNat + 2 = L) then (1 : Int) else 0) = 0 := if_neg (fun h => he h.1.symm)
          rw [h5, if_neg he, if_neg he]; omega
      · have h5 : (if a = ix ∧ (p.toNat = L ∨ p.toNat + 2 = L) then (1 : Int) else 0) = 0 := if_neg (fun h => h3 h.2)
        rw [if_neg h3, cRowS_at L ix w c a h1 (by omega), h5]; omega
/-- Cells of all levels, by their sides. -/
def cTabS (n : Nat) (w : List Int) : List (List Int) := (List.range (n + 1)).map fun L => cRowS L w (cB n L)
theorem cTabS_all {n : Int} {w : List Int} (h : cIsW n w = true) : (ceAll n (cStart n.toNat) w).map (·.map (·.f0)) = cTabS n.toNat w := by
  obtain ⟨hN1, hN2, -, -⟩ := c_isW_spec h
  have h2 := ce_all (g := fun c : CE => c.f0) (new := fun _ _ => 2) (add := fun c _ => c + 1) (fun _ _ => rfl) (fun _ _ _ _ _ _ _ _ => rfl) (fun c b B hc hB h0 h6 => (ceAdd_ok hc hB h0 h6).2) h
  unfold cTabS
  apply List.ext_getElem
  · simp [h2.1]
  · intro i h3 h4
    simp only [List.length_map, List.length_range] at h3 h4
    simp only [List.getElem_map, List.getElem_range]
    have h5 := h2.2 i (by omega)
    rw [List.getD_eq_getElem?_getD, List.getElem?_eq_getElem h3, Option.getD_some, cRowG_S] at h5
    rw [h5]
    have h6 := (ceI2_all n.toNat (List.mem_range.2 (by omega)) i (List.mem_range.2 (by omega)) (by omega)).1
    rw [show ((n.toNat : Nat) : Int) = n by omega] at h6
    rw [h6]
theorem cRows_bd {n : Int} {w : List Int} (h : cIsW n w = true) : (ceAll n (cStart n.toNat) w).length ≤ 7 ∧ ∀ y ∈ ceAll n (cStart n.toNat) w, y.length ≤ 16 := by
  obtain ⟨hN1, hN2, -, -⟩ := c_isW_spec h
  have hl := c_isW_len h
  have h2 := ce_all (g := fun c : CE => c.f0) (new := fun _ _ => 2) (add := fun c _ => c + 1) (fun _ _ => rfl) (fun _ _ _ _ _ _ _ _ => rfl) (fun c b B hc hB h0 h6 => (ceAdd_ok hc hB h0 h6).2) h
  refine ⟨by omega, fun y hy => ?_⟩
  obtain ⟨i, hi, rfl⟩ := List.getElem_of_mem hy
  have h5 := congrArg List.length (h2.2 i (by omega))
  rw [List.getD_eq_getElem?_getD, List.getElem?_eq_getElem hi, Option.getD_some, cRowG_S, List.length_map, cRowS_length] at h5
  have := cCnt_le i w
  omega
theorem c_l1Bit (b : Bool) : spec_l1Bit.f b = some (if b = true then 1 else 0) := by unfold spec_l1Bit.f; cases b <;> rfl
theorem cB_bd (n L : Nat) : 0 ≤ cB n L ∧ cB n L ≤ 2 := by unfold cB; split <;> split <;> omega
/-- The reference's count, from a place on. -/
theorem c_sides_l (w : List Int) (L ix : Nat) (hw : w.length ≤ 1000) (hL : L ≤ 100) (hix : ix ≤ 1000) (hp : ∀ p ∈ w, 0 ≤ p ∧ p ≤ 100) : ∀ (d i a : Nat) (acc : Int), i + d = w.length → a ≤ i → 0 ≤ acc → acc ≤ 2 + i →
    Ev (fun k => spec_l16Sides.l0 k w (L : Int) (ix : Int) acc (a : Int) (i : Int)) (acc + cSd L ix (w.drop i) a) := by
  intro d
  induction d with
  | zero =>
    intro i a acc hi ha h0 h1
    refine Ev.step (f := fun _ => some acc) (fun k => ?_) ?_
    · simp only [spec_l16Sides.l0]; rw [if_neg (by omega)]
    · rw [List.drop_eq_nil_of_le (by omega)]; simp only [cSd]; rw [Int.add_zero]; exact Ev.now _
  | succ d ih =>
    intro i a acc hi ha h0 h1
    have hil : i < w.length := by omega
    have hpi := hp _ (cc_getD_mem hil)
    rw [c_drop w i hil]
    obtain ⟨q, hq⟩ : ∃ q : Nat, w.getD i 0 = (q : Int) := ⟨(w.getD i 0).toNat, by omega⟩
    have E1 := Aside0.mk (show wrap64 ((L : Int) - 1) = (L : Int) - 1 by unfold wrap64; omega)
    have E2 := Aside0.mk (show wrap64 ((L : Int) - 2) = (L : Int) - 2 by unfold wrap64; omega)
    have E3 := Aside0.mk (show wrap64 ((i : Int) + 1) = ((i + 1 : Nat) : Int) from c_w1 i (by omega))
    have E4 := Aside0.mk (show wrap64 ((a : Int) + 1) = ((a + 1 : Nat) : Int) from c_w1 a (by omega))
    have E5 := Aside0.mk (show wrap64 (acc + 1) = acc + 1 by unfold wrap64; omega)
    simp only [cSd, hq, Int.toNat_natCast]
    rw [hq] at hpi
    by_cases c1 : q + 1 = L
    · rw [if_pos c1]
      refine Ev.step (f := fun k => spec_l16Sides.l0 k w (L : Int) (ix : Int) acc ((a + 1 : Nat) : Int) ((i + 1 : Nat) : Int)) (fun k => ?_) (ih (i + 1) (a + 1) acc (by omega) (by omega) h0 (by omega))
      simp only [spec_l16Sides.l0]
      rw [if_pos (by omega), if_pos (by omega), c_rd, hq, E1.out, E2.out, E3.out, E4.out, if_pos (by omega)]
      by_cases c2 : ((a + 1 : Nat) : Int) = (ix : Int)
      · rw [if_pos c2, if_neg (by omega), if_neg (by omega)]
      · rw [if_neg c2]
    · rw [if_neg c1]
      by_cases c2 : a = ix
      · by_cases c3 : q = L ∨ q + 2 = L
        · rw [if_pos ⟨c2, c3⟩]
          have IH := ih (i + 1) a (acc + 1) (by omega) (by omega) (by omega) (by omega)
          rw [Int.add_assoc] at IH
          refine Ev.step (f := fun k => spec_l16Sides.l0 k w (L : Int) (ix : Int) (acc + 1) (a : Int) ((i + 1 : Nat) : Int)) (fun k => ?_) IH
          simp only [spec_l16Sides.l0]
          rw [if_pos (by omega), if_pos (by omega), c_rd, hq, E1.out, E2.out, E3.out, E5.out, if_neg (by omega), if_pos (by omega)]
          rcases c3 with c3 | c3
          · rw [if_neg (by omega), if_pos (by omega)]
          · rw [if_pos (by omega)]
        · rw [if_neg (fun h => c3 h.2), Int.zero_add]
          refine Ev.step (f := fun k => spec_l16Sides.l0 k w (L : Int) (ix : Int) acc (a : Int) ((i + 1 : Nat) : Int)) (fun k => ?_) (ih (i + 1) a acc (by omega) (by omega) h0 (by omega))
          simp only [spec_l16Sides.l0]
          rw [if_pos (by omega), if_pos (by omega), c_rd, hq, E1.out, E2.out, E3.out, if_neg (by omega), if_pos (by omega), if_neg (by omega), if_neg (by omega)]
      · rw [if_neg (fun h => c2 h.1), Int.zero_add]
        refine Ev.step (f := fun k => spec_l16Sides.l0 k w (L : Int) (ix : Int) acc (a : Int) ((i + 1 : Nat) : Int)) (fun k => ?_) (ih (i + 1) a acc (by omega) (by omega) h0 (by omega))
        simp only [spec_l16Sides.l0]
        rw [if_pos (by omega), if_pos (by omega), c_rd, hq, E1.out, E2.out, E3.out, if_neg (by omega), if_neg (by omega)]
/-- The reference's sides of a cell are the program's. -/
theorem c_sides {n : Int} {w : List Int} (h : cIsW n w = true) (L ix : Nat) (hL : L ≤ n.toNat) (hix : ix ≤ cCnt L w) : Ev (fun k => spec_l16Sides.f k n w (L : Int) (ix : Int)) ((cRowS L w (cB n.toNat L)).getD ix 0) := by
  obtain ⟨h3, h6, -, -⟩ := c_isW_spec h
  have hwl := c_isW_len h
  have hpl := c_isW_places h
  have hcl := cCnt_le L w
  have hbb := cB_bd n.toNat L
  have e0 : (cRowS L w (cB n.toNat L)).getD ix 0 = cB n.toNat L + cSd L ix w 0 := by
    have h2 := cRowS_at L ix w (cB n.toNat L) 0 (Nat.zero_le _) (by omega)
    rw [Nat.sub_zero] at h2
    rw [h2]
    by_cases hz : ix = 0
    · rw [if_pos hz]
    · rw [if_neg hz]
      obtain ⟨p, hp, hp2⟩ := cCnt_mem L w (by omega)
      have := hpl p hp
      have : cB n.toNat L = 2 := by unfold cB; rw [if_pos (by omega), if_pos (by omega)]; rfl
      rw [this]
  rw [e0]
  unfold spec_l16Sides.f
  simp only [c_l1Bit, Option.bind_some]
  have e1 : wrap64 ((if decide ((L : Int) > 0) = true then 1 else 0) + (if decide ((L : Int) < n) = true then 1 else 0)) = cB n.toNat L := by
    have d1 : decide ((L : Int) > 0) = decide (0 < L) := decide_eq_decide.2 (by omega)
    have d2 : decide ((L : Int) < n) = decide (L < n.toNat) := decide_eq_decide.2 (by omega)
    rw [d1, d2]
    simp only [decide_eq_true_eq]
    exact c_wid _ (by unfold cB at hbb; omega) (by unfold cB at hbb; omega)
  rw [e1]
  have h4 := c_sides_l w L ix (by omega) (by omega) (by omega) (fun p hp => by have := hpl p hp; omega) w.length 0 0 (cB n.toNat L) (by omega) (Nat.le_refl _) (by omega) (by omega)
  rw [List.drop_zero] at h4
  exact h4

end Go.Proofs.Ythibphndihjcaaa.P
