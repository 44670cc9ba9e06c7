/- The crossing pairs of a set of edges: what the program counts and what the reference counts. Conditions: order signs. -/
import Derived.Test.YtmidcafamppkeaaCSums
import Derived.Test.YtmidcafamppkeaaCSym
import Derived.Test.YtmidcafamppkeaaP41
import Derived.Test.YtmidcafamppkeaaP16
namespace Go.Proofs.Ytmidcafamppkeaa.P
open Go.RowKit Go.Proofs.YtmidcafamppkeaaW.PrintWords Go.Proofs.YtmidcafamppkeaaW.PrintLast
set_option linter.unusedVariables false
set_option linter.unusedSimpArgs false

theorem c_sum_lt (f : Nat → Bool) : ∀ (d : Nat), cSum f 0 d < 2 ^ d ∧ ∀ y, (cSum f 0 d).testBit y = (decide (y < d) && f y) := by
  intro d
  induction d with
  | zero => exact ⟨by simp [cSum], fun y => by simp [cSum]⟩
  | succ d ih =>
    have e : cSum f 0 (d + 1) = cSum f 0 d + (if f d = true then 2 ^ d else 0) := by
      unfold cSum; rw [List.range'_concat, List.map_append, List.sum_append]; simp
    obtain ⟨h1, h2⟩ := ih
    rw [e]
    by_cases hf : f d = true
    · rw [if_pos hf]
      refine ⟨by rw [Nat.pow_succ]; omega, fun y => ?_⟩
      rw [Nat.add_comm]
      by_cases hy : y = d
      · subst hy
        rw [Nat.testBit_two_pow_add_eq, h2, hf]; simp
      · by_cases hlt : y < d
        · rw [Nat.testBit_two_pow_add_gt hlt, h2, decide_eq_true hlt, decide_eq_true (show y < d + 1 by omega)]
        · rw [Nat.testBit_lt_two_pow (show 2 ^ d + cSum f 0 d < 2 ^ y from Nat.lt_of_lt_of_le (show 2 ^ d + cSum f 0 d < 2 ^ (d + 1) by rw [Nat.pow_succ]; omega) (Nat.pow_le_pow_right (by decide) (by omega))), decide_eq_false (show ¬ y < d + 1 by omega)]; rfl
    · rw [if_neg hf, Nat.add_zero]
      refine ⟨by rw [Nat.pow_succ]; omega, fun y => ?_⟩
      rw [h2]
      by_cases hy : y = d
      · subst hy; simp [hf]
      · rw [Bool.eq_iff_iff]; simp; intro _; omega
/-- Both edges lie in a set and cross. -/
def cG2 (n : Nat) (s : ByteArray) (e x y : Nat) : Nat := if (e.testBit x && e.testBit y && cCx n s ((cPairs n).getD x (0, 0)) ((cPairs n).getD y (0, 0))) = true then 1 else 0
theorem c_g2_le (n : Nat) (s : ByteArray) (e x y : Nat) : cG2 n s e x y ≤ 1 := by unfold cG2; split <;> omega
theorem c_g2_sym (n : Nat) (h3 : 3 ≤ n) (h7 : n ≤ 7) (s : ByteArray) (e x y : Nat) : cG2 n s e x y = cG2 n s e y x := by
  unfold cG2; rw [c_cx_sym n h3 h7, Bool.and_comm (e.testBit x)]
theorem c_cx_self (n : Nat) (s : ByteArray) (p : Nat × Nat) : cCx n s p p = false := by
  unfold cCx; rw [if_neg (by simp [cD4])]
theorem c_g2_zero (n : Nat) (s : ByteArray) (e x : Nat) : cG2 n s e x x = 0 := by unfold cG2; rw [c_cx_self]; simp
def cCpairs (n : Nat) (s : ByteArray) (e : Nat) : Nat := cRg (fun x => cRg (cG2 n s e x) 0 x) 0 (cPairs n).length
theorem c_edgeAtQ (n : Nat) (h3 : 3 ≤ n) (h7 : n ≤ 7) (q : Nat) (hq : q < (cPairs n).length) : Ev (fun k => spec_EdgeAt.f k (n : Int) (q : Int)) ((((cPairs n).getD q (0, 0)).1 : Int), (((cPairs n).getD q (0, 0)).2 : Int)) := by
  have h := c_specEdgeAt (n : Int) (by omega) (by omega) (q : Int)
  unfold cEdgeAt at h
  rw [Int.toNat_natCast, if_pos (by omega), Int.toNat_natCast] at h
  exact h
section
variable (n : Nat) (h3 : 3 ≤ n) (h7 : n ≤ 7) (s : ByteArray) (hs : s.size = (cTrips n).length) (e : Nat) (he : e < 1099511627776)
include h3 h7 hs he
theorem c_specP1 (x : Nat) (hx : x < (cPairs n).length) (rest : Nat) (hr : ∀ acc : Nat, acc ≤ 21 * (x + 1) → Ev (fun k => spec_l9Pairs.l0 k (e : Int) (acc : Int) ((x + 1 : Nat) : Int) (n : Int) s) ((acc + rest : Nat) : Int)) : ∀ (d y acc : Nat), y + d = x → acc ≤ 21 * x + y →
    Ev (fun k => spec_l9Pairs.l1 k (e : Int) (acc : Int) (x : Int) (y : Int) (n : Int) s) ((acc + (cRg (cG2 n s e x) y d + rest) : Nat) : Int) := by
  have hle := c_pairs_le (n : Int) (by omega) (by omega)
  rw [Int.toNat_natCast] at hle
  intro d
  induction d with
  | zero =>
    intro y acc hy ha
    rw [show cRg (cG2 n s e x) y 0 = 0 from rfl, Nat.zero_add]
    refine Ev.step (fun k => ?_) (hr acc (by omega))
    simp only [spec_l9Pairs.l1]; rw [if_neg (by omega), c_w1 x (by omega)]
  | succ d ih =>
    intro y acc hy ha
    have hg := c_g2_le n s e x y
    have hyl : y < (cPairs n).length := by omega
    have hnext : Ev (fun k => spec_l9Pairs.l1 k (e : Int) ((acc + cG2 n s e x y : Nat) : Int) (x : Int) ((y + 1 : Nat) : Int) (n : Int) s) ((acc + (cRg (cG2 n s e x) y (d + 1) + rest) : Nat) : Int) := by
      rw [c_rg_succ]
      have := ih (y + 1) (acc + cG2 n s e x y) (by omega) (by omega)
      rw [show acc + (cG2 n s e x y + cRg (cG2 n s e x) (y + 1) d + rest) = acc + cG2 n s e x y + (cRg (cG2 n s e x) (y + 1) d + rest) by omega]
      exact this
    refine Ev.step (f := fun k => if e.testBit x = true then spec_l9Pairs.j2 k (e : Int) (acc : Int) (x : Int) (y : Int) (e.testBit y) (n : Int) s else spec_l9Pairs.j2 k (e : Int) (acc : Int) (x : Int) (y : Int) false (n : Int) s) (fun k => ?_) ?_
    · simp only [spec_l9Pairs.l1]
      rw [if_pos (by omega), c_has _ x (by omega), c_has _ y (by omega), c_cBit e x he (by omega), c_cBit e y he (by omega)]
      rfl
    · by_cases hb : (e.testBit x && e.testBit y) = true
      · rw [Bool.and_eq_true] at hb
        simp only [if_pos hb.1]
        refine Ev.step (f := fun k => (spec_EdgeAt.f k (n : Int) (x : Int)).bind fun bt428 => ((spec_EdgeAt.f k (n : Int) (y : Int)).bind fun bt430 => ((spec_l9Cross.f k (n : Int) s bt428.1 bt428.2 bt430.1 bt430.2).bind fun t432 => ((spec_l1Bit.f t432).bind fun t433 => (spec_l9Pairs.l1 k (e : Int) (wrap64 ((acc : Int) + t433)) (x : Int) ((y + 1 : Nat) : Int) (n : Int) s))))) (fun k => ?_) ?_
        · simp only [spec_l9Pairs.j2]; rw [if_pos hb.2, c_w1 y (by omega)]
        · refine Ev.bind (c_edgeAtQ n h3 h7 x hx) (Ev.bind (c_edgeAtQ n h3 h7 y hyl) ?_)
          have hgx := c_pairs_get (n : Int) (by omega) (by omega)
          rw [Int.toNat_natCast] at hgx
          have hmem : ∀ q, q < (cPairs n).length → (cPairs n).getD q (0, 0) ∈ cPairs n := fun q hq => by rw [List.getD_eq_getElem?_getD, List.getElem?_eq_getElem hq]; exact List.getElem_mem _
          refine Ev.bind (c_specCx n h3 h7 s hs _ _ _ _ (hgx _ (hmem x hx)).1 (hgx _ (hmem x hx)).2 (hgx _ (hmem y hyl)).1 (hgx _ (hmem y hyl)).2) ?_
          have eg : cG2 n s e x y = if cCx n s ((cPairs n).getD x (0, 0)) ((cPairs n).getD y (0, 0)) = true then 1 else 0 := by unfold cG2; rw [hb.1, hb.2]; rfl
          rw [eg] at hnext
          cases hc : cCx n s ((cPairs n).getD x (0, 0)) ((cPairs n).getD y (0, 0)) with
          | true =>
            rw [hc] at hnext
            refine Ev.congr (fun k => ?_) hnext
            unfold spec_l1Bit.f
            simp only [if_true, Option.bind_some]
            rw [c_w1 acc (by omega)]
          | false =>
            rw [hc] at hnext
            refine Ev.congr (fun k => ?_) hnext
            unfold spec_l1Bit.f
            simp only [Bool.false_eq_true, if_false, Option.bind_some, Int.add_zero, Nat.add_zero]
            rw [c_wid _ (by omega) (by omega)]
      · have eg : cG2 n s e x y = 0 := by unfold cG2; rw [if_neg]; intro h; exact hb (by simp only [Bool.and_eq_true] at h ⊢; exact h.1)
        rw [eg, Nat.add_zero] at hnext
        have hj : Ev (fun k => spec_l9Pairs.j2 k (e : Int) (acc : Int) (x : Int) (y : Int) false (n : Int) s) ((acc + (cRg (cG2 n s e x) y (d + 1) + rest) : Nat) : Int) := by
          refine Ev.step (fun k => ?_) hnext
          simp only [spec_l9Pairs.j2, Bool.false_eq_true, if_false]; rw [c_w1 y (by omega)]
        by_cases h1 : e.testBit x = true
        · have h2 : e.testBit y = false := by simpa [h1] using hb
          simp only [if_pos h1, h2]; exact hj
        · simp only [if_neg h1]; exact hj
theorem c_specP0 : ∀ (d x acc : Nat), x + d = (cPairs n).length → acc ≤ 21 * x →
    Ev (fun k => spec_l9Pairs.l0 k (e : Int) (acc : Int) (x : Int) (n : Int) s) ((acc + cRg (fun x => cRg (cG2 n s e x) 0 x) x d : Nat) : Int) := by
  have h7' := c_pairs7 (n : Int) (by omega) (by omega)
  rw [Int.toNat_natCast] at h7'
  intro d
  induction d with
  | zero =>
    intro x acc hx ha
    refine Ev.step (f := fun _ => some (acc : Int)) (fun k => ?_) (Ev.now _)
    simp only [spec_l9Pairs.l0]; rw [h7', if_neg (by omega)]
  | succ d ih =>
    intro x acc hx ha
    refine Ev.step (f := fun k => spec_l9Pairs.l1 k (e : Int) (acc : Int) (x : Int) ((0 : Nat) : Int) (n : Int) s) (fun k => ?_) ?_
    · simp only [spec_l9Pairs.l0]; rw [h7', if_pos (by omega)]; rfl
    · rw [c_rg_succ]
      exact c_specP1 n h3 h7 s hs e he x (by omega) _ (fun acc' h => ih (x + 1) acc' (by omega) h) x 0 acc (by omega) (by omega)
theorem c_specPairs : Ev (fun k => spec_l9Pairs.f k (n : Int) s (e : Int)) ((cCpairs n s e : Nat) : Int) := by
  have h := c_specP0 n h3 h7 s hs e he (cPairs n).length 0 0 (by omega) (by omega)
  rw [Nat.zero_add] at h
  exact h
end
theorem c_implP0 (n : Nat) (h3 : 3 ≤ n) (h7 : n ≤ 7) (s : ByteArray) (e : Nat) (he : e < 1099511627776) : ∀ (d x acc : Nat), x + d = (cPairs n).length → acc ≤ 21 * x →
    Ev (fun k => impl_CrossingPairs.l0 k (e : Int) (acc : Int) (cRows n s) ((cRows n s).length : Int) (x : Int)) (((acc + cRg (fun x => cRg (cG2 n s e x) 0 (cPairs n).length) x d) / 2 : Nat) : Int) := by
  have hle := c_pairs_le (n : Int) (by omega) (by omega)
  rw [Int.toNat_natCast] at hle
  have hlr : (cRows n s).length = (cPairs n).length := by simp [cRows]
  intro d
  induction d with
  | zero =>
    intro x acc hx ha
    refine Ev.step (f := fun _ => some ((acc / 2 : Nat) : Int)) (fun k => ?_) (Ev.now _)
    simp only [impl_CrossingPairs.l0]; rw [if_neg (by omega)]
    congr 1
    rw [show (acc : Int).tdiv 2 = ((acc / 2 : Nat) : Int) from rfl, c_wid _ (by omega) (by omega)]
  | succ d ih =>
    intro x acc hx ha
    have hxl : x < (cPairs n).length := by omega
    have hrow := c_sum_lt (fun q => cCx n s ((cPairs n).getD x (0, 0)) ((cPairs n).getD q (0, 0))) (cPairs n).length
    have hget : rd (cRows n s) (x : Int) = ((cRow n s ((cPairs n).getD x (0, 0)) 0 (cPairs n).length : Nat) : Int) := by
      rw [c_rd]; unfold cRows
      rw [List.getD_eq_getElem?_getD, List.getElem?_map, List.getD_eq_getElem?_getD, List.getElem?_eq_getElem hxl]; rfl
    have h21 : 2 ^ (cPairs n).length ≤ 2 ^ 21 := Nat.pow_le_pow_right (by decide) hle
    have hr0 : cRow n s ((cPairs n).getD x (0, 0)) 0 (cPairs n).length < 2 ^ (cPairs n).length := hrow.1
    have hpop : cPop (cRow n s ((cPairs n).getD x (0, 0)) 0 (cPairs n).length &&& e) = cRg (fun y => if (e.testBit y && cCx n s ((cPairs n).getD x (0, 0)) ((cPairs n).getD y (0, 0))) = true then 1 else 0) 0 (cPairs n).length := by
      rw [c_pop_sum (cPairs n).length _ (Nat.lt_of_le_of_lt Nat.and_le_left hr0)]
      refine c_rg_congr _ _ _ _ (fun y _ hy => ?_)
      rw [Nat.testBit_and]
      unfold cRow
      rw [hrow.2 y, decide_eq_true (show y < (cPairs n).length by omega), Bool.true_and, Bool.and_comm]
    have hsum : cRg (cG2 n s e x) 0 (cPairs n).length ≤ 1 * (cPairs n).length := c_rg_le _ _ _ _ (c_g2_le n s e x)
    have hnext : Ev (fun k => impl_CrossingPairs.l0 k (e : Int) ((acc + cRg (cG2 n s e x) 0 (cPairs n).length : Nat) : Int) (cRows n s) ((cRows n s).length : Int) ((x + 1 : Nat) : Int)) (((acc + cRg (fun x => cRg (cG2 n s e x) 0 (cPairs n).length) x (d + 1)) / 2 : Nat) : Int) := by
      rw [c_rg_succ, ← Nat.add_assoc]
      exact ih (x + 1) _ (by omega) (by omega)
    have hbit : Go.bits .and .i64 (shr .i64 (e : Int) (x : Int)) 1 = 1 ↔ e.testBit x = true := by
      have := c_cBit e x he (by omega)
      unfold cBit at this
      rw [← this, beq_iff_eq]
    have hpre : ∀ k, impl_CrossingPairs.l0 (k + 1) (e : Int) (acc : Int) (cRows n s) ((cRows n s).length : Int) (x : Int) = if e.testBit x = true then ((bits_OnesCount.f (IntKind.u64.wrap (Go.bits .and .i64 ((cRow n s ((cPairs n).getD x (0, 0)) 0 (cPairs n).length : Nat) : Int) (e : Int)))).bind fun t450 => (impl_CrossingPairs.l0 k (e : Int) (wrap64 ((acc : Int) + t450)) (cRows n s) ((cRows n s).length : Int) ((x + 1 : Nat) : Int))) else (impl_CrossingPairs.l0 k (e : Int) (acc : Int) (cRows n s) ((cRows n s).length : Int) ((x + 1 : Nat) : Int)) := by
      intro k
      simp only [impl_CrossingPairs.l0]
      rw [if_pos (by omega), if_pos (by omega), if_pos (by omega), hget, c_w1 x (by omega)]
      simp only [hbit]
    by_cases hb : e.testBit x = true
    · have eg : cRg (cG2 n s e x) 0 (cPairs n).length = cPop (cRow n s ((cPairs n).getD x (0, 0)) 0 (cPairs n).length &&& e) := by
        rw [hpop]
        refine c_rg_congr _ _ _ _ (fun y _ _ => ?_)
        unfold cG2; rw [hb, Bool.true_and]
      have hand : (cRow n s ((cPairs n).getD x (0, 0)) 0 (cPairs n).length &&& e) < 2 ^ (cPairs n).length := Nat.lt_of_le_of_lt Nat.and_le_left hr0
      have u : Go.bits .and .i64 ((cRow n s ((cPairs n).getD x (0, 0)) 0 (cPairs n).length : Nat) : Int) (e : Int) = ((cRow n s ((cPairs n).getD x (0, 0)) 0 (cPairs n).length &&& e : Nat) : Int) := (bits_nat .i64 41 (by decide) (fun n h0 h1 => by rw [IntKind.wrap_i64]; omega) _ e (by omega) (by omega)).1
      refine Ev.step (fun k => ?_) hnext
      rw [hpre, if_pos hb, u, c_u64 _ (by omega), c_ones _ (by omega), Option.bind_some, ← eg, c_wid _ (by omega) (by omega), ← Int.natCast_add]
    · have eg : cRg (cG2 n s e x) 0 (cPairs n).length = 0 := by
        have h0 : cRg (cG2 n s e x) 0 (cPairs n).length = cRg (fun _ => 0) 0 (cPairs n).length := by
          refine c_rg_congr _ _ _ _ (fun y _ _ => ?_)
          unfold cG2; rw [if_neg]; intro h; simp only [Bool.and_eq_true] at h; exact hb h.1.1
        have h1 := c_rg_le (fun _ => 0) 0 (cPairs n).length 0 (fun _ => Nat.le_refl _)
        omega
      rw [eg, Nat.add_zero] at hnext
      refine Ev.step (fun k => ?_) hnext
      rw [hpre, if_neg hb]
theorem c_implPairs (n : Nat) (h3 : 3 ≤ n) (h7 : n ≤ 7) (s : ByteArray) (e : Nat) (he : e < 1099511627776) :
    Ev (fun k => impl_CrossingPairs.l0 k (e : Int) 0 (cRows n s) ((cRows n s).length : Int) 0) ((cCpairs n s e : Nat) : Int) := by
  have h := c_implP0 n h3 h7 s e he (cPairs n).length 0 0 (by omega) (by omega)
  rw [Nat.zero_add, c_twice (cG2 n s e) (c_g2_sym n h3 h7 s e) (c_g2_zero n s e), Nat.mul_div_cancel_left _ (by decide)] at h
  exact h
theorem c_set_lt' (n : Int) (h3 : 3 ≤ n) (h7 : n ≤ 7) (e : Int) (h : cES n e) : 0 ≤ e ∧ e < 2097152 := by
  have hle := c_pairs_le n h3 h7
  unfold cES at h
  have : (2 : Int) ^ (cPairs n.toNat).length ≤ 2 ^ 21 := by
    have := Nat.pow_le_pow_right (show 0 < 2 by decide) hle
    exact_mod_cast this
  omega
/-- What CrossingPairs answers. -/
def cXp (n : Int) (s : ByteArray) (e : Int) : Int := if cAcy n s = true ∧ cES n e then ((cCpairs n.toNat s e.toNat : Nat) : Int) else -1
theorem c_specCrossingPairs (n : Int) (s : ByteArray) (hs : s.size ≤ 1099511627776) (e : Int) : Ev (fun k => spec_CrossingPairs.f k n s e) (cXp n s e) := by
  unfold spec_CrossingPairs.f cXp
  have hA := c_specAcy n s hs
  refine Ev.bind hA ?_
  by_cases h : cAcy n s = true
  · obtain ⟨m, rfl, h3, h7, hz2⟩ := c_acy_open n s h
    have hl := c_l1InSet (m : Int) (by omega) (by omega) e
    rw [c_specAll (m : Int) (by omega) (by omega), Option.bind_some] at hl
    simp only [h, if_true, c_specAll (m : Int) (by omega) (by omega), Option.bind_some, hl]
    by_cases he : cES (m : Int) e
    · obtain ⟨h0, h1⟩ := c_set_lt' (m : Int) (by omega) (by omega) e he
      obtain ⟨x, rfl⟩ : ∃ x : Nat, e = (x : Int) := ⟨e.toNat, by omega⟩
      simp only [decide_eq_true he, if_true, he, and_self, Int.toNat_natCast]
      exact Ev.bind (c_specPairs m h3 h7 s hz2 x (by omega)) (Ev.now _)
    · simp only [decide_eq_false he, Bool.false_eq_true, if_false, he, and_false]; exact Ev.now _
  · simp only [h, Bool.false_eq_true, if_false, false_and]; exact Ev.now _
theorem c_implCrossingPairs (n : Int) (s : ByteArray) (hs : s.size ≤ 1099511627776) (e : Int) : Ev (fun k => impl_CrossingPairs.f k n s e) (cXp n s e) := by
  unfold impl_CrossingPairs.f cXp
  have hO := c_orderOf n s hs
  refine Ev.bind hO ?_
  by_cases h : cAcy n s = true
  · obtain ⟨m, rfl, h3, h7, hz2⟩ := c_acy_open n s h
    simp only [h, if_true, c_areEdges (m : Int) (by omega) (by omega), Option.bind_some, Int.toNat_natCast]
    by_cases he : cES (m : Int) e
    · obtain ⟨h0, h1⟩ := c_set_lt' (m : Int) (by omega) (by omega) e he
      obtain ⟨x, rfl⟩ : ∃ x : Nat, e = (x : Int) := ⟨e.toNat, by omega⟩
      simp only [decide_eq_true he, Bool.not_true, he, and_self, if_true, Int.toNat_natCast]
      refine Ev.step (f := fun k => (impl_chi_crossings.f k (cTab m s)).bind fun t446 => (impl_CrossingPairs.l0 k (x : Int) 0 t446 (t446.length : Int) 0)) (fun k => ?_) ?_
      · simp only [impl_CrossingPairs.j0, decide_true, Bool.not_true, Bool.false_eq_true, if_false]
      · exact Ev.bind (c_crossings m h3 h7 s) (c_implPairs m h3 h7 s x (by omega))
    · simp only [decide_eq_false he, Bool.not_false, he, and_false, if_false]
      refine Ev.step (f := fun _ => some (-1)) (fun k => ?_) (Ev.now _)
      simp only [impl_CrossingPairs.j0, decide_false, Bool.not_false, if_true]
  · simp only [h, Bool.false_eq_true, if_false, false_and]
    refine Ev.step (f := fun _ => some (-1)) (fun k => ?_) (Ev.now _)
    simp only [impl_CrossingPairs.j0, if_true]

end Go.Proofs.Ytmidcafamppkeaa.P
