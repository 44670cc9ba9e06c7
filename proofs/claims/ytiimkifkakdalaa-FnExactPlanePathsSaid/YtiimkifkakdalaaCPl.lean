/- Sets of edges without crossings: what the program and the reference list. Conditions: order signs of at most six elements. -/
import Derived.Test.YtiimkifkakdalaaWAll2
import Derived.Test.YtiimkifkakdalaaCPlaneOf
import Derived.Test.YtiimkifkakdalaaCSym
import Derived.Test.YtiimkifkakdalaaOSets
import Derived.Test.YtiimkifkakdalaaP65
namespace Go.Proofs.Ytiimkifkakdalaa.P
open Go.RowKit Go.Proofs.YtiimkifkakdalaaW.PrintWords Go.Proofs.YtiimkifkakdalaaW.PrintLast
set_option linter.unusedVariables false
set_option linter.unusedSimpArgs false

theorem p_sum_bit (f : Nat → Bool) : ∀ (d : Nat), cSum f 0 d < 2 ^ d ∧ ∀ y, (cSum f 0 d).testBit y = (decide (y < d) && f y) := by
  intro d
  induction d with
  | zero => exact ⟨by simp [cSum], fun y => by simp [cSum]⟩
  | succ d ih =>
    have e : cSum f 0 (d + 1) = cSum f 0 d + (if f d = true then 2 ^ d else 0) := by
      unfold cSum; rw [List.range'_concat, List.map_append, List.sum_append]; simp
    obtain ⟨h1, h2⟩ := ih
    rw [e]
    by_cases hf : f d = true
    · rw [if_pos hf]
      refine ⟨by rw [Nat.pow_succ]; omega, fun y => ?_⟩
      rw [Nat.add_comm]
      by_cases hy : y = d
      · subst hy
        rw [Nat.testBit_two_pow_add_eq, h2, hf]; simp
      · by_cases hlt : y < d
        · rw [Nat.testBit_two_pow_add_gt hlt, h2, decide_eq_true hlt, decide_eq_true (show y < d + 1 by omega)]
        · rw [Nat.testBit_lt_two_pow (show 2 ^ d + cSum f 0 d < 2 ^ y from Nat.lt_of_lt_of_le (show 2 ^ d + cSum f 0 d < 2 ^ (d + 1) by rw [Nat.pow_succ]; omega) (Nat.pow_le_pow_right (by decide) (by omega))), decide_eq_false (show ¬ y < d + 1 by omega)]; rfl
    · rw [if_neg hf, Nat.add_zero]
      refine ⟨by rw [Nat.pow_succ]; omega, fun y => ?_⟩
      rw [h2]
      by_cases hy : y = d
      · subst hy; simp [hf]
      · rw [Bool.eq_iff_iff]; simp; intro _; omega
/-- Row q of crossings. -/
def pRq (n : Nat) (s : ByteArray) (q : Nat) : Nat := cRow n s ((cPairs n).getD q (0, 0)) 0 (cPairs n).length
/-- Whether the edges of two indices cross. -/
def pX (n : Nat) (s : ByteArray) (q y : Nat) : Bool := cCx n s ((cPairs n).getD q (0, 0)) ((cPairs n).getD y (0, 0))
theorem p_rows_get (n : Nat) (s : ByteArray) (q : Nat) (hq : q < (cPairs n).length) : (cRows n s).getD q 0 = ((pRq n s q : Nat) : Int) := by
  unfold cRows pRq
  rw [List.getD_eq_getElem?_getD, List.getElem?_map, List.getD_eq_getElem?_getD, List.getElem?_eq_getElem hq]; rfl
theorem p_rq_lt (n : Nat) (s : ByteArray) (q : Nat) : pRq n s q < 2 ^ (cPairs n).length := (p_sum_bit _ _).1
theorem p_rq_bit (n : Nat) (s : ByteArray) (q y : Nat) : (pRq n s q).testBit y = (decide (y < (cPairs n).length) && pX n s q y) := (p_sum_bit _ _).2 y
theorem p_sym (n : Nat) (h3 : 3 ≤ n) (h7 : n ≤ 7) (s : ByteArray) (q y : Nat) : pX n s q y = pX n s y q := c_cx_sym n h3 h7 s _ _
theorem p_self (n : Nat) (s : ByteArray) (q : Nat) : pX n s q q = false := by
  unfold pX cCx; rw [if_neg]; unfold cD4; simp
/-- No edges of a set cross. -/
def pPl (n : Nat) (s : ByteArray) (e : Nat) : Bool := (List.range' 0 (cPairs n).length).all fun q => !(e.testBit q && !(pRq n s q &&& e == 0))
theorem p_and (n : Nat) (s : ByteArray) (q e : Nat) : pRq n s q &&& e = 0 ↔ ∀ y, y < (cPairs n).length → e.testBit y = true → pX n s q y = false := by
  constructor
  · intro h y hy he
    have := congrArg (fun x => Nat.testBit x y) h
    simp only [Nat.testBit_and, Nat.zero_testBit, p_rq_bit, decide_eq_true hy, he, Bool.true_and, Bool.and_true] at this
    exact this
  · intro h
    apply Nat.eq_of_testBit_eq
    intro y
    rw [Nat.zero_testBit, Nat.testBit_and, p_rq_bit]
    by_cases hy : y < (cPairs n).length
    · cases he : e.testBit y with
      | true => rw [h y hy he]; simp
      | false => simp
    · rw [decide_eq_false hy]; simp
theorem p_iff (n : Nat) (s : ByteArray) (e : Nat) : pPl n s e = true ↔ ∀ q y, q < (cPairs n).length → y < (cPairs n).length → e.testBit q = true → e.testBit y = true → pX n s q y = false := by
  unfold pPl
  rw [List.all_eq_true]
  constructor
  · intro h q y hq hy h1 h2
    have := h q (by rw [List.mem_range'_1]; omega)
    rw [h1] at this
    simp only [Bool.true_and, Bool.not_not, beq_iff_eq] at this
    exact (p_and n s q e).1 this y hy h2
  · intro h q hq
    rw [List.mem_range'_1] at hq
    cases h1 : e.testBit q with
    | false => rfl
    | true =>
      have := (p_and n s q e).2 (fun y hy h2 => h q y (by omega) hy h1 h2)
      simp [this]
/-- Bits of a set with further lower bits. -/
theorem p_high (j B r i : Nat) (hr : r < 2 ^ j) (hi : j ≤ i) : (2 ^ j * B + r).testBit i = B.testBit (i - j) := by
  rw [Nat.testBit_two_pow_mul_add B hr, if_neg (by omega)]
theorem p_low (j B i : Nat) (hi : i < j) : (2 ^ j * B).testBit i = false := by
  have := Nat.testBit_two_pow_mul_add B (show 0 < 2 ^ j from Nat.two_pow_pos _) i
  rw [Nat.add_zero, if_pos hi, Nat.zero_testBit] at this
  exact this
theorem p_mid (j B i : Nat) : (2 ^ (j + 1) * B + 2 ^ j).testBit i = (decide (i = j) || (2 ^ (j + 1) * B).testBit i) := by
  have hlt : 2 ^ j < 2 ^ (j + 1) := by rw [Nat.pow_succ]; have := Nat.two_pow_pos j; omega
  by_cases hi : i < j + 1
  · rw [Nat.testBit_two_pow_mul_add B hlt, if_pos hi, p_low _ _ _ hi, Nat.testBit_two_pow, Bool.or_false]
    rw [Bool.eq_iff_iff]; simp; exact eq_comm
  · rw [p_high _ _ _ _ hlt (by omega), decide_eq_false (by omega), Bool.false_or]
    have := p_high (j + 1) B 0 i (Nat.two_pow_pos _) (by omega)
    rw [Nat.add_zero] at this
    exact this.symm
theorem p_pop_pos : ∀ x, 0 < x → 0 < cPop x := by
  intro x
  induction x using Nat.strongRecOn with
  | _ x ih =>
    intro hx
    rw [cPop_eq]
    by_cases h : x % 2 = 1
    · omega
    · have := ih (x / 2) (by omega) (by omega); omega
theorem p_pop_le : ∀ (j x : Nat), x < 2 ^ j → cPop x ≤ j := by
  intro j
  induction j with
  | zero => intro x hx; obtain rfl : x = 0 := by omega
            simp [cPop]
  | succ j ih =>
    intro x hx
    rw [cPop_eq]
    have := ih (x / 2) (by rw [Nat.pow_succ] at hx; omega)
    omega
theorem p_pop_zero : cPop 0 = 0 := by simp [cPop]
/-- The plane sets from b on with so many edges among the low ones. -/
def pL (n : Nat) (s : ByteArray) (b d m : Nat) : List Int := ((List.range' b d).filter fun e => decide (cPop (e - b) = m) && pPl n s e).map fun (e : Nat) => (e : Int)
theorem p_l_len (n : Nat) (s : ByteArray) (b d m : Nat) : (pL n s b d m).length ≤ d := by
  unfold pL
  rw [List.length_map]
  refine Nat.le_trans (List.length_filter_le _ _) ?_
  rw [List.length_range']; exact Nat.le_refl _
theorem p_l_nil (n : Nat) (s : ByteArray) (b d m : Nat) (h : ∀ e, b ≤ e → e < b + d → cPop (e - b) = m → pPl n s e = false) : pL n s b d m = [] := by
  unfold pL
  rw [List.map_eq_nil_iff, List.filter_eq_nil_iff]
  intro e he
  rw [List.mem_range'_1] at he
  by_cases hm : cPop (e - b) = m
  · rw [h e he.1 he.2 hm]; simp
  · rw [decide_eq_false hm]; simp
theorem p_l_zero (n : Nat) (s : ByteArray) (b d : Nat) (h : pPl n s b = true) : pL n s b (d + 1) 0 = [(b : Int)] := by
  unfold pL
  rw [List.range'_succ, List.filter_cons, if_pos (by simp [p_pop_zero, h]), List.map_cons]
  congr 1
  rw [List.map_eq_nil_iff, List.filter_eq_nil_iff]
  intro e he
  rw [List.mem_range'_1] at he
  have := p_pop_pos (e - b) (by omega)
  rw [decide_eq_false (by omega)]; simp
theorem p_l_split (n : Nat) (s : ByteArray) (b j m : Nat) : pL n s b (2 ^ (j + 1)) (m + 1) = pL n s b (2 ^ j) (m + 1) ++ pL n s (b + 2 ^ j) (2 ^ j) m := by
  unfold pL
  have hp : 2 ^ (j + 1) = 2 ^ j + 2 ^ j := by rw [Nat.pow_succ]; omega
  rw [hp, ← List.range'_append_1, List.filter_append, List.map_append]
  congr 2
  apply List.filter_congr
  intro e he
  rw [List.mem_range'_1] at he
  have h1 : e - b = 2 ^ j * 1 + (e - (b + 2 ^ j)) := by omega
  rw [h1, cPop_add j 1 _ (by omega), show cPop 1 = 1 by simp [cPop]]
  congr 1
  rw [decide_eq_decide]; omega
theorem p_l_far (n : Nat) (s : ByteArray) (b j m : Nat) (h : j < m) : pL n s b (2 ^ j) m = [] :=
  p_l_nil _ _ _ _ _ (fun e h1 h2 h4 => by
    have := p_pop_le j (e - b) (by omega)
    omega)
theorem p_specPl (n : Nat) (h3 : 3 ≤ n) (h6 : n ≤ 6) (s : ByteArray) : ∀ (j B m : Nat) (out : List Int), j ≤ (cPairs n).length → 2 ^ j * B + 2 ^ j ≤ 32768 → m < 100 → out.length ≤ 2 ^ j * B → pPl n s (2 ^ j * B) = true →
    Ev (fun k => spec_l11Plane.f k (cRows n s) ((j : Int) - 1) (m : Int) ((2 ^ j * B : Nat) : Int) out) (out ++ pL n s (2 ^ j * B) (2 ^ j) m) := by
  have h15 := c_pairs6 n h3 h6
  have hlr := (c_rows_len n h3 (by omega) s).1
  intro j
  induction j with
  | zero =>
    intro B m out hj hB hm ho hpl
    cases m with
    | zero =>
      rw [show 2 ^ 0 = 0 + 1 from rfl, p_l_zero n s _ _ hpl]
      refine Ev.step (f := fun k => some (out ++ [((((0 + 1) * B : Nat)) : Int)])) (fun k => ?_) (Ev.now _)
      simp only [spec_l11Plane.f]
      rw [if_pos (by rfl), if_pos (show out.length < 17592186044416 by omega)]
    | succ m =>
      have hz : pL n s (2 ^ 0 * B) (2 ^ 0) (m + 1) = [] := p_l_nil _ _ _ _ _ (fun e h1 h2 h4 => by
        have : e - 2 ^ 0 * B = 0 := by omega
        rw [this, p_pop_zero] at h4; omega)
      rw [hz, List.append_nil]
      refine Ev.step (f := fun k => spec_l11Plane.j0 k (cRows n s) (((0 : Nat) : Int) - 1) ((m + 1 : Nat) : Int) ((2 ^ 0 * B : Nat) : Int) out true) (fun k => ?_) (Ev.step (f := fun _ => some out) (fun k => ?_) (Ev.now _))
      · simp only [spec_l11Plane.f]
        rw [if_neg (show ¬ ((m + 1 : Nat) : Int) = 0 by omega), if_pos (by omega)]
      · simp only [spec_l11Plane.j0, if_true]
  | succ j ih =>
    intro B m out hj hB hm ho hpl
    have hjl : j < (cPairs n).length := by omega
    have hp2 : 2 ^ (j + 1) = 2 * 2 ^ j := by rw [Nat.pow_succ, Nat.mul_comm]
    have e0 : 2 ^ (j + 1) * B = 2 ^ j * (2 * B) := by rw [hp2]; rw [Nat.mul_comm 2, Nat.mul_assoc]
    have e1 : 2 ^ (j + 1) * B + 2 ^ j = 2 ^ j * (2 * B + 1) := by rw [e0, Nat.mul_add, Nat.mul_one]
    cases m with
    | zero =>
      have hp := Nat.two_pow_pos (j + 1)
      rw [show 2 ^ (j + 1) = (2 ^ (j + 1) - 1) + 1 by omega] at hpl ⊢
      rw [p_l_zero n s _ _ hpl]
      rw [show (2 ^ (j + 1) - 1) + 1 = 2 ^ (j + 1) by omega]
      refine Ev.step (f := fun k => some (out ++ [((2 ^ (j + 1) * B : Nat) : Int)])) (fun k => ?_) (Ev.now _)
      simp only [spec_l11Plane.f]
      rw [if_pos (by rfl), if_pos (show out.length < 17592186044416 by omega)]
    | succ m =>
      have hrq := p_rq_lt n s j
      have hp15 : 2 ^ (cPairs n).length ≤ 2 ^ 15 := Nat.pow_le_pow_right (by decide) h15
      have hrd : rd (cRows n s) (j : Int) = ((pRq n s j : Nat) : Int) := by rw [c_rd]; exact p_rows_get n s j hjl
      have hand : Go.bits .and .i64 ((pRq n s j : Nat) : Int) ((2 ^ (j + 1) * B : Nat) : Int) = ((pRq n s j &&& 2 ^ (j + 1) * B : Nat) : Int) := c_andN _ _ (by omega) (by omega)
      have hu : (0 : Int) ≤ IntKind.u64.wrap (j : Int) := by rw [IntWalk.u64_in _ ⟨by omega, by omega⟩]; omega
      have hsh : wrap64 (((2 ^ (j + 1) * B : Nat) : Int) + shl .i64 1 (IntKind.u64.wrap (j : Int))) = ((2 ^ (j + 1) * B + 2 ^ j : Nat) : Int) := by
        have hpj := (c_xshl_all j (by simp; omega)).2
        rw [IntWalk.u64_in _ ⟨by omega, by omega⟩, c_xshl j (by omega), c_wid _ (by omega) (by omega)]; omega
      have hm1 : wrap64 (((j + 1 : Nat) : Int) - 1 - 1) = (j : Int) - 1 := by rw [c_wid _ (by omega) (by omega)]; omega
      have hj1 : ((j + 1 : Nat) : Int) - 1 = (j : Int) := by omega
      have hmm := Aside0.mk (show wrap64 (((m + 1 : Nat) : Int) - 1) = (m : Int) by rw [c_wid _ (by omega) (by omega)]; omega)
      have hw := Aside0.mk (c_w1 j (show j < 4611686018427387904 by omega))
      replace hm1 := Aside0.mk hm1
      replace hsh := Aside0.mk hsh
      replace hand := Aside0.mk hand
      by_cases hjm : j + 1 < m + 1
      · have hz : pL n s (2 ^ (j + 1) * B) (2 ^ (j + 1)) (m + 1) = [] := p_l_far n s (2 ^ (j + 1) * B) (j + 1) (m + 1) hjm
        rw [hz, List.append_nil]
        refine Ev.step (f := fun k => spec_l11Plane.j0 k (cRows n s) (((j + 1 : Nat) : Int) - 1) ((m + 1 : Nat) : Int) ((2 ^ (j + 1) * B : Nat) : Int) out true) (fun k => ?_) (Ev.step (f := fun _ => some out) (fun k => ?_) (Ev.now _))
        · simp only [spec_l11Plane.f]
          rw [if_neg (show ¬ ((m + 1 : Nat) : Int) = 0 by omega), if_neg (show ¬ ((j + 1 : Nat) : Int) - 1 < 0 by omega), hj1, hw.out, decide_eq_true (show ((j + 1 : Nat) : Int) < ((m + 1 : Nat) : Int) by omega)]
        · simp only [spec_l11Plane.j0, if_true]
      · have hlo := ih (2 * B) (m + 1) out (by omega) (by omega) hm (by omega) (by rw [← e0]; exact hpl)
        rw [← e0] at hlo
        rw [p_l_split, ← List.append_assoc]
        have hol : (out ++ pL n s (2 ^ (j + 1) * B) (2 ^ j) (m + 1)).length ≤ 2 ^ (j + 1) * B + 2 ^ j := by
          have := p_l_len n s (2 ^ (j + 1) * B) (2 ^ j) (m + 1)
          rw [List.length_append]; omega
        generalize hO : out ++ pL n s (2 ^ (j + 1) * B) (2 ^ j) (m + 1) = O at hlo hol ⊢
        refine Ev.step (f := fun k => spec_l11Plane.j0 k (cRows n s) (((j + 1 : Nat) : Int) - 1) ((m + 1 : Nat) : Int) ((2 ^ (j + 1) * B : Nat) : Int) out false) (fun k => ?_) ?_
        · simp only [spec_l11Plane.f]
          rw [if_neg (show ¬ ((m + 1 : Nat) : Int) = 0 by omega), if_neg (show ¬ ((j + 1 : Nat) : Int) - 1 < 0 by omega), hj1, hw.out, decide_eq_false (show ¬ ((j + 1 : Nat) : Int) < ((m + 1 : Nat) : Int) by omega)]
        · refine Ev.step (f := fun k => (spec_l11Plane.f k (cRows n s) ((j : Int) - 1) ((m + 1 : Nat) : Int) ((2 ^ (j + 1) * B : Nat) : Int) out).bind fun t => if (pRq n s j &&& 2 ^ (j + 1) * B) = 0 then (spec_l11Plane.f k (cRows n s) ((j : Int) - 1) (m : Int) ((2 ^ (j + 1) * B + 2 ^ j : Nat) : Int) t).bind (fun t => some t) else some t) (fun k => ?_) (Ev.bind hlo ?_)
          · simp only [spec_l11Plane.j0, Bool.false_eq_true, if_false]
            rw [hm1.out, hj1]
            simp only [if_pos (show (0 : Int) ≤ (j : Int) by omega), if_pos (show (j : Int) < ((cRows n s).length : Int) by omega), hrd, hand.out, hsh.out, hmm.out, if_pos hu, Int.natCast_eq_zero]
          · by_cases hD : pRq n s j &&& 2 ^ (j + 1) * B = 0
            · simp only [if_pos hD]
              have hpl2 : pPl n s (2 ^ j * (2 * B + 1)) = true := by
                rw [← e1, p_iff]
                intro q y hq hy h1 h2
                rw [p_mid] at h1 h2
                rw [Bool.or_eq_true, decide_eq_true_eq] at h1 h2
                have hA := (p_and n s j (2 ^ (j + 1) * B)).1 hD
                rcases h1 with rfl | h1
                · rcases h2 with rfl | h2
                  · exact p_self n s y
                  · exact hA y hy h2
                · rcases h2 with rfl | h2
                  · rw [p_sym n h3 (by omega)]; exact hA q hq h1
                  · exact (p_iff n s _).1 hpl q y hq hy h1 h2
              have hhi := ih (2 * B + 1) m O (by omega) (by omega) (by omega) (by omega) hpl2
              rw [← e1] at hhi
              exact Ev.bind hhi (Ev.now _)
            · simp only [if_neg hD]
              have hz : pL n s (2 ^ (j + 1) * B + 2 ^ j) (2 ^ j) m = [] := by
                refine p_l_nil _ _ _ _ _ (fun e h1 h2 h4 => ?_)
                cases hf : pPl n s e with
                | false => rfl
                | true =>
                  exfalso
                  apply hD
                  obtain ⟨r, rfl⟩ : ∃ r, e = 2 ^ j * (2 * B + 1) + r := ⟨e - 2 ^ j * (2 * B + 1), by omega⟩
                  rw [p_and]
                  intro y hy hby
                  refine (p_iff n s _).1 hf j y hjl hy ?_ ?_
                  · rw [p_high j (2 * B + 1) r j (by omega) (Nat.le_refl _), Nat.sub_self, Nat.testBit_zero]
                    exact decide_eq_true (by omega)
                  · have hjy : j + 1 ≤ y := Nat.le_of_not_lt (fun hlt => by rw [p_low _ _ _ hlt] at hby; exact Bool.noConfusion hby)
                    have e2 : 2 ^ j * (2 * B + 1) + r = 2 ^ (j + 1) * B + (2 ^ j + r) := by rw [← e1]; omega
                    rw [e2, p_high (j + 1) B (2 ^ j + r) y (by omega) hjy]
                    have h5 := p_high (j + 1) B 0 y (Nat.two_pow_pos _) hjy
                    rw [Nat.add_zero] at h5
                    rw [← h5]; exact hby
              rw [hz, List.append_nil]
              exact Ev.now _
/-- isPlane over rows. -/
theorem p_implPl_l (n : Nat) (h3 : 3 ≤ n) (h6 : n ≤ 6) (s : ByteArray) (e : Nat) (he : e < 1099511627776) : ∀ (d q : Nat), q + d = (cPairs n).length → Ev (fun k => impl_plane_isPlane.l0 k (e : Int) (cRows n s) (q : Int)) ((List.range' q d).all fun q => !(e.testBit q && !(pRq n s q &&& e == 0))) := by
  have h15 := c_pairs6 n h3 h6
  have hlr := (c_rows_len n h3 (by omega) s).1
  have hp15 : 2 ^ (cPairs n).length ≤ 2 ^ 15 := Nat.pow_le_pow_right (by decide) h15
  intro d
  induction d with
  | zero =>
    intro q hq
    refine Ev.step (f := fun _ => some true) (fun k => ?_) (Ev.now _)
    simp only [impl_plane_isPlane.l0]; rw [if_neg (by omega)]
  | succ d ih =>
    intro q hq
    have hrq := p_rq_lt n s q
    have hbit := c_cBit e q he (by omega)
    unfold cBit at hbit
    rw [List.range'_succ, List.all_cons]
    refine Ev.step (f := fun k => if e.testBit q = true then (if pRq n s q &&& e = 0 then impl_plane_isPlane.l0 k (e : Int) (cRows n s) ((q + 1 : Nat) : Int) else some false) else impl_plane_isPlane.l0 k (e : Int) (cRows n s) ((q + 1 : Nat) : Int)) (fun k => ?_) ?_
    · simp only [impl_plane_isPlane.l0]
      rw [if_pos (show (q : Int) < ((cRows n s).length : Int) by omega), if_pos (show (0 : Int) ≤ (q : Int) by omega), c_rd, p_rows_get n s q (by omega), c_andN _ _ (by omega) he, c_w1 q (by omega), ← hbit]
      simp only [beq_iff_eq, Int.natCast_eq_zero]
    · cases hb : e.testBit q with
      | false => simp only [Bool.false_eq_true, if_false, Bool.false_and, Bool.not_false, Bool.true_and]; exact ih (q + 1) (by omega)
      | true =>
        by_cases hz : pRq n s q &&& e = 0
        · simp only [hz, if_true, Bool.true_and, beq_self_eq_true, Bool.not_true, Bool.not_false]; exact ih (q + 1) (by omega)
        · have hz2 : (pRq n s q &&& e == 0) = false := beq_eq_false_iff_ne.mpr hz
          simp only [if_true, if_neg hz, hz2, Bool.not_false, Bool.true_and, Bool.not_true, Bool.false_and]; exact Ev.now _
theorem p_implPl (n : Nat) (h3 : 3 ≤ n) (h6 : n ≤ 6) (s : ByteArray) (e : Nat) (he : e < 1099511627776) : Ev (fun k => impl_plane_isPlane.f k (cRows n s) (e : Int)) (pPl n s e) := p_implPl_l n h3 h6 s e he _ 0 (by omega)
/-- What planeSets lists, from q on. -/
def pS (n : Nat) (s : ByteArray) (m : Nat) (G : Nat → Bool) (q d : Nat) : List Int := ((List.range' q d).filter fun e => (decide (cPop e = m) && pPl n s e) && G e).map fun (e : Nat) => (e : Int)
theorem p_s_succ (n : Nat) (s : ByteArray) (m : Nat) (G : Nat → Bool) (q d : Nat) : pS n s m G q (d + 1) = (if ((decide (cPop q = m) && pPl n s q) && G q) = true then [(q : Int)] else []) ++ pS n s m G (q + 1) d := by
  unfold pS
  rw [List.range'_succ, List.filter_cons]
  split <;> rfl
theorem p_s_len (n : Nat) (s : ByteArray) (m : Nat) (G : Nat → Bool) (q d : Nat) : (pS n s m G q d).length ≤ d := by
  unfold pS
  rw [List.length_map]
  refine Nat.le_trans (List.length_filter_le _ _) ?_
  rw [List.length_range']; exact Nat.le_refl _
theorem p_implSets_l (n : Nat) (h3 : 3 ≤ n) (h6 : n ≤ 6) (s : ByteArray) (m : Nat) (F : Nat → Int → Option Bool) (G : Nat → Bool) (hF : ∀ e : Nat, e < 2 ^ (cPairs n).length → cPop e = m → Ev (fun k => F k (e : Int)) (G e)) : ∀ (d q : Nat) (o : List Int), q + d = 2 ^ (cPairs n).length → o.length ≤ q →
    Ev (fun k => planeSets.l0 F (m : Int) k (cRows n s) (2 ^ (cPairs n).length - 1) (q : Int) o) (o ++ pS n s m G q d) := by
  have hE := c_pairs6 n h3 h6
  generalize hEE : (cPairs n).length = E at hE hF ⊢
  have h15 : 2 ^ E ≤ 2 ^ 15 := Nat.pow_le_pow_right (by decide) hE
  have hc : ((2 : Int) ^ E - 1) = ((2 ^ E : Nat) : Int) - 1 := by rw [Int.natCast_pow]; rfl
  rw [hc]
  intro d
  induction d with
  | zero =>
    intro q o hq ho
    rw [show pS n s m G q 0 = [] from rfl, List.append_nil]
    refine Ev.step (f := fun _ => some o) (fun k => ?_) (Ev.now _)
    simp only [planeSets.l0]; rw [if_neg (by omega)]
  | succ d ih =>
    intro q o hq ho
    rw [p_s_succ]
    have h0 := ih (q + 1) o (by omega) (by omega)
    have h1 := ih (q + 1) (o ++ [(q : Int)]) (by omega) (by rw [List.length_append, List.length_singleton]; omega)
    rw [List.append_assoc] at h1
    have hones := c_ones q (by omega)
    refine Ev.step (f := fun k => if cPop q = m then ((impl_plane_isPlane.f k (cRows n s) (q : Int)).bind fun b => if b = true then ((F k (q : Int)).bind fun c => if c = true then planeSets.l0 F (m : Int) k (cRows n s) (((2 ^ E : Nat) : Int) - 1) ((q + 1 : Nat) : Int) (o ++ [(q : Int)]) else planeSets.l0 F (m : Int) k (cRows n s) (((2 ^ E : Nat) : Int) - 1) ((q + 1 : Nat) : Int) o) else planeSets.l0 F (m : Int) k (cRows n s) (((2 ^ E : Nat) : Int) - 1) ((q + 1 : Nat) : Int) o) else planeSets.l0 F (m : Int) k (cRows n s) (((2 ^ E : Nat) : Int) - 1) ((q + 1 : Nat) : Int) o) (fun k => ?_) ?_
    · simp only [planeSets.l0]
      rw [if_pos (show (q : Int) ≤ ((2 ^ E : Nat) : Int) - 1 by omega), c_u64 q (by omega), hones, c_w1 q (by omega)]
      simp only [Option.bind_some, if_pos (show o.length < 17592186044416 by omega), Int.natCast_inj]
    · by_cases hm : cPop q = m
      · simp only [if_pos hm, decide_eq_true hm, Bool.true_and]
        refine Ev.bind (p_implPl n h3 h6 s q (by omega)) ?_
        cases hp : pPl n s q with
        | true =>
          simp only [if_true, Bool.true_and]
          refine Ev.bind (hF q (by omega) hm) ?_
          cases hg : G q with
          | true => simp only [if_true]; exact h1
          | false => simp only [Bool.false_eq_true, if_false, List.nil_append]; exact h0
        | false => simp only [Bool.false_eq_true, if_false, Bool.false_and, List.nil_append]; exact h0
      · simp only [if_neg hm, decide_eq_false hm, Bool.false_and, Bool.false_eq_true, if_false, List.nil_append]; exact h0
theorem p_implSets (n : Nat) (h3 : 3 ≤ n) (h6 : n ≤ 6) (s : ByteArray) (hs : s.size ≤ 1099511627776) (hf : cFits (n : Int) s = true) (m : Nat) (F : Nat → Int → Option Bool) (G : Nat → Bool) (hF : ∀ e : Nat, e < 2 ^ (cPairs n).length → cPop e = m → Ev (fun k => F k (e : Int)) (G e)) :
    Ev (fun k => planeSets.f F (m : Int) k (n : Int) s) (pS n s m G 0 (2 ^ (cPairs n).length)) := by
  unfold planeSets.f
  refine Ev.bind (c_planeOf (n : Int) s hs) ?_
  simp only [hf, if_true, Int.toNat_natCast]
  exact p_implSets_l n h3 h6 s m F G hF (2 ^ (cPairs n).length) 0 [] (by omega) (by simp)
theorem p_implSets_no (n : Int) (s : ByteArray) (hs : s.size ≤ 1099511627776) (hf : cFits n s = false) (kk : Int) (F : Nat → Int → Option Bool) : Ev (fun k => planeSets.f F kk k n s) [] := by
  unfold planeSets.f
  refine Ev.bind (c_planeOf n s hs) ?_
  simp only [hf, Bool.false_eq_true, if_false]; exact Ev.now _

end Go.Proofs.Ytiimkifkakdalaa.P
