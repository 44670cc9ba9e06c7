/- The flip of an edge: what the program and the reference compute. Conditions: order signs of at most six elements. -/
import Derived.Test.YtiimkifkakdalaaCTri
import Derived.Test.YtiimkifkakdalaaP77
namespace Go.Proofs.Ytiimkifkakdalaa.P
open Go.RowKit Go.Proofs.YtiimkifkakdalaaW.PrintWords Go.Proofs.YtiimkifkakdalaaW.PrintLast
set_option linter.unusedVariables false
set_option linter.unusedSimpArgs false

theorem c_sub_bit (a i j : Nat) (h : a.testBit i = true) : (a - 2 ^ i).testBit j = (a.testBit j && decide (j ≠ i)) := by
  have hp := Nat.two_pow_pos i
  rw [Nat.testBit_eq_decide_div_mod_eq, decide_eq_true_eq] at h
  obtain ⟨q, hq⟩ : ∃ q, a / 2 ^ i = 2 * q + 1 := ⟨a / 2 ^ i / 2, by omega⟩
  have hm := Nat.div_add_mod a (2 ^ i)
  have hl := Nat.mod_lt a hp
  rw [hq] at hm
  generalize a % 2 ^ i = l at hm hl
  subst hm
  have e : 2 ^ i * (2 * q + 1) + l - 2 ^ i = 2 ^ i * (2 * q) + l := by rw [Nat.mul_add, Nat.mul_one]; omega
  rw [e, Nat.testBit_two_pow_mul_add _ hl, Nat.testBit_two_pow_mul_add _ hl]
  by_cases h1 : j < i
  · rw [if_pos h1, if_pos h1, decide_eq_true (show j ≠ i by omega), Bool.and_true]
  · rw [if_neg h1, if_neg h1]
    by_cases h2 : j = i
    · subst h2; rw [Nat.sub_self, Nat.testBit_zero, decide_eq_false (show ¬ (2 * q) % 2 = 1 by omega)]; simp
    · obtain ⟨m, hm⟩ : ∃ m, j - i = m + 1 := ⟨j - i - 1, by omega⟩
      rw [hm, Nat.testBit_succ, Nat.testBit_succ, show 2 * q / 2 = q by omega, show (2 * q + 1) / 2 = q by omega, decide_eq_true h2, Bool.and_true]
theorem c_bit_le (a i : Nat) (h : a.testBit i = true) : 2 ^ i ≤ a := Nat.ge_two_pow_of_testBit h
theorem c_or_add (b f : Nat) (h : b.testBit f = false) : b ||| 2 ^ f = b + 2 ^ f := by
  have h1 : (b ||| 2 ^ f).testBit f = true := by rw [Nat.testBit_or, Nat.testBit_two_pow_self, Bool.or_true]
  have h2 : (b ||| 2 ^ f) - 2 ^ f = b := by
    apply Nat.eq_of_testBit_eq
    intro j
    rw [c_sub_bit _ _ _ h1, Nat.testBit_or, Nat.testBit_two_pow]
    by_cases hj : j = f
    · subst hj; rw [h]; simp
    · rw [decide_eq_true hj, Bool.and_true, decide_eq_false (fun hh => hj hh.symm), Bool.or_false]
  have h3 := c_bit_le _ _ h1
  omega
theorem c_andNotN (a b : Nat) (ha : a < 1099511627776) (hb : b < 18446744073709551616) : Go.bits .andNot .i64 (a : Int) (b : Int) = ((a &&& (18446744073709551615 - b) : Nat) : Int) := by
  have hx : a &&& (18446744073709551615 - b) ≤ a := Nat.and_le_left
  show IntKind.i64.wrap ((BitVec.ofInt 64 (a : Int) &&& ~~~BitVec.ofInt 64 (b : Int)).toNat : Int) = _
  have ea : (BitVec.ofInt 64 (a : Int)).toNat = a := by rw [BitVec.toNat_ofInt]; omega
  have eb : (BitVec.ofInt 64 (b : Int)).toNat = b := by rw [BitVec.toNat_ofInt]; omega
  rw [BitVec.toNat_and, BitVec.toNat_not, ea, eb, IntKind.wrap_i64]
  have e : 2 ^ 64 - 1 - b = 18446744073709551615 - b := by omega
  rw [e]
  omega
theorem c_take_out (a i : Nat) (ha : a < 1099511627776) (hi : i < 22) (h : a.testBit i = true) : Go.bits .andNot .i64 (a : Int) (shl .i64 1 (i : Int)) = ((a - 2 ^ i : Nat) : Int) := by
  have hp := (c_xshl_all i (by simpa using hi)).2
  rw [c_xshl i hi, c_andNotN a _ ha (by omega)]
  congr 1
  apply Nat.eq_of_testBit_eq
  intro j
  rw [Nat.testBit_and, c_sub_bit a i j h, show 18446744073709551615 - 2 ^ i = 2 ^ 64 - (2 ^ i + 1) by omega, Nat.testBit_two_pow_sub_succ (by omega), Nat.testBit_two_pow]
  by_cases hj : j < 64
  · rw [decide_eq_true hj, Bool.true_and]
    by_cases e : i = j
    · subst e; simp
    · rw [decide_eq_false e, show decide (j ≠ i) = true from decide_eq_true (fun hh => e hh.symm)]; rfl
  · have : a.testBit j = false := Nat.testBit_lt_two_pow (Nat.lt_of_lt_of_le (show a < 2 ^ 40 by omega) (Nat.pow_le_pow_right (by decide) (by omega)))
    rw [this, Bool.false_and, Bool.false_and]
theorem c_put_in (a f : Nat) (ha : a < 1099511627776) (hf : f < 22) (h : a.testBit f = false) : Go.bits .or .i64 (a : Int) (shl .i64 1 (f : Int)) = ((a + 2 ^ f : Nat) : Int) := by
  have hp := (c_xshl_all f (by simpa using hf)).2
  rw [c_xshl f hf, (bits_nat .i64 40 (by decide) (fun n h0 h1 => by rw [IntKind.wrap_i64]; omega) a (2 ^ f) (by omega) (by omega)).2, c_or_add a f h]
/-- The flips of edge i that are full: the last one, and how many. -/
def cFp (rows : List Int) (e i : Nat) : Nat → Nat → Int → Nat → Int × Nat
  | 0, _, x, c => (x, c)
  | d + 1, q, x, c => if (!e.testBit q && cFull rows ((e - 2 ^ i + 2 ^ q : Nat) : Int)) = true then cFp rows e i d (q + 1) ((e - 2 ^ i + 2 ^ q : Nat) : Int) (c + 1) else cFp rows e i d (q + 1) x c
def cFe (rows : List Int) (e i : Nat) (d q : Nat) (x : Int) (c : Nat) : Int × Bool := if (cFp rows e i d q x c).2 = 1 then ((cFp rows e i d q x c).1, true) else (0, false)
section
variable (rows : List Int) (hl : rows.length ≤ 15) (e i : Nat) (he : e < 32768) (hi : i < 15) (hb : e.testBit i = true)
include hl he hi hb
theorem c_implFlip_l : ∀ (d q : Nat) (x : Int) (c : Nat), q + d = rows.length → c ≤ q →
    Ev (fun k => impl_plane_flip.l0 k (e : Int) (i : Int) x (c : Int) rows (q : Int)) (cFe rows e i d q x c) := by
  have hsl : e - 2 ^ i ≤ e := Nat.sub_le _ _
  intro d
  induction d with
  | zero =>
    intro q x c hq hc
    rw [show cFe rows e i 0 q x c = if c = 1 then (x, true) else (0, false) from rfl]
    by_cases h1 : c = 1
    · subst h1
      rw [if_pos rfl]
      refine Ev.step (f := fun _ => some (x, true)) (fun k => ?_) (Ev.now _)
      simp only [impl_plane_flip.l0]; rw [if_neg (by omega), if_pos (by omega)]
    · rw [if_neg h1]
      refine Ev.step (f := fun _ => some (0, false)) (fun k => ?_) (Ev.now _)
      simp only [impl_plane_flip.l0]; rw [if_neg (by omega), if_neg (by omega)]
  | succ d ih =>
    intro q x c hq hc
    have hbit : Go.bits .and .i64 (shr .i64 (e : Int) (q : Int)) 1 = 0 ↔ e.testBit q = false := by
      have h1 := c_cBit e q (by omega) (by omega)
      unfold cBit at h1
      have h2 := bits_nat .i64 40 (by decide) (fun n h0 h1 => by rw [IntKind.wrap_i64]; omega) (e / 2 ^ q) 1 (by have := Nat.div_le_self e (2 ^ q); omega) (by omega)
      have h3 : shr .i64 (e : Int) (q : Int) = ((e / 2 ^ q : Nat) : Int) := by
        unfold shr
        rw [show min (q : Int).toNat IntKind.i64.bits = q from by rw [Int.toNat_natCast]; exact Nat.min_eq_left (by show q ≤ 64; omega), Int.natCast_ediv, Int.natCast_pow]; rfl
      rw [h3, show (1 : Int) = ((1 : Nat) : Int) from rfl, h2.1, Nat.and_one_is_mod, c_tb, decide_eq_false_iff_not]
      omega
    have hpre : ∀ k, impl_plane_flip.l0 (k + 1) (e : Int) (i : Int) x (c : Int) rows (q : Int) = if e.testBit q = false then (impl_plane_isFull.f k rows (Go.bits .or .i64 (Go.bits .andNot .i64 (e : Int) (shl .i64 1 (i : Int))) (shl .i64 1 (q : Int)))).bind (fun b => if b = true then impl_plane_flip.l0 k (e : Int) (i : Int) (Go.bits .or .i64 (Go.bits .andNot .i64 (e : Int) (shl .i64 1 (i : Int))) (shl .i64 1 (q : Int))) ((c + 1 : Nat) : Int) rows ((q + 1 : Nat) : Int) else impl_plane_flip.l0 k (e : Int) (i : Int) x (c : Int) rows ((q + 1 : Nat) : Int)) else impl_plane_flip.l0 k (e : Int) (i : Int) x (c : Int) rows ((q + 1 : Nat) : Int) := by
      intro k
      simp only [impl_plane_flip.l0]
      rw [if_pos (show (q : Int) < (rows.length : Int) by omega), if_pos (show (0 : Int) ≤ (q : Int) by omega), if_pos (show (0 : Int) ≤ (i : Int) by omega), c_w1 q (by omega), c_w1 c (by omega)]
      simp only [hbit]
    by_cases hq2 : e.testBit q = false
    · have hne : q ≠ i := by rintro rfl; rw [hb] at hq2; cases hq2
      have hn : Go.bits .or .i64 (Go.bits .andNot .i64 (e : Int) (shl .i64 1 (i : Int))) (shl .i64 1 (q : Int)) = ((e - 2 ^ i + 2 ^ q : Nat) : Int) := by
        rw [c_take_out e i (by omega) (by omega) hb, c_put_in (e - 2 ^ i) q (by omega) (by omega) (by rw [c_sub_bit e i q hb, hq2, Bool.false_and])]
      refine Ev.step (fun k => by rw [hpre, if_pos hq2, hn]) (Ev.bind (c_implFull rows _ (by omega)) ?_)
      cases hf : cFull rows ((e - 2 ^ i + 2 ^ q : Nat) : Int) with
      | true =>
        have e1 : cFe rows e i (d + 1) q x c = cFe rows e i d (q + 1) ((e - 2 ^ i + 2 ^ q : Nat) : Int) (c + 1) := by unfold cFe; simp only [cFp, hq2, hf, Bool.not_false, Bool.and_self, if_true]
        rw [e1]; simp only [if_true]; exact ih (q + 1) _ (c + 1) (by omega) (by omega)
      | false =>
        have e1 : cFe rows e i (d + 1) q x c = cFe rows e i d (q + 1) x c := by unfold cFe; simp only [cFp, hf, Bool.and_false, Bool.false_eq_true, if_false]
        rw [e1]; simp only [Bool.false_eq_true, if_false]; exact ih (q + 1) x c (by omega) (by omega)
    · have e1 : cFe rows e i (d + 1) q x c = cFe rows e i d (q + 1) x c := by
        rw [Bool.not_eq_false] at hq2
        unfold cFe; simp only [cFp, hq2, Bool.not_true, Bool.false_and, Bool.false_eq_true, if_false]
      rw [e1]
      exact Ev.step (fun k => by rw [hpre, if_neg hq2]) (ih (q + 1) x c (by omega) (by omega))
theorem c_specFlip_l : ∀ (d q : Nat) (x : Int) (c : Nat), q + d = rows.length → c ≤ q →
    Ev (fun k => spec_l10Flip.l0 k rows (i : Int) ((e - 2 ^ i : Nat) : Int) x (c : Int) (q : Int)) (cFe rows e i d q x c) := by
  have hsl : e - 2 ^ i ≤ e := Nat.sub_le _ _
  intro d
  induction d with
  | zero =>
    intro q x c hq hc
    rw [show cFe rows e i 0 q x c = if c = 1 then (x, true) else (0, false) from rfl]
    by_cases h1 : c = 1
    · subst h1
      rw [if_pos rfl]
      refine Ev.step (f := fun _ => some (x, true)) (fun k => ?_) (Ev.now _)
      simp only [spec_l10Flip.l0]; rw [if_neg (by omega), if_pos (by omega)]
    · rw [if_neg h1]
      refine Ev.step (f := fun _ => some (0, false)) (fun k => ?_) (Ev.now _)
      simp only [spec_l10Flip.l0]; rw [if_neg (by omega), if_neg (by omega)]
  | succ d ih =>
    intro q x c hq hc
    have hu : (0 : Int) ≤ IntKind.u64.wrap (q : Int) := by rw [IntWalk.u64_in _ ⟨by omega, by omega⟩]; omega
    have hpq := (c_xshl_all q (by simp; omega)).2
    have hpos := Nat.two_pow_pos q
    have hsum : wrap64 (((e - 2 ^ i : Nat) : Int) + shl .i64 1 (IntKind.u64.wrap (q : Int))) = ((e - 2 ^ i + 2 ^ q : Nat) : Int) := by
      rw [IntWalk.u64_in _ ⟨by omega, by omega⟩, c_xshl q (by omega), c_wid _ (by omega) (by omega)]; omega
    have hpre : ∀ k, spec_l10Flip.l0 (k + 1) rows (i : Int) ((e - 2 ^ i : Nat) : Int) x (c : Int) (q : Int) = if q = i then spec_l10Flip.l0 k rows (i : Int) ((e - 2 ^ i : Nat) : Int) x (c : Int) ((q + 1 : Nat) : Int) else if (e - 2 ^ i).testBit q = true then spec_l10Flip.l0 k rows (i : Int) ((e - 2 ^ i : Nat) : Int) x (c : Int) ((q + 1 : Nat) : Int) else (spec_l10Full.f k rows ((e - 2 ^ i + 2 ^ q : Nat) : Int)).bind (fun t => if t = true then spec_l10Flip.l0 k rows (i : Int) ((e - 2 ^ i : Nat) : Int) ((e - 2 ^ i + 2 ^ q : Nat) : Int) ((c + 1 : Nat) : Int) ((q + 1 : Nat) : Int) else spec_l10Flip.l0 k rows (i : Int) ((e - 2 ^ i : Nat) : Int) x (c : Int) ((q + 1 : Nat) : Int)) := by
      intro k
      simp only [spec_l10Flip.l0]
      rw [if_pos (show (q : Int) < (rows.length : Int) by omega), c_has _ q (by omega), c_cBit _ q (by omega) (by omega), c_w1 q (by omega), c_w1 c (by omega), hsum]
      simp only [Option.bind_some, if_pos hu, Int.ofNat_inj]
    have e0 : e.testBit q = true → cFe rows e i (d + 1) q x c = cFe rows e i d (q + 1) x c := by
      intro h; unfold cFe; simp only [cFp, h, Bool.not_true, Bool.false_and, Bool.false_eq_true, if_false]
    by_cases hqi : q = i
    · subst hqi
      rw [e0 hb]
      exact Ev.step (fun k => by rw [hpre, if_pos rfl]) (ih (q + 1) x c (by omega) (by omega))
    · have hsb := c_sub_bit e i q hb
      rw [decide_eq_true hqi, Bool.and_true] at hsb
      cases hq2 : e.testBit q with
      | true =>
        rw [hq2] at hsb
        rw [e0 hq2]
        exact Ev.step (fun k => by rw [hpre, if_neg hqi, if_pos hsb]) (ih (q + 1) x c (by omega) (by omega))
      | false =>
        rw [hq2] at hsb
        refine Ev.step (fun k => by rw [hpre, if_neg hqi, if_neg (by rw [hsb]; simp)]) (Ev.bind (c_specFull rows _ (by omega)) ?_)
        cases hf : cFull rows ((e - 2 ^ i + 2 ^ q : Nat) : Int) with
        | true =>
          have e1 : cFe rows e i (d + 1) q x c = cFe rows e i d (q + 1) ((e - 2 ^ i + 2 ^ q : Nat) : Int) (c + 1) := by unfold cFe; simp only [cFp, hq2, hf, Bool.not_false, Bool.and_self, if_true]
          rw [e1]; simp only [if_true]; exact ih (q + 1) _ (c + 1) (by omega) (by omega)
        | false =>
          have e1 : cFe rows e i (d + 1) q x c = cFe rows e i d (q + 1) x c := by unfold cFe; simp only [cFp, hf, Bool.and_false, Bool.false_eq_true, if_false]
          rw [e1]; simp only [Bool.false_eq_true, if_false]; exact ih (q + 1) x c (by omega) (by omega)
end
def cFlip (rows : List Int) (e i : Nat) : Int × Bool := cFe rows e i rows.length 0 0 0
theorem c_implFlip (rows : List Int) (hl : rows.length ≤ 15) (e i : Nat) (he : e < 32768) (hi : i < 15) (hb : e.testBit i = true) : Ev (fun k => impl_plane_flip.f k rows (e : Int) (i : Int)) (cFlip rows e i) :=
  c_implFlip_l rows hl e i he hi hb rows.length 0 0 0 (by omega) (by omega)
theorem c_specFlip (rows : List Int) (hl : rows.length ≤ 15) (e i : Nat) (he : e < 32768) (hi : i < 15) (hb : e.testBit i = true) : Ev (fun k => spec_l10Flip.f k rows (e : Int) (i : Int)) (cFlip rows e i) := by
  have hu : (0 : Int) ≤ IntKind.u64.wrap (i : Int) := by rw [IntWalk.u64_in _ ⟨by omega, by omega⟩]; omega
  have hle := c_bit_le e i hb
  have hp := (c_xshl_all i (by simp; omega)).2
  have hpos := Nat.two_pow_pos i
  have hsub : wrap64 ((e : Int) - shl .i64 1 (IntKind.u64.wrap (i : Int))) = ((e - 2 ^ i : Nat) : Int) := by
    rw [IntWalk.u64_in _ ⟨by omega, by omega⟩, c_xshl i (by omega), c_wid _ (by omega) (by omega)]; omega
  unfold spec_l10Flip.f
  simp only [if_pos hu, hsub]
  exact c_specFlip_l rows hl e i he hi hb rows.length 0 0 0 (by omega) (by omega)

end Go.Proofs.Ytiimkifkakdalaa.P
