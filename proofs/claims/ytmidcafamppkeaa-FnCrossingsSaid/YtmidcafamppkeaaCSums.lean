/- Sums over places, the bits of a set, the number of its elements; the sum over all pairs is twice the sum over half of them. Conditions: small sets. -/
import Derived.Test.YtmidcafamppkeaaCPop
import Derived.Test.YtmidcafamppkeaaCDeg
import Derived.Laws.BitsLemmas
namespace Go.Proofs.Ytmidcafamppkeaa.P
open Go.RowKit Go.Proofs.YtmidcafamppkeaaW.PrintWords Go.Proofs.YtmidcafamppkeaaW.PrintLast
set_option linter.unusedVariables false

/-- The sum of g over d places from y on. -/
def cRg (g : Nat → Nat) (y d : Nat) : Nat := ((List.range' y d).map g).sum
theorem c_rg_succ (g : Nat → Nat) (y d : Nat) : cRg g y (d + 1) = g y + cRg g (y + 1) d := by
  unfold cRg; rw [List.range'_succ, List.map_cons, List.sum_cons]
theorem c_rg_snoc (g : Nat → Nat) (d : Nat) : cRg g 0 (d + 1) = cRg g 0 d + g d := by
  unfold cRg
  rw [List.range'_concat, List.map_append, List.sum_append]
  simp
theorem c_rg_congr (f g : Nat → Nat) : ∀ (d y : Nat), (∀ x, y ≤ x → x < y + d → f x = g x) → cRg f y d = cRg g y d := by
  intro d
  induction d with
  | zero => intro y _; rfl
  | succ d ih =>
    intro y h
    rw [c_rg_succ, c_rg_succ, h y (Nat.le_refl _) (by omega), ih (y + 1) (fun x h1 h2 => h x (by omega) (by omega))]
theorem c_rg_add (f g : Nat → Nat) : ∀ (d y : Nat), cRg (fun x => f x + g x) y d = cRg f y d + cRg g y d := by
  intro d
  induction d with
  | zero => intro y; rfl
  | succ d ih => intro y; rw [c_rg_succ, c_rg_succ, c_rg_succ, ih]; omega
theorem c_rg_le (g : Nat → Nat) (c : Nat) : ∀ (d y : Nat), (∀ x, g x ≤ c) → cRg g y d ≤ c * d := by
  intro d
  induction d with
  | zero => intro y _; exact Nat.le_refl _
  | succ d ih =>
    intro y h
    rw [c_rg_succ]
    have h1 := h y
    have h2 := ih (y + 1) h
    rw [Nat.mul_succ]; omega
/-- All pairs are twice the half of them. -/
theorem c_twice (g : Nat → Nat → Nat) (hs : ∀ x y, g x y = g y x) (h0 : ∀ x, g x x = 0) : ∀ (E : Nat), cRg (fun x => cRg (g x) 0 E) 0 E = 2 * cRg (fun x => cRg (g x) 0 x) 0 E := by
  intro E
  induction E with
  | zero => rfl
  | succ E ih =>
    rw [c_rg_snoc (fun x => cRg (g x) 0 x), c_rg_snoc (fun x => cRg (g x) 0 (E + 1))]
    have e1 : cRg (fun x => cRg (g x) 0 (E + 1)) 0 E = cRg (fun x => cRg (g x) 0 E) 0 E + cRg (fun x => g x E) 0 E := by
      rw [← c_rg_add]
      exact c_rg_congr _ _ _ _ (fun x _ _ => c_rg_snoc (g x) E)
    have e2 : cRg (fun x => g x E) 0 E = cRg (g E) 0 E := c_rg_congr _ _ _ _ (fun x _ _ => hs x E)
    rw [e1, e2, ih, c_rg_snoc, h0]
    omega
theorem c_tb (e q : Nat) : e.testBit q = decide (e / 2 ^ q % 2 = 1) := Nat.testBit_eq_decide_div_mod_eq
theorem c_cBit (e q : Nat) (he : e < 1099511627776) (hq : q < 60) : cBit (e : Int) q = e.testBit q := by
  unfold cBit shr
  have hm : min (q : Int).toNat IntKind.i64.bits = q := by rw [Int.toNat_natCast]; exact Nat.min_eq_left (by show q ≤ 64; omega)
  rw [hm]
  have h1 : (e : Int) / 2 ^ q = ((e / 2 ^ q : Nat) : Int) := by
    rw [Int.natCast_ediv, Int.natCast_pow]; rfl
  have hle : e / 2 ^ q ≤ e := Nat.div_le_self _ _
  have u : Go.bits .and .i64 ((e / 2 ^ q : Nat) : Int) 1 = (((e / 2 ^ q) &&& 1 : Nat) : Int) := (bits_nat .i64 41 (by decide) (fun n h0 h1 => by rw [IntKind.wrap_i64]; omega) (e / 2 ^ q) 1 (by omega) (by omega)).1
  rw [h1, u, Nat.and_one_is_mod, c_tb]
  rw [Bool.eq_iff_iff]
  simp only [beq_iff_eq, decide_eq_true_eq]
  omega
theorem c_pop_sum : ∀ (E m : Nat), m < 2 ^ E → cPop m = cRg (fun y => if m.testBit y = true then 1 else 0) 0 E := by
  intro E
  induction E with
  | zero => intro m hm; obtain rfl : m = 0 := by omega
            simp [cPop, cRg]
  | succ E ih =>
    intro m hm
    rw [cPop_eq, ih (m / 2) (by rw [Nat.pow_succ] at hm; omega), c_rg_succ]
    have e1 : cRg (fun y => if m.testBit y = true then 1 else 0) (0 + 1) E = cRg (fun y => if (m / 2).testBit y = true then 1 else 0) 0 E := by
      unfold cRg
      rw [show 0 + 1 = 1 from rfl, List.range'_eq_map_range, List.range'_eq_map_range, List.map_map, List.map_map]
      congr 1
      apply List.map_congr_left
      intro y _
      simp only [Function.comp]
      have e2 : m.testBit (1 + y) = (m / 2).testBit (0 + y) := by rw [show 1 + y = y + 1 by omega, Nat.testBit_succ, Nat.zero_add]
      simp only [e2]
    rw [e1]
    congr 1
    rw [Nat.testBit_zero]
    have := Nat.mod_two_eq_zero_or_one m
    rcases this with h | h <;> simp [h]

end Go.Proofs.Ytmidcafamppkeaa.P
