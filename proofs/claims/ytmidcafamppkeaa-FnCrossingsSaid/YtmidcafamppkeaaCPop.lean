/- The library's count of one bits is the number of one bits, for numbers below 2^24. Conditions: the number is below 2^24. -/
import Derived.Test.YtmidcafamppkeaaCNum
import Derived.Test.YtmidcafamppkeaaP42
import Derived.Test.YtmidcafamppkeaaP64
namespace Go.Proofs.Ytmidcafamppkeaa.P
open Go.RowKit Go.Proofs.YtmidcafamppkeaaW.PrintWords Go.Proofs.YtmidcafamppkeaaW.PrintLast
set_option linter.unusedVariables false

theorem c_and8 (p q m M : Nat) (hp : p < 256) (hm : m < 256) : (256 * q + p) &&& (256 * M + m) = 256 * (q &&& M) + (p &&& m) := by
  have hpm : p &&& m < 256 := Nat.lt_of_le_of_lt Nat.and_le_left hp
  apply Nat.eq_of_testBit_eq
  intro j
  rw [Nat.testBit_and]
  rw [show 256 = 2 ^ 8 from rfl, Nat.testBit_two_pow_mul_add q hp, Nat.testBit_two_pow_mul_add M hm, Nat.testBit_two_pow_mul_add (q &&& M) hpm]
  split <;> simp [Nat.testBit_and]
/-- The number of one bits. -/
def cPop : Nat → Nat
  | 0 => 0
  | x + 1 => (x + 1) % 2 + cPop ((x + 1) / 2)
termination_by x => x
decreasing_by omega
theorem cPop_eq (x : Nat) : cPop x = x % 2 + cPop (x / 2) := by
  cases x with
  | zero => simp [cPop]
  | succ x => rw [cPop]
theorem cPop_add : ∀ (k q p : Nat), p < 2 ^ k → cPop (2 ^ k * q + p) = cPop q + cPop p := by
  intro k
  induction k with
  | zero => intro q p hp; obtain rfl : p = 0 := by omega
            simp [cPop]
  | succ k ih =>
    intro q p hp
    rw [cPop_eq (2 ^ (k + 1) * q + p), cPop_eq p]
    have e1 : (2 ^ (k + 1) * q + p) % 2 = p % 2 := by rw [Nat.pow_succ, Nat.mul_comm (2 ^ k) 2, Nat.mul_assoc]; omega
    have e2 : (2 ^ (k + 1) * q + p) / 2 = 2 ^ k * q + p / 2 := by rw [Nat.pow_succ, Nat.mul_comm (2 ^ k) 2, Nat.mul_assoc]; omega
    rw [e1, e2, ih q (p / 2) (by rw [Nat.pow_succ] at hp; omega)]; omega
def cPG (a : Nat) : Nat := (a / 2 &&& 85) + (a &&& 85)
def cPH (g : Nat) : Nat := (g / 4 &&& 51) + (g &&& 51)
def cPB (a : Nat) : Nat := cPH (cPG a) / 16 + cPH (cPG a) % 16
theorem c_g_all : ∀ a < 256, ∀ b < 2, (a / 2 + 128 * b) &&& 85 = a / 2 &&& 85 := by decide +kernel
theorem c_g_lt : ∀ a < 256, cPG a < 256 ∧ cPH (cPG a) < 256 ∧ cPH (cPG a) / 16 ≤ 4 ∧ cPH (cPG a) % 16 ≤ 4 ∧ cPB a = cPop a := by decide +kernel
theorem c_h_all : ∀ g < 256, ∀ b < 4, (g / 4 + 64 * b) &&& 51 = g / 4 &&& 51 := by decide +kernel
theorem c_sw1 (a b c : Nat) (ha : a < 256) (hb : b < 256) (hc : c < 256) :
    ((65536 * c + 256 * b + a) / 2 &&& 6148914691236517205) + ((65536 * c + 256 * b + a) &&& 6148914691236517205) = 65536 * cPG c + 256 * cPG b + cPG a := by
  have e0 : 65536 * c + 256 * b + a = 256 * (256 * c + b) + a := by omega
  have e1 : (256 * (256 * c + b) + a) / 2 = 256 * ((256 * c + b) / 2) + (a / 2 + 128 * (b % 2)) := by omega
  have e2 : (256 * c + b) / 2 = 256 * (c / 2) + (b / 2 + 128 * (c % 2)) := by omega
  have e3 : c / 2 = 256 * 0 + (c / 2 + 128 * 0) := by omega
  have e4 : c = 256 * 0 + c := by omega
  rw [e0, e1, show 6148914691236517205 = 256 * 24019198012642645 + 85 from rfl, c_and8 _ _ _ _ (by omega) (by omega), c_and8 _ _ _ _ (by omega) (by omega)]
  rw [e2, show 24019198012642645 = 256 * 93824992236885 + 85 from rfl, c_and8 _ _ _ _ (by omega) (by omega), c_and8 _ _ _ _ (by omega) (by omega)]
  have e5 : c / 2 &&& 93824992236885 = c / 2 &&& 85 := by
    rw [show 93824992236885 = 256 * 366503875925 + 85 from rfl]
    have := c_and8 (c / 2) 0 85 366503875925 (by omega) (by omega)
    simpa using this
  have e6 : c &&& 93824992236885 = c &&& 85 := by
    rw [show 93824992236885 = 256 * 366503875925 + 85 from rfl]
    have := c_and8 c 0 85 366503875925 (by omega) (by omega)
    simpa using this
  rw [e5, e6, c_g_all a ha (b % 2) (by omega), c_g_all b hb (c % 2) (by omega)]
  unfold cPG; omega
theorem c_sw2 (a b c : Nat) (ha : a < 256) (hb : b < 256) (hc : c < 256) :
    ((65536 * c + 256 * b + a) / 4 &&& 3689348814741910323) + ((65536 * c + 256 * b + a) &&& 3689348814741910323) = 65536 * cPH c + 256 * cPH b + cPH a := by
  have e0 : 65536 * c + 256 * b + a = 256 * (256 * c + b) + a := by omega
  have e1 : (256 * (256 * c + b) + a) / 4 = 256 * ((256 * c + b) / 4) + (a / 4 + 64 * (b % 4)) := by omega
  have e2 : (256 * c + b) / 4 = 256 * (c / 4) + (b / 4 + 64 * (c % 4)) := by omega
  rw [e0, e1, show 3689348814741910323 = 256 * 14411518807585587 + 51 from rfl, c_and8 _ _ _ _ (by omega) (by omega), c_and8 _ _ _ _ (by omega) (by omega)]
  rw [e2, show 14411518807585587 = 256 * 56294995342131 + 51 from rfl, c_and8 _ _ _ _ (by omega) (by omega), c_and8 _ _ _ _ (by omega) (by omega)]
  have e5 : c / 4 &&& 56294995342131 = c / 4 &&& 51 := by
    rw [show 56294995342131 = 256 * 219902325555 + 51 from rfl]
    have := c_and8 (c / 4) 0 51 219902325555 (by omega) (by omega)
    simpa using this
  have e6 : c &&& 56294995342131 = c &&& 51 := by
    rw [show 56294995342131 = 256 * 219902325555 + 51 from rfl]
    have := c_and8 c 0 51 219902325555 (by omega) (by omega)
    simpa using this
  rw [e5, e6, c_h_all a ha (b % 4) (by omega), c_h_all b hb (c % 4) (by omega)]
  unfold cPH; omega
theorem c_and15 (x : Nat) : x &&& 15 = x % 16 := Nat.and_two_pow_sub_one_eq_mod x 4
theorem c_and127 (x : Nat) : x &&& 127 = x % 128 := Nat.and_two_pow_sub_one_eq_mod x 7
theorem c_sw3 (a b c : Nat) (ha : a < 256 ∧ a / 16 ≤ 4 ∧ a % 16 ≤ 4) (hb : b < 256 ∧ b / 16 ≤ 4 ∧ b % 16 ≤ 4) (hc : c < 256 ∧ c / 16 ≤ 4 ∧ c % 16 ≤ 4) :
    ((65536 * c + 256 * b + a) / 16 + (65536 * c + 256 * b + a)) &&& 1085102592571150095 = 65536 * (c / 16 + c % 16) + 256 * (b / 16 + b % 16) + (a / 16 + a % 16) := by
  have e0 : (65536 * c + 256 * b + a) / 16 + (65536 * c + 256 * b + a) = 256 * (256 * (c / 16 + c) + (b / 16 + 16 * (c % 16) + b)) + (a / 16 + 16 * (b % 16) + a) := by omega
  rw [e0, show 1085102592571150095 = 256 * 4238682002231055 + 15 from rfl, c_and8 _ _ _ _ (by omega) (by omega)]
  rw [show 4238682002231055 = 256 * 16557351571215 + 15 from rfl, c_and8 _ _ _ _ (by omega) (by omega)]
  have e5 : (c / 16 + c) &&& 16557351571215 = (c / 16 + c) &&& 15 := by
    rw [show 16557351571215 = 256 * 64677154575 + 15 from rfl]
    have := c_and8 (c / 16 + c) 0 15 64677154575 (by omega) (by omega)
    simpa using this
  have f1 : (a / 16 + 16 * (b % 16) + a) % 16 = a / 16 + a % 16 := by omega
  have f2 : (b / 16 + 16 * (c % 16) + b) % 16 = b / 16 + b % 16 := by omega
  have f3 : (c / 16 + c) % 16 = c / 16 + c % 16 := by omega
  rw [e5, c_and15, c_and15, c_and15, f1, f2, f3]; omega
theorem c_u64 (x : Nat) (h : x < 18446744073709551616) : IntKind.u64.wrap (x : Int) = (x : Int) := IntWalk.u64_in _ ⟨by omega, by omega⟩
theorem c_andU (a : Nat) (m : Nat) (ha : a < 18446744073709551616) (hm : m < 18446744073709551616) : Go.bits .and .u64 (a : Int) (m : Int) = ((a &&& m : Nat) : Int) := (bits_nat .u64 64 (by decide) (fun n h0 h1 => IntWalk.u64_in n ⟨h0, by omega⟩) a m ha hm).1
theorem c_ones64 (x : Nat) (hx : x < 16777216) : bits_OnesCount64.f (x : Int) = some (cPop x : Int) := by
  obtain ⟨a, b, c, ha, hb, hc, rfl⟩ : ∃ a b c, a < 256 ∧ b < 256 ∧ c < 256 ∧ x = 65536 * c + 256 * b + a := ⟨x % 256, x / 256 % 256, x / 65536, by omega, by omega, by omega, by omega⟩
  have ga := c_g_lt a ha
  have gb := c_g_lt b hb
  have gc := c_g_lt c hc
  have hpop : cPop (65536 * c + 256 * b + a) = cPop c + cPop b + cPop a := by
    have h1 := cPop_add 8 (256 * c + b) a ha
    have h2 := cPop_add 8 c b hb
    rw [show 65536 * c + 256 * b + a = 2 ^ 8 * (256 * c + b) + a by omega, h1, show 256 * c + b = 2 ^ 8 * c + b by omega, h2]
  have s1 := c_sw1 a b c ha hb hc
  have s2 := c_sw2 (cPG a) (cPG b) (cPG c) ga.1 gb.1 gc.1
  have s3 := c_sw3 (cPH (cPG a)) (cPH (cPG b)) (cPH (cPG c)) ⟨ga.2.1, ga.2.2.1, ga.2.2.2.1⟩ ⟨gb.2.1, gb.2.2.1, gb.2.2.2.1⟩ ⟨gc.2.1, gc.2.2.1, gc.2.2.2.1⟩
  have t1 : IntKind.u64.wrap ((Go.bits .and .u64 (((65536 * c + 256 * b + a : Nat) : Int) / 2) 6148914691236517205) + (Go.bits .and .u64 ((65536 * c + 256 * b + a : Nat) : Int) 6148914691236517205)) = ((65536 * cPG c + 256 * cPG b + cPG a : Nat) : Int) := by
    rw [show ((65536 * c + 256 * b + a : Nat) : Int) / 2 = (((65536 * c + 256 * b + a) / 2 : Nat) : Int) by omega]
    have u1 : Go.bits .and .u64 ((((65536 * c + 256 * b + a) / 2) : Nat) : Int) 6148914691236517205 = (((((65536 * c + 256 * b + a) / 2)) &&& 6148914691236517205 : Nat) : Int) := c_andU ((65536 * c + 256 * b + a) / 2) 6148914691236517205 (by omega) (by omega)
    have u2 : Go.bits .and .u64 (((65536 * c + 256 * b + a) : Nat) : Int) 6148914691236517205 = ((((65536 * c + 256 * b + a)) &&& 6148914691236517205 : Nat) : Int) := c_andU (65536 * c + 256 * b + a) 6148914691236517205 (by omega) (by omega)
    rw [u1, u2, ← Int.natCast_add, s1, c_u64 _ (by omega)]
  have t2 : IntKind.u64.wrap ((Go.bits .and .u64 (((65536 * cPG c + 256 * cPG b + cPG a : Nat) : Int) / 4) 3689348814741910323) + (Go.bits .and .u64 ((65536 * cPG c + 256 * cPG b + cPG a : Nat) : Int) 3689348814741910323)) = ((65536 * cPH (cPG c) + 256 * cPH (cPG b) + cPH (cPG a) : Nat) : Int) := by
    rw [show ((65536 * cPG c + 256 * cPG b + cPG a : Nat) : Int) / 4 = (((65536 * cPG c + 256 * cPG b + cPG a) / 4 : Nat) : Int) by omega]
    have u1 : Go.bits .and .u64 ((((65536 * cPG c + 256 * cPG b + cPG a) / 4) : Nat) : Int) 3689348814741910323 = (((((65536 * cPG c + 256 * cPG b + cPG a) / 4)) &&& 3689348814741910323 : Nat) : Int) := c_andU ((65536 * cPG c + 256 * cPG b + cPG a) / 4) 3689348814741910323 (by omega) (by omega)
    have u2 : Go.bits .and .u64 (((65536 * cPG c + 256 * cPG b + cPG a) : Nat) : Int) 3689348814741910323 = ((((65536 * cPG c + 256 * cPG b + cPG a)) &&& 3689348814741910323 : Nat) : Int) := c_andU (65536 * cPG c + 256 * cPG b + cPG a) 3689348814741910323 (by omega) (by omega)
    rw [u1, u2, ← Int.natCast_add, s2, c_u64 _ (by omega)]
  have t3 : Go.bits .and .u64 (IntKind.u64.wrap (((65536 * cPH (cPG c) + 256 * cPH (cPG b) + cPH (cPG a) : Nat) : Int) / 16 + ((65536 * cPH (cPG c) + 256 * cPH (cPG b) + cPH (cPG a) : Nat) : Int))) 1085102592571150095 = ((65536 * cPB c + 256 * cPB b + cPB a : Nat) : Int) := by
    rw [show ((65536 * cPH (cPG c) + 256 * cPH (cPG b) + cPH (cPG a) : Nat) : Int) / 16 + ((65536 * cPH (cPG c) + 256 * cPH (cPG b) + cPH (cPG a) : Nat) : Int) = (((65536 * cPH (cPG c) + 256 * cPH (cPG b) + cPH (cPG a)) / 16 + (65536 * cPH (cPG c) + 256 * cPH (cPG b) + cPH (cPG a)) : Nat) : Int) by omega, c_u64 _ (by omega)]
    have u1 : Go.bits .and .u64 ((((65536 * cPH (cPG c) + 256 * cPH (cPG b) + cPH (cPG a)) / 16 + (65536 * cPH (cPG c) + 256 * cPH (cPG b) + cPH (cPG a))) : Nat) : Int) 1085102592571150095 = (((((65536 * cPH (cPG c) + 256 * cPH (cPG b) + cPH (cPG a)) / 16 + (65536 * cPH (cPG c) + 256 * cPH (cPG b) + cPH (cPG a)))) &&& 1085102592571150095 : Nat) : Int) := c_andU ((65536 * cPH (cPG c) + 256 * cPH (cPG b) + cPH (cPG a)) / 16 + (65536 * cPH (cPG c) + 256 * cPH (cPG b) + cPH (cPG a))) 1085102592571150095 (by omega) (by omega)
    rw [u1, s3]; rfl
  unfold bits_OnesCount64.f
  simp only [t1, t2, t3]
  have k1 : cPB a ≤ 8 ∧ cPB b ≤ 8 ∧ cPB c ≤ 8 := by unfold cPB; omega
  rw [hpop, ← ga.2.2.2.2, ← gb.2.2.2.2, ← gc.2.2.2.2]
  generalize cPB a = x at *
  generalize cPB b = y at *
  generalize cPB c = z at *
  rw [show ((65536 * z + 256 * y + x : Nat) : Int) / 256 = ((256 * z + y : Nat) : Int) by omega, ← Int.natCast_add, c_u64 _ (by omega)]
  rw [show ((65536 * z + 256 * y + x + (256 * z + y) : Nat) : Int) / 65536 = ((z : Nat) : Int) by omega, ← Int.natCast_add, c_u64 _ (by omega)]
  rw [show ((65536 * z + 256 * y + x + (256 * z + y) + z : Nat) : Int) / 4294967296 = ((0 : Nat) : Int) by omega, ← Int.natCast_add, c_u64 _ (by omega), c_wid _ (by omega) (by omega)]
  have u : Go.bits .and .i64 ((65536 * z + 256 * y + x + (256 * z + y) + z + 0 : Nat) : Int) 127 = (((65536 * z + 256 * y + x + (256 * z + y) + z + 0) &&& 127 : Nat) : Int) := (bits_nat .i64 63 (by decide) (fun n h0 h1 => by rw [IntKind.wrap_i64]; omega) (65536 * z + 256 * y + x + (256 * z + y) + z + 0) 127 (by omega) (by omega)).1
  rw [u, c_and127]
  congr 1; omega
theorem c_ones (x : Nat) (hx : x < 16777216) : bits_OnesCount.f (x : Int) = some (cPop x : Int) := by
  unfold bits_OnesCount.f
  rw [c_ones64 x hx]; rfl

end Go.Proofs.Ytmidcafamppkeaa.P
