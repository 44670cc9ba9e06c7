/- All order signs of 3 to 6 elements, by a search that the kernel runs: what holds at each number that the search comes to holds of all order signs. Conditions: at most six elements. -/
import Derived.Test.YtmidcafamppkeaaCAcy
namespace Go.Proofs.Ytmidcafamppkeaa.P
open Go.RowKit Go.Proofs.YtmidcafamppkeaaW.PrintWords Go.Proofs.YtmidcafamppkeaaW.PrintLast
set_option linter.unusedVariables false
set_option linter.unusedSimpArgs false

def sxB (c p : Nat) : Nat := Nat.mod (Nat.shiftRight c p) 2
def sxT4 : Nat := 1056
def sxT5 : Nat := 25935544227401835339902888534962521818411318310091187294071978444402155371549656273863281093695509661440280309256390679082880255094045980258683060322427285864480072446921028335717300553937685391352279728869263262471075811213347268895967185095683402865407130459558943621123429622539367601819188382300615178020
def sxQ (c p0 p1 p2 p3 : Nat) : Bool := Nat.beq (Nat.mod (Nat.shiftRight sxT4 (Nat.add (sxB c p0) (Nat.add (Nat.mul 2 (sxB c p1)) (Nat.add (Nat.mul 4 (sxB c p2)) (Nat.mul 8 (sxB c p3)))))) 2) 1
def sxF (c p0 p1 p2 p3 p4 p5 p6 p7 p8 p9 : Nat) : Bool := Nat.beq (Nat.mod (Nat.shiftRight sxT5 (Nat.add (sxB c p0) (Nat.add (Nat.mul 2 (sxB c p1)) (Nat.add (Nat.mul 4 (sxB c p2)) (Nat.add (Nat.mul 8 (sxB c p3)) (Nat.add (Nat.mul 16 (sxB c p4)) (Nat.add (Nat.mul 32 (sxB c p5)) (Nat.add (Nat.mul 64 (sxB c p6)) (Nat.add (Nat.mul 128 (sxB c p7)) (Nat.add (Nat.mul 256 (sxB c p8)) (Nat.mul 512 (sxB c p9)))))))))))) 2) 1
def sxRun (P : Nat → Bool) : List (Nat × (Nat → Bool)) → Nat → Bool
  | [], c => P c
  | h :: t, c => cond (cond (h.2 c) true (sxRun P t c)) (cond (h.2 (Nat.lor c h.1)) true (sxRun P t (Nat.lor c h.1))) false
/-- The numbers that the search comes to on its way to X. -/
def sxWay (X : Nat) : List (Nat × (Nat → Bool)) → Nat → Prop
  | [], c => c = X
  | h :: t, c => ∃ d, (d = c ∨ d = Nat.lor c h.1) ∧ h.2 d = false ∧ sxWay X t d
theorem sx_run_way (P : Nat → Bool) (X : Nat) : ∀ (D : List (Nat × (Nat → Bool))) (c : Nat), sxRun P D c = true → sxWay X D c → P X = true
  | [], c, h, w => by cases w; exact h
  | h :: t, c, hr, ⟨d, hd, hb, hw⟩ => by
    have a : ∀ x y : Bool, cond x true y = true → x = false → y = true := by decide
    have b : ∀ x y : Bool, cond x y false = true → x = true ∧ y = true := by decide
    obtain ⟨h1, h2⟩ := b _ _ hr
    rcases hd with rfl | rfl
    · exact sx_run_way P X t _ (a _ _ h1 hb) hw
    · exact sx_run_way P X t _ (a _ _ h2 hb) hw
theorem sx_b (c p : Nat) : sxB c p = (c.testBit p).toNat := by
  unfold sxB
  rw [Nat.testBit_eq_decide_div_mod_eq]
  show (c >>> p) % 2 = _
  rw [Nat.shiftRight_eq_div_pow]
  rcases Nat.mod_two_eq_zero_or_one (c / 2 ^ p) with h | h <;> simp [h]
theorem sx_b_and (X M p : Nat) (h : sxB M p = 1) : sxB (X &&& M) p = sxB X p := by
  rw [sx_b, sx_b, Nat.testBit_and]; rw [sx_b] at h
  cases hm : M.testBit p
  · rw [hm] at h; exact absurd h (by decide)
  · rw [Bool.and_true]
theorem sx_q_and (X M p0 p1 p2 p3 : Nat) (h : [p0, p1, p2, p3].all (fun p => sxB M p == 1) = true) : sxQ (X &&& M) p0 p1 p2 p3 = sxQ X p0 p1 p2 p3 := by
  simp only [List.all_cons, List.all_nil, Bool.and_eq_true, beq_iff_eq] at h
  obtain ⟨h0, h1, h2, h3, -⟩ := h
  unfold sxQ; rw [sx_b_and X M p0 h0, sx_b_and X M p1 h1, sx_b_and X M p2 h2, sx_b_and X M p3 h3]
theorem sx_f_and (X M p0 p1 p2 p3 p4 p5 p6 p7 p8 p9 : Nat) (h : [p0, p1, p2, p3, p4, p5, p6, p7, p8, p9].all (fun p => sxB M p == 1) = true) : sxF (X &&& M) p0 p1 p2 p3 p4 p5 p6 p7 p8 p9 = sxF X p0 p1 p2 p3 p4 p5 p6 p7 p8 p9 := by
  simp only [List.all_cons, List.all_nil, Bool.and_eq_true, beq_iff_eq] at h
  obtain ⟨h0, h1, h2, h3, h4, h5, h6, h7, h8, h9, -⟩ := h
  unfold sxF; rw [sx_b_and X M p0 h0, sx_b_and X M p1 h1, sx_b_and X M p2 h2, sx_b_and X M p3 h3, sx_b_and X M p4 h4, sx_b_and X M p5 h5, sx_b_and X M p6 h6, sx_b_and X M p7 h7, sx_b_and X M p8 h8, sx_b_and X M p9 h9]
theorem sx_step (X M i N p : Nat) (hN : N = M ||| 2 ^ i) (hp : p = 2 ^ i) : X &&& N = X &&& M ∨ X &&& N = Nat.lor (X &&& M) p := by
  subst hN hp
  cases hx : X.testBit i
  · left; apply Nat.eq_of_testBit_eq; intro j
    simp only [Nat.testBit_and, Nat.testBit_or, Nat.testBit_two_pow]
    by_cases hj : i = j
    · subst hj; simp [hx]
    · simp [hj]
  · right; apply Nat.eq_of_testBit_eq; intro j
    show _ = ((X &&& M) ||| 2 ^ i).testBit j
    simp only [Nat.testBit_and, Nat.testBit_or, Nat.testBit_two_pow]
    by_cases hj : i = j
    · subst hj; simp [hx]
    · simp [hj]
theorem sx_two {a b : Bool} (ha : a = false) (hb : b = false) : cond a true b = false := by subst ha; subst hb; rfl
def sxL4 : Nat → List (Nat × Nat × Nat × Nat)
  | 4 => [(0, 1, 2, 3)]
  | 5 => [(0, 1, 3, 6), (0, 2, 4, 7), (1, 2, 5, 8), (3, 4, 5, 9), (6, 7, 8, 9)]
  | 6 => [(0, 1, 4, 10), (0, 2, 5, 11), (0, 3, 6, 12), (1, 2, 7, 13), (1, 3, 8, 14), (2, 3, 9, 15), (4, 5, 7, 16), (4, 6, 8, 17), (5, 6, 9, 18), (7, 8, 9, 19), (10, 11, 13, 16), (10, 12, 14, 17), (11, 12, 15, 18), (13, 14, 15, 19), (16, 17, 18, 19)]
  | _ => []
def sxL5 : Nat → List (Nat × Nat × Nat × Nat × Nat × Nat × Nat × Nat × Nat × Nat)
  | 5 => [(0, 1, 2, 3, 4, 5, 6, 7, 8, 9)]
  | 6 => [(0, 1, 2, 4, 5, 7, 10, 11, 13, 16), (0, 1, 3, 4, 6, 8, 10, 12, 14, 17), (0, 2, 3, 5, 6, 9, 11, 12, 15, 18), (1, 2, 3, 7, 8, 9, 13, 14, 15, 19), (4, 5, 6, 7, 8, 9, 16, 17, 18, 19), (10, 11, 12, 13, 14, 15, 16, 17, 18, 19)]
  | _ => []
def sxG (X : Nat) (q : Nat × Nat × Nat × Nat × Nat × Nat × Nat × Nat × Nat × Nat) : Bool := sxF X q.1 q.2.1 q.2.2.1 q.2.2.2.1 q.2.2.2.2.1 q.2.2.2.2.2.1 q.2.2.2.2.2.2.1 q.2.2.2.2.2.2.2.1 q.2.2.2.2.2.2.2.2.1 q.2.2.2.2.2.2.2.2.2
def sxD3 : List (Nat × (Nat → Bool)) := [(1, fun _ => false)]
theorem sx_way3 (X : Nat) (hX : X < 2) : sxWay X sxD3 0 := by
  rw [← Nat.and_zero X]
  show sxWay X sxD3 (X &&& 0)
  refine ⟨X &&& 1, sx_step X 0 0 1 1 rfl rfl, rfl, ?_⟩
  show X &&& 1 = X
  exact (Nat.and_two_pow_sub_one_eq_mod X 1).trans (Nat.mod_eq_of_lt hX)
def sxD4 : List (Nat × (Nat → Bool)) := [(1, fun _ => false), (2, fun _ => false), (4, fun _ => false), (8, fun c => sxQ c 0 1 2 3)]
theorem sx_way4 (X : Nat) (hX : X < 16) (h4 : ∀ q ∈ sxL4 4, sxQ X q.1 q.2.1 q.2.2.1 q.2.2.2 = false) : sxWay X sxD4 0 := by
  rw [← Nat.and_zero X]
  show sxWay X sxD4 (X &&& 0)
  refine ⟨X &&& 1, sx_step X 0 0 1 1 rfl rfl, rfl, ?_⟩
  refine ⟨X &&& 3, sx_step X 1 1 3 2 rfl rfl, rfl, ?_⟩
  refine ⟨X &&& 7, sx_step X 3 2 7 4 rfl rfl, rfl, ?_⟩
  refine ⟨X &&& 15, sx_step X 7 3 15 8 rfl rfl, (sx_q_and X 15 0 1 2 3 (by decide)).trans (h4 (0, 1, 2, 3) (by decide)), ?_⟩
  show X &&& 15 = X
  exact (Nat.and_two_pow_sub_one_eq_mod X 4).trans (Nat.mod_eq_of_lt hX)
def sxD5 : List (Nat × (Nat → Bool)) := [(1, fun _ => false), (2, fun _ => false), (8, fun _ => false), (64, fun c => sxQ c 0 1 3 6), (4, fun _ => false), (16, fun _ => false), (128, fun c => sxQ c 0 2 4 7), (32, fun _ => false), (256, fun c => sxQ c 1 2 5 8), (512, fun c => cond (sxQ c 3 4 5 9) true (cond (sxQ c 6 7 8 9) true (sxF c 0 1 2 3 4 5 6 7 8 9)))]
theorem sx_way5 (X : Nat) (hX : X < 1024) (h4 : ∀ q ∈ sxL4 5, sxQ X q.1 q.2.1 q.2.2.1 q.2.2.2 = false) (h5 : ∀ q ∈ sxL5 5, sxG X q = false) : sxWay X sxD5 0 := by
  rw [← Nat.and_zero X]
  show sxWay X sxD5 (X &&& 0)
  refine ⟨X &&& 1, sx_step X 0 0 1 1 rfl rfl, rfl, ?_⟩
  refine ⟨X &&& 3, sx_step X 1 1 3 2 rfl rfl, rfl, ?_⟩
  refine ⟨X &&& 11, sx_step X 3 3 11 8 rfl rfl, rfl, ?_⟩
  refine ⟨X &&& 75, sx_step X 11 6 75 64 rfl rfl, (sx_q_and X 75 0 1 3 6 (by decide)).trans (h4 (0, 1, 3, 6) (by decide)), ?_⟩
  refine ⟨X &&& 79, sx_step X 75 2 79 4 rfl rfl, rfl, ?_⟩
  refine ⟨X &&& 95, sx_step X 79 4 95 16 rfl rfl, rfl, ?_⟩
  refine ⟨X &&& 223, sx_step X 95 7 223 128 rfl rfl, (sx_q_and X 223 0 2 4 7 (by decide)).trans (h4 (0, 2, 4, 7) (by decide)), ?_⟩
  refine ⟨X &&& 255, sx_step X 223 5 255 32 rfl rfl, rfl, ?_⟩
  refine ⟨X &&& 511, sx_step X 255 8 511 256 rfl rfl, (sx_q_and X 511 1 2 5 8 (by decide)).trans (h4 (1, 2, 5, 8) (by decide)), ?_⟩
  refine ⟨X &&& 1023, sx_step X 511 9 1023 512 rfl rfl, sx_two ((sx_q_and X 1023 3 4 5 9 (by decide)).trans (h4 (3, 4, 5, 9) (by decide))) (sx_two ((sx_q_and X 1023 6 7 8 9 (by decide)).trans (h4 (6, 7, 8, 9) (by decide))) ((sx_f_and X 1023 0 1 2 3 4 5 6 7 8 9 (by decide)).trans (h5 (0, 1, 2, 3, 4, 5, 6, 7, 8, 9) (by decide)))), ?_⟩
  show X &&& 1023 = X
  exact (Nat.and_two_pow_sub_one_eq_mod X 10).trans (Nat.mod_eq_of_lt hX)
def sxD6 : List (Nat × (Nat → Bool)) := [(1, fun _ => false), (2, fun _ => false), (16, fun _ => false), (1024, fun c => sxQ c 0 1 4 10), (4, fun _ => false), (32, fun _ => false), (2048, fun c => sxQ c 0 2 5 11), (128, fun _ => false), (8192, fun c => sxQ c 1 2 7 13), (65536, fun c => cond (sxQ c 4 5 7 16) true (cond (sxQ c 10 11 13 16) true (sxF c 0 1 2 4 5 7 10 11 13 16))), (8, fun _ => false), (64, fun _ => false), (4096, fun c => sxQ c 0 3 6 12), (256, fun _ => false), (16384, fun c => sxQ c 1 3 8 14), (131072, fun c => cond (sxQ c 4 6 8 17) true (cond (sxQ c 10 12 14 17) true (sxF c 0 1 3 4 6 8 10 12 14 17))), (512, fun _ => false), (32768, fun c => sxQ c 2 3 9 15), (262144, fun c => cond (sxQ c 5 6 9 18) true (cond (sxQ c 11 12 15 18) true (sxF c 0 2 3 5 6 9 11 12 15 18))), (524288, fun c => cond (sxQ c 7 8 9 19) true (cond (sxQ c 13 14 15 19) true (cond (sxQ c 16 17 18 19) true (cond (sxF c 1 2 3 7 8 9 13 14 15 19) true (cond (sxF c 4 5 6 7 8 9 16 17 18 19) true (sxF c 10 11 12 13 14 15 16 17 18 19))))))]
theorem sx_way6 (X : Nat) (hX : X < 1048576) (h4 : ∀ q ∈ sxL4 6, sxQ X q.1 q.2.1 q.2.2.1 q.2.2.2 = false) (h5 : ∀ q ∈ sxL5 6, sxG X q = false) : sxWay X sxD6 0 := by
  rw [← Nat.and_zero X]
  show sxWay X sxD6 (X &&& 0)
  refine ⟨X &&& 1, sx_step X 0 0 1 1 rfl rfl, rfl, ?_⟩
  refine ⟨X &&& 3, sx_step X 1 1 3 2 rfl rfl, rfl, ?_⟩
  refine ⟨X &&& 19, sx_step X 3 4 19 16 rfl rfl, rfl, ?_⟩
  refine ⟨X &&& 1043, sx_step X 19 10 1043 1024 rfl rfl, (sx_q_and X 1043 0 1 4 10 (by decide)).trans (h4 (0, 1, 4, 10) (by decide)), ?_⟩
  refine ⟨X &&& 1047, sx_step X 1043 2 1047 4 rfl rfl, rfl, ?_⟩
  refine ⟨X &&& 1079, sx_step X 1047 5 1079 32 rfl rfl, rfl, ?_⟩
  refine ⟨X &&& 3127, sx_step X 1079 11 3127 2048 rfl rfl, (sx_q_and X 3127 0 2 5 11 (by decide)).trans (h4 (0, 2, 5, 11) (by decide)), ?_⟩
  refine ⟨X &&& 3255, sx_step X 3127 7 3255 128 rfl rfl, rfl, ?_⟩
  refine ⟨X &&& 11447, sx_step X 3255 13 11447 8192 rfl rfl, (sx_q_and X 11447 1 2 7 13 (by decide)).trans (h4 (1, 2, 7, 13) (by decide)), ?_⟩
  refine ⟨X &&& 76983, sx_step X 11447 16 76983 65536 rfl rfl, sx_two ((sx_q_and X 76983 4 5 7 16 (by decide)).trans (h4 (4, 5, 7, 16) (by decide))) (sx_two ((sx_q_and X 76983 10 11 13 16 (by decide)).trans (h4 (10, 11, 13, 16) (by decide))) ((sx_f_and X 76983 0 1 2 4 5 7 10 11 13 16 (by decide)).trans (h5 (0, 1, 2, 4, 5, 7, 10, 11, 13, 16) (by decide)))), ?_⟩
  refine ⟨X &&& 76991, sx_step X 76983 3 76991 8 rfl rfl, rfl, ?_⟩
  refine ⟨X &&& 77055, sx_step X 76991 6 77055 64 rfl rfl, rfl, ?_⟩
  refine ⟨X &&& 81151, sx_step X 77055 12 81151 4096 rfl rfl, (sx_q_and X 81151 0 3 6 12 (by decide)).trans (h4 (0, 3, 6, 12) (by decide)), ?_⟩
  refine ⟨X &&& 81407, sx_step X 81151 8 81407 256 rfl rfl, rfl, ?_⟩
  refine ⟨X &&& 97791, sx_step X 81407 14 97791 16384 rfl rfl, (sx_q_and X 97791 1 3 8 14 (by decide)).trans (h4 (1, 3, 8, 14) (by decide)), ?_⟩
  refine ⟨X &&& 228863, sx_step X 97791 17 228863 131072 rfl rfl, sx_two ((sx_q_and X 228863 4 6 8 17 (by decide)).trans (h4 (4, 6, 8, 17) (by decide))) (sx_two ((sx_q_and X 228863 10 12 14 17 (by decide)).trans (h4 (10, 12, 14, 17) (by decide))) ((sx_f_and X 228863 0 1 3 4 6 8 10 12 14 17 (by decide)).trans (h5 (0, 1, 3, 4, 6, 8, 10, 12, 14, 17) (by decide)))), ?_⟩
  refine ⟨X &&& 229375, sx_step X 228863 9 229375 512 rfl rfl, rfl, ?_⟩
  refine ⟨X &&& 262143, sx_step X 229375 15 262143 32768 rfl rfl, (sx_q_and X 262143 2 3 9 15 (by decide)).trans (h4 (2, 3, 9, 15) (by decide)), ?_⟩
  refine ⟨X &&& 524287, sx_step X 262143 18 524287 262144 rfl rfl, sx_two ((sx_q_and X 524287 5 6 9 18 (by decide)).trans (h4 (5, 6, 9, 18) (by decide))) (sx_two ((sx_q_and X 524287 11 12 15 18 (by decide)).trans (h4 (11, 12, 15, 18) (by decide))) ((sx_f_and X 524287 0 2 3 5 6 9 11 12 15 18 (by decide)).trans (h5 (0, 2, 3, 5, 6, 9, 11, 12, 15, 18) (by decide)))), ?_⟩
  refine ⟨X &&& 1048575, sx_step X 524287 19 1048575 524288 rfl rfl, sx_two ((sx_q_and X 1048575 7 8 9 19 (by decide)).trans (h4 (7, 8, 9, 19) (by decide))) (sx_two ((sx_q_and X 1048575 13 14 15 19 (by decide)).trans (h4 (13, 14, 15, 19) (by decide))) (sx_two ((sx_q_and X 1048575 16 17 18 19 (by decide)).trans (h4 (16, 17, 18, 19) (by decide))) (sx_two ((sx_f_and X 1048575 1 2 3 7 8 9 13 14 15 19 (by decide)).trans (h5 (1, 2, 3, 7, 8, 9, 13, 14, 15, 19) (by decide))) (sx_two ((sx_f_and X 1048575 4 5 6 7 8 9 16 17 18 19 (by decide)).trans (h5 (4, 5, 6, 7, 8, 9, 16, 17, 18, 19) (by decide))) ((sx_f_and X 1048575 10 11 12 13 14 15 16 17 18 19 (by decide)).trans (h5 (10, 11, 12, 13, 14, 15, 16, 17, 18, 19) (by decide))))))), ?_⟩
  show X &&& 1048575 = X
  exact (Nat.and_two_pow_sub_one_eq_mod X 20).trans (Nat.mod_eq_of_lt hX)

/-! ### the number of signs -/
def sxC (f : Nat → Bool) : Nat → Nat
  | 0 => 0
  | d + 1 => sxC f d ||| (if f d = true then 2 ^ d else 0)
theorem sx_c (f : Nat → Bool) : ∀ d, sxC f d < 2 ^ d ∧ ∀ y, (sxC f d).testBit y = (decide (y < d) && f y)
  | 0 => ⟨Nat.one_pos, fun y => by simp [sxC]⟩
  | d + 1 => by
    obtain ⟨h1, h2⟩ := sx_c f d
    refine ⟨Nat.or_lt_two_pow (Nat.lt_of_lt_of_le h1 (Nat.pow_le_pow_right (by decide) (by omega))) (by split; exact Nat.pow_lt_pow_right (by decide) (by omega); exact Nat.two_pow_pos _), fun y => ?_⟩
    show (sxC f d ||| _).testBit y = _
    rw [Nat.testBit_or, h2]
    by_cases hy : y = d
    · subst hy
      cases hf : f y
      · simp [hf]
      · simp [hf, Nat.testBit_two_pow]
    · have hb : (if f d = true then 2 ^ d else 0).testBit y = false := by
        split
        · rw [Nat.testBit_two_pow]; exact decide_eq_false (fun h => hy h.symm)
        · exact Nat.zero_testBit y
      rw [hb, Bool.or_false]
      congr 1
      rw [decide_eq_decide]; omega
def sxCode (n : Nat) (s : ByteArray) : Nat := sxC (fun m => decide (bt s (m : Int) = 45)) (cTrips n).length
/-- The sign of a bit. -/
def sxV (b neg : Bool) : Int := if b = true then (if neg = true then 1 else -1) else (if neg = true then -1 else 1)
theorem sx_at (n : Nat) (h3 : 3 ≤ n) (h7 : n ≤ 7) (s : ByteArray) (a b c : Nat) (h : cD3 n a b c) : cAt n s a b c = sxV ((sxCode n s).testBit (cPos n a b c).1) (cPos n a b c).2 := by
  have hp : (cPos n a b c).1 < (cTrips n).length := by
    have hL := fun i j k x y z => c_cI_lt n h3 h7 i j k x y z
    simp only [cD3] at h
    unfold cPos
    split
    · split
      · exact hL _ _ _ (by omega) (by omega) (by omega)
      · split
        · exact hL _ _ _ (by omega) (by omega) (by omega)
        · exact hL _ _ _ (by omega) (by omega) (by omega)
    · split
      · exact hL _ _ _ (by omega) (by omega) (by omega)
      · split
        · exact hL _ _ _ (by omega) (by omega) (by omega)
        · exact hL _ _ _ (by omega) (by omega) (by omega)
  unfold sxCode
  rw [(sx_c _ _).2, decide_eq_true hp, Bool.true_and]
  unfold cAt cSg sxV
  simp only [decide_eq_true_eq]
theorem sx_pos1 (n a b c : Nat) (hab : a < b) (hbc : b < c) : cPos n a b c = (cI n a b c, false) ∧ cPos n b a c = (cI n a b c, true) ∧ cPos n c a b = (cI n a b c, false) := by
  unfold cPos
  refine ⟨?_, ?_, ?_⟩
  · rw [if_pos hab, if_pos hbc]
  · rw [if_neg (by omega), if_pos (by omega)]
  · rw [if_neg (by omega), if_neg (by omega), if_pos hab]
/-- Three ascending elements: their sign in three orders. -/
theorem sx_at3 (n : Nat) (h3 : 3 ≤ n) (h7 : n ≤ 7) (s : ByteArray) (a b c : Nat) (hab : a < b) (hbc : b < c) (hc : c < n) :
    cAt n s a b c = sxV ((sxCode n s).testBit (cI n a b c)) false ∧ cAt n s b a c = sxV ((sxCode n s).testBit (cI n a b c)) true ∧ cAt n s c a b = sxV ((sxCode n s).testBit (cI n a b c)) false := by
  obtain ⟨e1, e2, e3⟩ := sx_pos1 n a b c hab hbc
  refine ⟨?_, ?_, ?_⟩
  · rw [sx_at n h3 h7 s a b c ⟨by omega, by omega, by omega, by omega, by omega, by omega⟩, e1]
  · rw [sx_at n h3 h7 s b a c ⟨by omega, by omega, by omega, by omega, by omega, by omega⟩, e2]
  · rw [sx_at n h3 h7 s c a b ⟨by omega, by omega, by omega, by omega, by omega, by omega⟩, e3]
def sxPl (x0 x1 x2 x3 : Bool) : Bool := decide ((cCirc (sxV x3 false) (sxV x2 false) (sxV x1 false) (sxV x0 false)).toList = ([43, 43, 43, 43] : List UInt8))
def sxBr (x y z u v w : Int) : Bool := if wrap64 (x * y) = wrap64 (z * u) then (wrap64 (z * u) == wrap64 (wrap64 (-v) * w)) else false
theorem sx_q_all : ∀ x0 x1 x2 x3 : Bool, sxPl x0 x1 x2 x3 = false → Nat.beq (Nat.mod (Nat.shiftRight sxT4 (Nat.add x0.toNat (Nat.add (Nat.mul 2 x1.toNat) (Nat.add (Nat.mul 4 x2.toNat) (Nat.mul 8 x3.toNat))))) 2) 1 = false := by decide +kernel
def sxBad (x0 x1 x2 x3 x4 x5 x6 x7 x8 x9 : Bool) : Bool := sxPl x0 x1 x3 x6 || sxPl x0 x2 x4 x7 || sxPl x1 x2 x5 x8 || sxPl x3 x4 x5 x9 || sxPl x6 x7 x8 x9 || sxBr (sxV x0 false) (sxV x5 false) (sxV x2 false) (sxV x3 false) (sxV x1 false) (sxV x4 false) || sxBr (sxV x0 true) (sxV x8 false) (sxV x2 true) (sxV x6 false) (sxV x1 true) (sxV x7 false) || sxBr (sxV x0 false) (sxV x9 false) (sxV x4 true) (sxV x6 true) (sxV x3 true) (sxV x7 true) || sxBr (sxV x1 false) (sxV x9 true) (sxV x5 true) (sxV x6 false) (sxV x3 false) (sxV x8 true) || sxBr (sxV x2 false) (sxV x9 false) (sxV x5 false) (sxV x7 false) (sxV x4 false) (sxV x8 false)
theorem sx_f_all : ∀ x0 x1 x2 x3 x4 x5 x6 x7 x8 x9 : Bool, (sxBad x0 x1 x2 x3 x4 x5 x6 x7 x8 x9 || !Nat.beq (Nat.mod (Nat.shiftRight sxT5 (Nat.add (x0.toNat) (Nat.add (Nat.mul 2 (x1.toNat)) (Nat.add (Nat.mul 4 (x2.toNat)) (Nat.add (Nat.mul 8 (x3.toNat)) (Nat.add (Nat.mul 16 (x4.toNat)) (Nat.add (Nat.mul 32 (x5.toNat)) (Nat.add (Nat.mul 64 (x6.toNat)) (Nat.add (Nat.mul 128 (x7.toNat)) (Nat.add (Nat.mul 256 (x8.toNat)) (Nat.mul 512 (x9.toNat)))))))))))) 2) 1) = true := by decide +kernel
theorem sx_acy4 (n : Nat) (h3 : 3 ≤ n) (h7 : n ≤ 7) (s : ByteArray) (hA : cAcy (n : Int) s = true) (a b c d : Nat) (hab : a < b) (hbc : b < c) (hcd : c < d) (hd : d < n) :
    sxPl ((sxCode n s).testBit (cI n a b c)) ((sxCode n s).testBit (cI n a b d)) ((sxCode n s).testBit (cI n a c d)) ((sxCode n s).testBit (cI n b c d)) = false := by
  have hq : (a, b, c, d) ∈ cQuads n := by
    have : ∀ n ∈ [3, 4, 5, 6, 7], ∀ d ∈ List.range n, ∀ c ∈ List.range d, ∀ b ∈ List.range c, ∀ a ∈ List.range b, (a, b, c, d) ∈ cQuads n := by decide +kernel
    exact this n (c_five n h3 h7) d (by simpa using hd) c (by simpa using hcd) b (by simpa using hbc) a (by simpa using hab)
  unfold cAcy at hA
  rw [Bool.and_eq_true] at hA
  have hN := hA.2
  unfold cNo at hN
  rw [Bool.not_eq_true', Int.toNat_natCast, List.any_eq_false] at hN
  have hp := hN _ hq
  rw [Bool.not_eq_true] at hp
  unfold cPlus cCq at hp
  rw [(sx_at3 n h3 h7 s b c d hbc hcd hd).1, (sx_at3 n h3 h7 s a c d (by omega) hcd hd).1, (sx_at3 n h3 h7 s a b d hab (by omega) hd).1, (sx_at3 n h3 h7 s a b c hab hbc (by omega)).1] at hp
  exact hp
theorem sx_acy5 (n : Nat) (h3 : 3 ≤ n) (h7 : n ≤ 7) (s : ByteArray) (hA : cAcy (n : Int) s = true) (a b c d e : Nat) (h : cD5 n (a, b, c, d, e) = true) (ho : (b, c, d, e) ∈ cQuads n) :
    sxBr (cAt n s a b c) (cAt n s a d e) (cAt n s a b e) (cAt n s a c d) (cAt n s a b d) (cAt n s a c e) = false := by
  have ha : a < n ∧ a ≠ b ∧ a ≠ c ∧ a ≠ d ∧ a ≠ e := by simp only [cD5, decide_eq_true_eq] at h; omega
  have hq : (a, b, c, d, e) ∈ cM0 n 0 n := by
    unfold cM0 cM1
    rw [List.mem_flatMap]
    refine ⟨a, by simp; omega, List.mem_map.mpr ⟨(b, c, d, e), List.mem_filter.mpr ⟨ho, ?_⟩, rfl⟩⟩
    unfold cAvoid; exact decide_eq_true ⟨Ne.symm ha.2.1, Ne.symm ha.2.2.1, Ne.symm ha.2.2.2.1, Ne.symm ha.2.2.2.2⟩
  unfold cAcy at hA
  rw [Bool.and_eq_true] at hA
  have hM := hA.1
  unfold cMat at hM
  rw [Bool.and_eq_true, decide_eq_true_eq, Int.toNat_natCast] at hM
  have hN := hM.2
  unfold cFb at hN
  cases hf : (cM0 n 0 n).find? (cBr n s) with
  | some t => rw [hf] at hN; simp at hN
  | none =>
    have := List.find?_eq_none.mp hf _ hq
    rw [Bool.not_eq_true] at this
    exact this
theorem sx_ok4 (n : Nat) (h3 : 3 ≤ n) (h7 : n ≤ 7) (s : ByteArray) (hA : cAcy (n : Int) s = true) (a b c d : Nat) (hab : a < b) (hbc : b < c) (hcd : c < d) (hd : d < n) :
    sxQ (sxCode n s) (cI n a b c) (cI n a b d) (cI n a c d) (cI n b c d) = false := by
  unfold sxQ
  simp only [sx_b]
  exact sx_q_all _ _ _ _ (sx_acy4 n h3 h7 s hA a b c d hab hbc hcd hd)
theorem sx_ok5 (n : Nat) (h3 : 3 ≤ n) (h7 : n ≤ 7) (s : ByteArray) (hA : cAcy (n : Int) s = true) (a b c d e : Nat) (hab : a < b) (hbc : b < c) (hcd : c < d) (hde : d < e) (he : e < n) :
    sxF (sxCode n s) (cI n a b c) (cI n a b d) (cI n a b e) (cI n a c d) (cI n a c e) (cI n a d e) (cI n b c d) (cI n b c e) (cI n b d e) (cI n c d e) = false := by
  have hm : ∀ n ∈ [3, 4, 5, 6, 7], ∀ d ∈ List.range n, ∀ c ∈ List.range d, ∀ b ∈ List.range c, ∀ a ∈ List.range b, (a, b, c, d) ∈ cQuads n := by decide +kernel
  have hM := fun a b c d (x : a < b) (y : b < c) (z : c < d) (u : d < n) => hm n (c_five n h3 h7) d (by simpa using u) c (by simpa using z) b (by simpa using y) a (by simpa using x)
  have h4 := fun a b c d => sx_acy4 n h3 h7 s hA a b c d
  obtain ⟨u0, v0, w0⟩ := sx_at3 n h3 h7 s a b c (by omega) (by omega) (by omega)
  obtain ⟨u1, v1, w1⟩ := sx_at3 n h3 h7 s a b d (by omega) (by omega) (by omega)
  obtain ⟨u2, v2, w2⟩ := sx_at3 n h3 h7 s a b e (by omega) (by omega) (by omega)
  obtain ⟨u3, v3, w3⟩ := sx_at3 n h3 h7 s a c d (by omega) (by omega) (by omega)
  obtain ⟨u4, v4, w4⟩ := sx_at3 n h3 h7 s a c e (by omega) (by omega) (by omega)
  obtain ⟨u5, v5, w5⟩ := sx_at3 n h3 h7 s a d e (by omega) (by omega) (by omega)
  obtain ⟨u6, v6, w6⟩ := sx_at3 n h3 h7 s b c d (by omega) (by omega) (by omega)
  obtain ⟨u7, v7, w7⟩ := sx_at3 n h3 h7 s b c e (by omega) (by omega) (by omega)
  obtain ⟨u8, v8, w8⟩ := sx_at3 n h3 h7 s b d e (by omega) (by omega) (by omega)
  obtain ⟨u9, v9, w9⟩ := sx_at3 n h3 h7 s c d e (by omega) (by omega) (by omega)
  have k0 := sx_acy5 n h3 h7 s hA a b c d e (by simp only [cD5, decide_eq_true_eq]; omega) (hM _ _ _ _ (by omega) (by omega) (by omega) (by omega))
  rw [u0, u5, u2, u3, u1, u4] at k0
  have k1 := sx_acy5 n h3 h7 s hA b a c d e (by simp only [cD5, decide_eq_true_eq]; omega) (hM _ _ _ _ (by omega) (by omega) (by omega) (by omega))
  rw [v0, u8, v2, u6, v1, u7] at k1
  have k2 := sx_acy5 n h3 h7 s hA c a b d e (by simp only [cD5, decide_eq_true_eq]; omega) (hM _ _ _ _ (by omega) (by omega) (by omega) (by omega))
  rw [w0, u9, v4, v6, v3, v7] at k2
  have k3 := sx_acy5 n h3 h7 s hA d a b c e (by simp only [cD5, decide_eq_true_eq]; omega) (hM _ _ _ _ (by omega) (by omega) (by omega) (by omega))
  rw [w1, v9, v5, w6, w3, v8] at k3
  have k4 := sx_acy5 n h3 h7 s hA e a b c d (by simp only [cD5, decide_eq_true_eq]; omega) (hM _ _ _ _ (by omega) (by omega) (by omega) (by omega))
  rw [w2, w9, w5, w7, w4, w8] at k4
  unfold sxF
  simp only [sx_b]
  have hb : sxBad ((sxCode n s).testBit (cI n a b c)) ((sxCode n s).testBit (cI n a b d)) ((sxCode n s).testBit (cI n a b e)) ((sxCode n s).testBit (cI n a c d)) ((sxCode n s).testBit (cI n a c e)) ((sxCode n s).testBit (cI n a d e)) ((sxCode n s).testBit (cI n b c d)) ((sxCode n s).testBit (cI n b c e)) ((sxCode n s).testBit (cI n b d e)) ((sxCode n s).testBit (cI n c d e)) = false := by
    unfold sxBad
    rw [h4 a b c d (by omega) (by omega) (by omega) (by omega), h4 a b c e (by omega) (by omega) (by omega) (by omega), h4 a b d e (by omega) (by omega) (by omega) (by omega), h4 a c d e (by omega) (by omega) (by omega) (by omega), h4 b c d e (by omega) (by omega) (by omega) (by omega), k0, k1, k2, k3, k4]; rfl
  have h := sx_f_all ((sxCode n s).testBit (cI n a b c)) ((sxCode n s).testBit (cI n a b d)) ((sxCode n s).testBit (cI n a b e)) ((sxCode n s).testBit (cI n a c d)) ((sxCode n s).testBit (cI n a c e)) ((sxCode n s).testBit (cI n a d e)) ((sxCode n s).testBit (cI n b c d)) ((sxCode n s).testBit (cI n b c e)) ((sxCode n s).testBit (cI n b d e)) ((sxCode n s).testBit (cI n c d e))
  rw [hb, Bool.false_or, Bool.not_eq_true'] at h
  exact h
def sxP5 : Nat → List (Nat × Nat × Nat × Nat × Nat)
  | 5 => [(0, 1, 2, 3, 4)]
  | 6 => [(0, 1, 2, 3, 4), (0, 1, 2, 3, 5), (0, 1, 2, 4, 5), (0, 1, 3, 4, 5), (0, 2, 3, 4, 5), (1, 2, 3, 4, 5)]
  | _ => []
theorem sx_l4 : ∀ n ∈ [3, 4, 5, 6], ∀ q ∈ sxL4 n, ∃ p ∈ cQuads n, (p.1 < p.2.1 ∧ p.2.1 < p.2.2.1 ∧ p.2.2.1 < p.2.2.2 ∧ p.2.2.2 < n) ∧ q = (cI n p.1 p.2.1 p.2.2.1, cI n p.1 p.2.1 p.2.2.2, cI n p.1 p.2.2.1 p.2.2.2, cI n p.2.1 p.2.2.1 p.2.2.2) := by decide +kernel
def sxTo (q : Nat × Nat × Nat × Nat × Nat × Nat × Nat × Nat × Nat × Nat) : List Nat := [q.1, q.2.1, q.2.2.1, q.2.2.2.1, q.2.2.2.2.1, q.2.2.2.2.2.1, q.2.2.2.2.2.2.1, q.2.2.2.2.2.2.2.1, q.2.2.2.2.2.2.2.2.1, q.2.2.2.2.2.2.2.2.2]
theorem sx_l5 : ∀ n ∈ [3, 4, 5, 6], ∀ q ∈ sxL5 n, ∃ p ∈ sxP5 n, (p.1 < p.2.1 ∧ p.2.1 < p.2.2.1 ∧ p.2.2.1 < p.2.2.2.1 ∧ p.2.2.2.1 < p.2.2.2.2 ∧ p.2.2.2.2 < n) ∧ sxTo q = [cI n p.1 p.2.1 p.2.2.1, cI n p.1 p.2.1 p.2.2.2.1, cI n p.1 p.2.1 p.2.2.2.2, cI n p.1 p.2.2.1 p.2.2.2.1, cI n p.1 p.2.2.1 p.2.2.2.2, cI n p.1 p.2.2.2.1 p.2.2.2.2, cI n p.2.1 p.2.2.1 p.2.2.2.1, cI n p.2.1 p.2.2.1 p.2.2.2.2, cI n p.2.1 p.2.2.2.1 p.2.2.2.2, cI n p.2.2.1 p.2.2.2.1 p.2.2.2.2] := by decide +kernel
/-- What holds at each number that the search comes to holds of all order signs of at most six elements. -/
theorem sx_all (n : Nat) (h3 : 3 ≤ n) (h6 : n ≤ 6) (s : ByteArray) (hA : cAcy (n : Int) s = true) (P : Nat → Nat → Bool) (p3 : sxRun (P 3) sxD3 0 = true) (p4 : sxRun (P 4) sxD4 0 = true) (p5 : sxRun (P 5) sxD5 0 = true) (p6 : sxRun (P 6) sxD6 0 = true) : P n (sxCode n s) = true := by
  have hX : sxCode n s < 2 ^ (cTrips n).length := (sx_c _ _).1
  have hn : n ∈ [3, 4, 5, 6] := by simp; omega
  have h4 : ∀ q ∈ sxL4 n, sxQ (sxCode n s) q.1 q.2.1 q.2.2.1 q.2.2.2 = false := fun q hq => by
    obtain ⟨p, -, ⟨a, b, c, d⟩, rfl⟩ := sx_l4 n hn q hq
    exact sx_ok4 n h3 (by omega) s hA _ _ _ _ a b c d
  have h5 : ∀ q ∈ sxL5 n, sxG (sxCode n s) q = false := fun q hq => by
    obtain ⟨p, -, ⟨a, b, c, d, e⟩, h⟩ := sx_l5 n hn q hq
    unfold sxTo at h
    simp only [List.cons.injEq, and_true] at h
    obtain ⟨e0, e1, e2, e3, e4, e5, e6, e7, e8, e9⟩ := h
    unfold sxG
    rw [e0, e1, e2, e3, e4, e5, e6, e7, e8, e9]
    exact sx_ok5 n h3 (by omega) s hA _ _ _ _ _ a b c d e
  obtain rfl | rfl | rfl | rfl : n = 3 ∨ n = 4 ∨ n = 5 ∨ n = 6 := by omega
  · exact sx_run_way _ _ _ _ p3 (sx_way3 _ hX)
  · exact sx_run_way _ _ _ _ p4 (sx_way4 _ hX h4)
  · exact sx_run_way _ _ _ _ p5 (sx_way5 _ hX h4 h5)
  · exact sx_run_way _ _ _ _ p6 (sx_way6 _ hX h4 h5)

end Go.Proofs.Ytmidcafamppkeaa.P
