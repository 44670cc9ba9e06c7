-- Printed by a program of this session (wip/tools/myprint.py, over the kit's print.py); not trusted: Lean checks it.
import Derived.Test.YtiimkifkakdalaaP0
import Derived.Test.YtiimkifkakdalaaP68
namespace Go.Proofs.Ytiimkifkakdalaa.P
open Go.RowKit Go.Proofs.YtiimkifkakdalaaW.PrintWords Go.Proofs.YtiimkifkakdalaaW.PrintLast Go.Proofs.YtiimkifkakdalaaW.PrintMore
attribute [local go_sem] max2_int min2_int max_two min_two max_three min_three max_four min_four   -- for this text's walks alone
set_option linter.unusedVariables false
set_option linter.unusedSimpArgs false

attribute [local go_sem] Go.Proofs.Try.underlying115 Go.Proofs.Try.underlying116 Go.Proofs.Try.underlying117 Go.Proofs.Try.underlying119
/-! ### impl_chi_set: function 136 -/
def impl_chi_set.f (l0 : List Int) (a1 : Int) (a2 : Int) (a3 : Int) (a4 : Int) : Option (List Int) := if 0 ≤ a1 then (if a1 < 7 then (if 0 ≤ a2 then (if a2 < 7 then (if 0 ≤ a3 then (if a3 < 7 then (if 344 ≤ (l0.length : Int) then (some ((((((l0.set ((cidx a1 a2 a3) : Int).toNat a4).set ((cidx a2 a3 a1) : Int).toNat a4).set ((cidx a3 a1 a2) : Int).toNat a4).set ((cidx a1 a3 a2) : Int).toNat (wrap64 (-a4))).set ((cidx a3 a2 a1) : Int).toNat (wrap64 (-a4))).set ((cidx a2 a1 a3) : Int).toNat (wrap64 (-a4)))) else (none)) else (none)) else (none)) else (none)) else (none)) else (none)) else (none)
def impl_chi_set.T0 : Bool × List (List Nat × List Nat) := (true, [([], []), ([], []), ([], []), ([], []), ([], []), ([], []), ([], []), ([], []), ([], []), ([], []), ([], []), ([], []), ([], []), ([], []), ([], []), ([0], [0]), ([15], [15]), ([16, 1], [1, 16]), ([17, 2], [2, 17]), ([18, 3, 0, 1, 2, 3, 12], [3, 18]), ([19, 12, 0, 1, 2, 3, 12], [12, 19]), ([4], [4]), ([21], [21]), ([22, 5], [5, 22]), ([23, 6], [6, 23]), ([24, 7, 0, 1, 2, 3, 4, 5, 6, 7, 12, 13, 15, 16, 17, 18, 19, 20], [7, 24]), ([25, 13, 20, 0, 1, 2, 3, 4, 5, 6, 7, 12, 13, 15, 16, 17, 18, 19, 20], [13, 25]), ([8], [8]), ([27], [27]), ([28, 9], [9, 28]), ([29, 10], [10, 29]), ([30, 11, 0, 1, 2, 3, 4, 5, 6, 7, 8, 9, 10, 11, 12, 13, 14, 15, 16, 17, 18, 19, 20, 21, 22, 23, 24, 25, 26], [11, 30]), ([31, 14, 26, 0, 1, 2, 3, 4, 5, 6, 7, 8, 9, 10, 11, 12, 13, 14, 15, 16, 17, 18, 19, 20, 21, 22, 23, 24, 25, 26], [14, 31])])
def impl_chi_set.B0 : List Nat := [0, 0, 0, 0, 0, 0, 0, 0, 0, 0, 0, 0, 0, 0, 0, 1, 32769, 98307, 229383, 495631, 1019919, 16, 2097168, 6291504, 14680176, 33534207, 67088639, 256, 134217984, 402653952, 939525888, 2147483647, 4294967295]
theorem impl_chi_set.tab0 : rtab .any (opsOf Try.f136 0) = impl_chi_set.T0 := by kernel_rfl
theorem impl_chi_set.bits0 : waitsOk impl_chi_set.T0.2 impl_chi_set.B0 = true := by kernel_rfl
def impl_chi_set.T1 : Bool × List (List Nat × List Nat) := (true, [([], []), ([], []), ([], []), ([], []), ([], []), ([], []), ([], []), ([], []), ([], []), ([], []), ([], []), ([], []), ([], []), ([12], [12]), ([], []), ([14], [14]), ([], []), ([16], [16]), ([0], [0]), ([18], [18]), ([19, 1], [1, 19]), ([20, 2], [2, 20]), ([21, 3, 0, 1, 2, 3, 12, 13], [3, 21]), ([22, 13, 0, 1, 2, 3, 12, 13], [13, 22]), ([4], [4]), ([24], [24]), ([25, 5], [5, 25]), ([26, 6], [6, 26]), ([27, 7, 0, 1, 2, 3, 4, 5, 6, 7, 12, 13, 14, 15, 18, 19, 20, 21, 22, 23], [7, 27]), ([28, 15, 23, 0, 1, 2, 3, 4, 5, 6, 7, 12, 13, 14, 15, 18, 19, 20, 21, 22, 23], [15, 28]), ([8], [8]), ([30], [30]), ([31, 9], [9, 31]), ([32, 10], [10, 32]), ([33, 11, 0, 1, 2, 3, 4, 5, 6, 7, 8, 9, 10, 11, 12, 13, 14, 15, 16, 17, 18, 19, 20, 21, 22, 23, 24, 25, 26, 27, 28, 29], [11, 33]), ([34, 17, 29, 0, 1, 2, 3, 4, 5, 6, 7, 8, 9, 10, 11, 12, 13, 14, 15, 16, 17, 18, 19, 20, 21, 22, 23, 24, 25, 26, 27, 28, 29], [17, 34])])
def impl_chi_set.B1 : List Nat := [0, 0, 0, 0, 0, 0, 0, 0, 0, 0, 0, 0, 0, 4096, 0, 16384, 0, 65536, 1, 262145, 786435, 1835015, 3944463, 8138767, 16, 16777232, 50331696, 117440624, 268235007, 536670463, 256, 1073742080, 3221226240, 7516194560, 17179869183, 34359738367]
theorem impl_chi_set.tab1 : rtab .any (opsOf Try.f136 1) = impl_chi_set.T1 := by kernel_rfl
theorem impl_chi_set.bits1 : waitsOk impl_chi_set.T1.2 impl_chi_set.B1 = true := by kernel_rfl
set_option maxHeartbeats 8000000 in
set_option maxRecDepth 100000 in
theorem impl_chi_set.calls (P0_ : Nat → Prop) (u9000_ : Value) (l0 : List Int) (a1 : Int) (a2 : Int) (a3 : Int) (a4 : Int) (r : List Int) (w0 w : World) (hB : Below w0.heap.size w0 w) (ho0 : Kd.R (Kd.int .i64) 119 w w0.heap.size P0_ u9000_ l0) (h : impl_chi_set.f l0 a1 a2 a3 a4 = some r) :
  Calls Try.prog 136 #[pv u9000_, .int .i64 a1, .int .i64 a2, .int .i64 a3, .int .i64 a4] w fun e w' => e = .returned (.tuple #[]) ∧ Kd.R (Kd.int .i64) 119 w' w0.heap.size (fun k_ => (P0_ k_ ∨ w.heap.size ≤ k_)) u9000_ r ∧ Below w0.heap.size w0 w' ∧ Kept w w' (fun k_ => P0_ k_) := by
 have HO0 := Aside0.mk (show Kd.R (Kd.int .i64) 119 w w0.heap.size (fun k_ => (P0_ k_ ∨ w.heap.size ≤ k_)) u9000_ l0 from Kd.R_mono ho0 (fun k_ hk => (.inl hk)))
 have HK := Aside0.mk (Kept.refl w (fun k_ => P0_ k_))
 have HW0 := Aside0.mk hB.size
 have HB := Aside0.mk hB
 clear hB
 have H : (if 0 ≤ a1 then (if a1 < 7 then (if 0 ≤ a2 then (if a2 < 7 then (if 0 ≤ a3 then (if a3 < 7 then (if 344 ≤ (l0.length : Int) then (some ((((((l0.set ((cidx a1 a2 a3) : Int).toNat a4).set ((cidx a2 a3 a1) : Int).toNat a4).set ((cidx a3 a1 a2) : Int).toNat a4).set ((cidx a1 a3 a2) : Int).toNat (wrap64 (-a4))).set ((cidx a3 a2 a1) : Int).toNat (wrap64 (-a4))).set ((cidx a2 a1 a3) : Int).toNat (wrap64 (-a4)))) else (none)) else (none)) else (none)) else (none)) else (none)) else (none)) else (none)) = some r := h
 clear h
 by_cases c6 : 0 ≤ a1
 ·rw [if_pos c6] at H
  have c6b0 : decide (0 ≤ a1) = true := decide_eq_true c6
  clear c6
  by_cases c7 : a1 < 7
  ·rw [if_pos c7] at H
   have c7b0 : decide (a1 < 7) = true := decide_eq_true c7
   clear c7
   by_cases c8 : 0 ≤ a2
   ·rw [if_pos c8] at H
    have c8b0 : decide (0 ≤ a2) = true := decide_eq_true c8
    clear c8
    by_cases c9 : a2 < 7
    ·rw [if_pos c9] at H
     have c9b0 : decide (a2 < 7) = true := decide_eq_true c9
     clear c9
     by_cases c10 : 0 ≤ a3
     ·rw [if_pos c10] at H
      have c10b0 : decide (0 ≤ a3) = true := decide_eq_true c10
      clear c10
      by_cases c11 : a3 < 7
      ·rw [if_pos c11] at H
       have c11b0 : decide (a3 < 7) = true := decide_eq_true c11
       clear c11
       by_cases c12 : 344 ≤ (l0.length : Int)
       ·rw [if_pos c12] at H
        have c12b0 := eq_true c12
        have c12b1 : decide (344 ≤ (l0.length : Int)) = true := decide_eq_true c12
        clear c12
        obtain ⟨y269, hy269⟩ : ∃ y_ : List Int, y_ = (l0.set ((cidx a1 a2 a3) : Int).toNat a4) := ⟨_, rfl⟩
        replace H : (some (((((y269.set ((cidx a2 a3 a1) : Int).toNat a4).set ((cidx a3 a1 a2) : Int).toNat a4).set ((cidx a1 a3 a2) : Int).toNat (wrap64 (-a4))).set ((cidx a3 a2 a1) : Int).toNat (wrap64 (-a4))).set ((cidx a2 a1 a3) : Int).toNat (wrap64 (-a4)))) = some r := by first | (rw [hy269]; with_reducible exact H) | (have H2_ := (Option.bind_some _ _).symm.trans H; rw [hy269]; with_reducible exact H2_) | (have H2_ := (Option.bind_some _ _).symm.trans H; with_reducible exact H2_) | with_reducible exact H | (rw [hy269]; exact H) | exact H
        have Ny269 := Aside0.mk hy269
        clear hy269
        have c14b0 := eq_true (of_decide_eq_true (by first | (with_reducible assumption) | assumption) : 344 ≤ (l0.length : Int))
        obtain ⟨y270, hy270⟩ : ∃ y_ : List Int, y_ = (y269.set ((cidx a2 a3 a1) : Int).toNat a4) := ⟨_, rfl⟩
        replace H : (some ((((y270.set ((cidx a3 a1 a2) : Int).toNat a4).set ((cidx a1 a3 a2) : Int).toNat (wrap64 (-a4))).set ((cidx a3 a2 a1) : Int).toNat (wrap64 (-a4))).set ((cidx a2 a1 a3) : Int).toNat (wrap64 (-a4)))) = some r := by first | (rw [hy270]; with_reducible exact H) | (have H2_ := (Option.bind_some _ _).symm.trans H; rw [hy270]; with_reducible exact H2_) | (have H2_ := (Option.bind_some _ _).symm.trans H; with_reducible exact H2_) | with_reducible exact H | (rw [hy270]; exact H) | exact H
        have Ny270 := Aside0.mk hy270
        clear hy270
        have c16b0 := eq_true (of_decide_eq_true (by first | (with_reducible assumption) | assumption) : 344 ≤ (l0.length : Int))
        obtain ⟨y271, hy271⟩ : ∃ y_ : List Int, y_ = (y270.set ((cidx a3 a1 a2) : Int).toNat a4) := ⟨_, rfl⟩
        replace H : (some (((y271.set ((cidx a1 a3 a2) : Int).toNat (wrap64 (-a4))).set ((cidx a3 a2 a1) : Int).toNat (wrap64 (-a4))).set ((cidx a2 a1 a3) : Int).toNat (wrap64 (-a4)))) = some r := by first | (rw [hy271]; with_reducible exact H) | (have H2_ := (Option.bind_some _ _).symm.trans H; rw [hy271]; with_reducible exact H2_) | (have H2_ := (Option.bind_some _ _).symm.trans H; with_reducible exact H2_) | with_reducible exact H | (rw [hy271]; exact H) | exact H
        have Ny271 := Aside0.mk hy271
        clear hy271
        have c18b0 := eq_true (of_decide_eq_true (by first | (with_reducible assumption) | assumption) : 344 ≤ (l0.length : Int))
        obtain ⟨y272, hy272⟩ : ∃ y_ : List Int, y_ = (y271.set ((cidx a1 a3 a2) : Int).toNat (wrap64 (-a4))) := ⟨_, rfl⟩
        replace H : (some ((y272.set ((cidx a3 a2 a1) : Int).toNat (wrap64 (-a4))).set ((cidx a2 a1 a3) : Int).toNat (wrap64 (-a4)))) = some r := by first | (rw [hy272]; with_reducible exact H) | (have H2_ := (Option.bind_some _ _).symm.trans H; rw [hy272]; with_reducible exact H2_) | (have H2_ := (Option.bind_some _ _).symm.trans H; with_reducible exact H2_) | with_reducible exact H | (rw [hy272]; exact H) | exact H
        have Ny272 := Aside0.mk hy272
        clear hy272
        have c20b0 := eq_true (of_decide_eq_true (by first | (with_reducible assumption) | assumption) : 344 ≤ (l0.length : Int))
        obtain ⟨y273, hy273⟩ : ∃ y_ : List Int, y_ = (y272.set ((cidx a3 a2 a1) : Int).toNat (wrap64 (-a4))) := ⟨_, rfl⟩
        replace H : (some (y273.set ((cidx a2 a1 a3) : Int).toNat (wrap64 (-a4)))) = some r := by first | (rw [hy273]; with_reducible exact H) | (have H2_ := (Option.bind_some _ _).symm.trans H; rw [hy273]; with_reducible exact H2_) | (have H2_ := (Option.bind_some _ _).symm.trans H; with_reducible exact H2_) | with_reducible exact H | (rw [hy273]; exact H) | exact H
        have Ny273 := Aside0.mk hy273
        clear hy273
        have c22b0 := eq_true (of_decide_eq_true (by first | (with_reducible assumption) | assumption) : 344 ≤ (l0.length : Int))
        obtain ⟨y274, hy274⟩ : ∃ y_ : List Int, y_ = (y273.set ((cidx a2 a1 a3) : Int).toNat (wrap64 (-a4))) := ⟨_, rfl⟩
        replace H : (some y274) = some r := by first | (rw [hy274]; with_reducible exact H) | (have H2_ := (Option.bind_some _ _).symm.trans H; rw [hy274]; with_reducible exact H2_) | (have H2_ := (Option.bind_some _ _).symm.trans H; with_reducible exact H2_) | with_reducible exact H | (rw [hy274]; exact H) | exact H
        have Ny274 := Aside0.mk hy274
        clear hy274
        obtain rfl := Option.some.inj H
        go_enter Try.func136, Try.ntmps136
        try go_wp2
        have n0_ := Aside0.mk (Kd.R_drew HO0.out)
        have n1_ := Aside0.mk (Kept.drew HK.out)
        have n2_ := Aside0.mk (below_drew1 HB.out)
        clear HO0
        clear HK
        clear HB
        have HO0 := n0_
        have HK := n1_
        have HB := n2_
        clear n0_ n1_ n2_
        have cp13_0 : 0 ≤ (a1 : Int) := of_decide_eq_true (by first | (with_reducible assumption) | assumption)
        have cq13_0 : (a1 : Int) < 7 := of_decide_eq_true (by first | (with_reducible assumption) | assumption)
        have cp13_1 : 0 ≤ (a2 : Int) := of_decide_eq_true (by first | (with_reducible assumption) | assumption)
        have cq13_1 : (a2 : Int) < 7 := of_decide_eq_true (by first | (with_reducible assumption) | assumption)
        have cp13_2 : 0 ≤ (a3 : Int) := of_decide_eq_true (by first | (with_reducible assumption) | assumption)
        have cq13_2 : (a3 : Int) < 7 := of_decide_eq_true (by first | (with_reducible assumption) | assumption)
        have cl13 : (344 : Int) ≤ ((l0.length : Int) : Int) := (by first | exact of_decide_eq_true (by first | (with_reducible assumption) | assumption) | exact of_eq_true (by first | (with_reducible assumption) | assumption))
        have p13 : 0 ≤ ((cidx a1 a2 a3) : Int) := cidx_nonneg _ _ _
        have q13 : ((cidx a1 a2 a3) : Int) < ((l0.length : Int) : Int) := cidx_lt cq13_0 cq13_1 cq13_2 cl13
        replace cp13_0 := eq_true cp13_0
        replace cq13_0 := eq_true cq13_0
        replace cp13_1 := eq_true cp13_1
        replace cq13_1 := eq_true cq13_1
        replace cp13_2 := eq_true cp13_2
        replace cq13_2 := eq_true cq13_2
        obtain ⟨go13, co13, eo13, gb13, gl13, cl13, HG13⟩ := Kd.R_form HO0.out (by omega)
        (first | cases eo13 | (injection eo13 with ea_ en_ ec_; (first | subst ea_ | (injection ea_ with ea_; subst ea_)); subst ec_; clear en_))
        have GB13 := Aside0.mk gb13
        have GG13 := Aside0.mk HG13
        clear gb13 gl13 HG13
        have HMgo13 := Aside0.mk (show (P0_ go13 ∨ w.heap.size ≤ go13) from (HO0.out.1 _ rfl))
        obtain ⟨hx13_0, hf13_0⟩ := Kd.R_celln 0 HO0.out ((cidx a1 a2 a3) : Int) p13 q13
        simp only [cidx_nat] at hx13_0 hf13_0
        replace p13 := eq_true p13
        replace q13 := eq_true q13
        have HP25 := Kd.R_putn HO0.out ((cidx a1 a2 a3) : Int) a4
        rw [← Ny269.out] at HP25
        have HQ25 := Aside0.mk HP25
        clear HP25
        have cp15_0 : 0 ≤ (a2 : Int) := of_decide_eq_true (by first | (with_reducible assumption) | assumption)
        have cq15_0 : (a2 : Int) < 7 := of_decide_eq_true (by first | (with_reducible assumption) | assumption)
        have cp15_1 : 0 ≤ (a3 : Int) := of_decide_eq_true (by first | (with_reducible assumption) | assumption)
        have cq15_1 : (a3 : Int) < 7 := of_decide_eq_true (by first | (with_reducible assumption) | assumption)
        have cp15_2 : 0 ≤ (a1 : Int) := of_decide_eq_true (by first | (with_reducible assumption) | assumption)
        have cq15_2 : (a1 : Int) < 7 := of_decide_eq_true (by first | (with_reducible assumption) | assumption)
        have cl15 : (344 : Int) ≤ ((l0.length : Int) : Int) := (by first | exact of_decide_eq_true (by first | (with_reducible assumption) | assumption) | exact of_eq_true (by first | (with_reducible assumption) | assumption))
        have p15 : 0 ≤ ((cidx a2 a3 a1) : Int) := cidx_nonneg _ _ _
        have q15 : ((cidx a2 a3 a1) : Int) < ((l0.length : Int) : Int) := cidx_lt cq15_0 cq15_1 cq15_2 cl15
        replace cp15_0 := eq_true cp15_0
        replace cq15_0 := eq_true cq15_0
        replace cp15_1 := eq_true cp15_1
        replace cq15_1 := eq_true cq15_1
        replace cp15_2 := eq_true cp15_2
        replace cq15_2 := eq_true cq15_2
        obtain ⟨hx15_0, hf15_0⟩ := Kd.R_celln 0 HQ25.out ((cidx a2 a3 a1) : Int) p15 q15
        simp only [cidx_nat] at hx15_0 hf15_0
        replace p15 := eq_true p15
        replace q15 := eq_true q15
        have HP26 := Kd.R_putn HQ25.out ((cidx a2 a3 a1) : Int) a4
        rw [← Ny270.out] at HP26
        have HQ26 := Aside0.mk HP26
        clear HP26
        have cp17_0 : 0 ≤ (a3 : Int) := of_decide_eq_true (by first | (with_reducible assumption) | assumption)
        have cq17_0 : (a3 : Int) < 7 := of_decide_eq_true (by first | (with_reducible assumption) | assumption)
        have cp17_1 : 0 ≤ (a1 : Int) := of_decide_eq_true (by first | (with_reducible assumption) | assumption)
        have cq17_1 : (a1 : Int) < 7 := of_decide_eq_true (by first | (with_reducible assumption) | assumption)
        have cp17_2 : 0 ≤ (a2 : Int) := of_decide_eq_true (by first | (with_reducible assumption) | assumption)
        have cq17_2 : (a2 : Int) < 7 := of_decide_eq_true (by first | (with_reducible assumption) | assumption)
        have cl17 : (344 : Int) ≤ ((l0.length : Int) : Int) := (by first | exact of_decide_eq_true (by first | (with_reducible assumption) | assumption) | exact of_eq_true (by first | (with_reducible assumption) | assumption))
        have p17 : 0 ≤ ((cidx a3 a1 a2) : Int) := cidx_nonneg _ _ _
        have q17 : ((cidx a3 a1 a2) : Int) < ((l0.length : Int) : Int) := cidx_lt cq17_0 cq17_1 cq17_2 cl17
        replace cp17_0 := eq_true cp17_0
        replace cq17_0 := eq_true cq17_0
        replace cp17_1 := eq_true cp17_1
        replace cq17_1 := eq_true cq17_1
        replace cp17_2 := eq_true cp17_2
        replace cq17_2 := eq_true cq17_2
        obtain ⟨hx17_0, hf17_0⟩ := Kd.R_celln 0 HQ26.out ((cidx a3 a1 a2) : Int) p17 q17
        simp only [cidx_nat] at hx17_0 hf17_0
        replace p17 := eq_true p17
        replace q17 := eq_true q17
        have HP27 := Kd.R_putn HQ26.out ((cidx a3 a1 a2) : Int) a4
        rw [← Ny271.out] at HP27
        have HQ27 := Aside0.mk HP27
        clear HP27
        refine start_ (n := 33) (S := fun w' => True) (ds := [20, 26, 32]) #[false, false, false, false, false, false, false, false, false, false, false, false, false, false, false, false, false, false, false, false, false, false, false, false, false, false, false, false, false, false, false, false, false] (by kernel_rfl) rfl rfl trivial (fun hHeld => ?_); refine with_tabW impl_chi_set.tab0 impl_chi_set.bits0 (fun HT_ HW_ => ?_)
        generalize w.drew = w24 at HO0 HK HB GG13 HQ25 HQ26 HQ27 hf13_0 hf15_0 hf17_0 hx13_0 hx15_0 hx17_0 hHeld ⊢
        refine pu 0 10 HT_ ?_
        refine pu 1 11 HT_ ?_
        refine pu 2 12 HT_ ?_
        refine pu 3 13 HT_ ?_
        refine pu 4 14 HT_ ?_
        refine pu 5 15 HT_ ?_
        refine pu 6 16 HT_ ?_
        refine pu 7 17 HT_ ?_
        refine pu 8 18 HT_ ?_
        refine pu 9 19 HT_ ?_
        refine pu 10 20 HT_ ?_
        refine pu 11 21 HT_ ?_
        refine pu 12 22 HT_ ?_
        refine pu 13 23 HT_ ?_
        refine pu 14 24 HT_ ?_
        refine pu 15 25 HT_ ?_
        refine pu 16 26 HT_ ?_
        refine pu 17 27 HT_ ?_
        refine pu 18 28 HT_ ?_
        refine pu 19 29 HT_ ?_
        refine pu 21 30 HT_ ?_
        refine pu 22 31 HT_ ?_
        refine pu 23 32 HT_ ?_
        refine pu 24 33 HT_ ?_
        refine pu 27 35 HT_ ?_
        refine pu 28 36 HT_ ?_
        refine pu 29 37 HT_ ?_
        refine pu 30 38 HT_ ?_
        refine last_ (i := 20) (N := none) #[true, true, true, true, true, true, true, true, true, true, true, true, true, true, true, true, true, true, true, true, true, true, true, true, true, false, false, true, true, true, true, false, false] rfl rfl (one_of HT_.out (by kernel_rfl)) (by decide) (fun K hK => ?_)
        refine skip_ (w1 := ?_) (by rfl) rfl ?_ ?_
        rotate_left
        ·go_simp
         rfl
        refine hK.out _ _ ?_
        clear hK K
        refine pu 25 34 HT_ ?_
        refine last_ (i := 26) (N := none) #[true, true, true, true, true, true, true, true, true, true, true, true, true, true, true, true, true, true, true, true, true, true, true, true, true, true, true, true, true, true, true, false, false] rfl rfl (one_of HT_.out (by kernel_rfl)) (by decide) (fun K hK => ?_)
        refine skip_ (w1 := ?_) (by rfl) rfl ?_ ?_
        rotate_left
        ·go_simp
         rfl
        refine hK.out _ _ ?_
        clear hK K
        refine pu 31 39 HT_ ?_
        refine last_ (i := 32) (N := none) #[true, true, true, true, true, true, true, true, true, true, true, true, true, true, true, true, true, true, true, true, true, true, true, true, true, true, true, true, true, true, true, true, true] rfl rfl (one_of HT_.out (by kernel_rfl)) (by decide) (fun K hK => ?_)
        refine skip_ (w1 := ?_) (by rfl) rfl ?_ ?_
        rotate_left
        ·go_simp
         rfl
        refine hK.out _ _ ?_
        clear hK K
        refine done_ (done_of HT_.out (by kernel_rfl)) ?_
        try go_wp2
        have n0_ : Aside0 (Kd.R (Kd.int .i64) 119 (((w24.setCell ⟨go13, (1 + (a1 : Int).toNat * 49 + (a2 : Int).toNat * 7 + (a3 : Int).toNat), none⟩ (.int .i64 a4)).setCell ⟨go13, (1 + (a2 : Int).toNat * 49 + (a3 : Int).toNat * 7 + (a1 : Int).toNat), none⟩ (.int .i64 a4)).setCell ⟨go13, (1 + (a3 : Int).toNat * 49 + (a1 : Int).toNat * 7 + (a2 : Int).toNat), none⟩ (.int .i64 a4)) w0.heap.size (fun k_ => (P0_ k_ ∨ w.heap.size ≤ k_)) (.slice (some ⟨go13, 0, none⟩) l0.length co13) y271) := ⟨by (with_reducible repeat (first | apply Kd.R_alloc | apply Kd.R_drewN | apply Kd.R_drew)); exact HQ27.out⟩
        have n1_ : Aside0 (Kept w (((w24.setCell ⟨go13, (1 + (a1 : Int).toNat * 49 + (a2 : Int).toNat * 7 + (a3 : Int).toNat), none⟩ (.int .i64 a4)).setCell ⟨go13, (1 + (a2 : Int).toNat * 49 + (a3 : Int).toNat * 7 + (a1 : Int).toNat), none⟩ (.int .i64 a4)).setCell ⟨go13, (1 + (a3 : Int).toNat * 49 + (a1 : Int).toNat * 7 + (a2 : Int).toNat), none⟩ (.int .i64 a4)) (fun k_ => P0_ k_)) := ⟨by repeat (first | (with_reducible first | exact HK.out | apply Kept.alloc | apply Kept.drewN | apply Kept.drew | refine Kept.setCell ?_ HMgo13.out _ | refine Kept.setCell ?_ HMgo13.out _ | refine Kept.setCell ?_ HMgo13.out _) | exact HK.out)⟩
        have n2_ : Aside0 (Below w0.heap.size w0 (((w24.setCell ⟨go13, (1 + (a1 : Int).toNat * 49 + (a2 : Int).toNat * 7 + (a3 : Int).toNat), none⟩ (.int .i64 a4)).setCell ⟨go13, (1 + (a2 : Int).toNat * 49 + (a3 : Int).toNat * 7 + (a1 : Int).toNat), none⟩ (.int .i64 a4)).setCell ⟨go13, (1 + (a3 : Int).toNat * 49 + (a1 : Int).toNat * 7 + (a2 : Int).toNat), none⟩ (.int .i64 a4))) := ⟨by repeat (first | (with_reducible first | exact HB.out | apply below_alloc | apply pw_below_drewN | apply below_drew1 | refine below_set ?_ GB13.out | refine below_set ?_ GB13.out | refine below_set ?_ GB13.out) | exact HB.out)⟩
        (try clear HO0)
        (try clear HK)
        (try clear HB)
        generalize (((w24.setCell ⟨go13, (1 + (a1 : Int).toNat * 49 + (a2 : Int).toNat * 7 + (a3 : Int).toNat), none⟩ (.int .i64 a4)).setCell ⟨go13, (1 + (a2 : Int).toNat * 49 + (a3 : Int).toNat * 7 + (a1 : Int).toNat), none⟩ (.int .i64 a4)).setCell ⟨go13, (1 + (a3 : Int).toNat * 49 + (a1 : Int).toNat * 7 + (a2 : Int).toNat), none⟩ (.int .i64 a4)) = w28 at n0_ n1_ n2_ ⊢
        have HO0 := n0_
        have HK := n1_
        have HB := n2_
        clear n0_ n1_ n2_
        have n0_ := Aside0.mk (Kd.R_drew HO0.out)
        have n1_ := Aside0.mk (Kept.drew HK.out)
        have n2_ := Aside0.mk (below_drew1 HB.out)
        clear HO0
        clear HK
        clear HB
        have HO0 := n0_
        have HK := n1_
        have HB := n2_
        clear n0_ n1_ n2_
        have cp19_0 : 0 ≤ (a1 : Int) := of_decide_eq_true (by first | (with_reducible assumption) | assumption)
        have cq19_0 : (a1 : Int) < 7 := of_decide_eq_true (by first | (with_reducible assumption) | assumption)
        have cp19_1 : 0 ≤ (a3 : Int) := of_decide_eq_true (by first | (with_reducible assumption) | assumption)
        have cq19_1 : (a3 : Int) < 7 := of_decide_eq_true (by first | (with_reducible assumption) | assumption)
        have cp19_2 : 0 ≤ (a2 : Int) := of_decide_eq_true (by first | (with_reducible assumption) | assumption)
        have cq19_2 : (a2 : Int) < 7 := of_decide_eq_true (by first | (with_reducible assumption) | assumption)
        have cl19 : (344 : Int) ≤ ((l0.length : Int) : Int) := (by first | exact of_decide_eq_true (by first | (with_reducible assumption) | assumption) | exact of_eq_true (by first | (with_reducible assumption) | assumption))
        have p19 : 0 ≤ ((cidx a1 a3 a2) : Int) := cidx_nonneg _ _ _
        have q19 : ((cidx a1 a3 a2) : Int) < ((l0.length : Int) : Int) := cidx_lt cq19_0 cq19_1 cq19_2 cl19
        replace cp19_0 := eq_true cp19_0
        replace cq19_0 := eq_true cq19_0
        replace cp19_1 := eq_true cp19_1
        replace cq19_1 := eq_true cq19_1
        replace cp19_2 := eq_true cp19_2
        replace cq19_2 := eq_true cq19_2
        obtain ⟨hx19_0, hf19_0⟩ := Kd.R_celln 0 HO0.out ((cidx a1 a3 a2) : Int) p19 q19
        simp only [cidx_nat] at hx19_0 hf19_0
        replace p19 := eq_true p19
        replace q19 := eq_true q19
        have HP30 := Kd.R_putn HO0.out ((cidx a1 a3 a2) : Int) (wrap64 (-a4))
        rw [← Ny272.out] at HP30
        have HQ30 := Aside0.mk HP30
        clear HP30
        have cp21_0 : 0 ≤ (a3 : Int) := of_decide_eq_true (by first | (with_reducible assumption) | assumption)
        have cq21_0 : (a3 : Int) < 7 := of_decide_eq_true (by first | (with_reducible assumption) | assumption)
        have cp21_1 : 0 ≤ (a2 : Int) := of_decide_eq_true (by first | (with_reducible assumption) | assumption)
        have cq21_1 : (a2 : Int) < 7 := of_decide_eq_true (by first | (with_reducible assumption) | assumption)
        have cp21_2 : 0 ≤ (a1 : Int) := of_decide_eq_true (by first | (with_reducible assumption) | assumption)
        have cq21_2 : (a1 : Int) < 7 := of_decide_eq_true (by first | (with_reducible assumption) | assumption)
        have cl21 : (344 : Int) ≤ ((l0.length : Int) : Int) := (by first | exact of_decide_eq_true (by first | (with_reducible assumption) | assumption) | exact of_eq_true (by first | (with_reducible assumption) | assumption))
        have p21 : 0 ≤ ((cidx a3 a2 a1) : Int) := cidx_nonneg _ _ _
        have q21 : ((cidx a3 a2 a1) : Int) < ((l0.length : Int) : Int) := cidx_lt cq21_0 cq21_1 cq21_2 cl21
        replace cp21_0 := eq_true cp21_0
        replace cq21_0 := eq_true cq21_0
        replace cp21_1 := eq_true cp21_1
        replace cq21_1 := eq_true cq21_1
        replace cp21_2 := eq_true cp21_2
        replace cq21_2 := eq_true cq21_2
        obtain ⟨hx21_0, hf21_0⟩ := Kd.R_celln 0 HQ30.out ((cidx a3 a2 a1) : Int) p21 q21
        simp only [cidx_nat] at hx21_0 hf21_0
        replace p21 := eq_true p21
        replace q21 := eq_true q21
        have HP31 := Kd.R_putn HQ30.out ((cidx a3 a2 a1) : Int) (wrap64 (-a4))
        rw [← Ny273.out] at HP31
        have HQ31 := Aside0.mk HP31
        clear HP31
        have cp23_0 : 0 ≤ (a2 : Int) := of_decide_eq_true (by first | (with_reducible assumption) | assumption)
        have cq23_0 : (a2 : Int) < 7 := of_decide_eq_true (by first | (with_reducible assumption) | assumption)
        have cp23_1 : 0 ≤ (a1 : Int) := of_decide_eq_true (by first | (with_reducible assumption) | assumption)
        have cq23_1 : (a1 : Int) < 7 := of_decide_eq_true (by first | (with_reducible assumption) | assumption)
        have cp23_2 : 0 ≤ (a3 : Int) := of_decide_eq_true (by first | (with_reducible assumption) | assumption)
        have cq23_2 : (a3 : Int) < 7 := of_decide_eq_true (by first | (with_reducible assumption) | assumption)
        have cl23 : (344 : Int) ≤ ((l0.length : Int) : Int) := (by first | exact of_decide_eq_true (by first | (with_reducible assumption) | assumption) | exact of_eq_true (by first | (with_reducible assumption) | assumption))
        have p23 : 0 ≤ ((cidx a2 a1 a3) : Int) := cidx_nonneg _ _ _
        have q23 : ((cidx a2 a1 a3) : Int) < ((l0.length : Int) : Int) := cidx_lt cq23_0 cq23_1 cq23_2 cl23
        replace cp23_0 := eq_true cp23_0
        replace cq23_0 := eq_true cq23_0
        replace cp23_1 := eq_true cp23_1
        replace cq23_1 := eq_true cq23_1
        replace cp23_2 := eq_true cp23_2
        replace cq23_2 := eq_true cq23_2
        obtain ⟨hx23_0, hf23_0⟩ := Kd.R_celln 0 HQ31.out ((cidx a2 a1 a3) : Int) p23 q23
        simp only [cidx_nat] at hx23_0 hf23_0
        replace p23 := eq_true p23
        replace q23 := eq_true q23
        have HP32 := Kd.R_putn HQ31.out ((cidx a2 a1 a3) : Int) (wrap64 (-a4))
        rw [← Ny274.out] at HP32
        have HQ32 := Aside0.mk HP32
        clear HP32
        refine start_ (n := 36) (S := fun w' => True) (ds := [23, 29, 35]) #[false, false, false, false, false, false, false, false, false, false, false, false, false, false, false, false, false, false, false, false, false, false, false, false, false, false, false, false, false, false, false, false, false, false, false, false] (by kernel_rfl) rfl rfl trivial (fun hHeld => ?_); refine with_tabW impl_chi_set.tab1 impl_chi_set.bits1 (fun HT_ HW_ => ?_)
        generalize w28.drew = w29 at HO0 HK HB HQ27 HQ30 HQ31 HQ32 hf19_0 hf21_0 hf23_0 hx19_0 hx21_0 hx23_0 hHeld ⊢
        refine pu 0 40 HT_ ?_
        refine pu 1 41 HT_ ?_
        refine pu 2 42 HT_ ?_
        refine pu 3 43 HT_ ?_
        refine pu 4 44 HT_ ?_
        refine pu 5 45 HT_ ?_
        refine pu 6 46 HT_ ?_
        refine pu 7 47 HT_ ?_
        refine pu 8 48 HT_ ?_
        refine pu 9 49 HT_ ?_
        refine pu 10 50 HT_ ?_
        refine pu 11 51 HT_ ?_
        refine pu 12 52 HT_ ?_
        refine pu 13 53 HT_ ?_
        refine pu 14 54 HT_ ?_
        refine pu 15 55 HT_ ?_
        refine pu 16 56 HT_ ?_
        refine pu 17 57 HT_ ?_
        refine pu 18 58 HT_ ?_
        refine pu 19 59 HT_ ?_
        refine pu 20 60 HT_ ?_
        refine pu 21 61 HT_ ?_
        refine pu 22 62 HT_ ?_
        refine pu 24 63 HT_ ?_
        refine pu 25 64 HT_ ?_
        refine pu 26 65 HT_ ?_
        refine pu 27 66 HT_ ?_
        refine pu 30 68 HT_ ?_
        refine pu 31 69 HT_ ?_
        refine pu 32 70 HT_ ?_
        refine pu 33 71 HT_ ?_
        refine last_ (i := 23) (N := none) #[true, true, true, true, true, true, true, true, true, true, true, true, true, true, true, true, true, true, true, true, true, true, true, true, true, true, true, true, false, false, true, true, true, true, false, false] rfl rfl (one_of HT_.out (by kernel_rfl)) (by decide) (fun K hK => ?_)
        refine skip_ (w1 := ?_) (by rfl) rfl ?_ ?_
        rotate_left
        ·go_simp
         rfl
        refine hK.out _ _ ?_
        clear hK K
        refine pu 28 67 HT_ ?_
        refine last_ (i := 29) (N := none) #[true, true, true, true, true, true, true, true, true, true, true, true, true, true, true, true, true, true, true, true, true, true, true, true, true, true, true, true, true, true, true, true, true, true, false, false] rfl rfl (one_of HT_.out (by kernel_rfl)) (by decide) (fun K hK => ?_)
        refine skip_ (w1 := ?_) (by rfl) rfl ?_ ?_
        rotate_left
        ·go_simp
         rfl
        refine hK.out _ _ ?_
        clear hK K
        refine pu 34 72 HT_ ?_
        refine last_ (i := 35) (N := none) #[true, true, true, true, true, true, true, true, true, true, true, true, true, true, true, true, true, true, true, true, true, true, true, true, true, true, true, true, true, true, true, true, true, true, true, true] rfl rfl (one_of HT_.out (by kernel_rfl)) (by decide) (fun K hK => ?_)
        refine skip_ (w1 := ?_) (by rfl) rfl ?_ ?_
        rotate_left
        ·go_simp
         rfl
        refine hK.out _ _ ?_
        clear hK K
        refine done_ (done_of HT_.out (by kernel_rfl)) ?_
        try go_wp2
        first | go_end0 | ((try simp only [Exit.inBlock, Exit.then]); refine bodyPost_ret (results_none rfl _ _ _) rfl ?_)
        exact ⟨by first | rfl | (simp [errW_none, errW_some] <;> rfl) | (simp [*, errW_none, errW_some] <;> rfl), by (with_reducible repeat (first | apply Kd.R_alloc | apply Kd.R_drewN | apply Kd.R_drew)); exact HQ32.out, by repeat (first | (with_reducible first | exact HB.out | apply below_alloc | apply pw_below_drewN | apply below_drew1 | refine below_set ?_ GB13.out | refine below_set ?_ GB13.out | refine below_set ?_ GB13.out) | exact HB.out), by repeat (first | (with_reducible first | exact HK.out | apply Kept.alloc | apply Kept.drewN | apply Kept.drew | refine Kept.setCell ?_ HMgo13.out _ | refine Kept.setCell ?_ HMgo13.out _ | refine Kept.setCell ?_ HMgo13.out _) | exact HK.out)⟩
       ·rw [if_neg c12] at H
        exact absurd H (by simp)
      ·rw [if_neg c11] at H
       exact absurd H (by simp)
     ·rw [if_neg c10] at H
      exact absurd H (by simp)
    ·rw [if_neg c9] at H
     exact absurd H (by simp)
   ·rw [if_neg c8] at H
    exact absurd H (by simp)
  ·rw [if_neg c7] at H
   exact absurd H (by simp)
 ·rw [if_neg c6] at H
  exact absurd H (by simp)

/-! ### impl_tableOf: function 115 -/
def impl_tableOf.l0 : Nat → List Int → List (S101) → Int → Int → Int → ByteArray → Option (List Int)
 | 0, _, _, _, _, _, _ => none
 | k + 1, x3, x13, x14, x15, x276000, x276001 => if x15 < x14 then (if 0 ≤ x15 then (if x15 < (x13.length : Int) then (if x15 < (x276001.size : Int) then (if (bt x276001 x15) = 45 then ((impl_chi_set.f x3 ((rd_T101 x13 x15).f0) ((rd_T101 x13 x15).f1) ((rd_T101 x13 x15).f2) (-1)).bind fun t284 => (impl_tableOf.l0 k t284 x13 x14 (wrap64 (x15 + 1)) x276000 x276001)) else ((impl_chi_set.f x3 ((rd_T101 x13 x15).f0) ((rd_T101 x13 x15).f1) ((rd_T101 x13 x15).f2) 1).bind fun t285 => (impl_tableOf.l0 k t285 x13 x14 (wrap64 (x15 + 1)) x276000 x276001))) else (none)) else (none)) else (none)) else (some x3)
def impl_tableOf.f (k : Nat) (a0_0 : Int) (a0_1 : ByteArray) : Option (List Int) := (impl_triplesOf.f k a0_0).bind fun t279 => (impl_tableOf.l0 k (chi0 a0_0) t279 (t279.length : Int) 0 a0_0 a0_1)
theorem impl_tableOf.mono_l : ∀ k, (∀ y0 y1 y2 y3 y4 y5, LeO (impl_tableOf.l0 k y0 y1 y2 y3 y4 y5) (impl_tableOf.l0 (k + 1) y0 y1 y2 y3 y4 y5))
 | 0 => fun _ _ _ _ _ _ r h => by simp [impl_tableOf.l0] at h
 | k + 1 => by
  have ih0 := impl_tableOf.mono_l k
  ·intro y0 y1 y2 y3 y4 y5
   unfold impl_tableOf.l0
   repeat' first
   | (with_reducible exact ih0 _ _ _ _ _ _)
   | (with_reducible exact impl_triplesOf.mono _ _)
   | (with_reducible exact LeO.refl _)
   | (with_reducible exact LeO.none _)
   | (with_reducible refine LeO.ite ?_ ?_)
   | (with_reducible refine LeO.bind ?_ (fun _ => ?_))
   | exact ih0 _ _ _ _ _ _
   | exact impl_triplesOf.mono _ _
   | exact LeO.none _
   | refine LeO.ite ?_ ?_
   | refine LeO.bind ?_ (fun _ => ?_)
theorem impl_tableOf.mono : ∀ a0 a1 k, LeO (impl_tableOf.f k a0 a1) (impl_tableOf.f (k + 1) a0 a1) := by
 intro a0 a1 k
 have ih0 := impl_tableOf.mono_l k
 unfold impl_tableOf.f
 repeat' first
   | (with_reducible exact ih0 _ _ _ _ _ _)
   | (with_reducible exact impl_triplesOf.mono _ _)
   | (with_reducible exact LeO.refl _)
   | (with_reducible exact LeO.none _)
   | (with_reducible refine LeO.ite ?_ ?_)
   | (with_reducible refine LeO.bind ?_ (fun _ => ?_))
   | exact ih0 _ _ _ _ _ _
   | exact impl_triplesOf.mono _ _
   | exact LeO.none _
   | refine LeO.ite ?_ ?_
   | refine LeO.bind ?_ (fun _ => ?_)
set_option maxHeartbeats 8000000 in
set_option maxRecDepth 100000 in
theorem impl_tableOf.calls (k : Nat) (a0_0 : Int) (a0_1 : ByteArray) (r : List Int) (w : World) (h : impl_tableOf.f k a0_0 a0_1 = some r) :
  Calls Try.prog 115 #[.agg #[.int .i64 a0_0, .string a0_1]] w fun e w' => ∃ v0_ : Value, e = .returned ((pv v0_)) ∧ Kd.R (Kd.int .i64) 119 w' w.heap.size (fun _ => True) v0_ r ∧ Below w.heap.size w w' := by
 have hu27 := Try.underlying27
 have hu101 := Try.underlying101
 have HB := Aside0.mk (Below.refl w.heap.size w)
 have H : ((impl_triplesOf.f k a0_0).bind fun t279 => (impl_tableOf.l0 k (chi0 a0_0) t279 (t279.length : Int) 0 a0_0 a0_1)) = some r := h
 clear h
 obtain ⟨y276, hy276⟩ : ∃ y_ : List Int, y_ = (chi0 a0_0) := ⟨_, rfl⟩
 replace H : ((impl_triplesOf.f k a0_0).bind fun t279 => (impl_tableOf.l0 k y276 t279 (t279.length : Int) 0 a0_0 a0_1)) = some r := by first | (rw [hy276]; with_reducible exact H) | (have H2_ := (Option.bind_some _ _).symm.trans H; rw [hy276]; with_reducible exact H2_) | (have H2_ := (Option.bind_some _ _).symm.trans H; with_reducible exact H2_) | with_reducible exact H | (rw [hy276]; exact H) | exact H
 have Ny276 := Aside0.mk hy276
 clear hy276
 replace H := Option.bind_eq_some_iff.mp H
 obtain ⟨t279, A20, H⟩ := H
 (try dsimp only at H)
 have A2 := Aside0.mk A20
 clear A20
 have H' := Aside0.mk H
 clear H
 go_enter Try.func115, Try.ntmps115
 go_wp2_with (first | ((with_reducible refine gate_dst (N := 1) rfl ?_); refine bx 1 #[.int .i64 a0_0, .string a0_1] 27 ?_; intro gb275 hg w3 hbox hb; have BK275 := Aside0.mk hbox; have GE275 := gs HB hg; have GW275 := GE275; replace HB := bs HB hb; clear hb hbox hg; have hcz4_0 := bc BK275 0; have hcz4_1 := bc BK275 1; have hfz4_0 := bf BK275 0; have hfz4_1 := bf BK275 1) | ((with_reducible refine gate_dst (N := 10) rfl ?_); refine chi_lit ?hg (N := 10) ?hd (n := a0_0) (t := 119) (ok := fun _ => True) ?hr trivial (Below.refl _ _) (Nat.le_refl _) ?_; (case hd => rfl); (case hg => rfl); (case hr => first | (go_simp; done) | (go_simp; rfl)); intro v277 w5 ho6 hb hg_ hnew_; clear hg_ hnew_; (first | rw [← Ny276.out] at ho6 | (simp only [Int.reduceToNat] at ho6; rw [← Ny276.out] at ho6)); have n0_ := Aside0.mk (Kd.R_lower ho6 (below_size (bg HB GE275))); have n1_ := Aside0.mk (blk_below (g := gb275) (o := .cells #[.int .i64 a0_0, .string a0_1] 27 (0, 0)) (bk BK275) hb); have n2_ := bsg HB GE275 hb; clear BK275; clear HB; have HO278 := n0_; have BK275 := n1_; have HB := n2_; clear n0_ n1_ n2_; clear hb ho6; have hcz7_0 := bc BK275 0; have hcz7_1 := bc BK275 1; have hfz7_0 := bf BK275 0; have hfz7_1 := bf BK275 1) | ((with_reducible refine gate_callee (f := 97) rfl ?_); refine gL (some 13) rfl rfl Try.func97 (by kernel_rfl) rfl #[.int .i64 a0_0] rfl ?_; (with_reducible refine (impl_triplesOf.calls k a0_0 t279 _ A2.out).mono ?_); rintro e w8 ⟨v280, rfl, ho0, hb⟩; refine ⟨_, rfl, ?_⟩; have n0_ := Aside0.mk (Kd.R_below (rr HO278) hb); have n1_ := Aside0.mk (Kd.R_lower ho0 (below_size (bg HB GE275))); have n2_ := Aside0.mk (blk_below (g := gb275) (o := .cells #[.int .i64 a0_0, .string a0_1] 27 (0, 0)) (bk BK275) hb); have n3_ := bsg HB GE275 hb; clear HO278; clear BK275; clear HB; have HO278 := n0_; have HO281 := n1_; have BK275 := n2_; have HB := n3_; clear n0_ n1_ n2_ n3_; (try clear hb); (try clear hb2); (try clear hk); (try clear hi); (try clear ho0); obtain ⟨Ao9, co9, eo9⟩ := Kd.R_slice HO281.out; subst eo9))
 go_loopg [15] k (fun kq v15 w' => ∃ (x3_1 : List Int) (x15_1 : Int), v15 = .int .i64 x15_1 ∧ Aside0 (impl_tableOf.l0 kq x3_1 t279 (t279.length : Int) x15_1 a0_0 a0_1 = some r) ∧ Aside0 (kq ≤ k) ∧ Aside0 (Kd.R (Kd.int .i64) 119 w' w.heap.size (fun _ => True) v277 x3_1) ∧ Aside0 (Kd.R k101 101 w' w.heap.size (fun _ => True) (.slice Ao9 t279.length co9) t279) ∧ Aside0 (w'.heap[gb275]? = some (.cells #[.int .i64 a0_0, .string a0_1] 27 (0, 0))) ∧ Aside0 (Below w.heap.size w w'))
 case atStart => exact ⟨(y276), (0), (by first | rfl | (simp; done) | (simp [*]; done)), H', ⟨Nat.le_refl _⟩, ⟨by (with_reducible repeat (first | apply Kd.R_alloc | apply Kd.R_drewN | apply Kd.R_drew)); exact HO278.out⟩, ⟨by (with_reducible repeat (first | apply Kd.R_alloc | apply Kd.R_drewN | apply Kd.R_drew)); exact HO281.out⟩, ⟨by (with_reducible repeat (first | refine blk_drewN ?_ _ | refine blk_drew ?_ | refine blk_alloc ?_ _)); exact BK275.out⟩, ⟨(bg HB GE275)⟩⟩
 case round =>
  clear H'
  try clear c1
  try clear p2
  try clear c9
  try clear hcz4_0
  try clear hcz4_1
  try clear hcz7_0
  try clear hcz7_1
  try clear hfz4_0
  try clear hfz4_1
  try clear hfz7_0
  try clear hfz7_1
  obtain ⟨x3_1, x15_1, rfl, HA, HK1, HO_3, HO_13, BK275, HB⟩ := hrel
  cases gk with
  | zero => exact absurd HA.out (by simp [impl_tableOf.l0])
  | succ k1 =>
   have H := HA.out
   clear HA
   simp only [impl_tableOf.l0] at H
   by_cases c10 : x15_1 < (t279.length : Int)
   ·rw [if_pos c10] at H
    have c10b0 : decide (x15_1 < (t279.length : Int)) = true := decide_eq_true c10
    clear c10
    by_cases c11 : 0 ≤ x15_1
    ·rw [if_pos c11] at H
     have c11b0 : decide (0 ≤ x15_1) = true := decide_eq_true c11
     clear c11
     by_cases c12 : x15_1 < (t279.length : Int)
     ·rw [if_pos c12] at H
      have c12b0 : decide (x15_1 < (t279.length : Int)) = true := decide_eq_true c12
      clear c12
      by_cases c13 : x15_1 < (a0_1.size : Int)
      ·rw [if_pos c13] at H
       have c13b0 : decide (x15_1 < (a0_1.size : Int)) = true := decide_eq_true c13
       clear c13
       by_cases c15 : (bt a0_1 x15_1) = 45
       ·rw [if_pos c15] at H
        have c15b0 : ((bt a0_1 x15_1) == 45) = true := beq_iff_eq.mpr c15
        have c15b1 : ((bt a0_1 x15_1) != 45) = false := bne_eq_false_iff_eq.mpr c15
        clear c15
        replace H := Option.bind_eq_some_iff.mp H
        obtain ⟨t284, A160, H⟩ := H
        (try dsimp only at H)
        have A16 := Aside0.mk A160
        clear A160
        have H' := Aside0.mk H
        clear H
        have p282 : 0 ≤ (x15_1 : Int) := of_decide_eq_true (by first | (with_reducible assumption) | assumption)
        have q282 : x15_1 < (t279.length : Int) := of_decide_eq_true (by first | (with_reducible assumption) | assumption)
        obtain ⟨ad282, e282, hx282_0, hx282_1, hx282_2⟩ := at_T101 (Kd.R_reads' HO_13.out).2.2 x15_1 p282 q282
        cases e282
        replace p282 := eq_true p282
        replace q282 := eq_true q282
        go_wp2_with (first | ((with_reducible refine gate_dst (N := 5) rfl ?_); refine bx 5 #[.int .i64 0, .int .i64 0, .int .i64 0] 101 ?_; intro gb283 hg w17 hbox hb; have n0_ := Aside0.mk (Kd.R_below (rr HO_3) hb); have n1_ := Aside0.mk (Kd.R_below (Kd.R_elderB (rr HO_13) gb283 (Nat.le_of_eq hg.symm)) hb); have n2_ := Aside0.mk (blk_below (g := gb275) (o := .cells #[.int .i64 a0_0, .string a0_1] 27 (0, 0)) (bk BK275) hb); have n3_ := bsg HB GE275 hb; have n4_ := Aside0.mk (hbox); have n5_ := Aside0.mk ((by rw [hg]; exact (below_size (bg HB GE275)) : w.heap.size ≤ gb283)); have n6_ := Aside0.mk ((by rw [hg]; exact (below_size (bg HB GE275)) : w.heap.size ≤ gb283)); have n7_ := Aside0.mk ((by rw [hg]; exact Nat.ne_of_lt (blk_lt (g := gb275) (o := .cells #[.int .i64 a0_0, .string a0_1] 27 (0, 0)) (bk BK275)) : gb275 ≠ gb283)); have n8_ := Aside0.mk ((by rw [hg]; exact Nat.ne_of_gt (blk_lt (g := gb275) (o := .cells #[.int .i64 a0_0, .string a0_1] 27 (0, 0)) (bk BK275)) : gb283 ≠ gb275)); clear HO_3; clear HO_13; clear BK275; clear HB; have HO_3 := n0_; have HO_13 := n1_; have BK275 := n2_; have HB := n3_; have BK283 := n4_; have GW283 := n5_; have GE283 := n6_; have NB275_283 := n7_; have NB283_275 := n8_; clear n0_ n1_ n2_ n3_ n4_ n5_ n6_ n7_ n8_; clear hb hbox hg; have hnb18 := NB283_275.out; have hnc18 := NB275_283.out; have hcz19_0 := bc BK283 0; have hcz19_1 := bc BK283 1; have hcz19_2 := bc BK283 2; have hfz19_0 := bf BK283 0; have hfz19_1 := bf BK283 1; have hfz19_2 := bf BK283 2) | ((with_reducible refine gate_store (t := 101) (p := 5) rfl ?_); refine store_event (t := 101) (p := 5) (v := ?vo_w20) (w1 := (((w17.setCell ⟨gb283, 0, none⟩ (.int .i64 ((rd_T101 t279 x15_1).f0))).setCell ⟨gb283, 1, none⟩ (.int .i64 ((rd_T101 t279 x15_1).f1))).setCell ⟨gb283, 2, none⟩ (.int .i64 ((rd_T101 t279 x15_1).f2)))) ?hg ?ho ?hn ?hr ?_; (case ho => rfl); (case hg => rfl); (case hn => rfl); (case hr => first | (go_simp; done) | (go_simp; rfl)); intro w20 hw; have n0_ : Aside0 (Kd.R (Kd.int .i64) 119 w20 w.heap.size (fun _ => True) v277 x3_1) := ⟨(by rw [hw]; exact (by (with_reducible repeat (first | apply Kd.R_alloc | apply Kd.R_drewN | apply Kd.R_drew)); exact Kd.R_mono (Kd.R_far (p := ⟨gb283, 2, none⟩) (Kd.R_far (p := ⟨gb283, 1, none⟩) (Kd.R_far (p := ⟨gb283, 0, none⟩) (Kd.R_types HO_3.out BK283.out (by decide)) (fun _ hk => hk.2) (.int .i64 ((rd_T101 t279 x15_1).f0))) (fun _ hk => hk.2) (.int .i64 ((rd_T101 t279 x15_1).f1))) (fun _ hk => hk.2) (.int .i64 ((rd_T101 t279 x15_1).f2))) (fun _ hk => trivial)))⟩; have n1_ : Aside0 (Kd.R k101 101 w20 w.heap.size (fun k_ => k_ ≠ gb283) (.slice (some ad282) t279.length co9) t279) := ⟨(by rw [hw]; exact (by (with_reducible repeat (first | apply Kd.R_alloc | apply Kd.R_drewN | apply Kd.R_drew)); exact Kd.R_mono (Kd.R_far (p := ⟨gb283, 2, none⟩) (Kd.R_far (p := ⟨gb283, 1, none⟩) (Kd.R_far (p := ⟨gb283, 0, none⟩) (Kd.R_mono HO_13.out (fun k_ hk => (⟨hk, hk.2⟩ : _ ∧ k_ ≠ gb283))) (fun _ hk => hk.2) (.int .i64 ((rd_T101 t279 x15_1).f0))) (fun _ hk => hk.2) (.int .i64 ((rd_T101 t279 x15_1).f1))) (fun _ hk => hk.2) (.int .i64 ((rd_T101 t279 x15_1).f2))) (fun _ hk => hk.1.2)))⟩; have n2_ : Aside0 (w20.heap[gb275]? = some (.cells #[.int .i64 a0_0, .string a0_1] 27 (0, 0))) := ⟨(by rw [hw]; exact (by (with_reducible repeat (first | refine blk_drewN ?_ _ | refine blk_drew ?_ | refine blk_alloc ?_ _)); refine blk_far ?_ NB275_283.out _; (with_reducible repeat (first | refine blk_drewN ?_ _ | refine blk_drew ?_ | refine blk_alloc ?_ _)); refine blk_far ?_ NB275_283.out _; (with_reducible repeat (first | refine blk_drewN ?_ _ | refine blk_drew ?_ | refine blk_alloc ?_ _)); refine blk_far ?_ NB275_283.out _; (with_reducible repeat (first | refine blk_drewN ?_ _ | refine blk_drew ?_ | refine blk_alloc ?_ _)); exact BK275.out))⟩; have n3_ : Aside0 (w20.heap[gb283]? = some (.cells #[.int .i64 ((rd_T101 t279 x15_1).f0), .int .i64 ((rd_T101 t279 x15_1).f1), .int .i64 ((rd_T101 t279 x15_1).f2)] 101 (0, 0))) := ⟨(by rw [hw]; exact (by (with_reducible repeat (first | refine blk_drewN ?_ _ | refine blk_drew ?_ | refine blk_alloc ?_ _)); refine blk_put (cs := #[.int .i64 ((rd_T101 t279 x15_1).f0), .int .i64 ((rd_T101 t279 x15_1).f1), .int .i64 0]) ?_ 2 _ rfl; (with_reducible repeat (first | refine blk_drewN ?_ _ | refine blk_drew ?_ | refine blk_alloc ?_ _)); refine blk_put (cs := #[.int .i64 ((rd_T101 t279 x15_1).f0), .int .i64 0, .int .i64 0]) ?_ 1 _ rfl; (with_reducible repeat (first | refine blk_drewN ?_ _ | refine blk_drew ?_ | refine blk_alloc ?_ _)); refine blk_put (cs := #[.int .i64 0, .int .i64 0, .int .i64 0]) ?_ 0 _ rfl; (with_reducible repeat (first | refine blk_drewN ?_ _ | refine blk_drew ?_ | refine blk_alloc ?_ _)); exact BK283.out))⟩; have n4_ : Aside0 (Below w.heap.size w w20) := ⟨(by rw [hw]; exact (by repeat (first | (with_reducible first | exact HB.out | apply below_alloc | apply pw_below_drewN | apply below_drew1 | refine below_set ?_ GE275.out | refine below_set ?_ GE283.out) | exact HB.out)))⟩; clear hw; clear HO_3; clear HO_13; clear BK275; clear BK283; clear HB; have HO_3 := n0_; have HO_13 := n1_; have BK275 := n2_; have BK283 := n3_; have HB := n4_; clear n0_ n1_ n2_ n3_ n4_; have hcz21_0 := bc BK275 0; have hcz21_1 := bc BK275 1; have hfz21_0 := bf BK275 0; have hfz21_1 := bf BK275 1; have p14 : 0 ≤ (x15_1 : Int) := of_decide_eq_true (by first | (with_reducible assumption) | assumption); have q14 : x15_1 < (a0_1.size : Int) := of_decide_eq_true (by first | (with_reducible assumption) | assumption); have hx14 := bt_at a0_1 x15_1; replace p14 := eq_true p14; replace q14 := eq_true q14; have hcz22_0 := bc BK283 0; have hcz22_1 := bc BK283 1; have hcz22_2 := bc BK283 2; have hfz22_0 := bf BK283 0; have hfz22_1 := bf BK283 1; have hfz22_2 := bf BK283 2; obtain ⟨Ao23, co23, eo23⟩ := Kd.R_slice HO_3.out; subst eo23) | ((with_reducible refine gate_callee (f := 136) rfl ?_); refine gL (some 33) rfl rfl Try.func136 (by kernel_rfl) rfl #[.pointer Ao23, .int .i64 ((rd_T101 t279 x15_1).f0), .int .i64 ((rd_T101 t279 x15_1).f1), .int .i64 ((rd_T101 t279 x15_1).f2), .int .i64 (-1)] rfl ?_; (with_reducible refine (impl_chi_set.calls (fun k_ => some k_ = (.slice Ao23 x3_1.length co23 : Value).ownBlock) (.slice Ao23 x3_1.length co23) x3_1 ((rd_T101 t279 x15_1).f0) ((rd_T101 t279 x15_1).f1) ((rd_T101 t279 x15_1).f2) (-1) t284 w _ ?side1 ?side2 A16.out).mono ?_); (case side1 => repeat (first | (with_reducible first | exact HB.out | apply below_alloc | apply pw_below_drewN | apply below_drew1 | refine below_set ?_ GE275.out | refine below_set ?_ GE283.out) | exact HB.out)); (case side2 => exact Kd.R_tight rfl HO_3.out); rintro e w24 ⟨rfl, hy0, hb, hkp⟩; refine ⟨_, rfl, ?_⟩; have n0_ := Aside0.mk (Kd.R_reok rfl hy0 (fun k_ e_ => HO_3.out.1 k_ e_)); have n1_ := Aside0.mk (Kd.R_mono (ok' := fun k_ => k_ ≠ gb283) (Kd.R_keptB ((Kd.R_apart' HO_13.out (Kd.R_typed HO_3.out) (by decide))) hkp (fun k_ hk_ hs_ => (hk_.2) hs_)) (fun k_ hk_ => hk_.1.1)); have n2_ := Aside0.mk (blk_kept (bk BK275) hkp (fun hs_ => (fun e_ => (Kd.R_ne HO_3.out BK275.out (by decide)) e_) hs_)); have n3_ := Aside0.mk (blk_kept (bk BK283) hkp (fun hs_ => (fun e_ => (Kd.R_ne HO_3.out BK283.out (by decide)) e_) hs_)); have n4_ := Aside0.mk (hb); clear HO_3; clear HO_13; clear BK275; clear BK283; clear HB; have HO_3 := n0_; have HO_13 := n1_; have BK275 := n2_; have BK283 := n3_; have HB := n4_; clear n0_ n1_ n2_ n3_ n4_; (try clear hb); (try clear hkp); (try clear hy0)))
        go_roundg k1
        case measure => have := HK1.out; omega
        case rel => exact ⟨(t284), (wrap64 (x15_1 + 1)), (by first | rfl | (simp; done) | (simp [*]; done)), H', ⟨by have := HK1.out; omega⟩, ⟨by (with_reducible repeat (first | apply Kd.R_alloc | apply Kd.R_drewN | apply Kd.R_drew)); exact HO_3.out⟩, ⟨by (with_reducible repeat (first | apply Kd.R_alloc | apply Kd.R_drewN | apply Kd.R_drew)); exact Kd.R_mono HO_13.out (fun _ hk => trivial)⟩, ⟨by (with_reducible repeat (first | refine blk_drewN ?_ _ | refine blk_drew ?_ | refine blk_alloc ?_ _)); exact BK275.out⟩, ⟨by repeat (first | (with_reducible first | exact HB.out | apply below_alloc | apply pw_below_drewN | apply below_drew1 | refine below_set ?_ GE275.out | refine below_set ?_ GE283.out) | exact HB.out)⟩⟩
       ·rw [if_neg c15] at H
        have c15b0 : ((bt a0_1 x15_1) == 45) = false := beq_eq_false_iff_ne.mpr c15
        have c15b1 : ((bt a0_1 x15_1) != 45) = true := bne_iff_ne.mpr c15
        replace H := Option.bind_eq_some_iff.mp H
        obtain ⟨t285, A250, H⟩ := H
        (try dsimp only at H)
        have A25 := Aside0.mk A250
        clear A250
        have H' := Aside0.mk H
        clear H
        have p282 : 0 ≤ (x15_1 : Int) := of_decide_eq_true (by first | (with_reducible assumption) | assumption)
        have q282 : x15_1 < (t279.length : Int) := of_decide_eq_true (by first | (with_reducible assumption) | assumption)
        obtain ⟨ad282, e282, hx282_0, hx282_1, hx282_2⟩ := at_T101 (Kd.R_reads' HO_13.out).2.2 x15_1 p282 q282
        cases e282
        replace p282 := eq_true p282
        replace q282 := eq_true q282
        go_wp2_with (first | ((with_reducible refine gate_dst (N := 5) rfl ?_); refine bx 5 #[.int .i64 0, .int .i64 0, .int .i64 0] 101 ?_; intro gb283 hg w26 hbox hb; have n0_ := Aside0.mk (Kd.R_below (rr HO_3) hb); have n1_ := Aside0.mk (Kd.R_below (Kd.R_elderB (rr HO_13) gb283 (Nat.le_of_eq hg.symm)) hb); have n2_ := Aside0.mk (blk_below (g := gb275) (o := .cells #[.int .i64 a0_0, .string a0_1] 27 (0, 0)) (bk BK275) hb); have n3_ := bsg HB GE275 hb; have n4_ := Aside0.mk (hbox); have n5_ := Aside0.mk ((by rw [hg]; exact (below_size (bg HB GE275)) : w.heap.size ≤ gb283)); have n6_ := Aside0.mk ((by rw [hg]; exact (below_size (bg HB GE275)) : w.heap.size ≤ gb283)); have n7_ := Aside0.mk ((by rw [hg]; exact Nat.ne_of_lt (blk_lt (g := gb275) (o := .cells #[.int .i64 a0_0, .string a0_1] 27 (0, 0)) (bk BK275)) : gb275 ≠ gb283)); have n8_ := Aside0.mk ((by rw [hg]; exact Nat.ne_of_gt (blk_lt (g := gb275) (o := .cells #[.int .i64 a0_0, .string a0_1] 27 (0, 0)) (bk BK275)) : gb283 ≠ gb275)); clear HO_3; clear HO_13; clear BK275; clear HB; have HO_3 := n0_; have HO_13 := n1_; have BK275 := n2_; have HB := n3_; have BK283 := n4_; have GW283 := n5_; have GE283 := n6_; have NB275_283 := n7_; have NB283_275 := n8_; clear n0_ n1_ n2_ n3_ n4_ n5_ n6_ n7_ n8_; clear hb hbox hg; have hnb27 := NB283_275.out; have hnc27 := NB275_283.out; have hcz28_0 := bc BK283 0; have hcz28_1 := bc BK283 1; have hcz28_2 := bc BK283 2; have hfz28_0 := bf BK283 0; have hfz28_1 := bf BK283 1; have hfz28_2 := bf BK283 2) | ((with_reducible refine gate_store (t := 101) (p := 5) rfl ?_); refine store_event (t := 101) (p := 5) (v := ?vo_w29) (w1 := (((w26.setCell ⟨gb283, 0, none⟩ (.int .i64 ((rd_T101 t279 x15_1).f0))).setCell ⟨gb283, 1, none⟩ (.int .i64 ((rd_T101 t279 x15_1).f1))).setCell ⟨gb283, 2, none⟩ (.int .i64 ((rd_T101 t279 x15_1).f2)))) ?hg ?ho ?hn ?hr ?_; (case ho => rfl); (case hg => rfl); (case hn => rfl); (case hr => first | (go_simp; done) | (go_simp; rfl)); intro w29 hw; have n0_ : Aside0 (Kd.R (Kd.int .i64) 119 w29 w.heap.size (fun _ => True) v277 x3_1) := ⟨(by rw [hw]; exact (by (with_reducible repeat (first | apply Kd.R_alloc | apply Kd.R_drewN | apply Kd.R_drew)); exact Kd.R_mono (Kd.R_far (p := ⟨gb283, 2, none⟩) (Kd.R_far (p := ⟨gb283, 1, none⟩) (Kd.R_far (p := ⟨gb283, 0, none⟩) (Kd.R_types HO_3.out BK283.out (by decide)) (fun _ hk => hk.2) (.int .i64 ((rd_T101 t279 x15_1).f0))) (fun _ hk => hk.2) (.int .i64 ((rd_T101 t279 x15_1).f1))) (fun _ hk => hk.2) (.int .i64 ((rd_T101 t279 x15_1).f2))) (fun _ hk => trivial)))⟩; have n1_ : Aside0 (Kd.R k101 101 w29 w.heap.size (fun k_ => k_ ≠ gb283) (.slice (some ad282) t279.length co9) t279) := ⟨(by rw [hw]; exact (by (with_reducible repeat (first | apply Kd.R_alloc | apply Kd.R_drewN | apply Kd.R_drew)); exact Kd.R_mono (Kd.R_far (p := ⟨gb283, 2, none⟩) (Kd.R_far (p := ⟨gb283, 1, none⟩) (Kd.R_far (p := ⟨gb283, 0, none⟩) (Kd.R_mono HO_13.out (fun k_ hk => (⟨hk, hk.2⟩ : _ ∧ k_ ≠ gb283))) (fun _ hk => hk.2) (.int .i64 ((rd_T101 t279 x15_1).f0))) (fun _ hk => hk.2) (.int .i64 ((rd_T101 t279 x15_1).f1))) (fun _ hk => hk.2) (.int .i64 ((rd_T101 t279 x15_1).f2))) (fun _ hk => hk.1.2)))⟩; have n2_ : Aside0 (w29.heap[gb275]? = some (.cells #[.int .i64 a0_0, .string a0_1] 27 (0, 0))) := ⟨(by rw [hw]; exact (by (with_reducible repeat (first | refine blk_drewN ?_ _ | refine blk_drew ?_ | refine blk_alloc ?_ _)); refine blk_far ?_ NB275_283.out _; (with_reducible repeat (first | refine blk_drewN ?_ _ | refine blk_drew ?_ | refine blk_alloc ?_ _)); refine blk_far ?_ NB275_283.out _; (with_reducible repeat (first | refine blk_drewN ?_ _ | refine blk_drew ?_ | refine blk_alloc ?_ _)); refine blk_far ?_ NB275_283.out _; (with_reducible repeat (first | refine blk_drewN ?_ _ | refine blk_drew ?_ | refine blk_alloc ?_ _)); exact BK275.out))⟩; have n3_ : Aside0 (w29.heap[gb283]? = some (.cells #[.int .i64 ((rd_T101 t279 x15_1).f0), .int .i64 ((rd_T101 t279 x15_1).f1), .int .i64 ((rd_T101 t279 x15_1).f2)] 101 (0, 0))) := ⟨(by rw [hw]; exact (by (with_reducible repeat (first | refine blk_drewN ?_ _ | refine blk_drew ?_ | refine blk_alloc ?_ _)); refine blk_put (cs := #[.int .i64 ((rd_T101 t279 x15_1).f0), .int .i64 ((rd_T101 t279 x15_1).f1), .int .i64 0]) ?_ 2 _ rfl; (with_reducible repeat (first | refine blk_drewN ?_ _ | refine blk_drew ?_ | refine blk_alloc ?_ _)); refine blk_put (cs := #[.int .i64 ((rd_T101 t279 x15_1).f0), .int .i64 0, .int .i64 0]) ?_ 1 _ rfl; (with_reducible repeat (first | refine blk_drewN ?_ _ | refine blk_drew ?_ | refine blk_alloc ?_ _)); refine blk_put (cs := #[.int .i64 0, .int .i64 0, .int .i64 0]) ?_ 0 _ rfl; (with_reducible repeat (first | refine blk_drewN ?_ _ | refine blk_drew ?_ | refine blk_alloc ?_ _)); exact BK283.out))⟩; have n4_ : Aside0 (Below w.heap.size w w29) := ⟨(by rw [hw]; exact (by repeat (first | (with_reducible first | exact HB.out | apply below_alloc | apply pw_below_drewN | apply below_drew1 | refine below_set ?_ GE275.out | refine below_set ?_ GE283.out) | exact HB.out)))⟩; clear hw; clear HO_3; clear HO_13; clear BK275; clear BK283; clear HB; have HO_3 := n0_; have HO_13 := n1_; have BK275 := n2_; have BK283 := n3_; have HB := n4_; clear n0_ n1_ n2_ n3_ n4_; have hcz30_0 := bc BK275 0; have hcz30_1 := bc BK275 1; have hfz30_0 := bf BK275 0; have hfz30_1 := bf BK275 1; have p14 : 0 ≤ (x15_1 : Int) := of_decide_eq_true (by first | (with_reducible assumption) | assumption); have q14 : x15_1 < (a0_1.size : Int) := of_decide_eq_true (by first | (with_reducible assumption) | assumption); have hx14 := bt_at a0_1 x15_1; replace p14 := eq_true p14; replace q14 := eq_true q14; have hcz31_0 := bc BK283 0; have hcz31_1 := bc BK283 1; have hcz31_2 := bc BK283 2; have hfz31_0 := bf BK283 0; have hfz31_1 := bf BK283 1; have hfz31_2 := bf BK283 2; obtain ⟨Ao32, co32, eo32⟩ := Kd.R_slice HO_3.out; subst eo32) | ((with_reducible refine gate_callee (f := 136) rfl ?_); refine gL (some 33) rfl rfl Try.func136 (by kernel_rfl) rfl #[.pointer Ao32, .int .i64 ((rd_T101 t279 x15_1).f0), .int .i64 ((rd_T101 t279 x15_1).f1), .int .i64 ((rd_T101 t279 x15_1).f2), .int .i64 1] rfl ?_; (with_reducible refine (impl_chi_set.calls (fun k_ => some k_ = (.slice Ao32 x3_1.length co32 : Value).ownBlock) (.slice Ao32 x3_1.length co32) x3_1 ((rd_T101 t279 x15_1).f0) ((rd_T101 t279 x15_1).f1) ((rd_T101 t279 x15_1).f2) 1 t285 w _ ?side1 ?side2 A25.out).mono ?_); (case side1 => repeat (first | (with_reducible first | exact HB.out | apply below_alloc | apply pw_below_drewN | apply below_drew1 | refine below_set ?_ GE275.out | refine below_set ?_ GE283.out) | exact HB.out)); (case side2 => exact Kd.R_tight rfl HO_3.out); rintro e w33 ⟨rfl, hy0, hb, hkp⟩; refine ⟨_, rfl, ?_⟩; have n0_ := Aside0.mk (Kd.R_reok rfl hy0 (fun k_ e_ => HO_3.out.1 k_ e_)); have n1_ := Aside0.mk (Kd.R_mono (ok' := fun k_ => k_ ≠ gb283) (Kd.R_keptB ((Kd.R_apart' HO_13.out (Kd.R_typed HO_3.out) (by decide))) hkp (fun k_ hk_ hs_ => (hk_.2) hs_)) (fun k_ hk_ => hk_.1.1)); have n2_ := Aside0.mk (blk_kept (bk BK275) hkp (fun hs_ => (fun e_ => (Kd.R_ne HO_3.out BK275.out (by decide)) e_) hs_)); have n3_ := Aside0.mk (blk_kept (bk BK283) hkp (fun hs_ => (fun e_ => (Kd.R_ne HO_3.out BK283.out (by decide)) e_) hs_)); have n4_ := Aside0.mk (hb); clear HO_3; clear HO_13; clear BK275; clear BK283; clear HB; have HO_3 := n0_; have HO_13 := n1_; have BK275 := n2_; have BK283 := n3_; have HB := n4_; clear n0_ n1_ n2_ n3_ n4_; (try clear hb); (try clear hkp); (try clear hy0)))
        go_roundg k1
        case measure => have := HK1.out; omega
        case rel => exact ⟨(t285), (wrap64 (x15_1 + 1)), (by first | rfl | (simp; done) | (simp [*]; done)), H', ⟨by have := HK1.out; omega⟩, ⟨by (with_reducible repeat (first | apply Kd.R_alloc | apply Kd.R_drewN | apply Kd.R_drew)); exact HO_3.out⟩, ⟨by (with_reducible repeat (first | apply Kd.R_alloc | apply Kd.R_drewN | apply Kd.R_drew)); exact Kd.R_mono HO_13.out (fun _ hk => trivial)⟩, ⟨by (with_reducible repeat (first | refine blk_drewN ?_ _ | refine blk_drew ?_ | refine blk_alloc ?_ _)); exact BK275.out⟩, ⟨by repeat (first | (with_reducible first | exact HB.out | apply below_alloc | apply pw_below_drewN | apply below_drew1 | refine below_set ?_ GE275.out | refine below_set ?_ GE283.out) | exact HB.out)⟩⟩
      ·rw [if_neg c13] at H
       exact absurd H (by simp)
     ·rw [if_neg c12] at H
      exact absurd H (by simp)
    ·rw [if_neg c11] at H
     exact absurd H (by simp)
   ·rw [if_neg c10] at H
    have c10b0 : decide (x15_1 < (t279.length : Int)) = false := decide_eq_false c10
    clear c10
    obtain rfl := Option.some.inj H
    go_wp2
    go_ret
    exact ⟨_, by first | rfl | (simp [errW_none, errW_some] <;> rfl) | (simp [*, errW_none, errW_some] <;> rfl), by (with_reducible repeat (first | apply Kd.R_alloc | apply Kd.R_drewN | apply Kd.R_drew)); exact HO_3.out, (bg HB GE275)⟩

/-! ### impl_AreSigns: function 165 -/
mutual
def impl_AreSigns.j0 : Nat → Bool → Int → ByteArray → Option (Bool)
 | 0, _, _, _ => none
 | k + 1, x28, x287000, x287001 => if x28 = true then (some false) else (impl_AreSigns.l0 k 0 x287000 x287001)
def impl_AreSigns.l0 : Nat → Int → Int → ByteArray → Option (Bool)
 | 0, _, _, _ => none
 | k + 1, x3, x287000, x287001 => if x3 < (x287001.size : Int) then (if 0 ≤ x3 then (if (bt x287001 x3) = 43 then (impl_AreSigns.l0 k (wrap64 (x3 + 1)) x287000 x287001) else (if (bt x287001 x3) = 45 then (impl_AreSigns.l0 k (wrap64 (x3 + 1)) x287000 x287001) else (some false))) else (none)) else (some true)
end
def impl_AreSigns.f (k : Nat) (a0_0 : Int) (a0_1 : ByteArray) : Option (Bool) := if a0_0 < 3 then (impl_AreSigns.j0 k true a0_0 a0_1) else (if a0_0 > 7 then (impl_AreSigns.j0 k true a0_0 a0_1) else (impl_AreSigns.j0 k ((a0_1.size : Int) != (wrap64 (Int.tdiv (wrap64 ((wrap64 (a0_0 * (wrap64 (a0_0 - 1)))) * (wrap64 (a0_0 - 2)))) 6))) a0_0 a0_1))
theorem impl_AreSigns.mono_l : ∀ k, (∀ y0 y1 y2, LeO (impl_AreSigns.j0 k y0 y1 y2) (impl_AreSigns.j0 (k + 1) y0 y1 y2)) ∧ (∀ y0 y1 y2, LeO (impl_AreSigns.l0 k y0 y1 y2) (impl_AreSigns.l0 (k + 1) y0 y1 y2))
 | 0 => ⟨fun _ _ _ r h => by simp [impl_AreSigns.j0] at h, fun _ _ _ r h => by simp [impl_AreSigns.l0] at h⟩
 | k + 1 => by
  obtain ⟨ih0, ih1⟩ := impl_AreSigns.mono_l k
  refine ⟨?_, ?_⟩
  ·intro y0 y1 y2
   unfold impl_AreSigns.j0
   repeat' first
   | (with_reducible exact ih0 _ _ _)
   | (with_reducible exact ih1 _ _ _)
   | (with_reducible exact LeO.refl _)
   | (with_reducible exact LeO.none _)
   | (with_reducible refine LeO.ite ?_ ?_)
   | (with_reducible refine LeO.bind ?_ (fun _ => ?_))
   | exact ih0 _ _ _
   | exact ih1 _ _ _
   | exact LeO.none _
   | refine LeO.ite ?_ ?_
   | refine LeO.bind ?_ (fun _ => ?_)
  ·intro y0 y1 y2
   unfold impl_AreSigns.l0
   repeat' first
   | (with_reducible exact ih0 _ _ _)
   | (with_reducible exact ih1 _ _ _)
   | (with_reducible exact LeO.refl _)
   | (with_reducible exact LeO.none _)
   | (with_reducible refine LeO.ite ?_ ?_)
   | (with_reducible refine LeO.bind ?_ (fun _ => ?_))
   | exact ih0 _ _ _
   | exact ih1 _ _ _
   | exact LeO.none _
   | refine LeO.ite ?_ ?_
   | refine LeO.bind ?_ (fun _ => ?_)
theorem impl_AreSigns.mono : ∀ a0 a1 k, LeO (impl_AreSigns.f k a0 a1) (impl_AreSigns.f (k + 1) a0 a1) := by
 intro a0 a1 k
 obtain ⟨ih0, ih1⟩ := impl_AreSigns.mono_l k
 unfold impl_AreSigns.f
 repeat' first
   | (with_reducible exact ih0 _ _ _)
   | (with_reducible exact ih1 _ _ _)
   | (with_reducible exact LeO.refl _)
   | (with_reducible exact LeO.none _)
   | (with_reducible refine LeO.ite ?_ ?_)
   | (with_reducible refine LeO.bind ?_ (fun _ => ?_))
   | exact ih0 _ _ _
   | exact ih1 _ _ _
   | exact LeO.none _
   | refine LeO.ite ?_ ?_
   | refine LeO.bind ?_ (fun _ => ?_)
set_option maxHeartbeats 8000000 in
set_option maxRecDepth 100000 in
theorem impl_AreSigns.calls (k : Nat) (a0_0 : Int) (a0_1 : ByteArray) (r : Bool) (w : World) (h : impl_AreSigns.f k a0_0 a0_1 = some r) :
  Calls Try.prog 165 #[.agg #[.int .i64 a0_0, .string a0_1]] w fun e w' => e = .returned (.bool r) ∧ Below w.heap.size w w' := by
 have hu27 := Try.underlying27
 have HB := Aside0.mk (Below.refl w.heap.size w)
 have H : (if a0_0 < 3 then (impl_AreSigns.j0 k true a0_0 a0_1) else (if a0_0 > 7 then (impl_AreSigns.j0 k true a0_0 a0_1) else (impl_AreSigns.j0 k ((a0_1.size : Int) != (wrap64 (Int.tdiv (wrap64 ((wrap64 (a0_0 * (wrap64 (a0_0 - 1)))) * (wrap64 (a0_0 - 2)))) 6))) a0_0 a0_1))) = some r := h
 clear h
 have HC2 := Aside0.mk H
 clear H
 go_enter Try.func165, Try.ntmps165
 go_upto_region 1 with (first | ((with_reducible refine gate_dst (N := 1) rfl ?_); (try (refine gate_guard (by rfl) ?_; dsimp only)); refine bx 1 #[.int .i64 a0_0, .string a0_1] 27 ?_; intro gb286 hg w3 hbox hb; have BK286 := Aside0.mk hbox; have GE286 := gs HB hg; have GW286 := GE286; replace HB := bs HB hb; clear hb hbox hg))
 (try simp only [Act.put, List.setIfInBounds_toArray, List.set_cons_zero, List.set_cons_succ])
 go_cut [28] (fun v28 wc => ∃ (kq : Nat) (x28_1 : Bool), v28 = .bool x28_1 ∧ Aside0 (impl_AreSigns.j0 kq x28_1 a0_0 a0_1 = some r) ∧ Aside0 (kq ≤ k) ∧ Aside0 (wc.heap[gb286]? = some (.cells #[.int .i64 a0_0, .string a0_1] 27 (0, 0))) ∧ Aside0 (Below w.heap.size w wc))
 case first =>
  have H := HC2.out
  clear HC2
  by_cases c4 : a0_0 < 3
  ·rw [if_pos c4] at H
   have c4b0 : decide (a0_0 < 3) = true := decide_eq_true c4
   clear c4
   (first | rw [c4b0] | (simp only [i64_w, i32_w]; rw [c4b0]) | skip)
   have H' := Aside0.mk H
   clear H
   have hcz5_0 := bc BK286 0
   have hcz5_1 := bc BK286 1
   have hfz5_0 := bf BK286 0
   have hfz5_1 := bf BK286 1
   go_wp2
   go_meet
   case rel => exact ⟨_, (true), (by first | rfl | (simp; done) | (simp [*]; done)), H', ⟨by first | omega | exact Nat.le_refl _⟩, ⟨by (with_reducible repeat (first | refine blk_drewN ?_ _ | refine blk_drew ?_ | refine blk_alloc ?_ _)); exact BK286.out⟩, ⟨(bg HB GE286)⟩⟩
  ·rw [if_neg c4] at H
   have c4b0 : decide (a0_0 < 3) = false := decide_eq_false c4
   clear c4
   (first | rw [c4b0] | (simp only [i64_w, i32_w]; rw [c4b0]) | skip)
   by_cases c6 : a0_0 > 7
   ·rw [if_pos c6] at H
    have c6b0 : decide (7 < a0_0) = true := decide_eq_true c6
    clear c6
    have H' := Aside0.mk H
    clear H
    have hcz7_0 := bc BK286 0
    have hcz7_1 := bc BK286 1
    have hfz7_0 := bf BK286 0
    have hfz7_1 := bf BK286 1
    go_wp2
    go_meet
    case rel => exact ⟨_, (true), (by first | rfl | (simp; done) | (simp [*]; done)), H', ⟨by first | omega | exact Nat.le_refl _⟩, ⟨by (with_reducible repeat (first | refine blk_drewN ?_ _ | refine blk_drew ?_ | refine blk_alloc ?_ _)); exact BK286.out⟩, ⟨(bg HB GE286)⟩⟩
   ·rw [if_neg c6] at H
    have c6b0 : decide (7 < a0_0) = false := decide_eq_false c6
    clear c6
    have H' := Aside0.mk H
    clear H
    have hcz8_0 := bc BK286 0
    have hcz8_1 := bc BK286 1
    have hfz8_0 := bf BK286 0
    have hfz8_1 := bf BK286 1
    go_wp2
    go_meet
    case rel => exact ⟨_, (((a0_1.size : Int) != (wrap64 (Int.tdiv (wrap64 ((wrap64 (a0_0 * (wrap64 (a0_0 - 1)))) * (wrap64 (a0_0 - 2)))) 6)))), (by first | rfl | (simp; done) | (simp [*]; done)), H', ⟨by first | omega | exact Nat.le_refl _⟩, ⟨by (with_reducible repeat (first | refine blk_drewN ?_ _ | refine blk_drew ?_ | refine blk_alloc ?_ _)); exact BK286.out⟩, ⟨(bg HB GE286)⟩⟩
 case rest =>
  clear HC2
  try clear c1
  try clear p2
  try clear c4
  try clear c4b0
  try clear c6
  try clear c6b0
  try clear p6
  try clear hcz5_0
  try clear hcz5_1
  try clear hcz7_0
  try clear hcz7_1
  try clear hcz8_0
  try clear hcz8_1
  try clear hfz5_0
  try clear hfz5_1
  try clear hfz7_0
  try clear hfz7_1
  try clear hfz8_0
  try clear hfz8_1
  obtain ⟨kq, x28_1, rfl, HA, HJ1, BK286, HB⟩ := hcut
  cases kq with
  | zero => exact absurd HA.out (by simp [impl_AreSigns.j0])
  | succ kj1 =>
   have H := HA.out
   clear HA
   simp only [impl_AreSigns.j0] at H
   by_cases c9 : x28_1 = true
   ·subst c9
    have H1 : (some false) = some r := by rw [if_pos rfl] at H; exact H
    clear H
    have H := H1
    clear H1
    obtain rfl := Option.some.inj H
    go_wp2
    go_ret
    exact ⟨by first | rfl | (simp [errW_none, errW_some] <;> rfl) | (simp [*, errW_none, errW_some] <;> rfl), (bg HB GE286)⟩
   ·replace c9 := Bool.eq_false_iff.mpr c9
    subst c9
    have H1 : (impl_AreSigns.l0 kj1 0 a0_0 a0_1) = some r := by rw [if_neg (show ¬ (false = true) by decide)] at H; exact H
    clear H
    have H := H1
    clear H1
    have H' := Aside0.mk H
    clear H
    go_wp2
    go_loopg [3] kj1 (fun kq v3 w' => ∃ (x3_2 : Int), v3 = .int .i64 x3_2 ∧ Aside0 (impl_AreSigns.l0 kq x3_2 a0_0 a0_1 = some r) ∧ Aside0 (kq ≤ kj1) ∧ Aside0 (w'.heap[gb286]? = some (.cells #[.int .i64 a0_0, .string a0_1] 27 (0, 0))) ∧ Aside0 (Below w.heap.size w w'))
    case atStart => exact ⟨(0), (by first | rfl | (simp; done) | (simp [*]; done)), H', ⟨Nat.le_refl _⟩, ⟨by (with_reducible repeat (first | refine blk_drewN ?_ _ | refine blk_drew ?_ | refine blk_alloc ?_ _)); exact BK286.out⟩, ⟨(bg HB GE286)⟩⟩
    case round =>
     clear H'
     try clear c1
     try clear p2
     try clear c4
     try clear c4b0
     try clear c6
     try clear c6b0
     try clear p6
     try clear c9
     try clear hcz5_0
     try clear hcz5_1
     try clear hcz7_0
     try clear hcz7_1
     try clear hcz8_0
     try clear hcz8_1
     try clear hfz5_0
     try clear hfz5_1
     try clear hfz7_0
     try clear hfz7_1
     try clear hfz8_0
     try clear hfz8_1
     try clear p2
     try clear p6
     obtain ⟨x3_2, rfl, HA, HK2, BK286, HB⟩ := hrel
     cases gk with
     | zero => exact absurd HA.out (by simp [impl_AreSigns.l0])
     | succ k2 =>
      have H := HA.out
      clear HA
      simp only [impl_AreSigns.l0] at H
      by_cases c10 : x3_2 < (a0_1.size : Int)
      ·rw [if_pos c10] at H
       have c10b0 : decide (x3_2 < (a0_1.size : Int)) = true := decide_eq_true c10
       clear c10
       by_cases c11 : 0 ≤ x3_2
       ·rw [if_pos c11] at H
        have c11b0 : decide (0 ≤ x3_2) = true := decide_eq_true c11
        clear c11
        by_cases c13 : (bt a0_1 x3_2) = 43
        ·rw [if_pos c13] at H
         have c13b0 : ((bt a0_1 x3_2) == 43) = true := beq_iff_eq.mpr c13
         have c13b1 : ((bt a0_1 x3_2) != 43) = false := bne_eq_false_iff_eq.mpr c13
         clear c13
         have H' := Aside0.mk H
         clear H
         have hcz14_0 := bc BK286 0
         have hcz14_1 := bc BK286 1
         have hfz14_0 := bf BK286 0
         have hfz14_1 := bf BK286 1
         have p12 : 0 ≤ (x3_2 : Int) := of_decide_eq_true (by first | (with_reducible assumption) | assumption)
         have q12 : x3_2 < (a0_1.size : Int) := of_decide_eq_true (by first | (with_reducible assumption) | assumption)
         have hx12 := bt_at a0_1 x3_2
         replace p12 := eq_true p12
         replace q12 := eq_true q12
         go_wp2
         go_roundg k2
         case measure => have := HJ1.out; have := HK2.out; omega
         case rel => exact ⟨(wrap64 (x3_2 + 1)), (by first | rfl | (simp; done) | (simp [*]; done)), H', ⟨by have := HJ1.out; have := HK2.out; omega⟩, ⟨by (with_reducible repeat (first | refine blk_drewN ?_ _ | refine blk_drew ?_ | refine blk_alloc ?_ _)); exact BK286.out⟩, ⟨(bg HB GE286)⟩⟩
        ·rw [if_neg c13] at H
         have c13b0 : ((bt a0_1 x3_2) == 43) = false := beq_eq_false_iff_ne.mpr c13
         have c13b1 : ((bt a0_1 x3_2) != 43) = true := bne_iff_ne.mpr c13
         by_cases c16 : (bt a0_1 x3_2) = 45
         ·rw [if_pos c16] at H
          have c16b0 : ((bt a0_1 x3_2) == 45) = true := beq_iff_eq.mpr c16
          have c16b1 : ((bt a0_1 x3_2) != 45) = false := bne_eq_false_iff_eq.mpr c16
          clear c16
          have H' := Aside0.mk H
          clear H
          have hcz17_0 := bc BK286 0
          have hcz17_1 := bc BK286 1
          have hfz17_0 := bf BK286 0
          have hfz17_1 := bf BK286 1
          have p12 : 0 ≤ (x3_2 : Int) := of_decide_eq_true (by first | (with_reducible assumption) | assumption)
          have q12 : x3_2 < (a0_1.size : Int) := of_decide_eq_true (by first | (with_reducible assumption) | assumption)
          have hx12 := bt_at a0_1 x3_2
          replace p12 := eq_true p12
          replace q12 := eq_true q12
          have p15 : 0 ≤ (x3_2 : Int) := of_decide_eq_true (by first | (with_reducible assumption) | assumption)
          have q15 : x3_2 < (a0_1.size : Int) := of_decide_eq_true (by first | (with_reducible assumption) | assumption)
          have hx15 := bt_at a0_1 x3_2
          replace p15 := eq_true p15
          replace q15 := eq_true q15
          go_wp2
          go_roundg k2
          case measure => have := HJ1.out; have := HK2.out; omega
          case rel => exact ⟨(wrap64 (x3_2 + 1)), (by first | rfl | (simp; done) | (simp [*]; done)), H', ⟨by have := HJ1.out; have := HK2.out; omega⟩, ⟨by (with_reducible repeat (first | refine blk_drewN ?_ _ | refine blk_drew ?_ | refine blk_alloc ?_ _)); exact BK286.out⟩, ⟨(bg HB GE286)⟩⟩
         ·rw [if_neg c16] at H
          have c16b0 : ((bt a0_1 x3_2) == 45) = false := beq_eq_false_iff_ne.mpr c16
          have c16b1 : ((bt a0_1 x3_2) != 45) = true := bne_iff_ne.mpr c16
          obtain rfl := Option.some.inj H
          have hcz18_0 := bc BK286 0
          have hcz18_1 := bc BK286 1
          have hfz18_0 := bf BK286 0
          have hfz18_1 := bf BK286 1
          have p12 : 0 ≤ (x3_2 : Int) := of_decide_eq_true (by first | (with_reducible assumption) | assumption)
          have q12 : x3_2 < (a0_1.size : Int) := of_decide_eq_true (by first | (with_reducible assumption) | assumption)
          have hx12 := bt_at a0_1 x3_2
          replace p12 := eq_true p12
          replace q12 := eq_true q12
          have p15 : 0 ≤ (x3_2 : Int) := of_decide_eq_true (by first | (with_reducible assumption) | assumption)
          have q15 : x3_2 < (a0_1.size : Int) := of_decide_eq_true (by first | (with_reducible assumption) | assumption)
          have hx15 := bt_at a0_1 x3_2
          replace p15 := eq_true p15
          replace q15 := eq_true q15
          go_wp2
          go_ret
          exact ⟨by first | rfl | (simp [errW_none, errW_some] <;> rfl) | (simp [*, errW_none, errW_some] <;> rfl), (bg HB GE286)⟩
       ·rw [if_neg c11] at H
        exact absurd H (by simp)
      ·rw [if_neg c10] at H
       have c10b0 : decide (x3_2 < (a0_1.size : Int)) = false := decide_eq_false c10
       clear c10
       obtain rfl := Option.some.inj H
       have hcz19_0 := bc BK286 0
       have hcz19_1 := bc BK286 1
       have hfz19_0 := bf BK286 0
       have hfz19_1 := bf BK286 1
       go_wp2
       go_ret
       exact ⟨by first | rfl | (simp [errW_none, errW_some] <;> rfl) | (simp [*, errW_none, errW_some] <;> rfl), (bg HB GE286)⟩

/-! ### impl_quadsOf: function 167 -/
mutual
def impl_quadsOf.l0 : Nat → Int → List (S149) → List (S101) → Int → Int → Option ((List (S149)))
 | 0, _, _, _, _, _ => none
 | k + 1, x0, x3, x8, x9, x10 => if x10 < x9 then (if 0 ≤ x10 then (if x10 < (x8.length : Int) then (impl_quadsOf.l1 k x0 x3 (wrap64 (((rd_T101 x8 x10).f2) + 1)) x8 x9 x10 ((rd_T101 x8 x10).f0) ((rd_T101 x8 x10).f1) ((rd_T101 x8 x10).f2)) else (none)) else (none)) else (some x3)
def impl_quadsOf.l1 : Nat → Int → List (S149) → Int → List (S101) → Int → Int → Int → Int → Int → Option ((List (S149)))
 | 0, _, _, _, _, _, _, _, _, _ => none
 | k + 1, x0, x3, x6, x8, x9, x10, x292000, x292001, x292002 => if x6 < x0 then (if x3.length < 4398046511104 then (impl_quadsOf.l1 k x0 (x3 ++ [(⟨x292000, x292001, x292002, x6⟩ : S149)]) (wrap64 (x6 + 1)) x8 x9 x10 x292000 x292001 x292002) else (none)) else (impl_quadsOf.l0 k x0 x3 x8 x9 (wrap64 (x10 + 1)))
end
def impl_quadsOf.f (k : Nat) (a0 : Int) : Option ((List (S149))) := (impl_triplesOf.f k a0).bind fun t287 => (impl_quadsOf.l0 k a0 ([] : List (S149)) t287 (t287.length : Int) 0)
theorem impl_quadsOf.mono_l : ∀ k, (∀ y0 y1 y2 y3 y4, LeO (impl_quadsOf.l0 k y0 y1 y2 y3 y4) (impl_quadsOf.l0 (k + 1) y0 y1 y2 y3 y4)) ∧ (∀ y0 y1 y2 y3 y4 y5 y6 y7 y8, LeO (impl_quadsOf.l1 k y0 y1 y2 y3 y4 y5 y6 y7 y8) (impl_quadsOf.l1 (k + 1) y0 y1 y2 y3 y4 y5 y6 y7 y8))
 | 0 => ⟨fun _ _ _ _ _ r h => by simp [impl_quadsOf.l0] at h, fun _ _ _ _ _ _ _ _ _ r h => by simp [impl_quadsOf.l1] at h⟩
 | k + 1 => by
  obtain ⟨ih0, ih1⟩ := impl_quadsOf.mono_l k
  refine ⟨?_, ?_⟩
  ·intro y0 y1 y2 y3 y4
   unfold impl_quadsOf.l0
   repeat' first
   | (with_reducible exact ih0 _ _ _ _ _)
   | (with_reducible exact ih1 _ _ _ _ _ _ _ _ _)
   | (with_reducible exact impl_triplesOf.mono _ _)
   | (with_reducible exact LeO.refl _)
   | (with_reducible exact LeO.none _)
   | (with_reducible refine LeO.ite ?_ ?_)
   | (with_reducible refine LeO.bind ?_ (fun _ => ?_))
   | exact ih0 _ _ _ _ _
   | exact ih1 _ _ _ _ _ _ _ _ _
   | exact impl_triplesOf.mono _ _
   | exact LeO.none _
   | refine LeO.ite ?_ ?_
   | refine LeO.bind ?_ (fun _ => ?_)
  ·intro y0 y1 y2 y3 y4 y5 y6 y7 y8
   unfold impl_quadsOf.l1
   repeat' first
   | (with_reducible exact ih0 _ _ _ _ _)
   | (with_reducible exact ih1 _ _ _ _ _ _ _ _ _)
   | (with_reducible exact impl_triplesOf.mono _ _)
   | (with_reducible exact LeO.refl _)
   | (with_reducible exact LeO.none _)
   | (with_reducible refine LeO.ite ?_ ?_)
   | (with_reducible refine LeO.bind ?_ (fun _ => ?_))
   | exact ih0 _ _ _ _ _
   | exact ih1 _ _ _ _ _ _ _ _ _
   | exact impl_triplesOf.mono _ _
   | exact LeO.none _
   | refine LeO.ite ?_ ?_
   | refine LeO.bind ?_ (fun _ => ?_)
theorem impl_quadsOf.mono : ∀ a0 k, LeO (impl_quadsOf.f k a0) (impl_quadsOf.f (k + 1) a0) := by
 intro a0 k
 obtain ⟨ih0, ih1⟩ := impl_quadsOf.mono_l k
 unfold impl_quadsOf.f
 repeat' first
   | (with_reducible exact ih0 _ _ _ _ _)
   | (with_reducible exact ih1 _ _ _ _ _ _ _ _ _)
   | (with_reducible exact impl_triplesOf.mono _ _)
   | (with_reducible exact LeO.refl _)
   | (with_reducible exact LeO.none _)
   | (with_reducible refine LeO.ite ?_ ?_)
   | (with_reducible refine LeO.bind ?_ (fun _ => ?_))
   | exact ih0 _ _ _ _ _
   | exact ih1 _ _ _ _ _ _ _ _ _
   | exact impl_triplesOf.mono _ _
   | exact LeO.none _
   | refine LeO.ite ?_ ?_
   | refine LeO.bind ?_ (fun _ => ?_)
set_option maxHeartbeats 8000000 in
set_option maxRecDepth 100000 in
theorem impl_quadsOf.calls (k : Nat) (a0 : Int) (r : List (S149)) (w : World) (h : impl_quadsOf.f k a0 = some r) :
  Calls Try.prog 167 #[.int .i64 a0] w fun e w' => ∃ v0_ : Value, e = .returned (v0_) ∧ Kd.R k149 149 w' w.heap.size (fun _ => True) v0_ r ∧ Below w.heap.size w w' := by
 have hu101 := Try.underlying101
 have hu149 := Try.underlying149
 have HB := Aside0.mk (Below.refl w.heap.size w)
 have H : ((impl_triplesOf.f k a0).bind fun t287 => (impl_quadsOf.l0 k a0 ([] : List (S149)) t287 (t287.length : Int) 0)) = some r := h
 clear h
 replace H := Option.bind_eq_some_iff.mp H
 obtain ⟨t287, A20, H⟩ := H
 (try dsimp only at H)
 have A2 := Aside0.mk A20
 clear A20
 have H' := Aside0.mk H
 clear H
 go_enter Try.func167, Try.ntmps167
 go_wp2_with (first | ((with_reducible refine gate_callee (f := 97) rfl ?_); refine gL (some 8) rfl rfl Try.func97 (by kernel_rfl) rfl #[.int .i64 a0] rfl ?_; (with_reducible refine (impl_triplesOf.calls k a0 t287 _ A2.out).mono ?_); rintro e w3 ⟨v288, rfl, ho0, hb⟩; refine ⟨_, rfl, ?_⟩; have n0_ := Aside0.mk (Kd.R_lower ho0 (below_size (bl HB))); have n1_ := bs HB hb; clear HB; have HO289 := n0_; have HB := n1_; clear n0_ n1_; (try clear hb); (try clear hb2); (try clear hk); (try clear hi); (try clear ho0); obtain ⟨Ao4, co4, eo4⟩ := Kd.R_slice HO289.out; subst eo4))
 go_loopg [3, 10] k (fun kq v3 v10 w' => ∃ (x3_1 : List (S149)) (x10_1 : Int), v10 = .int .i64 x10_1 ∧ Aside0 (impl_quadsOf.l0 kq a0 x3_1 t287 (t287.length : Int) x10_1 = some r) ∧ Aside0 (kq ≤ k) ∧ Aside0 (Kd.R k149 149 w' w.heap.size (fun _ => True) v3 x3_1) ∧ Aside0 (Kd.R k101 101 w' w.heap.size (fun _ => True) (.slice Ao4 t287.length co4) t287) ∧ Aside0 (Below w.heap.size w w'))
 case atStart => exact ⟨(([] : List (S149))), (0), (by first | rfl | (simp; done) | (simp [*]; done)), H', ⟨Nat.le_refl _⟩, ⟨by first | exact Kd.R_nil _ _ _ _ _ | exact Kd.N_nil _ _ _ _ _ | exact Kd.V_nil _ _ _ _ _ | exact Kd.Q_nil _ _ _ _ _ | exact Kd.S_nil _ _ _ _ _⟩, ⟨by (with_reducible repeat (first | apply Kd.R_alloc | apply Kd.R_drewN | apply Kd.R_drew)); exact HO289.out⟩, ⟨(bl HB)⟩⟩
 case round =>
  clear H'
  try clear c1
  try clear p2
  obtain ⟨x3_1, x10_1, rfl, HA, HK1, HO_3, HO_8, HB⟩ := hrel
  cases gk with
  | zero => exact absurd HA.out (by simp [impl_quadsOf.l0])
  | succ k1 =>
   have H := HA.out
   clear HA
   simp only [impl_quadsOf.l0] at H
   by_cases c5 : x10_1 < (t287.length : Int)
   ·rw [if_pos c5] at H
    have c5b0 : decide (x10_1 < (t287.length : Int)) = true := decide_eq_true c5
    clear c5
    by_cases c6 : 0 ≤ x10_1
    ·rw [if_pos c6] at H
     have c6b0 : decide (0 ≤ x10_1) = true := decide_eq_true c6
     clear c6
     by_cases c7 : x10_1 < (t287.length : Int)
     ·rw [if_pos c7] at H
      have c7b0 : decide (x10_1 < (t287.length : Int)) = true := decide_eq_true c7
      clear c7
      have H' := Aside0.mk H
      clear H
      have p290 : 0 ≤ (x10_1 : Int) := of_decide_eq_true (by first | (with_reducible assumption) | assumption)
      have q290 : x10_1 < (t287.length : Int) := of_decide_eq_true (by first | (with_reducible assumption) | assumption)
      obtain ⟨ad290, e290, hx290_0, hx290_1, hx290_2⟩ := at_T101 (Kd.R_reads' HO_8.out).2.2 x10_1 p290 q290
      cases e290
      replace p290 := eq_true p290
      replace q290 := eq_true q290
      go_wp2_with (first | ((with_reducible refine gate_dst (N := 5) rfl ?_); refine bx 5 #[.int .i64 0, .int .i64 0, .int .i64 0] 101 ?_; intro gb291 hg w8 hbox hb; have n0_ := Aside0.mk (Kd.R_below (rr HO_3) hb); have n1_ := Aside0.mk (Kd.R_below (Kd.R_elderB (rr HO_8) gb291 (Nat.le_of_eq hg.symm)) hb); have n2_ := bs HB hb; have n3_ := Aside0.mk (hbox); have n4_ := Aside0.mk ((by rw [hg]; exact (below_size (bl HB)) : w.heap.size ≤ gb291)); have n5_ := Aside0.mk ((by rw [hg]; exact (below_size (bl HB)) : w.heap.size ≤ gb291)); clear HO_3; clear HO_8; clear HB; have HO_3 := n0_; have HO_8 := n1_; have HB := n2_; have BK291 := n3_; have GW291 := n4_; have GE291 := n5_; clear n0_ n1_ n2_ n3_ n4_ n5_; clear hb hbox hg; have hcz9_0 := bc BK291 0; have hcz9_1 := bc BK291 1; have hcz9_2 := bc BK291 2; have hfz9_0 := bf BK291 0; have hfz9_1 := bf BK291 1; have hfz9_2 := bf BK291 2))
      go_loopg [3, 6] k1 (fun kq v3 v6 w' => ∃ (x3_2 : List (S149)) (x6_2 : Int), v6 = .int .i64 x6_2 ∧ Aside0 (impl_quadsOf.l1 kq a0 x3_2 x6_2 t287 (t287.length : Int) x10_1 ((rd_T101 t287 x10_1).f0) ((rd_T101 t287 x10_1).f1) ((rd_T101 t287 x10_1).f2) = some r) ∧ Aside0 (kq ≤ k1) ∧ Aside0 (Kd.R k149 149 w' w.heap.size (fun _ => True) v3 x3_2) ∧ Aside0 (Kd.R k101 101 w' w.heap.size (fun k_ => k_ ≠ gb291) (.slice (some ad290) t287.length co4) t287) ∧ Aside0 (w'.heap[gb291]? = some (.cells #[.int .i64 ((rd_T101 t287 x10_1).f0), .int .i64 ((rd_T101 t287 x10_1).f1), .int .i64 ((rd_T101 t287 x10_1).f2)] 101 (0, 0))) ∧ Aside0 (Below w.heap.size w w'))
      case atStart => exact ⟨(x3_1), (wrap64 (((rd_T101 t287 x10_1).f2) + 1)), (by first | rfl | (simp; done) | (simp [*]; done)), H', ⟨Nat.le_refl _⟩, ⟨by (with_reducible repeat (first | apply Kd.R_alloc | apply Kd.R_drewN | apply Kd.R_drew)); exact Kd.R_mono (Kd.R_far (p := ⟨gb291, 2, none⟩) (Kd.R_far (p := ⟨gb291, 1, none⟩) (Kd.R_far (p := ⟨gb291, 0, none⟩) (Kd.R_types HO_3.out BK291.out (by decide)) (fun _ hk => hk.2) (.int .i64 ((rd_T101 t287 x10_1).f0))) (fun _ hk => hk.2) (.int .i64 ((rd_T101 t287 x10_1).f1))) (fun _ hk => hk.2) (.int .i64 ((rd_T101 t287 x10_1).f2))) (fun _ hk => trivial)⟩, ⟨by (with_reducible repeat (first | apply Kd.R_alloc | apply Kd.R_drewN | apply Kd.R_drew)); exact Kd.R_mono (Kd.R_far (p := ⟨gb291, 2, none⟩) (Kd.R_far (p := ⟨gb291, 1, none⟩) (Kd.R_far (p := ⟨gb291, 0, none⟩) (Kd.R_mono HO_8.out (fun k_ hk => (⟨hk, hk.2⟩ : _ ∧ k_ ≠ gb291))) (fun _ hk => hk.2) (.int .i64 ((rd_T101 t287 x10_1).f0))) (fun _ hk => hk.2) (.int .i64 ((rd_T101 t287 x10_1).f1))) (fun _ hk => hk.2) (.int .i64 ((rd_T101 t287 x10_1).f2))) (fun _ hk => hk.1.2)⟩, ⟨by (with_reducible repeat (first | refine blk_drewN ?_ _ | refine blk_drew ?_ | refine blk_alloc ?_ _)); refine blk_put (cs := #[.int .i64 ((rd_T101 t287 x10_1).f0), .int .i64 ((rd_T101 t287 x10_1).f1), .int .i64 0]) ?_ 2 _ rfl; (with_reducible repeat (first | refine blk_drewN ?_ _ | refine blk_drew ?_ | refine blk_alloc ?_ _)); refine blk_put (cs := #[.int .i64 ((rd_T101 t287 x10_1).f0), .int .i64 0, .int .i64 0]) ?_ 1 _ rfl; (with_reducible repeat (first | refine blk_drewN ?_ _ | refine blk_drew ?_ | refine blk_alloc ?_ _)); refine blk_put (cs := #[.int .i64 0, .int .i64 0, .int .i64 0]) ?_ 0 _ rfl; (with_reducible repeat (first | refine blk_drewN ?_ _ | refine blk_drew ?_ | refine blk_alloc ?_ _)); exact BK291.out⟩, ⟨(bg HB GE291)⟩⟩
      case round =>
       clear H'
       try clear c1
       try clear p2
       try clear q2
       try clear hx2
       try clear c5
       try clear c5b0
       try clear c6
       try clear c6b0
       try clear p6
       try clear c7
       try clear c7b0
       try clear c9
       try clear hcz9_0
       try clear hcz9_1
       try clear hcz9_2
       try clear hfz9_0
       try clear hfz9_1
       try clear hfz9_2
       try clear hx290_0
       try clear hx290_1
       try clear hx290_2
       try clear p2
       try clear p290
       try clear q290
       obtain ⟨x3_2, x6_2, rfl, HA, HK2, HO_3, HO_8, BK291, HB⟩ := hrel
       cases gk with
       | zero => exact absurd HA.out (by simp [impl_quadsOf.l1])
       | succ k2 =>
        have H := HA.out
        clear HA
        simp only [impl_quadsOf.l1] at H
        by_cases c10 : x6_2 < a0
        ·rw [if_pos c10] at H
         have c10b0 : decide (x6_2 < a0) = true := decide_eq_true c10
         clear c10
         by_cases c11 : x3_2.length < 4398046511104
         ·rw [if_pos c11] at H
          have LMc11 := Aside0.mk c11
          clear c11
          obtain ⟨y292, hy292⟩ : ∃ y_ : List (S149), y_ = (x3_2 ++ [(⟨((rd_T101 t287 x10_1).f0), ((rd_T101 t287 x10_1).f1), ((rd_T101 t287 x10_1).f2), x6_2⟩ : S149)]) := ⟨_, rfl⟩
          replace H : (impl_quadsOf.l1 k2 a0 y292 (wrap64 (x6_2 + 1)) t287 (t287.length : Int) x10_1 ((rd_T101 t287 x10_1).f0) ((rd_T101 t287 x10_1).f1) ((rd_T101 t287 x10_1).f2)) = some r := by first | (rw [hy292]; with_reducible exact H) | (have H2_ := (Option.bind_some _ _).symm.trans H; rw [hy292]; with_reducible exact H2_) | (have H2_ := (Option.bind_some _ _).symm.trans H; with_reducible exact H2_) | with_reducible exact H | (rw [hy292]; exact H) | exact H
          have Ny292 := Aside0.mk hy292
          clear hy292
          have H' := Aside0.mk H
          clear H
          have hcz12_0 := bc BK291 0
          have hcz12_1 := bc BK291 1
          have hcz12_2 := bc BK291 2
          have hfz12_0 := bf BK291 0
          have hfz12_1 := bf BK291 1
          have hfz12_2 := bf BK291 2
          go_wp2_with (first | ((with_reducible refine gate_builtin (b := .append) (xs := #[.tmp 22, .tmp 31]) rfl ?_); at_builtin; refine Kd.R_append k149 (w0 := w) w.heap.size rfl (.tmp 22) (.tmp 31) 147 149 (.agg #[(.int .i64 0), (.int .i64 0), (.int .i64 0), (.int .i64 0)]) 32 rfl Try.underlying147 info149 rfl (by decide) (by omega) u3 x3_2 (⟨((rd_T101 t287 x10_1).f0), ((rd_T101 t287 x10_1).f1), ((rd_T101 t287 x10_1).f2), x6_2⟩ : S149) [.int .i64 ((rd_T101 t287 x10_1).f0), .int .i64 ((rd_T101 t287 x10_1).f1), .int .i64 ((rd_T101 t287 x10_1).f2), .int .i64 x6_2] (fun _ => True) (fun _ => False) rfl rfl ?aP (fun _ hk => hk.elim) ?aF ?aO ?aB ?aS ?aL ?_; (case aP => exact k149_mkM _ _ _ (⟨((rd_T101 t287 x10_1).f0), ((rd_T101 t287 x10_1).f1), ((rd_T101 t287 x10_1).f2), x6_2⟩ : S149)); (case aB => exact (bg HB GE291)); (case aF => exact (fun _ _ => trivial)); (case aO => exact (rr HO_3)); (case aS => exact (below_size (bg HB GE291))); (case aL => have := LMc11.out; omega); intro v293 w13 ho hb hg hat; rw [← Ny292.out] at ho; have n0_ := Aside0.mk (Kd.R_over' (rr HO_8) (Kd.R_typed (rr HO_3)) (by decide) hg); have n1_ := Aside0.mk (blk_grown (g := gb291) (o := .cells #[.int .i64 ((rd_T101 t287 x10_1).f0), .int .i64 ((rd_T101 t287 x10_1).f1), .int .i64 ((rd_T101 t287 x10_1).f2)] 101 (0, 0)) (bk BK291) hg (Kd.R_ne HO_3.out BK291.out (by decide))); have n2_ := Aside0.mk (hb); have n3_ := Aside0.mk (ho); clear HO_8; clear BK291; clear HB; clear HO_3; have HO_8 := n0_; have BK291 := n1_; have HB := n2_; have HO294 := n3_; clear n0_ n1_ n2_ n3_; clear ho hb hg hat))
          go_roundg k2
          case measure => have := HK1.out; have := HK2.out; omega
          case rel => exact ⟨(y292), (wrap64 (x6_2 + 1)), (by first | rfl | (simp; done) | (simp [*]; done)), H', ⟨by have := HK1.out; have := HK2.out; omega⟩, ⟨by (with_reducible repeat (first | apply Kd.R_alloc | apply Kd.R_drewN | apply Kd.R_drew)); exact HO294.out⟩, ⟨by (with_reducible repeat (first | apply Kd.R_alloc | apply Kd.R_drewN | apply Kd.R_drew)); exact HO_8.out⟩, ⟨by (with_reducible repeat (first | refine blk_drewN ?_ _ | refine blk_drew ?_ | refine blk_alloc ?_ _)); exact BK291.out⟩, ⟨(bg HB GE291)⟩⟩
         ·rw [if_neg c11] at H
          exact absurd H (by simp)
        ·rw [if_neg c10] at H
         have c10b0 : decide (x6_2 < a0) = false := decide_eq_false c10
         clear c10
         have H' := Aside0.mk H
         clear H
         go_wp2
         go_roundg k2
         case measure => have := HK1.out; have := HK2.out; omega
         case rel => exact ⟨(x3_2), (wrap64 (x10_1 + 1)), (by first | rfl | (simp; done) | (simp [*]; done)), H', ⟨by have := HK1.out; have := HK2.out; omega⟩, ⟨by (with_reducible repeat (first | apply Kd.R_alloc | apply Kd.R_drewN | apply Kd.R_drew)); exact HO_3.out⟩, ⟨by (with_reducible repeat (first | apply Kd.R_alloc | apply Kd.R_drewN | apply Kd.R_drew)); exact Kd.R_mono HO_8.out (fun _ hk => trivial)⟩, ⟨(bg HB GE291)⟩⟩
     ·rw [if_neg c7] at H
      exact absurd H (by simp)
    ·rw [if_neg c6] at H
     exact absurd H (by simp)
   ·rw [if_neg c5] at H
    have c5b0 : decide (x10_1 < (t287.length : Int)) = false := decide_eq_false c5
    clear c5
    obtain rfl := Option.some.inj H
    go_wp2
    go_ret
    exact ⟨_, by first | rfl | (simp [errW_none, errW_some] <;> rfl) | (simp [*, errW_none, errW_some] <;> rfl), by (with_reducible repeat (first | apply Kd.R_alloc | apply Kd.R_drewN | apply Kd.R_drew)); exact HO_3.out, (bl HB)⟩

/-! ### impl_chi_breaks: function 183 -/
def impl_chi_breaks.f (l0 : List Int) (a1 : Int) (a2 : Int) (a3 : Int) (a4 : Int) (a5 : Int) : Option (Bool) := if 0 ≤ a1 then (if a1 < 7 then (if 0 ≤ a2 then (if a2 < 7 then (if 0 ≤ a3 then (if a3 < 7 then (if 344 ≤ (l0.length : Int) then (if 0 ≤ a4 then (if a4 < 7 then (if 0 ≤ a5 then (if a5 < 7 then (if (wrap64 ((rd l0 (cidx a1 a2 a3)) * (rd l0 (cidx a1 a4 a5)))) = (wrap64 ((rd l0 (cidx a1 a2 a5)) * (rd l0 (cidx a1 a3 a4)))) then (some ((wrap64 ((rd l0 (cidx a1 a2 a5)) * (rd l0 (cidx a1 a3 a4)))) == (wrap64 ((wrap64 (-(rd l0 (cidx a1 a2 a4)))) * (rd l0 (cidx a1 a3 a5)))))) else (some false)) else (none)) else (none)) else (none)) else (none)) else (none)) else (none)) else (none)) else (none)) else (none)) else (none)) else (none)
set_option maxHeartbeats 8000000 in
set_option maxRecDepth 100000 in
theorem impl_chi_breaks.calls (A0 : Option Addr) (c0 : Nat) (l0 : List Int) (a1 : Int) (a2 : Int) (a3 : Int) (a4 : Int) (a5 : Int) (r : Bool) (w : World) (hr0 : Kd.C (Kd.int .i64) w A0 l0.length l0) (hc0 : l0.length ≤ c0) (h : impl_chi_breaks.f l0 a1 a2 a3 a4 a5 = some r) :
  Calls Try.prog 183 #[.pointer A0, .int .i64 a1, .int .i64 a2, .int .i64 a3, .int .i64 a4, .int .i64 a5] w fun e w' => e = .returned (.bool r) ∧ Drawn0 w w' := by
 have HR0 := Aside0.mk hr0
 have HC0 := Aside0.mk hc0
 clear hr0 hc0
 have H : (if 0 ≤ a1 then (if a1 < 7 then (if 0 ≤ a2 then (if a2 < 7 then (if 0 ≤ a3 then (if a3 < 7 then (if 344 ≤ (l0.length : Int) then (if 0 ≤ a4 then (if a4 < 7 then (if 0 ≤ a5 then (if a5 < 7 then (if (wrap64 ((rd l0 (cidx a1 a2 a3)) * (rd l0 (cidx a1 a4 a5)))) = (wrap64 ((rd l0 (cidx a1 a2 a5)) * (rd l0 (cidx a1 a3 a4)))) then (some ((wrap64 ((rd l0 (cidx a1 a2 a5)) * (rd l0 (cidx a1 a3 a4)))) == (wrap64 ((wrap64 (-(rd l0 (cidx a1 a2 a4)))) * (rd l0 (cidx a1 a3 a5)))))) else (some false)) else (none)) else (none)) else (none)) else (none)) else (none)) else (none)) else (none)) else (none)) else (none)) else (none)) else (none)) = some r := h
 clear h
 by_cases c7 : 0 ≤ a1
 ·rw [if_pos c7] at H
  have c7b0 : decide (0 ≤ a1) = true := decide_eq_true c7
  clear c7
  by_cases c8 : a1 < 7
  ·rw [if_pos c8] at H
   have c8b0 : decide (a1 < 7) = true := decide_eq_true c8
   clear c8
   by_cases c9 : 0 ≤ a2
   ·rw [if_pos c9] at H
    have c9b0 : decide (0 ≤ a2) = true := decide_eq_true c9
    clear c9
    by_cases c10 : a2 < 7
    ·rw [if_pos c10] at H
     have c10b0 : decide (a2 < 7) = true := decide_eq_true c10
     clear c10
     by_cases c11 : 0 ≤ a3
     ·rw [if_pos c11] at H
      have c11b0 : decide (0 ≤ a3) = true := decide_eq_true c11
      clear c11
      by_cases c12 : a3 < 7
      ·rw [if_pos c12] at H
       have c12b0 : decide (a3 < 7) = true := decide_eq_true c12
       clear c12
       by_cases c13 : 344 ≤ (l0.length : Int)
       ·rw [if_pos c13] at H
        have c13b0 := eq_true c13
        have c13b1 : decide (344 ≤ (l0.length : Int)) = true := decide_eq_true c13
        clear c13
        by_cases c14 : 0 ≤ a4
        ·rw [if_pos c14] at H
         have c14b0 : decide (0 ≤ a4) = true := decide_eq_true c14
         clear c14
         by_cases c15 : a4 < 7
         ·rw [if_pos c15] at H
          have c15b0 : decide (a4 < 7) = true := decide_eq_true c15
          clear c15
          by_cases c16 : 0 ≤ a5
          ·rw [if_pos c16] at H
           have c16b0 : decide (0 ≤ a5) = true := decide_eq_true c16
           clear c16
           by_cases c17 : a5 < 7
           ·rw [if_pos c17] at H
            have c17b0 : decide (a5 < 7) = true := decide_eq_true c17
            clear c17
            have c18b0 := eq_true (of_decide_eq_true (by first | (with_reducible assumption) | assumption) : 344 ≤ (l0.length : Int))
            have c19b0 := eq_true (of_decide_eq_true (by first | (with_reducible assumption) | assumption) : 344 ≤ (l0.length : Int))
            have c20b0 := eq_true (of_decide_eq_true (by first | (with_reducible assumption) | assumption) : 344 ≤ (l0.length : Int))
            have c21b0 := eq_true (of_decide_eq_true (by first | (with_reducible assumption) | assumption) : 344 ≤ (l0.length : Int))
            have c22b0 := eq_true (of_decide_eq_true (by first | (with_reducible assumption) | assumption) : 344 ≤ (l0.length : Int))
            by_cases c23 : (wrap64 ((rd l0 (cidx a1 a2 a3)) * (rd l0 (cidx a1 a4 a5)))) = (wrap64 ((rd l0 (cidx a1 a2 a5)) * (rd l0 (cidx a1 a3 a4))))
            ·rw [if_pos c23] at H
             have c23b0 : ((wrap64 ((rd l0 (cidx a1 a2 a3)) * (rd l0 (cidx a1 a4 a5)))) == (wrap64 ((rd l0 (cidx a1 a2 a5)) * (rd l0 (cidx a1 a3 a4))))) = true := beq_iff_eq.mpr c23
             have c23b1 : ((wrap64 ((rd l0 (cidx a1 a2 a3)) * (rd l0 (cidx a1 a4 a5)))) != (wrap64 ((rd l0 (cidx a1 a2 a5)) * (rd l0 (cidx a1 a3 a4))))) = false := bne_eq_false_iff_eq.mpr c23
             clear c23
             obtain rfl := Option.some.inj H
             have cp295_0 : 0 ≤ (a1 : Int) := of_decide_eq_true (by first | (with_reducible assumption) | assumption)
             have cq295_0 : (a1 : Int) < 7 := of_decide_eq_true (by first | (with_reducible assumption) | assumption)
             have cp295_1 : 0 ≤ (a2 : Int) := of_decide_eq_true (by first | (with_reducible assumption) | assumption)
             have cq295_1 : (a2 : Int) < 7 := of_decide_eq_true (by first | (with_reducible assumption) | assumption)
             have cp295_2 : 0 ≤ (a3 : Int) := of_decide_eq_true (by first | (with_reducible assumption) | assumption)
             have cq295_2 : (a3 : Int) < 7 := of_decide_eq_true (by first | (with_reducible assumption) | assumption)
             have cl295 : (344 : Int) ≤ (l0.length : Int) := of_decide_eq_true (by first | (with_reducible assumption) | assumption)
             have p295 : 0 ≤ ((cidx a1 a2 a3) : Int) := cidx_nonneg _ _ _
             have q295 : (cidx a1 a2 a3) < (l0.length : Int) := cidx_lt cq295_0 cq295_1 cq295_2 cl295
             obtain ⟨ad295, e295, hx295_0⟩ := Kd.at_int HR0.out (cidx a1 a2 a3) p295 q295
             cases e295
             (first | rw [chi_add] at hx295_0 | simp only [cidx_nat] at hx295_0)
             replace cp295_0 := eq_true cp295_0
             replace cq295_0 := eq_true cq295_0
             replace cp295_1 := eq_true cp295_1
             replace cq295_1 := eq_true cq295_1
             replace cp295_2 := eq_true cp295_2
             replace cq295_2 := eq_true cq295_2
             replace p295 := eq_true p295
             replace q295 := eq_true q295
             have cp296_0 : 0 ≤ (a1 : Int) := of_decide_eq_true (by first | (with_reducible assumption) | assumption)
             have cq296_0 : (a1 : Int) < 7 := of_decide_eq_true (by first | (with_reducible assumption) | assumption)
             have cp296_1 : 0 ≤ (a4 : Int) := of_decide_eq_true (by first | (with_reducible assumption) | assumption)
             have cq296_1 : (a4 : Int) < 7 := of_decide_eq_true (by first | (with_reducible assumption) | assumption)
             have cp296_2 : 0 ≤ (a5 : Int) := of_decide_eq_true (by first | (with_reducible assumption) | assumption)
             have cq296_2 : (a5 : Int) < 7 := of_decide_eq_true (by first | (with_reducible assumption) | assumption)
             have cl296 : (344 : Int) ≤ (l0.length : Int) := of_decide_eq_true (by first | (with_reducible assumption) | assumption)
             have p296 : 0 ≤ ((cidx a1 a4 a5) : Int) := cidx_nonneg _ _ _
             have q296 : (cidx a1 a4 a5) < (l0.length : Int) := cidx_lt cq296_0 cq296_1 cq296_2 cl296
             obtain ⟨ad296, e296, hx296_0⟩ := Kd.at_int HR0.out (cidx a1 a4 a5) p296 q296
             obtain rfl : ad295 = ad296 := (by injection e296)
             (first | rw [chi_add] at hx296_0 | simp only [cidx_nat] at hx296_0)
             replace cp296_0 := eq_true cp296_0
             replace cq296_0 := eq_true cq296_0
             replace cp296_1 := eq_true cp296_1
             replace cq296_1 := eq_true cq296_1
             replace cp296_2 := eq_true cp296_2
             replace cq296_2 := eq_true cq296_2
             replace p296 := eq_true p296
             replace q296 := eq_true q296
             have cp297_0 : 0 ≤ (a1 : Int) := of_decide_eq_true (by first | (with_reducible assumption) | assumption)
             have cq297_0 : (a1 : Int) < 7 := of_decide_eq_true (by first | (with_reducible assumption) | assumption)
             have cp297_1 : 0 ≤ (a2 : Int) := of_decide_eq_true (by first | (with_reducible assumption) | assumption)
             have cq297_1 : (a2 : Int) < 7 := of_decide_eq_true (by first | (with_reducible assumption) | assumption)
             have cp297_2 : 0 ≤ (a5 : Int) := of_decide_eq_true (by first | (with_reducible assumption) | assumption)
             have cq297_2 : (a5 : Int) < 7 := of_decide_eq_true (by first | (with_reducible assumption) | assumption)
             have cl297 : (344 : Int) ≤ (l0.length : Int) := of_decide_eq_true (by first | (with_reducible assumption) | assumption)
             have p297 : 0 ≤ ((cidx a1 a2 a5) : Int) := cidx_nonneg _ _ _
             have q297 : (cidx a1 a2 a5) < (l0.length : Int) := cidx_lt cq297_0 cq297_1 cq297_2 cl297
             obtain ⟨ad297, e297, hx297_0⟩ := Kd.at_int HR0.out (cidx a1 a2 a5) p297 q297
             obtain rfl : ad295 = ad297 := (by injection e297)
             (first | rw [chi_add] at hx297_0 | simp only [cidx_nat] at hx297_0)
             replace cp297_0 := eq_true cp297_0
             replace cq297_0 := eq_true cq297_0
             replace cp297_1 := eq_true cp297_1
             replace cq297_1 := eq_true cq297_1
             replace cp297_2 := eq_true cp297_2
             replace cq297_2 := eq_true cq297_2
             replace p297 := eq_true p297
             replace q297 := eq_true q297
             have cp298_0 : 0 ≤ (a1 : Int) := of_decide_eq_true (by first | (with_reducible assumption) | assumption)
             have cq298_0 : (a1 : Int) < 7 := of_decide_eq_true (by first | (with_reducible assumption) | assumption)
             have cp298_1 : 0 ≤ (a3 : Int) := of_decide_eq_true (by first | (with_reducible assumption) | assumption)
             have cq298_1 : (a3 : Int) < 7 := of_decide_eq_true (by first | (with_reducible assumption) | assumption)
             have cp298_2 : 0 ≤ (a4 : Int) := of_decide_eq_true (by first | (with_reducible assumption) | assumption)
             have cq298_2 : (a4 : Int) < 7 := of_decide_eq_true (by first | (with_reducible assumption) | assumption)
             have cl298 : (344 : Int) ≤ (l0.length : Int) := of_decide_eq_true (by first | (with_reducible assumption) | assumption)
             have p298 : 0 ≤ ((cidx a1 a3 a4) : Int) := cidx_nonneg _ _ _
             have q298 : (cidx a1 a3 a4) < (l0.length : Int) := cidx_lt cq298_0 cq298_1 cq298_2 cl298
             obtain ⟨ad298, e298, hx298_0⟩ := Kd.at_int HR0.out (cidx a1 a3 a4) p298 q298
             obtain rfl : ad295 = ad298 := (by injection e298)
             (first | rw [chi_add] at hx298_0 | simp only [cidx_nat] at hx298_0)
             replace cp298_0 := eq_true cp298_0
             replace cq298_0 := eq_true cq298_0
             replace cp298_1 := eq_true cp298_1
             replace cq298_1 := eq_true cq298_1
             replace cp298_2 := eq_true cp298_2
             replace cq298_2 := eq_true cq298_2
             replace p298 := eq_true p298
             replace q298 := eq_true q298
             have cp299_0 : 0 ≤ (a1 : Int) := of_decide_eq_true (by first | (with_reducible assumption) | assumption)
             have cq299_0 : (a1 : Int) < 7 := of_decide_eq_true (by first | (with_reducible assumption) | assumption)
             have cp299_1 : 0 ≤ (a2 : Int) := of_decide_eq_true (by first | (with_reducible assumption) | assumption)
             have cq299_1 : (a2 : Int) < 7 := of_decide_eq_true (by first | (with_reducible assumption) | assumption)
             have cp299_2 : 0 ≤ (a4 : Int) := of_decide_eq_true (by first | (with_reducible assumption) | assumption)
             have cq299_2 : (a4 : Int) < 7 := of_decide_eq_true (by first | (with_reducible assumption) | assumption)
             have cl299 : (344 : Int) ≤ (l0.length : Int) := of_decide_eq_true (by first | (with_reducible assumption) | assumption)
             have p299 : 0 ≤ ((cidx a1 a2 a4) : Int) := cidx_nonneg _ _ _
             have q299 : (cidx a1 a2 a4) < (l0.length : Int) := cidx_lt cq299_0 cq299_1 cq299_2 cl299
             obtain ⟨ad299, e299, hx299_0⟩ := Kd.at_int HR0.out (cidx a1 a2 a4) p299 q299
             obtain rfl : ad295 = ad299 := (by injection e299)
             (first | rw [chi_add] at hx299_0 | simp only [cidx_nat] at hx299_0)
             replace cp299_0 := eq_true cp299_0
             replace cq299_0 := eq_true cq299_0
             replace cp299_1 := eq_true cp299_1
             replace cq299_1 := eq_true cq299_1
             replace cp299_2 := eq_true cp299_2
             replace cq299_2 := eq_true cq299_2
             replace p299 := eq_true p299
             replace q299 := eq_true q299
             have cp300_0 : 0 ≤ (a1 : Int) := of_decide_eq_true (by first | (with_reducible assumption) | assumption)
             have cq300_0 : (a1 : Int) < 7 := of_decide_eq_true (by first | (with_reducible assumption) | assumption)
             have cp300_1 : 0 ≤ (a3 : Int) := of_decide_eq_true (by first | (with_reducible assumption) | assumption)
             have cq300_1 : (a3 : Int) < 7 := of_decide_eq_true (by first | (with_reducible assumption) | assumption)
             have cp300_2 : 0 ≤ (a5 : Int) := of_decide_eq_true (by first | (with_reducible assumption) | assumption)
             have cq300_2 : (a5 : Int) < 7 := of_decide_eq_true (by first | (with_reducible assumption) | assumption)
             have cl300 : (344 : Int) ≤ (l0.length : Int) := of_decide_eq_true (by first | (with_reducible assumption) | assumption)
             have p300 : 0 ≤ ((cidx a1 a3 a5) : Int) := cidx_nonneg _ _ _
             have q300 : (cidx a1 a3 a5) < (l0.length : Int) := cidx_lt cq300_0 cq300_1 cq300_2 cl300
             obtain ⟨ad300, e300, hx300_0⟩ := Kd.at_int HR0.out (cidx a1 a3 a5) p300 q300
             obtain rfl : ad295 = ad300 := (by injection e300)
             (first | rw [chi_add] at hx300_0 | simp only [cidx_nat] at hx300_0)
             replace cp300_0 := eq_true cp300_0
             replace cq300_0 := eq_true cq300_0
             replace cp300_1 := eq_true cp300_1
             replace cq300_1 := eq_true cq300_1
             replace cp300_2 := eq_true cp300_2
             replace cq300_2 := eq_true cq300_2
             replace p300 := eq_true p300
             replace q300 := eq_true q300
             go_enter Try.func183, Try.ntmps183
             go_wp2
             repeat (go_quiet (fail); try go_wp2)
             go_ret
             exact ⟨by first | rfl | (simp; done) | (simp [*]; done), by repeat (first | exact Drawn0.refl _ | apply Drawn0.step)⟩
            ·rw [if_neg c23] at H
             have c23b0 : ((wrap64 ((rd l0 (cidx a1 a2 a3)) * (rd l0 (cidx a1 a4 a5)))) == (wrap64 ((rd l0 (cidx a1 a2 a5)) * (rd l0 (cidx a1 a3 a4))))) = false := beq_eq_false_iff_ne.mpr c23
             have c23b1 : ((wrap64 ((rd l0 (cidx a1 a2 a3)) * (rd l0 (cidx a1 a4 a5)))) != (wrap64 ((rd l0 (cidx a1 a2 a5)) * (rd l0 (cidx a1 a3 a4))))) = true := bne_iff_ne.mpr c23
             obtain rfl := Option.some.inj H
             have cp295_0 : 0 ≤ (a1 : Int) := of_decide_eq_true (by first | (with_reducible assumption) | assumption)
             have cq295_0 : (a1 : Int) < 7 := of_decide_eq_true (by first | (with_reducible assumption) | assumption)
             have cp295_1 : 0 ≤ (a2 : Int) := of_decide_eq_true (by first | (with_reducible assumption) | assumption)
             have cq295_1 : (a2 : Int) < 7 := of_decide_eq_true (by first | (with_reducible assumption) | assumption)
             have cp295_2 : 0 ≤ (a3 : Int) := of_decide_eq_true (by first | (with_reducible assumption) | assumption)
             have cq295_2 : (a3 : Int) < 7 := of_decide_eq_true (by first | (with_reducible assumption) | assumption)
             have cl295 : (344 : Int) ≤ (l0.length : Int) := of_decide_eq_true (by first | (with_reducible assumption) | assumption)
             have p295 : 0 ≤ ((cidx a1 a2 a3) : Int) := cidx_nonneg _ _ _
             have q295 : (cidx a1 a2 a3) < (l0.length : Int) := cidx_lt cq295_0 cq295_1 cq295_2 cl295
             obtain ⟨ad295, e295, hx295_0⟩ := Kd.at_int HR0.out (cidx a1 a2 a3) p295 q295
             cases e295
             (first | rw [chi_add] at hx295_0 | simp only [cidx_nat] at hx295_0)
             replace cp295_0 := eq_true cp295_0
             replace cq295_0 := eq_true cq295_0
             replace cp295_1 := eq_true cp295_1
             replace cq295_1 := eq_true cq295_1
             replace cp295_2 := eq_true cp295_2
             replace cq295_2 := eq_true cq295_2
             replace p295 := eq_true p295
             replace q295 := eq_true q295
             have cp296_0 : 0 ≤ (a1 : Int) := of_decide_eq_true (by first | (with_reducible assumption) | assumption)
             have cq296_0 : (a1 : Int) < 7 := of_decide_eq_true (by first | (with_reducible assumption) | assumption)
             have cp296_1 : 0 ≤ (a4 : Int) := of_decide_eq_true (by first | (with_reducible assumption) | assumption)
             have cq296_1 : (a4 : Int) < 7 := of_decide_eq_true (by first | (with_reducible assumption) | assumption)
             have cp296_2 : 0 ≤ (a5 : Int) := of_decide_eq_true (by first | (with_reducible assumption) | assumption)
             have cq296_2 : (a5 : Int) < 7 := of_decide_eq_true (by first | (with_reducible assumption) | assumption)
             have cl296 : (344 : Int) ≤ (l0.length : Int) := of_decide_eq_true (by first | (with_reducible assumption) | assumption)
             have p296 : 0 ≤ ((cidx a1 a4 a5) : Int) := cidx_nonneg _ _ _
             have q296 : (cidx a1 a4 a5) < (l0.length : Int) := cidx_lt cq296_0 cq296_1 cq296_2 cl296
             obtain ⟨ad296, e296, hx296_0⟩ := Kd.at_int HR0.out (cidx a1 a4 a5) p296 q296
             obtain rfl : ad295 = ad296 := (by injection e296)
             (first | rw [chi_add] at hx296_0 | simp only [cidx_nat] at hx296_0)
             replace cp296_0 := eq_true cp296_0
             replace cq296_0 := eq_true cq296_0
             replace cp296_1 := eq_true cp296_1
             replace cq296_1 := eq_true cq296_1
             replace cp296_2 := eq_true cp296_2
             replace cq296_2 := eq_true cq296_2
             replace p296 := eq_true p296
             replace q296 := eq_true q296
             have cp297_0 : 0 ≤ (a1 : Int) := of_decide_eq_true (by first | (with_reducible assumption) | assumption)
             have cq297_0 : (a1 : Int) < 7 := of_decide_eq_true (by first | (with_reducible assumption) | assumption)
             have cp297_1 : 0 ≤ (a2 : Int) := of_decide_eq_true (by first | (with_reducible assumption) | assumption)
             have cq297_1 : (a2 : Int) < 7 := of_decide_eq_true (by first | (with_reducible assumption) | assumption)
             have cp297_2 : 0 ≤ (a5 : Int) := of_decide_eq_true (by first | (with_reducible assumption) | assumption)
             have cq297_2 : (a5 : Int) < 7 := of_decide_eq_true (by first | (with_reducible assumption) | assumption)
             have cl297 : (344 : Int) ≤ (l0.length : Int) := of_decide_eq_true (by first | (with_reducible assumption) | assumption)
             have p297 : 0 ≤ ((cidx a1 a2 a5) : Int) := cidx_nonneg _ _ _
             have q297 : (cidx a1 a2 a5) < (l0.length : Int) := cidx_lt cq297_0 cq297_1 cq297_2 cl297
             obtain ⟨ad297, e297, hx297_0⟩ := Kd.at_int HR0.out (cidx a1 a2 a5) p297 q297
             obtain rfl : ad295 = ad297 := (by injection e297)
             (first | rw [chi_add] at hx297_0 | simp only [cidx_nat] at hx297_0)
             replace cp297_0 := eq_true cp297_0
             replace cq297_0 := eq_true cq297_0
             replace cp297_1 := eq_true cp297_1
             replace cq297_1 := eq_true cq297_1
             replace cp297_2 := eq_true cp297_2
             replace cq297_2 := eq_true cq297_2
             replace p297 := eq_true p297
             replace q297 := eq_true q297
             have cp298_0 : 0 ≤ (a1 : Int) := of_decide_eq_true (by first | (with_reducible assumption) | assumption)
             have cq298_0 : (a1 : Int) < 7 := of_decide_eq_true (by first | (with_reducible assumption) | assumption)
             have cp298_1 : 0 ≤ (a3 : Int) := of_decide_eq_true (by first | (with_reducible assumption) | assumption)
             have cq298_1 : (a3 : Int) < 7 := of_decide_eq_true (by first | (with_reducible assumption) | assumption)
             have cp298_2 : 0 ≤ (a4 : Int) := of_decide_eq_true (by first | (with_reducible assumption) | assumption)
             have cq298_2 : (a4 : Int) < 7 := of_decide_eq_true (by first | (with_reducible assumption) | assumption)
             have cl298 : (344 : Int) ≤ (l0.length : Int) := of_decide_eq_true (by first | (with_reducible assumption) | assumption)
             have p298 : 0 ≤ ((cidx a1 a3 a4) : Int) := cidx_nonneg _ _ _
             have q298 : (cidx a1 a3 a4) < (l0.length : Int) := cidx_lt cq298_0 cq298_1 cq298_2 cl298
             obtain ⟨ad298, e298, hx298_0⟩ := Kd.at_int HR0.out (cidx a1 a3 a4) p298 q298
             obtain rfl : ad295 = ad298 := (by injection e298)
             (first | rw [chi_add] at hx298_0 | simp only [cidx_nat] at hx298_0)
             replace cp298_0 := eq_true cp298_0
             replace cq298_0 := eq_true cq298_0
             replace cp298_1 := eq_true cp298_1
             replace cq298_1 := eq_true cq298_1
             replace cp298_2 := eq_true cp298_2
             replace cq298_2 := eq_true cq298_2
             replace p298 := eq_true p298
             replace q298 := eq_true q298
             have cp299_0 : 0 ≤ (a1 : Int) := of_decide_eq_true (by first | (with_reducible assumption) | assumption)
             have cq299_0 : (a1 : Int) < 7 := of_decide_eq_true (by first | (with_reducible assumption) | assumption)
             have cp299_1 : 0 ≤ (a2 : Int) := of_decide_eq_true (by first | (with_reducible assumption) | assumption)
             have cq299_1 : (a2 : Int) < 7 := of_decide_eq_true (by first | (with_reducible assumption) | assumption)
             have cp299_2 : 0 ≤ (a4 : Int) := of_decide_eq_true (by first | (with_reducible assumption) | assumption)
             have cq299_2 : (a4 : Int) < 7 := of_decide_eq_true (by first | (with_reducible assumption) | assumption)
             have cl299 : (344 : Int) ≤ (l0.length : Int) := of_decide_eq_true (by first | (with_reducible assumption) | assumption)
             have p299 : 0 ≤ ((cidx a1 a2 a4) : Int) := cidx_nonneg _ _ _
             have q299 : (cidx a1 a2 a4) < (l0.length : Int) := cidx_lt cq299_0 cq299_1 cq299_2 cl299
             obtain ⟨ad299, e299, hx299_0⟩ := Kd.at_int HR0.out (cidx a1 a2 a4) p299 q299
             obtain rfl : ad295 = ad299 := (by injection e299)
             (first | rw [chi_add] at hx299_0 | simp only [cidx_nat] at hx299_0)
             replace cp299_0 := eq_true cp299_0
             replace cq299_0 := eq_true cq299_0
             replace cp299_1 := eq_true cp299_1
             replace cq299_1 := eq_true cq299_1
             replace cp299_2 := eq_true cp299_2
             replace cq299_2 := eq_true cq299_2
             replace p299 := eq_true p299
             replace q299 := eq_true q299
             have cp300_0 : 0 ≤ (a1 : Int) := of_decide_eq_true (by first | (with_reducible assumption) | assumption)
             have cq300_0 : (a1 : Int) < 7 := of_decide_eq_true (by first | (with_reducible assumption) | assumption)
             have cp300_1 : 0 ≤ (a3 : Int) := of_decide_eq_true (by first | (with_reducible assumption) | assumption)
             have cq300_1 : (a3 : Int) < 7 := of_decide_eq_true (by first | (with_reducible assumption) | assumption)
             have cp300_2 : 0 ≤ (a5 : Int) := of_decide_eq_true (by first | (with_reducible assumption) | assumption)
             have cq300_2 : (a5 : Int) < 7 := of_decide_eq_true (by first | (with_reducible assumption) | assumption)
             have cl300 : (344 : Int) ≤ (l0.length : Int) := of_decide_eq_true (by first | (with_reducible assumption) | assumption)
             have p300 : 0 ≤ ((cidx a1 a3 a5) : Int) := cidx_nonneg _ _ _
             have q300 : (cidx a1 a3 a5) < (l0.length : Int) := cidx_lt cq300_0 cq300_1 cq300_2 cl300
             obtain ⟨ad300, e300, hx300_0⟩ := Kd.at_int HR0.out (cidx a1 a3 a5) p300 q300
             obtain rfl : ad295 = ad300 := (by injection e300)
             (first | rw [chi_add] at hx300_0 | simp only [cidx_nat] at hx300_0)
             replace cp300_0 := eq_true cp300_0
             replace cq300_0 := eq_true cq300_0
             replace cp300_1 := eq_true cp300_1
             replace cq300_1 := eq_true cq300_1
             replace cp300_2 := eq_true cp300_2
             replace cq300_2 := eq_true cq300_2
             replace p300 := eq_true p300
             replace q300 := eq_true q300
             go_enter Try.func183, Try.ntmps183
             go_wp2
             repeat (go_quiet (fail); try go_wp2)
             go_ret
             exact ⟨by first | rfl | (simp; done) | (simp [*]; done), by repeat (first | exact Drawn0.refl _ | apply Drawn0.step)⟩
           ·rw [if_neg c17] at H
            exact absurd H (by simp)
          ·rw [if_neg c16] at H
           exact absurd H (by simp)
         ·rw [if_neg c15] at H
          exact absurd H (by simp)
        ·rw [if_neg c14] at H
         exact absurd H (by simp)
       ·rw [if_neg c13] at H
        exact absurd H (by simp)
      ·rw [if_neg c12] at H
       exact absurd H (by simp)
     ·rw [if_neg c11] at H
      exact absurd H (by simp)
    ·rw [if_neg c10] at H
     exact absurd H (by simp)
   ·rw [if_neg c9] at H
    exact absurd H (by simp)
  ·rw [if_neg c8] at H
   exact absurd H (by simp)
 ·rw [if_neg c7] at H
  exact absurd H (by simp)

/-! ### impl_chi_firstBreak: function 179 -/
mutual
def impl_chi_firstBreak.l0 : Nat → List Int → Int → Option (List Int)
 | 0, _, _ => none
 | k + 1, x0, x3 => if 344 ≤ (x0.length : Int) then (if x3 < (rd x0 0) then ((impl_quadsOf.f k (rd x0 0)).bind fun t303 => (impl_chi_firstBreak.l1 k x0 x3 t303 (t303.length : Int) 0)) else (some ([] : List Int))) else (none)
def impl_chi_firstBreak.l1 : Nat → List Int → Int → List (S149) → Int → Int → Option (List Int)
 | 0, _, _, _, _, _ => none
 | k + 1, x0, x3, x18, x19, x20 => if x20 < x19 then (if 0 ≤ x20 then (if x20 < (x18.length : Int) then (if ((rd_T149 x18 x20).f0) = x3 then (impl_chi_firstBreak.l1 k x0 x3 x18 x19 (wrap64 (x20 + 1))) else (if ((rd_T149 x18 x20).f1) = x3 then (impl_chi_firstBreak.l1 k x0 x3 x18 x19 (wrap64 (x20 + 1))) else (if ((rd_T149 x18 x20).f2) = x3 then (impl_chi_firstBreak.l1 k x0 x3 x18 x19 (wrap64 (x20 + 1))) else (if ((rd_T149 x18 x20).f3) = x3 then (impl_chi_firstBreak.l1 k x0 x3 x18 x19 (wrap64 (x20 + 1))) else ((impl_chi_breaks.f x0 x3 ((rd_T149 x18 x20).f0) ((rd_T149 x18 x20).f1) ((rd_T149 x18 x20).f2) ((rd_T149 x18 x20).f3)).bind fun t308 => (if t308 = true then (some (([x3, (rd_T149 x18 x20).f0, (rd_T149 x18 x20).f1, (rd_T149 x18 x20).f2, (rd_T149 x18 x20).f3] : List Int))) else (impl_chi_firstBreak.l1 k x0 x3 x18 x19 (wrap64 (x20 + 1))))))))) else (none)) else (none)) else (impl_chi_firstBreak.l0 k x0 (wrap64 (x3 + 1)))
end
def impl_chi_firstBreak.f (k : Nat) (l0 : List Int) : Option (List Int) := impl_chi_firstBreak.l0 k l0 0
theorem impl_chi_firstBreak.mono_l : ∀ k, (∀ y0 y1, LeO (impl_chi_firstBreak.l0 k y0 y1) (impl_chi_firstBreak.l0 (k + 1) y0 y1)) ∧ (∀ y0 y1 y2 y3 y4, LeO (impl_chi_firstBreak.l1 k y0 y1 y2 y3 y4) (impl_chi_firstBreak.l1 (k + 1) y0 y1 y2 y3 y4))
 | 0 => ⟨fun _ _ r h => by simp [impl_chi_firstBreak.l0] at h, fun _ _ _ _ _ r h => by simp [impl_chi_firstBreak.l1] at h⟩
 | k + 1 => by
  obtain ⟨ih0, ih1⟩ := impl_chi_firstBreak.mono_l k
  refine ⟨?_, ?_⟩
  ·intro y0 y1
   unfold impl_chi_firstBreak.l0
   repeat' first
   | (with_reducible exact ih0 _ _)
   | (with_reducible exact ih1 _ _ _ _ _)
   | (with_reducible exact impl_quadsOf.mono _ _)
   | (with_reducible exact LeO.refl _)
   | (with_reducible exact LeO.none _)
   | (with_reducible refine LeO.ite ?_ ?_)
   | (with_reducible refine LeO.bind ?_ (fun _ => ?_))
   | exact ih0 _ _
   | exact ih1 _ _ _ _ _
   | exact impl_quadsOf.mono _ _
   | exact LeO.none _
   | refine LeO.ite ?_ ?_
   | refine LeO.bind ?_ (fun _ => ?_)
  ·intro y0 y1 y2 y3 y4
   unfold impl_chi_firstBreak.l1
   repeat' first
   | (with_reducible exact ih0 _ _)
   | (with_reducible exact ih1 _ _ _ _ _)
   | (with_reducible exact impl_quadsOf.mono _ _)
   | (with_reducible exact LeO.refl _)
   | (with_reducible exact LeO.none _)
   | (with_reducible refine LeO.ite ?_ ?_)
   | (with_reducible refine LeO.bind ?_ (fun _ => ?_))
   | exact ih0 _ _
   | exact ih1 _ _ _ _ _
   | exact impl_quadsOf.mono _ _
   | exact LeO.none _
   | refine LeO.ite ?_ ?_
   | refine LeO.bind ?_ (fun _ => ?_)
theorem impl_chi_firstBreak.mono : ∀ a0 k, LeO (impl_chi_firstBreak.f k a0) (impl_chi_firstBreak.f (k + 1) a0) := by
 intro a0 k
 obtain ⟨ih0, ih1⟩ := impl_chi_firstBreak.mono_l k
 unfold impl_chi_firstBreak.f
 repeat' first
   | (with_reducible exact ih0 _ _)
   | (with_reducible exact ih1 _ _ _ _ _)
   | (with_reducible exact impl_quadsOf.mono _ _)
   | (with_reducible exact LeO.refl _)
   | (with_reducible exact LeO.none _)
   | (with_reducible refine LeO.ite ?_ ?_)
   | (with_reducible refine LeO.bind ?_ (fun _ => ?_))
   | exact ih0 _ _
   | exact ih1 _ _ _ _ _
   | exact impl_quadsOf.mono _ _
   | exact LeO.none _
   | refine LeO.ite ?_ ?_
   | refine LeO.bind ?_ (fun _ => ?_)
set_option maxHeartbeats 8000000 in
set_option maxRecDepth 100000 in
theorem impl_chi_firstBreak.calls (k : Nat) (A0 : Option Addr) (c0 : Nat) (l0 : List Int) (r : List Int) (w : World) (hr0 : Kd.C (Kd.int .i64) w A0 l0.length l0) (hc0 : l0.length ≤ c0) (h : impl_chi_firstBreak.f k l0 = some r) :
  Calls Try.prog 179 #[.pointer A0] w fun e w' => ∃ v0_ : Value, e = .returned (v0_) ∧ Kd.R (Kd.int .i64) 3 w' w.heap.size (fun _ => r ≠ []) v0_ r ∧ Below w.heap.size w w' := by
 have hu149 := Try.underlying149
 have HR0 := Aside0.mk hr0
 have HC0 := Aside0.mk hc0
 clear hr0 hc0
 have HB := Aside0.mk (Below.refl w.heap.size w)
 have H : (impl_chi_firstBreak.l0 k l0 0) = some r := h
 clear h
 have H' := Aside0.mk H
 clear H
 go_enter Try.func179, Try.ntmps179
 go_wp2
 go_loopg [3] k (fun kq v3 w' => ∃ (x3_1 : Int), v3 = .int .i64 x3_1 ∧ Aside0 (impl_chi_firstBreak.l0 kq l0 x3_1 = some r) ∧ Aside0 (kq ≤ k) ∧ Aside0 (Below w.heap.size w w'))
 case atStart => exact ⟨(0), (by first | rfl | (simp; done) | (simp [*]; done)), H', ⟨Nat.le_refl _⟩, ⟨(bl HB)⟩⟩
 case round =>
  clear H'
  try clear c1
  obtain ⟨x3_1, rfl, HA, HK1, HB⟩ := hrel
  cases gk with
  | zero => exact absurd HA.out (by simp [impl_chi_firstBreak.l0])
  | succ k1 =>
   have H := HA.out
   clear HA
   simp only [impl_chi_firstBreak.l0] at H
   by_cases c2 : 344 ≤ (l0.length : Int)
   ·rw [if_pos c2] at H
    have c2b0 := eq_true c2
    have c2b1 : decide (344 ≤ (l0.length : Int)) = true := decide_eq_true c2
    clear c2
    by_cases c3 : x3_1 < (rd l0 0)
    ·rw [if_pos c3] at H
     have c3b0 : decide (x3_1 < (rd l0 0)) = true := decide_eq_true c3
     clear c3
     have c4b0 := eq_true (of_decide_eq_true (by first | (with_reducible assumption) | assumption) : 344 ≤ (l0.length : Int))
     replace H := Option.bind_eq_some_iff.mp H
     obtain ⟨t303, A50, H⟩ := H
     (try dsimp only at H)
     have A5 := Aside0.mk A50
     clear A50
     have H' := Aside0.mk H
     clear H
     have cl301 : (344 : Int) ≤ (l0.length : Int) := of_decide_eq_true (by first | (with_reducible assumption) | assumption)
     have p301 : 0 ≤ (0 : Int) := (by omega)
     have q301 : 0 < (l0.length : Int) := (by omega)
     obtain ⟨ad301, e301, hx301_0⟩ := Kd.at_int HR0.out 0 p301 q301
     cases e301
     have qi301 : (0 < l0.length) = True := eq_true (by omega)
     (try rw [show ((0 : Int)).toNat = 0 from rfl] at hx301_0)
     (try rw [Addr.add_zero'] at hx301_0)
     replace hx301_0 := (HB.out.cell (World.block_lt_of_cell? w _ hx301_0)).trans hx301_0
     replace p301 := eq_true p301
     replace q301 := eq_true q301
     have cl302 : (344 : Int) ≤ (l0.length : Int) := of_decide_eq_true (by first | (with_reducible assumption) | assumption)
     have p302 : 0 ≤ (0 : Int) := (by omega)
     have q302 : 0 < (l0.length : Int) := (by omega)
     obtain ⟨ad302, e302, hx302_0⟩ := Kd.at_int HR0.out 0 p302 q302
     obtain rfl : ad301 = ad302 := (by injection e302)
     have qi302 : (0 < l0.length) = True := eq_true (by omega)
     (try rw [show ((0 : Int)).toNat = 0 from rfl] at hx302_0)
     (try rw [Addr.add_zero'] at hx302_0)
     replace hx302_0 := (HB.out.cell (World.block_lt_of_cell? w _ hx302_0)).trans hx302_0
     replace p302 := eq_true p302
     replace q302 := eq_true q302
     go_wp2_with (first | ((with_reducible refine gate_callee (f := 167) rfl ?_); refine gL (some 18) rfl rfl Try.func167 (by kernel_rfl) rfl #[.int .i64 (rd l0 0)] rfl ?_; (with_reducible refine (impl_quadsOf.calls k1 (rd l0 0) t303 _ A5.out).mono ?_); rintro e w6 ⟨v304, rfl, ho0, hb⟩; refine ⟨_, rfl, ?_⟩; have n0_ := Aside0.mk (Kd.R_lower ho0 (below_size (bl HB))); have n1_ := bs HB hb; clear HB; have HO305 := n0_; have HB := n1_; clear n0_ n1_; (try clear hb); (try clear hb2); (try clear hk); (try clear hi); (try clear ho0); obtain ⟨Ao7, co7, eo7⟩ := Kd.R_slice HO305.out; subst eo7))
     go_loopg [20] k1 (fun kq v20 w' => ∃ (x20_2 : Int), v20 = .int .i64 x20_2 ∧ Aside0 (impl_chi_firstBreak.l1 kq l0 x3_1 t303 (t303.length : Int) x20_2 = some r) ∧ Aside0 (kq ≤ k1) ∧ Aside0 (Kd.R k149 149 w' w.heap.size (fun _ => True) (.slice Ao7 t303.length co7) t303) ∧ Aside0 (Below w.heap.size w w'))
     case atStart => exact ⟨(0), (by first | rfl | (simp; done) | (simp [*]; done)), H', ⟨Nat.le_refl _⟩, ⟨by (with_reducible repeat (first | apply Kd.R_alloc | apply Kd.R_drewN | apply Kd.R_drew)); exact HO305.out⟩, ⟨(bl HB)⟩⟩
     case round =>
      clear H'
      try clear c1
      try clear c2
      try clear c2b0
      try clear c2b1
      try clear p2
      try clear c3
      try clear c3b0
      try clear p3
      try clear q3
      try clear hx3
      try clear qi3
      try clear c4
      try clear c4b0
      try clear hx301_0
      try clear hx302_0
      try clear p301
      try clear p302
      try clear q301
      try clear q302
      obtain ⟨x20_2, rfl, HA, HK2, HO_18, HB⟩ := hrel
      cases gk with
      | zero => exact absurd HA.out (by simp [impl_chi_firstBreak.l1])
      | succ k2 =>
       have H := HA.out
       clear HA
       simp only [impl_chi_firstBreak.l1] at H
       by_cases c8 : x20_2 < (t303.length : Int)
       ·rw [if_pos c8] at H
        have c8b0 : decide (x20_2 < (t303.length : Int)) = true := decide_eq_true c8
        clear c8
        by_cases c9 : 0 ≤ x20_2
        ·rw [if_pos c9] at H
         have c9b0 : decide (0 ≤ x20_2) = true := decide_eq_true c9
         clear c9
         by_cases c10 : x20_2 < (t303.length : Int)
         ·rw [if_pos c10] at H
          have c10b0 : decide (x20_2 < (t303.length : Int)) = true := decide_eq_true c10
          clear c10
          by_cases c11 : ((rd_T149 t303 x20_2).f0) = x3_1
          ·rw [if_pos c11] at H
           have c11b0 : (((rd_T149 t303 x20_2).f0) == x3_1) = true := beq_iff_eq.mpr c11
           have c11b1 : (((rd_T149 t303 x20_2).f0) != x3_1) = false := bne_eq_false_iff_eq.mpr c11
           clear c11
           have H' := Aside0.mk H
           clear H
           have p306 : 0 ≤ (x20_2 : Int) := of_decide_eq_true (by first | (with_reducible assumption) | assumption)
           have q306 : x20_2 < (t303.length : Int) := of_decide_eq_true (by first | (with_reducible assumption) | assumption)
           obtain ⟨ad306, e306, hx306_0, hx306_1, hx306_2, hx306_3⟩ := at_T149 (Kd.R_reads' HO_18.out).2.2 x20_2 p306 q306
           cases e306
           replace p306 := eq_true p306
           replace q306 := eq_true q306
           go_wp2_with (first | ((with_reducible refine gate_dst (N := 5) rfl ?_); refine bx 5 #[.int .i64 0, .int .i64 0, .int .i64 0, .int .i64 0] 149 ?_; intro gb307 hg w12 hbox hb; have n0_ := Aside0.mk (Kd.R_below (Kd.R_elderB (rr HO_18) gb307 (Nat.le_of_eq hg.symm)) hb); have n1_ := bs HB hb; have n2_ := Aside0.mk (hbox); have n3_ := Aside0.mk ((by rw [hg]; exact (below_size (bl HB)) : w.heap.size ≤ gb307)); have n4_ := Aside0.mk ((by rw [hg]; exact (below_size (bl HB)) : w.heap.size ≤ gb307)); clear HO_18; clear HB; have HO_18 := n0_; have HB := n1_; have BK307 := n2_; have GW307 := n3_; have GE307 := n4_; clear n0_ n1_ n2_ n3_ n4_; clear hb hbox hg; have hcz13_0 := bc BK307 0; have hcz13_1 := bc BK307 1; have hcz13_2 := bc BK307 2; have hcz13_3 := bc BK307 3; have hfz13_0 := bf BK307 0; have hfz13_1 := bf BK307 1; have hfz13_2 := bf BK307 2; have hfz13_3 := bf BK307 3))
           go_roundg k2
           case measure => have := HK1.out; have := HK2.out; omega
           case rel => exact ⟨(wrap64 (x20_2 + 1)), (by first | rfl | (simp; done) | (simp [*]; done)), H', ⟨by have := HK1.out; have := HK2.out; omega⟩, ⟨by (with_reducible repeat (first | apply Kd.R_alloc | apply Kd.R_drewN | apply Kd.R_drew)); exact Kd.R_mono (Kd.R_far (p := ⟨gb307, 3, none⟩) (Kd.R_far (p := ⟨gb307, 2, none⟩) (Kd.R_far (p := ⟨gb307, 1, none⟩) (Kd.R_far (p := ⟨gb307, 0, none⟩) (Kd.R_mono HO_18.out (fun k_ hk => (⟨hk, hk.2⟩ : _ ∧ k_ ≠ gb307))) (fun _ hk => hk.2) (.int .i64 ((rd_T149 t303 x20_2).f0))) (fun _ hk => hk.2) (.int .i64 ((rd_T149 t303 x20_2).f1))) (fun _ hk => hk.2) (.int .i64 ((rd_T149 t303 x20_2).f2))) (fun _ hk => hk.2) (.int .i64 ((rd_T149 t303 x20_2).f3))) (fun _ hk => trivial)⟩, ⟨(bg HB GE307)⟩⟩
          ·rw [if_neg c11] at H
           have c11b0 : (((rd_T149 t303 x20_2).f0) == x3_1) = false := beq_eq_false_iff_ne.mpr c11
           have c11b1 : (((rd_T149 t303 x20_2).f0) != x3_1) = true := bne_iff_ne.mpr c11
           by_cases c14 : ((rd_T149 t303 x20_2).f1) = x3_1
           ·rw [if_pos c14] at H
            have c14b0 : (((rd_T149 t303 x20_2).f1) == x3_1) = true := beq_iff_eq.mpr c14
            have c14b1 : (((rd_T149 t303 x20_2).f1) != x3_1) = false := bne_eq_false_iff_eq.mpr c14
            clear c14
            have H' := Aside0.mk H
            clear H
            have p306 : 0 ≤ (x20_2 : Int) := of_decide_eq_true (by first | (with_reducible assumption) | assumption)
            have q306 : x20_2 < (t303.length : Int) := of_decide_eq_true (by first | (with_reducible assumption) | assumption)
            obtain ⟨ad306, e306, hx306_0, hx306_1, hx306_2, hx306_3⟩ := at_T149 (Kd.R_reads' HO_18.out).2.2 x20_2 p306 q306
            cases e306
            replace p306 := eq_true p306
            replace q306 := eq_true q306
            go_wp2_with (first | ((with_reducible refine gate_dst (N := 5) rfl ?_); refine bx 5 #[.int .i64 0, .int .i64 0, .int .i64 0, .int .i64 0] 149 ?_; intro gb307 hg w15 hbox hb; have n0_ := Aside0.mk (Kd.R_below (Kd.R_elderB (rr HO_18) gb307 (Nat.le_of_eq hg.symm)) hb); have n1_ := bs HB hb; have n2_ := Aside0.mk (hbox); have n3_ := Aside0.mk ((by rw [hg]; exact (below_size (bl HB)) : w.heap.size ≤ gb307)); have n4_ := Aside0.mk ((by rw [hg]; exact (below_size (bl HB)) : w.heap.size ≤ gb307)); clear HO_18; clear HB; have HO_18 := n0_; have HB := n1_; have BK307 := n2_; have GW307 := n3_; have GE307 := n4_; clear n0_ n1_ n2_ n3_ n4_; clear hb hbox hg; have hcz16_0 := bc BK307 0; have hcz16_1 := bc BK307 1; have hcz16_2 := bc BK307 2; have hcz16_3 := bc BK307 3; have hfz16_0 := bf BK307 0; have hfz16_1 := bf BK307 1; have hfz16_2 := bf BK307 2; have hfz16_3 := bf BK307 3))
            go_roundg k2
            case measure => have := HK1.out; have := HK2.out; omega
            case rel => exact ⟨(wrap64 (x20_2 + 1)), (by first | rfl | (simp; done) | (simp [*]; done)), H', ⟨by have := HK1.out; have := HK2.out; omega⟩, ⟨by (with_reducible repeat (first | apply Kd.R_alloc | apply Kd.R_drewN | apply Kd.R_drew)); exact Kd.R_mono (Kd.R_far (p := ⟨gb307, 3, none⟩) (Kd.R_far (p := ⟨gb307, 2, none⟩) (Kd.R_far (p := ⟨gb307, 1, none⟩) (Kd.R_far (p := ⟨gb307, 0, none⟩) (Kd.R_mono HO_18.out (fun k_ hk => (⟨hk, hk.2⟩ : _ ∧ k_ ≠ gb307))) (fun _ hk => hk.2) (.int .i64 ((rd_T149 t303 x20_2).f0))) (fun _ hk => hk.2) (.int .i64 ((rd_T149 t303 x20_2).f1))) (fun _ hk => hk.2) (.int .i64 ((rd_T149 t303 x20_2).f2))) (fun _ hk => hk.2) (.int .i64 ((rd_T149 t303 x20_2).f3))) (fun _ hk => trivial)⟩, ⟨(bg HB GE307)⟩⟩
           ·rw [if_neg c14] at H
            have c14b0 : (((rd_T149 t303 x20_2).f1) == x3_1) = false := beq_eq_false_iff_ne.mpr c14
            have c14b1 : (((rd_T149 t303 x20_2).f1) != x3_1) = true := bne_iff_ne.mpr c14
            by_cases c17 : ((rd_T149 t303 x20_2).f2) = x3_1
            ·rw [if_pos c17] at H
             have c17b0 : (((rd_T149 t303 x20_2).f2) == x3_1) = true := beq_iff_eq.mpr c17
             have c17b1 : (((rd_T149 t303 x20_2).f2) != x3_1) = false := bne_eq_false_iff_eq.mpr c17
             clear c17
             have H' := Aside0.mk H
             clear H
             have p306 : 0 ≤ (x20_2 : Int) := of_decide_eq_true (by first | (with_reducible assumption) | assumption)
             have q306 : x20_2 < (t303.length : Int) := of_decide_eq_true (by first | (with_reducible assumption) | assumption)
             obtain ⟨ad306, e306, hx306_0, hx306_1, hx306_2, hx306_3⟩ := at_T149 (Kd.R_reads' HO_18.out).2.2 x20_2 p306 q306
             cases e306
             replace p306 := eq_true p306
             replace q306 := eq_true q306
             go_wp2_with (first | ((with_reducible refine gate_dst (N := 5) rfl ?_); refine bx 5 #[.int .i64 0, .int .i64 0, .int .i64 0, .int .i64 0] 149 ?_; intro gb307 hg w18 hbox hb; have n0_ := Aside0.mk (Kd.R_below (Kd.R_elderB (rr HO_18) gb307 (Nat.le_of_eq hg.symm)) hb); have n1_ := bs HB hb; have n2_ := Aside0.mk (hbox); have n3_ := Aside0.mk ((by rw [hg]; exact (below_size (bl HB)) : w.heap.size ≤ gb307)); have n4_ := Aside0.mk ((by rw [hg]; exact (below_size (bl HB)) : w.heap.size ≤ gb307)); clear HO_18; clear HB; have HO_18 := n0_; have HB := n1_; have BK307 := n2_; have GW307 := n3_; have GE307 := n4_; clear n0_ n1_ n2_ n3_ n4_; clear hb hbox hg; have hcz19_0 := bc BK307 0; have hcz19_1 := bc BK307 1; have hcz19_2 := bc BK307 2; have hcz19_3 := bc BK307 3; have hfz19_0 := bf BK307 0; have hfz19_1 := bf BK307 1; have hfz19_2 := bf BK307 2; have hfz19_3 := bf BK307 3))
             go_roundg k2
             case measure => have := HK1.out; have := HK2.out; omega
             case rel => exact ⟨(wrap64 (x20_2 + 1)), (by first | rfl | (simp; done) | (simp [*]; done)), H', ⟨by have := HK1.out; have := HK2.out; omega⟩, ⟨by (with_reducible repeat (first | apply Kd.R_alloc | apply Kd.R_drewN | apply Kd.R_drew)); exact Kd.R_mono (Kd.R_far (p := ⟨gb307, 3, none⟩) (Kd.R_far (p := ⟨gb307, 2, none⟩) (Kd.R_far (p := ⟨gb307, 1, none⟩) (Kd.R_far (p := ⟨gb307, 0, none⟩) (Kd.R_mono HO_18.out (fun k_ hk => (⟨hk, hk.2⟩ : _ ∧ k_ ≠ gb307))) (fun _ hk => hk.2) (.int .i64 ((rd_T149 t303 x20_2).f0))) (fun _ hk => hk.2) (.int .i64 ((rd_T149 t303 x20_2).f1))) (fun _ hk => hk.2) (.int .i64 ((rd_T149 t303 x20_2).f2))) (fun _ hk => hk.2) (.int .i64 ((rd_T149 t303 x20_2).f3))) (fun _ hk => trivial)⟩, ⟨(bg HB GE307)⟩⟩
            ·rw [if_neg c17] at H
             have c17b0 : (((rd_T149 t303 x20_2).f2) == x3_1) = false := beq_eq_false_iff_ne.mpr c17
             have c17b1 : (((rd_T149 t303 x20_2).f2) != x3_1) = true := bne_iff_ne.mpr c17
             by_cases c20 : ((rd_T149 t303 x20_2).f3) = x3_1
             ·rw [if_pos c20] at H
              have c20b0 : (((rd_T149 t303 x20_2).f3) == x3_1) = true := beq_iff_eq.mpr c20
              have c20b1 : (((rd_T149 t303 x20_2).f3) != x3_1) = false := bne_eq_false_iff_eq.mpr c20
              clear c20
              have H' := Aside0.mk H
              clear H
              have p306 : 0 ≤ (x20_2 : Int) := of_decide_eq_true (by first | (with_reducible assumption) | assumption)
              have q306 : x20_2 < (t303.length : Int) := of_decide_eq_true (by first | (with_reducible assumption) | assumption)
              obtain ⟨ad306, e306, hx306_0, hx306_1, hx306_2, hx306_3⟩ := at_T149 (Kd.R_reads' HO_18.out).2.2 x20_2 p306 q306
              cases e306
              replace p306 := eq_true p306
              replace q306 := eq_true q306
              go_wp2_with (first | ((with_reducible refine gate_dst (N := 5) rfl ?_); refine bx 5 #[.int .i64 0, .int .i64 0, .int .i64 0, .int .i64 0] 149 ?_; intro gb307 hg w21 hbox hb; have n0_ := Aside0.mk (Kd.R_below (Kd.R_elderB (rr HO_18) gb307 (Nat.le_of_eq hg.symm)) hb); have n1_ := bs HB hb; have n2_ := Aside0.mk (hbox); have n3_ := Aside0.mk ((by rw [hg]; exact (below_size (bl HB)) : w.heap.size ≤ gb307)); have n4_ := Aside0.mk ((by rw [hg]; exact (below_size (bl HB)) : w.heap.size ≤ gb307)); clear HO_18; clear HB; have HO_18 := n0_; have HB := n1_; have BK307 := n2_; have GW307 := n3_; have GE307 := n4_; clear n0_ n1_ n2_ n3_ n4_; clear hb hbox hg; have hcz22_0 := bc BK307 0; have hcz22_1 := bc BK307 1; have hcz22_2 := bc BK307 2; have hcz22_3 := bc BK307 3; have hfz22_0 := bf BK307 0; have hfz22_1 := bf BK307 1; have hfz22_2 := bf BK307 2; have hfz22_3 := bf BK307 3))
              go_roundg k2
              case measure => have := HK1.out; have := HK2.out; omega
              case rel => exact ⟨(wrap64 (x20_2 + 1)), (by first | rfl | (simp; done) | (simp [*]; done)), H', ⟨by have := HK1.out; have := HK2.out; omega⟩, ⟨by (with_reducible repeat (first | apply Kd.R_alloc | apply Kd.R_drewN | apply Kd.R_drew)); exact Kd.R_mono (Kd.R_far (p := ⟨gb307, 3, none⟩) (Kd.R_far (p := ⟨gb307, 2, none⟩) (Kd.R_far (p := ⟨gb307, 1, none⟩) (Kd.R_far (p := ⟨gb307, 0, none⟩) (Kd.R_mono HO_18.out (fun k_ hk => (⟨hk, hk.2⟩ : _ ∧ k_ ≠ gb307))) (fun _ hk => hk.2) (.int .i64 ((rd_T149 t303 x20_2).f0))) (fun _ hk => hk.2) (.int .i64 ((rd_T149 t303 x20_2).f1))) (fun _ hk => hk.2) (.int .i64 ((rd_T149 t303 x20_2).f2))) (fun _ hk => hk.2) (.int .i64 ((rd_T149 t303 x20_2).f3))) (fun _ hk => trivial)⟩, ⟨(bg HB GE307)⟩⟩
             ·rw [if_neg c20] at H
              have c20b0 : (((rd_T149 t303 x20_2).f3) == x3_1) = false := beq_eq_false_iff_ne.mpr c20
              have c20b1 : (((rd_T149 t303 x20_2).f3) != x3_1) = true := bne_iff_ne.mpr c20
              replace H := Option.bind_eq_some_iff.mp H
              obtain ⟨t308, A230, H⟩ := H
              (try dsimp only at H)
              have A23 := Aside0.mk A230
              clear A230
              by_cases c24 : t308 = true
              ·subst c24
               have H1 : (some (([x3_1, (rd_T149 t303 x20_2).f0, (rd_T149 t303 x20_2).f1, (rd_T149 t303 x20_2).f2, (rd_T149 t303 x20_2).f3] : List Int))) = some r := by rw [if_pos rfl] at H; exact H
               clear H
               have H := H1
               clear H1
               obtain ⟨y309, hy309⟩ : ∃ y_ : List Int, y_ = (([x3_1, (rd_T149 t303 x20_2).f0, (rd_T149 t303 x20_2).f1, (rd_T149 t303 x20_2).f2, (rd_T149 t303 x20_2).f3] : List Int)) := ⟨_, rfl⟩
               replace H : (some y309) = some r := by first | (rw [hy309]; with_reducible exact H) | (have H2_ := (Option.bind_some _ _).symm.trans H; rw [hy309]; with_reducible exact H2_) | (have H2_ := (Option.bind_some _ _).symm.trans H; with_reducible exact H2_) | with_reducible exact H | (rw [hy309]; exact H) | exact H
               have Ny309 := Aside0.mk hy309
               clear hy309
               obtain rfl := Option.some.inj H
               have p306 : 0 ≤ (x20_2 : Int) := of_decide_eq_true (by first | (with_reducible assumption) | assumption)
               have q306 : x20_2 < (t303.length : Int) := of_decide_eq_true (by first | (with_reducible assumption) | assumption)
               obtain ⟨ad306, e306, hx306_0, hx306_1, hx306_2, hx306_3⟩ := at_T149 (Kd.R_reads' HO_18.out).2.2 x20_2 p306 q306
               cases e306
               replace p306 := eq_true p306
               replace q306 := eq_true q306
               go_wp2_with (first | ((with_reducible refine gate_dst (N := 5) rfl ?_); refine bx 5 #[.int .i64 0, .int .i64 0, .int .i64 0, .int .i64 0] 149 ?_; intro gb307 hg w25 hbox hb; have n0_ := Aside0.mk (Kd.R_below (Kd.R_elderB (rr HO_18) gb307 (Nat.le_of_eq hg.symm)) hb); have n1_ := bs HB hb; have n2_ := Aside0.mk (hbox); have n3_ := Aside0.mk ((by rw [hg]; exact (below_size (bl HB)) : w.heap.size ≤ gb307)); have n4_ := Aside0.mk ((by rw [hg]; exact (below_size (bl HB)) : w.heap.size ≤ gb307)); clear HO_18; clear HB; have HO_18 := n0_; have HB := n1_; have BK307 := n2_; have GW307 := n3_; have GE307 := n4_; clear n0_ n1_ n2_ n3_ n4_; clear hb hbox hg; have hcz26_0 := bc BK307 0; have hcz26_1 := bc BK307 1; have hcz26_2 := bc BK307 2; have hcz26_3 := bc BK307 3; have hfz26_0 := bf BK307 0; have hfz26_1 := bf BK307 1; have hfz26_2 := bf BK307 2; have hfz26_3 := bf BK307 3) | (go_at_call 183; (with_reducible refine (impl_chi_breaks.calls _ c0 l0 x3_1 ((rd_T149 t303 x20_2).f0) ((rd_T149 t303 x20_2).f1) ((rd_T149 t303 x20_2).f2) ((rd_T149 t303 x20_2).f3) true _ ?side1 ?side2 A23.out).mono ?_); (case side1 => exact Kd.C_below HR0.out (bg HB GE307)); (case side2 => exact HC0.out); rintro e w' ⟨rfl, ⟨nd, rfl⟩⟩) | ((with_reducible refine gate_dst (N := 68) rfl ?_); refine Kd.R_lit (Kd.int .i64) _ 3 ?hg (N := 68) ?hd (xs := ([x3_1, (rd_T149 t303 x20_2).f0, (rd_T149 t303 x20_2).f1, (rd_T149 t303 x20_2).f2, (rd_T149 t303 x20_2).f3] : List Int)) (inner := [.int .i64 x3_1, .int .i64 ((rd_T149 t303 x20_2).f0), .int .i64 ((rd_T149 t303 x20_2).f1), .int .i64 ((rd_T149 t303 x20_2).f2), .int .i64 ((rd_T149 t303 x20_2).f3)]) (ok := fun _ => True) (okp := fun _ => True) ?hr ?hp (fun _ hk => hk) trivial (Below.refl _ _) (Nat.le_refl _) (by simp) ?_; (case hd => rfl); (case hg => rfl); (case hr => first | (go_simp; done) | (go_simp; rfl)); (case hp => exact (Reps.one (show Kd.M (Kd.int .i64) _ _ _ x3_1 [.int .i64 x3_1] from rfl) (Reps.one (show Kd.M (Kd.int .i64) _ _ _ ((rd_T149 t303 x20_2).f0) [.int .i64 ((rd_T149 t303 x20_2).f0)] from rfl) (Reps.one (show Kd.M (Kd.int .i64) _ _ _ ((rd_T149 t303 x20_2).f1) [.int .i64 ((rd_T149 t303 x20_2).f1)] from rfl) (Reps.one (show Kd.M (Kd.int .i64) _ _ _ ((rd_T149 t303 x20_2).f2) [.int .i64 ((rd_T149 t303 x20_2).f2)] from rfl) (Reps.one (show Kd.M (Kd.int .i64) _ _ _ ((rd_T149 t303 x20_2).f3) [.int .i64 ((rd_T149 t303 x20_2).f3)] from rfl) (Reps.none _ _))))))); intro v310 w27 ho28 hb hg_ hnew_; clear hg_ hnew_; (first | rw [← Ny309.out] at ho28 | (simp only [Int.reduceToNat] at ho28; rw [← Ny309.out] at ho28)); have n0_ := Aside0.mk (Kd.R_below (by (with_reducible repeat (first | apply Kd.R_alloc | apply Kd.R_drewN | apply Kd.R_drew)); exact (Kd.R_mono (Kd.R_far (p := ⟨gb307, 3, none⟩) (Kd.R_far (p := ⟨gb307, 2, none⟩) (Kd.R_far (p := ⟨gb307, 1, none⟩) (Kd.R_far (p := ⟨gb307, 0, none⟩) (Kd.R_mono HO_18.out (fun k_ hk => (⟨hk, hk.2⟩ : _ ∧ k_ ≠ gb307))) (fun _ hk => hk.2) (.int .i64 ((rd_T149 t303 x20_2).f0))) (fun _ hk => hk.2) (.int .i64 ((rd_T149 t303 x20_2).f1))) (fun _ hk => hk.2) (.int .i64 ((rd_T149 t303 x20_2).f2))) (fun _ hk => hk.2) (.int .i64 ((rd_T149 t303 x20_2).f3))) (fun _ h_ => h_.1))) hb); have n1_ := Aside0.mk (Kd.R_lower ho28 (below_size (bg HB GE307))); have n2_ := Aside0.mk (blk_below (g := gb307) (o := .cells #[.int .i64 ((rd_T149 t303 x20_2).f0), .int .i64 ((rd_T149 t303 x20_2).f1), .int .i64 ((rd_T149 t303 x20_2).f2), .int .i64 ((rd_T149 t303 x20_2).f3)] 149 (0, 0)) (by (with_reducible repeat (first | refine blk_drewN ?_ _ | refine blk_drew ?_ | refine blk_alloc ?_ _)); refine blk_put (cs := #[.int .i64 ((rd_T149 t303 x20_2).f0), .int .i64 ((rd_T149 t303 x20_2).f1), .int .i64 ((rd_T149 t303 x20_2).f2), .int .i64 0]) ?_ 3 _ rfl; (with_reducible repeat (first | refine blk_drewN ?_ _ | refine blk_drew ?_ | refine blk_alloc ?_ _)); refine blk_put (cs := #[.int .i64 ((rd_T149 t303 x20_2).f0), .int .i64 ((rd_T149 t303 x20_2).f1), .int .i64 0, .int .i64 0]) ?_ 2 _ rfl; (with_reducible repeat (first | refine blk_drewN ?_ _ | refine blk_drew ?_ | refine blk_alloc ?_ _)); refine blk_put (cs := #[.int .i64 ((rd_T149 t303 x20_2).f0), .int .i64 0, .int .i64 0, .int .i64 0]) ?_ 1 _ rfl; (with_reducible repeat (first | refine blk_drewN ?_ _ | refine blk_drew ?_ | refine blk_alloc ?_ _)); refine blk_put (cs := #[.int .i64 0, .int .i64 0, .int .i64 0, .int .i64 0]) ?_ 0 _ rfl; (with_reducible repeat (first | refine blk_drewN ?_ _ | refine blk_drew ?_ | refine blk_alloc ?_ _)); exact BK307.out) hb); have n3_ := bsg HB GE307 hb; clear HO_18; clear BK307; clear HB; have HO_18 := n0_; have HO311 := n1_; have BK307 := n2_; have HB := n3_; clear n0_ n1_ n2_ n3_; clear hb ho28))
               go_ret
               exact ⟨_, by first | rfl | (simp [errW_none, errW_some] <;> rfl) | (simp [*, errW_none, errW_some] <;> rfl), by (with_reducible repeat (first | apply Kd.R_alloc | apply Kd.R_drewN | apply Kd.R_drew)); first | exact HO311.out | exact Kd.R_mono HO311.out (fun _ _ => by rw [Ny309.out]; exact List.cons_ne_nil _ _), (bg HB GE307)⟩
              ·replace c24 := Bool.eq_false_iff.mpr c24
               subst c24
               have H1 : (impl_chi_firstBreak.l1 k2 l0 x3_1 t303 (t303.length : Int) (wrap64 (x20_2 + 1))) = some r := by rw [if_neg (show ¬ (false = true) by decide)] at H; exact H
               clear H
               have H := H1
               clear H1
               have H' := Aside0.mk H
               clear H
               have p306 : 0 ≤ (x20_2 : Int) := of_decide_eq_true (by first | (with_reducible assumption) | assumption)
               have q306 : x20_2 < (t303.length : Int) := of_decide_eq_true (by first | (with_reducible assumption) | assumption)
               obtain ⟨ad306, e306, hx306_0, hx306_1, hx306_2, hx306_3⟩ := at_T149 (Kd.R_reads' HO_18.out).2.2 x20_2 p306 q306
               cases e306
               replace p306 := eq_true p306
               replace q306 := eq_true q306
               go_wp2_with (first | ((with_reducible refine gate_dst (N := 5) rfl ?_); refine bx 5 #[.int .i64 0, .int .i64 0, .int .i64 0, .int .i64 0] 149 ?_; intro gb307 hg w29 hbox hb; have n0_ := Aside0.mk (Kd.R_below (Kd.R_elderB (rr HO_18) gb307 (Nat.le_of_eq hg.symm)) hb); have n1_ := bs HB hb; have n2_ := Aside0.mk (hbox); have n3_ := Aside0.mk ((by rw [hg]; exact (below_size (bl HB)) : w.heap.size ≤ gb307)); have n4_ := Aside0.mk ((by rw [hg]; exact (below_size (bl HB)) : w.heap.size ≤ gb307)); clear HO_18; clear HB; have HO_18 := n0_; have HB := n1_; have BK307 := n2_; have GW307 := n3_; have GE307 := n4_; clear n0_ n1_ n2_ n3_ n4_; clear hb hbox hg; have hcz30_0 := bc BK307 0; have hcz30_1 := bc BK307 1; have hcz30_2 := bc BK307 2; have hcz30_3 := bc BK307 3; have hfz30_0 := bf BK307 0; have hfz30_1 := bf BK307 1; have hfz30_2 := bf BK307 2; have hfz30_3 := bf BK307 3) | (go_at_call 183; (with_reducible refine (impl_chi_breaks.calls _ c0 l0 x3_1 ((rd_T149 t303 x20_2).f0) ((rd_T149 t303 x20_2).f1) ((rd_T149 t303 x20_2).f2) ((rd_T149 t303 x20_2).f3) false _ ?side1 ?side2 A23.out).mono ?_); (case side1 => exact Kd.C_below HR0.out (bg HB GE307)); (case side2 => exact HC0.out); rintro e w' ⟨rfl, ⟨nd, rfl⟩⟩))
               go_roundg k2
               case measure => have := HK1.out; have := HK2.out; omega
               case rel => exact ⟨(wrap64 (x20_2 + 1)), (by first | rfl | (simp; done) | (simp [*]; done)), H', ⟨by have := HK1.out; have := HK2.out; omega⟩, ⟨by (with_reducible repeat (first | apply Kd.R_alloc | apply Kd.R_drewN | apply Kd.R_drew)); exact Kd.R_mono (Kd.R_far (p := ⟨gb307, 3, none⟩) (Kd.R_far (p := ⟨gb307, 2, none⟩) (Kd.R_far (p := ⟨gb307, 1, none⟩) (Kd.R_far (p := ⟨gb307, 0, none⟩) (Kd.R_mono HO_18.out (fun k_ hk => (⟨hk, hk.2⟩ : _ ∧ k_ ≠ gb307))) (fun _ hk => hk.2) (.int .i64 ((rd_T149 t303 x20_2).f0))) (fun _ hk => hk.2) (.int .i64 ((rd_T149 t303 x20_2).f1))) (fun _ hk => hk.2) (.int .i64 ((rd_T149 t303 x20_2).f2))) (fun _ hk => hk.2) (.int .i64 ((rd_T149 t303 x20_2).f3))) (fun _ hk => trivial)⟩, ⟨(bg HB GE307)⟩⟩
         ·rw [if_neg c10] at H
          exact absurd H (by simp)
        ·rw [if_neg c9] at H
         exact absurd H (by simp)
       ·rw [if_neg c8] at H
        have c8b0 : decide (x20_2 < (t303.length : Int)) = false := decide_eq_false c8
        clear c8
        have H' := Aside0.mk H
        clear H
        go_wp2
        go_roundg k2
        case measure => have := HK1.out; have := HK2.out; omega
        case rel => exact ⟨(wrap64 (x3_1 + 1)), (by first | rfl | (simp; done) | (simp [*]; done)), H', ⟨by have := HK1.out; have := HK2.out; omega⟩, ⟨(bl HB)⟩⟩
    ·rw [if_neg c3] at H
     have c3b0 : decide (x3_1 < (rd l0 0)) = false := decide_eq_false c3
     clear c3
     obtain rfl := Option.some.inj H
     have cl301 : (344 : Int) ≤ (l0.length : Int) := of_decide_eq_true (by first | (with_reducible assumption) | assumption)
     have p301 : 0 ≤ (0 : Int) := (by omega)
     have q301 : 0 < (l0.length : Int) := (by omega)
     obtain ⟨ad301, e301, hx301_0⟩ := Kd.at_int HR0.out 0 p301 q301
     cases e301
     have qi301 : (0 < l0.length) = True := eq_true (by omega)
     (try rw [show ((0 : Int)).toNat = 0 from rfl] at hx301_0)
     (try rw [Addr.add_zero'] at hx301_0)
     replace hx301_0 := (HB.out.cell (World.block_lt_of_cell? w _ hx301_0)).trans hx301_0
     replace p301 := eq_true p301
     replace q301 := eq_true q301
     go_wp2
     go_ret
     exact ⟨_, by first | rfl | (simp [errW_none, errW_some] <;> rfl) | (simp [*, errW_none, errW_some] <;> rfl), by first | exact Kd.R_nil _ _ _ _ _ | exact Kd.N_nil _ _ _ _ _ | exact Kd.V_nil _ _ _ _ _ | exact Kd.Q_nil _ _ _ _ _ | exact Kd.S_nil _ _ _ _ _, (bl HB)⟩
   ·rw [if_neg c2] at H
    exact absurd H (by simp)

/-! ### impl_FirstBreak: function 166 -/
def impl_FirstBreak.f (k : Nat) (a0_0 : Int) (a0_1 : ByteArray) : Option (List Int) := (impl_AreSigns.f k a0_0 a0_1).bind fun t313 => (if t313 = true then ((impl_tableOf.f k a0_0 a0_1).bind fun t314 => ((impl_chi_firstBreak.f k t314).bind fun t317 => (some t317))) else (some ([] : List Int)))
theorem impl_FirstBreak.mono : ∀ a0 a1 k, LeO (impl_FirstBreak.f k a0 a1) (impl_FirstBreak.f (k + 1) a0 a1) := by
 intro a0 a1 k
 unfold impl_FirstBreak.f
 repeat' first
   | (with_reducible exact impl_AreSigns.mono _ _ _)
   | (with_reducible exact impl_chi_firstBreak.mono _ _)
   | (with_reducible exact impl_tableOf.mono _ _ _)
   | (with_reducible exact LeO.refl _)
   | (with_reducible exact LeO.none _)
   | (with_reducible refine LeO.ite ?_ ?_)
   | (with_reducible refine LeO.bind ?_ (fun _ => ?_))
   | exact impl_AreSigns.mono _ _ _
   | exact impl_chi_firstBreak.mono _ _
   | exact impl_tableOf.mono _ _ _
   | exact LeO.none _
   | refine LeO.ite ?_ ?_
   | refine LeO.bind ?_ (fun _ => ?_)
set_option maxHeartbeats 8000000 in
set_option maxRecDepth 100000 in
theorem impl_FirstBreak.calls (k : Nat) (a0_0 : Int) (a0_1 : ByteArray) (r : List Int) (w : World) (h : impl_FirstBreak.f k a0_0 a0_1 = some r) :
  Calls Try.prog 166 #[.agg #[.int .i64 a0_0, .string a0_1]] w fun e w' => ∃ v0_ : Value, e = .returned (v0_) ∧ Kd.R (Kd.int .i64) 3 w' w.heap.size (fun _ => r ≠ []) v0_ r ∧ Below w.heap.size w w' := by
 have hu27 := Try.underlying27
 have HB := Aside0.mk (Below.refl w.heap.size w)
 have H : ((impl_AreSigns.f k a0_0 a0_1).bind fun t313 => (if t313 = true then ((impl_tableOf.f k a0_0 a0_1).bind fun t314 => ((impl_chi_firstBreak.f k t314).bind fun t317 => (some t317))) else (some ([] : List Int)))) = some r := h
 clear h
 replace H := Option.bind_eq_some_iff.mp H
 obtain ⟨t313, A20, H⟩ := H
 (try dsimp only at H)
 have A2 := Aside0.mk A20
 clear A20
 by_cases c3 : t313 = true
 ·subst c3
  have H1 : ((impl_tableOf.f k a0_0 a0_1).bind fun t314 => ((impl_chi_firstBreak.f k t314).bind fun t317 => (some t317))) = some r := by rw [if_pos rfl] at H; exact H
  clear H
  have H := H1
  clear H1
  replace H := Option.bind_eq_some_iff.mp H
  obtain ⟨t314, A40, H⟩ := H
  (try dsimp only at H)
  have A4 := Aside0.mk A40
  clear A40
  replace H := Option.bind_eq_some_iff.mp H
  obtain ⟨t317, A50, H⟩ := H
  (try dsimp only at H)
  have A5 := Aside0.mk A50
  clear A50
  obtain rfl := Option.some.inj H
  go_enter Try.func166, Try.ntmps166
  go_wp2_with (first | ((with_reducible refine gate_dst (N := 1) rfl ?_); refine bx 1 #[.int .i64 a0_0, .string a0_1] 27 ?_; intro gb312 hg w6 hbox hb; have BK312 := Aside0.mk hbox; have GE312 := gs HB hg; have GW312 := GE312; replace HB := bs HB hb; clear hb hbox hg; have hcz7_0 := bc BK312 0; have hcz7_1 := bc BK312 1; have hfz7_0 := bf BK312 0; have hfz7_1 := bf BK312 1) | ((with_reducible refine gate_callee (f := 165) rfl ?_); refine gL (some 4) rfl rfl Try.func165 (by kernel_rfl) rfl #[.agg #[.int .i64 a0_0, .string a0_1]] rfl ?_; (with_reducible refine (impl_AreSigns.calls k a0_0 a0_1 true _ A2.out).mono ?_); rintro e w8 ⟨rfl, hb⟩; refine ⟨_, rfl, ?_⟩; have n0_ := Aside0.mk (blk_below (g := gb312) (o := .cells #[.int .i64 a0_0, .string a0_1] 27 (0, 0)) (bk BK312) hb); have n1_ := bsg HB GE312 hb; clear BK312; clear HB; have BK312 := n0_; have HB := n1_; clear n0_ n1_; (try clear hb); (try clear hb2); (try clear hk); (try clear hi); have hcz9_0 := bc BK312 0; have hcz9_1 := bc BK312 1; have hfz9_0 := bf BK312 0; have hfz9_1 := bf BK312 1) | ((with_reducible refine gate_callee (f := 115) rfl ?_); refine gL (some 7) rfl rfl Try.func115 (by kernel_rfl) rfl #[.agg #[.int .i64 a0_0, .string a0_1]] rfl ?_; (with_reducible refine (impl_tableOf.calls k a0_0 a0_1 t314 _ A4.out).mono ?_); rintro e w10 ⟨v315, rfl, ho0, hb⟩; refine ⟨_, rfl, ?_⟩; have n0_ := Aside0.mk (Kd.R_lower ho0 (below_size (bg HB GE312))); have n1_ := Aside0.mk (blk_below (g := gb312) (o := .cells #[.int .i64 a0_0, .string a0_1] 27 (0, 0)) (bk BK312) hb); have n2_ := bsg HB GE312 hb; clear BK312; clear HB; have HO316 := n0_; have BK312 := n1_; have HB := n2_; clear n0_ n1_ n2_; (try clear hb); (try clear hb2); (try clear hk); (try clear hi); (try clear ho0); obtain ⟨Ao11, co11, eo11⟩ := Kd.R_slice HO316.out; subst eo11) | ((with_reducible refine gate_callee (f := 179) rfl ?_); refine gL (some 8) rfl rfl Try.func179 (by kernel_rfl) rfl #[.pointer Ao11] rfl ?_; (with_reducible refine (impl_chi_firstBreak.calls k _ co11 t314 t317 _ ?side1 ?side2 A5.out).mono ?_); (case side1 => repeat (first | exact (Kd.R_reads' HO316.out).2.2 | (with_reducible refine Kd.C_alloc ?_ _) | (with_reducible refine Kd.C_drewN ?_ _) | (with_reducible refine Kd.C_drew ?_))); (case side2 => exact (Kd.R_reads' HO316.out).2.1); rintro e w12 ⟨v318, rfl, ho0, hb⟩; refine ⟨_, rfl, ?_⟩; have n0_ := Aside0.mk (Kd.R_below (rr HO316) hb); have n1_ := Aside0.mk (Kd.R_lower ho0 (below_size (bg HB GE312))); have n2_ := Aside0.mk (blk_below (g := gb312) (o := .cells #[.int .i64 a0_0, .string a0_1] 27 (0, 0)) (bk BK312) hb); have n3_ := bsg HB GE312 hb; clear HO316; clear BK312; clear HB; have HO316 := n0_; have HO319 := n1_; have BK312 := n2_; have HB := n3_; clear n0_ n1_ n2_ n3_; (try clear hb); (try clear hb2); (try clear hk); (try clear hi); (try clear ho0)))
  go_ret
  exact ⟨_, by first | rfl | (simp [errW_none, errW_some] <;> rfl) | (simp [*, errW_none, errW_some] <;> rfl), by (with_reducible repeat (first | apply Kd.R_alloc | apply Kd.R_drewN | apply Kd.R_drew)); exact HO319.out, (bg HB GE312)⟩
 ·replace c3 := Bool.eq_false_iff.mpr c3
  subst c3
  have H1 : (some ([] : List Int)) = some r := by rw [if_neg (show ¬ (false = true) by decide)] at H; exact H
  clear H
  have H := H1
  clear H1
  obtain rfl := Option.some.inj H
  go_enter Try.func166, Try.ntmps166
  go_wp2_with (first | ((with_reducible refine gate_dst (N := 1) rfl ?_); refine bx 1 #[.int .i64 a0_0, .string a0_1] 27 ?_; intro gb312 hg w13 hbox hb; have BK312 := Aside0.mk hbox; have GE312 := gs HB hg; have GW312 := GE312; replace HB := bs HB hb; clear hb hbox hg; have hcz14_0 := bc BK312 0; have hcz14_1 := bc BK312 1; have hfz14_0 := bf BK312 0; have hfz14_1 := bf BK312 1) | ((with_reducible refine gate_callee (f := 165) rfl ?_); refine gL (some 4) rfl rfl Try.func165 (by kernel_rfl) rfl #[.agg #[.int .i64 a0_0, .string a0_1]] rfl ?_; (with_reducible refine (impl_AreSigns.calls k a0_0 a0_1 false _ A2.out).mono ?_); rintro e w15 ⟨rfl, hb⟩; refine ⟨_, rfl, ?_⟩; have n0_ := Aside0.mk (blk_below (g := gb312) (o := .cells #[.int .i64 a0_0, .string a0_1] 27 (0, 0)) (bk BK312) hb); have n1_ := bsg HB GE312 hb; clear BK312; clear HB; have BK312 := n0_; have HB := n1_; clear n0_ n1_; (try clear hb); (try clear hb2); (try clear hk); (try clear hi)))
  go_ret
  exact ⟨_, by first | rfl | (simp [errW_none, errW_some] <;> rfl) | (simp [*, errW_none, errW_some] <;> rfl), by first | exact Kd.R_nil _ _ _ _ _ | exact Kd.N_nil _ _ _ _ _ | exact Kd.V_nil _ _ _ _ _ | exact Kd.Q_nil _ _ _ _ _ | exact Kd.S_nil _ _ _ _ _, (bg HB GE312)⟩

/-! ### impl_IsMatroid: function 134 -/
def impl_IsMatroid.f (k : Nat) (a0_0 : Int) (a0_1 : ByteArray) : Option (Bool) := (impl_AreSigns.f k a0_0 a0_1).bind fun t321 => (if t321 = true then ((impl_FirstBreak.f k a0_0 a0_1).bind fun t322 => (if t322 = [] then (some true) else (some false))) else (some false))
theorem impl_IsMatroid.mono : ∀ a0 a1 k, LeO (impl_IsMatroid.f k a0 a1) (impl_IsMatroid.f (k + 1) a0 a1) := by
 intro a0 a1 k
 unfold impl_IsMatroid.f
 repeat' first
   | (with_reducible exact impl_AreSigns.mono _ _ _)
   | (with_reducible exact impl_FirstBreak.mono _ _ _)
   | (with_reducible exact LeO.refl _)
   | (with_reducible exact LeO.none _)
   | (with_reducible refine LeO.ite ?_ ?_)
   | (with_reducible refine LeO.bind ?_ (fun _ => ?_))
   | exact impl_AreSigns.mono _ _ _
   | exact impl_FirstBreak.mono _ _ _
   | exact LeO.none _
   | refine LeO.ite ?_ ?_
   | refine LeO.bind ?_ (fun _ => ?_)
set_option maxHeartbeats 8000000 in
set_option maxRecDepth 100000 in
theorem impl_IsMatroid.calls (k : Nat) (a0_0 : Int) (a0_1 : ByteArray) (r : Bool) (w : World) (h : impl_IsMatroid.f k a0_0 a0_1 = some r) :
  Calls Try.prog 134 #[.agg #[.int .i64 a0_0, .string a0_1]] w fun e w' => e = .returned (.bool r) ∧ Below w.heap.size w w' := by
 have hu27 := Try.underlying27
 have HB := Aside0.mk (Below.refl w.heap.size w)
 have H : ((impl_AreSigns.f k a0_0 a0_1).bind fun t321 => (if t321 = true then ((impl_FirstBreak.f k a0_0 a0_1).bind fun t322 => (if t322 = [] then (some true) else (some false))) else (some false))) = some r := h
 clear h
 replace H := Option.bind_eq_some_iff.mp H
 obtain ⟨t321, A20, H⟩ := H
 (try dsimp only at H)
 have A2 := Aside0.mk A20
 clear A20
 by_cases c3 : t321 = true
 ·subst c3
  have H1 : ((impl_FirstBreak.f k a0_0 a0_1).bind fun t322 => (if t322 = [] then (some true) else (some false))) = some r := by rw [if_pos rfl] at H; exact H
  clear H
  have H := H1
  clear H1
  replace H := Option.bind_eq_some_iff.mp H
  obtain ⟨t322, A40, H⟩ := H
  (try dsimp only at H)
  have A4 := Aside0.mk A40
  clear A40
  by_cases c5 : t322 = []
  ·rw [if_pos c5] at H
   have c5b0 : (t322 == []) = true := beq_iff_eq.mpr c5
   have c5b1 : (t322 != []) = false := bne_eq_false_iff_eq.mpr c5
   clear c5
   obtain rfl := Option.some.inj H
   go_enter Try.func134, Try.ntmps134
   go_wp2_with (first | ((with_reducible refine gate_dst (N := 1) rfl ?_); refine bx 1 #[.int .i64 a0_0, .string a0_1] 27 ?_; intro gb320 hg w6 hbox hb; have BK320 := Aside0.mk hbox; have GE320 := gs HB hg; have GW320 := GE320; replace HB := bs HB hb; clear hb hbox hg; have hcz7_0 := bc BK320 0; have hcz7_1 := bc BK320 1; have hfz7_0 := bf BK320 0; have hfz7_1 := bf BK320 1) | ((with_reducible refine gate_callee (f := 165) rfl ?_); refine gL (some 4) rfl rfl Try.func165 (by kernel_rfl) rfl #[.agg #[.int .i64 a0_0, .string a0_1]] rfl ?_; (with_reducible refine (impl_AreSigns.calls k a0_0 a0_1 true _ A2.out).mono ?_); rintro e w8 ⟨rfl, hb⟩; refine ⟨_, rfl, ?_⟩; have n0_ := Aside0.mk (blk_below (g := gb320) (o := .cells #[.int .i64 a0_0, .string a0_1] 27 (0, 0)) (bk BK320) hb); have n1_ := bsg HB GE320 hb; clear BK320; clear HB; have BK320 := n0_; have HB := n1_; clear n0_ n1_; (try clear hb); (try clear hb2); (try clear hk); (try clear hi); have hcz9_0 := bc BK320 0; have hcz9_1 := bc BK320 1; have hfz9_0 := bf BK320 0; have hfz9_1 := bf BK320 1) | (go_at_call 166; (with_reducible refine (impl_FirstBreak.calls k a0_0 a0_1 t322 _ A4.out).mono ?_); rintro e w10 ⟨v323, rfl, ho0, hb⟩; obtain ⟨n_, c_, rfl⟩ := R_nil_slice ho0 (beq_iff_eq.mp c5b0); have hq_ := run_eql_slice_nil Try.underlying25 none n_ c_ w10; have n0_ := Aside0.mk (Kd.R_lower ho0 (below_size (bg HB GE320))); have n1_ := Aside0.mk (blk_below (g := gb320) (o := .cells #[.int .i64 a0_0, .string a0_1] 27 (0, 0)) (bk BK320) hb); have n2_ := bsg HB GE320 hb; clear BK320; clear HB; have HO324 := n0_; have BK320 := n1_; have HB := n2_; clear n0_ n1_ n2_; (try clear hb); (try clear hb2); (try clear hk); (try clear hi); (try clear ho0)))
   go_ret
   exact ⟨by first | rfl | (simp [errW_none, errW_some] <;> rfl) | (simp [*, errW_none, errW_some] <;> rfl), (bg HB GE320)⟩
  ·rw [if_neg c5] at H
   have c5b0 : (t322 == []) = false := beq_eq_false_iff_ne.mpr c5
   have c5b1 : (t322 != []) = true := bne_iff_ne.mpr c5
   obtain rfl := Option.some.inj H
   go_enter Try.func134, Try.ntmps134
   go_wp2_with (first | ((with_reducible refine gate_dst (N := 1) rfl ?_); refine bx 1 #[.int .i64 a0_0, .string a0_1] 27 ?_; intro gb320 hg w11 hbox hb; have BK320 := Aside0.mk hbox; have GE320 := gs HB hg; have GW320 := GE320; replace HB := bs HB hb; clear hb hbox hg; have hcz12_0 := bc BK320 0; have hcz12_1 := bc BK320 1; have hfz12_0 := bf BK320 0; have hfz12_1 := bf BK320 1) | ((with_reducible refine gate_callee (f := 165) rfl ?_); refine gL (some 4) rfl rfl Try.func165 (by kernel_rfl) rfl #[.agg #[.int .i64 a0_0, .string a0_1]] rfl ?_; (with_reducible refine (impl_AreSigns.calls k a0_0 a0_1 true _ A2.out).mono ?_); rintro e w13 ⟨rfl, hb⟩; refine ⟨_, rfl, ?_⟩; have n0_ := Aside0.mk (blk_below (g := gb320) (o := .cells #[.int .i64 a0_0, .string a0_1] 27 (0, 0)) (bk BK320) hb); have n1_ := bsg HB GE320 hb; clear BK320; clear HB; have BK320 := n0_; have HB := n1_; clear n0_ n1_; (try clear hb); (try clear hb2); (try clear hk); (try clear hi); have hcz14_0 := bc BK320 0; have hcz14_1 := bc BK320 1; have hfz14_0 := bf BK320 0; have hfz14_1 := bf BK320 1) | (go_at_call 166; (with_reducible refine (impl_FirstBreak.calls k a0_0 a0_1 t322 _ A4.out).mono ?_); rintro e w15 ⟨v323, rfl, ho0, hb⟩; obtain ⟨g_, n_, c_, rfl⟩ := R_some_slice ho0 (beq_eq_false_iff_ne.mp c5b0); have hq_ := run_eql_slice_nil Try.underlying25 (some ⟨g_, 0, none⟩) n_ c_ w15; have n0_ := Aside0.mk (Kd.R_lower ho0 (below_size (bg HB GE320))); have n1_ := Aside0.mk (blk_below (g := gb320) (o := .cells #[.int .i64 a0_0, .string a0_1] 27 (0, 0)) (bk BK320) hb); have n2_ := bsg HB GE320 hb; clear BK320; clear HB; have HO324 := n0_; have BK320 := n1_; have HB := n2_; clear n0_ n1_ n2_; (try clear hb); (try clear hb2); (try clear hk); (try clear hi); (try clear ho0)))
   go_ret
   exact ⟨by first | rfl | (simp [errW_none, errW_some] <;> rfl) | (simp [*, errW_none, errW_some] <;> rfl), (bg HB GE320)⟩
 ·replace c3 := Bool.eq_false_iff.mpr c3
  subst c3
  have H1 : (some false) = some r := by rw [if_neg (show ¬ (false = true) by decide)] at H; exact H
  clear H
  have H := H1
  clear H1
  obtain rfl := Option.some.inj H
  go_enter Try.func134, Try.ntmps134
  go_wp2_with (first | ((with_reducible refine gate_dst (N := 1) rfl ?_); refine bx 1 #[.int .i64 a0_0, .string a0_1] 27 ?_; intro gb320 hg w16 hbox hb; have BK320 := Aside0.mk hbox; have GE320 := gs HB hg; have GW320 := GE320; replace HB := bs HB hb; clear hb hbox hg; have hcz17_0 := bc BK320 0; have hcz17_1 := bc BK320 1; have hfz17_0 := bf BK320 0; have hfz17_1 := bf BK320 1) | ((with_reducible refine gate_callee (f := 165) rfl ?_); refine gL (some 4) rfl rfl Try.func165 (by kernel_rfl) rfl #[.agg #[.int .i64 a0_0, .string a0_1]] rfl ?_; (with_reducible refine (impl_AreSigns.calls k a0_0 a0_1 false _ A2.out).mono ?_); rintro e w18 ⟨rfl, hb⟩; refine ⟨_, rfl, ?_⟩; have n0_ := Aside0.mk (blk_below (g := gb320) (o := .cells #[.int .i64 a0_0, .string a0_1] 27 (0, 0)) (bk BK320) hb); have n1_ := bsg HB GE320 hb; clear BK320; clear HB; have BK320 := n0_; have HB := n1_; clear n0_ n1_; (try clear hb); (try clear hb2); (try clear hk); (try clear hi)))
  go_ret
  exact ⟨by first | rfl | (simp [errW_none, errW_some] <;> rfl) | (simp [*, errW_none, errW_some] <;> rfl), (bg HB GE320)⟩

end Go.Proofs.Ytiimkifkakdalaa.P
