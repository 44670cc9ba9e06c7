-- Printed by a program of this session (wip/tools/myprint.py, over the kit's print.py); not trusted: Lean checks it.
import Derived.Test.YtjjfjdejhddcnaaP0
import Derived.Test.YtjjfjdejhddcnaaP109
namespace Go.Proofs.Ytjjfjdejhddcnaa.P
open Go.RowKit Go.Proofs.YtjjfjdejhddcnaaW.PrintWords Go.Proofs.YtjjfjdejhddcnaaW.PrintLast Go.Proofs.YtjjfjdejhddcnaaW.PrintMore
attribute [local go_sem] max2_int min2_int max_two min_two max_three min_three max_four min_four   -- for this text's walks alone
set_option linter.unusedVariables false
set_option linter.unusedSimpArgs false

/-! ### impl_chi_split: function 87 -/
def impl_chi_split.l0 : Nat → ByteArray → Int → Int → List Int → Int → Int → Option (Int × Int)
 | 0, _, _, _, _, _, _ => none
 | k + 1, x12, x13, x14, x27, x28, x29 => if x29 < x28 then (if 0 ≤ x29 then (if x29 < (x27.length : Int) then (if x29 < (x12.size : Int) then (if (bt x12 x29) = 43 then (if 0 ≤ (rd x27 x29) then (impl_chi_split.l0 k x12 (Go.bits .or .i64 x13 (shl .i64 1 (rd x27 x29))) x14 x27 x28 (wrap64 (x29 + 1))) else (none)) else (if 0 ≤ (rd x27 x29) then (impl_chi_split.l0 k x12 x13 (Go.bits .or .i64 x14 (shl .i64 1 (rd x27 x29))) x27 x28 (wrap64 (x29 + 1))) else (none))) else (none)) else (none)) else (none)) else (some (x13, x14))
def impl_chi_split.f (k : Nat) (l0 : List Int) (a1 : Int) (a2 : Int) (a3 : Int) (a4 : Int) : Option (Int × Int) := (impl_chi_circuit.f k l0 a1 a2 a3 a4).bind fun t321 => ((some (([a1, a2, a3, a4] : List Int) : List Int)).bind fun y322 => (impl_chi_split.l0 k t321 0 0 y322 (y322.length : Int) 0))
theorem impl_chi_split.mono_l : ∀ k, (∀ y0 y1 y2 y3 y4 y5, LeO (impl_chi_split.l0 k y0 y1 y2 y3 y4 y5) (impl_chi_split.l0 (k + 1) y0 y1 y2 y3 y4 y5))
 | 0 => fun _ _ _ _ _ _ r h => by simp [impl_chi_split.l0] at h
 | k + 1 => by
  have ih0 := impl_chi_split.mono_l k
  ·intro y0 y1 y2 y3 y4 y5
   unfold impl_chi_split.l0
   repeat' first
   | (with_reducible exact ih0 _ _ _ _ _ _)
   | (with_reducible exact impl_chi_circuit.mono _ _ _ _ _ _)
   | (with_reducible exact LeO.refl _)
   | (with_reducible exact LeO.none _)
   | (with_reducible refine LeO.ite ?_ ?_)
   | (with_reducible refine LeO.bind ?_ (fun _ => ?_))
   | exact ih0 _ _ _ _ _ _
   | exact impl_chi_circuit.mono _ _ _ _ _ _
   | exact LeO.none _
   | refine LeO.ite ?_ ?_
   | refine LeO.bind ?_ (fun _ => ?_)
theorem impl_chi_split.mono : ∀ a0 a1 a2 a3 a4 k, LeO (impl_chi_split.f k a0 a1 a2 a3 a4) (impl_chi_split.f (k + 1) a0 a1 a2 a3 a4) := by
 intro a0 a1 a2 a3 a4 k
 have ih0 := impl_chi_split.mono_l k
 unfold impl_chi_split.f
 repeat' first
   | (with_reducible exact ih0 _ _ _ _ _ _)
   | (with_reducible exact impl_chi_circuit.mono _ _ _ _ _ _)
   | (with_reducible exact LeO.refl _)
   | (with_reducible exact LeO.none _)
   | (with_reducible refine LeO.ite ?_ ?_)
   | (with_reducible refine LeO.bind ?_ (fun _ => ?_))
   | exact ih0 _ _ _ _ _ _
   | exact impl_chi_circuit.mono _ _ _ _ _ _
   | exact LeO.none _
   | refine LeO.ite ?_ ?_
   | refine LeO.bind ?_ (fun _ => ?_)
set_option maxHeartbeats 8000000 in
set_option maxRecDepth 100000 in
theorem impl_chi_split.calls (k : Nat) (A0 : Option Addr) (c0 : Nat) (l0 : List Int) (a1 : Int) (a2 : Int) (a3 : Int) (a4 : Int) (r1 : Int) (r2 : Int) (w : World) (hr0 : Kd.C (Kd.int .i64) w A0 l0.length l0) (hc0 : l0.length ≤ c0) (h : impl_chi_split.f k l0 a1 a2 a3 a4 = some (r1, r2)) :
  Calls Try.prog 87 #[.pointer A0, .int .i64 a1, .int .i64 a2, .int .i64 a3, .int .i64 a4] w fun e w' => e = .returned (.tuple #[.int .i64 r1, .int .i64 r2]) ∧ Below w.heap.size w w' := by
 have HR0 := Aside0.mk hr0
 have HC0 := Aside0.mk hc0
 clear hr0 hc0
 have HB := Aside0.mk (Below.refl w.heap.size w)
 have H : ((impl_chi_circuit.f k l0 a1 a2 a3 a4).bind fun t321 => ((some (([a1, a2, a3, a4] : List Int) : List Int)).bind fun y322 => (impl_chi_split.l0 k t321 0 0 y322 (y322.length : Int) 0))) = some (r1, r2) := h
 clear h
 replace H := Option.bind_eq_some_iff.mp H
 obtain ⟨t321, A60, H⟩ := H
 (try dsimp only at H)
 have A6 := Aside0.mk A60
 clear A60
 obtain ⟨y322, hy322⟩ : ∃ y_ : List Int, y_ = (([a1, a2, a3, a4] : List Int)) := ⟨_, rfl⟩
 replace H : (impl_chi_split.l0 k t321 0 0 y322 (y322.length : Int) 0) = some (r1, r2) := by first | (rw [hy322]; with_reducible exact H) | (have H2_ := (Option.bind_some _ _).symm.trans H; rw [hy322]; with_reducible exact H2_) | (have H2_ := (Option.bind_some _ _).symm.trans H; with_reducible exact H2_) | with_reducible exact H | (rw [hy322]; exact H) | exact H
 have Ny322 := Aside0.mk hy322
 clear hy322
 have H' := Aside0.mk H
 clear H
 go_enter Try.func87, Try.ntmps87
 go_wp2_with (first | ((with_reducible refine gate_callee (f := 109) rfl ?_); refine gL (some 22) rfl rfl Try.func109 (by kernel_rfl) rfl #[.pointer A0, .int .i64 a1, .int .i64 a2, .int .i64 a3, .int .i64 a4] rfl ?_; (with_reducible refine (impl_chi_circuit.calls k _ c0 l0 a1 a2 a3 a4 t321 _ ?side1 ?side2 A6.out).mono ?_); (case side1 => repeat (first | exact HR0.out | (with_reducible refine Kd.C_alloc ?_ _) | (with_reducible refine Kd.C_drewN ?_ _) | (with_reducible refine Kd.C_drew ?_))); (case side2 => exact HC0.out); rintro e w7 ⟨rfl, hb⟩; refine ⟨_, rfl, ?_⟩; have n0_ := bs HB hb; clear HB; have HB := n0_; clear n0_; (try clear hb); (try clear hb2); (try clear hk); (try clear hi)) | ((with_reducible refine gate_dst (N := 27) rfl ?_); refine Kd.R_lit (Kd.int .i64) _ 3 ?hg (N := 27) ?hd (xs := ([a1, a2, a3, a4] : List Int)) (inner := [.int .i64 a1, .int .i64 a2, .int .i64 a3, .int .i64 a4]) (ok := fun _ => True) (okp := fun _ => True) ?hr ?hp (fun _ hk => hk) trivial (Below.refl _ _) (Nat.le_refl _) (by simp) ?_; (case hd => rfl); (case hg => rfl); (case hr => first | (go_simp; done) | (go_simp; rfl)); (case hp => exact (Reps.one (show Kd.M (Kd.int .i64) _ _ _ a1 [.int .i64 a1] from rfl) (Reps.one (show Kd.M (Kd.int .i64) _ _ _ a2 [.int .i64 a2] from rfl) (Reps.one (show Kd.M (Kd.int .i64) _ _ _ a3 [.int .i64 a3] from rfl) (Reps.one (show Kd.M (Kd.int .i64) _ _ _ a4 [.int .i64 a4] from rfl) (Reps.none _ _)))))); intro v323 w8 ho9 hb hg_ hnew_; clear hg_ hnew_; (first | rw [← Ny322.out] at ho9 | (simp only [Int.reduceToNat] at ho9; rw [← Ny322.out] at ho9)); have n0_ := Aside0.mk (Kd.R_lower ho9 (below_size (bl HB))); have n1_ := bs HB hb; clear HB; have HO324 := n0_; have HB := n1_; clear n0_ n1_; clear hb ho9; obtain ⟨Ao10, co10, eo10⟩ := Kd.R_slice HO324.out; subst eo10))
 go_loopg [13, 14, 29] k (fun kq v13 v14 v29 w' => ∃ (x13_1 : Int) (x14_1 : Int) (x29_1 : Int), v13 = .int .i64 x13_1 ∧ v14 = .int .i64 x14_1 ∧ v29 = .int .i64 x29_1 ∧ Aside0 (impl_chi_split.l0 kq t321 x13_1 x14_1 y322 (y322.length : Int) x29_1 = some (r1, r2)) ∧ Aside0 (kq ≤ k) ∧ Aside0 (Kd.R (Kd.int .i64) 3 w' w.heap.size (fun _ => True) (.slice Ao10 y322.length co10) y322) ∧ Aside0 (Below w.heap.size w w'))
 case atStart => exact ⟨(0), (0), (0), (by first | rfl | (simp; done) | (simp [*]; done)), (by first | rfl | (simp; done) | (simp [*]; done)), (by first | rfl | (simp; done) | (simp [*]; done)), H', ⟨Nat.le_refl _⟩, ⟨by (with_reducible repeat (first | apply Kd.R_alloc | apply Kd.R_drewN | apply Kd.R_drew)); exact HO324.out⟩, ⟨(bl HB)⟩⟩
 case round =>
  clear H'
  try clear c1
  try clear p2
  try clear c8
  try clear c10
  obtain ⟨x13_1, x14_1, x29_1, rfl, rfl, rfl, HA, HK1, HO_27, HB⟩ := hrel
  cases gk with
  | zero => exact absurd HA.out (by simp [impl_chi_split.l0])
  | succ k1 =>
   have H := HA.out
   clear HA
   simp only [impl_chi_split.l0] at H
   by_cases c11 : x29_1 < (y322.length : Int)
   ·rw [if_pos c11] at H
    have c11b0 : decide (x29_1 < (y322.length : Int)) = true := decide_eq_true c11
    clear c11
    by_cases c12 : 0 ≤ x29_1
    ·rw [if_pos c12] at H
     have c12b0 : decide (0 ≤ x29_1) = true := decide_eq_true c12
     clear c12
     by_cases c13 : x29_1 < (y322.length : Int)
     ·rw [if_pos c13] at H
      have c13b0 : decide (x29_1 < (y322.length : Int)) = true := decide_eq_true c13
      clear c13
      by_cases c14 : x29_1 < (t321.size : Int)
      ·rw [if_pos c14] at H
       have c14b0 : decide (x29_1 < (t321.size : Int)) = true := decide_eq_true c14
       clear c14
       by_cases c16 : (bt t321 x29_1) = 43
       ·rw [if_pos c16] at H
        have c16b0 : ((bt t321 x29_1) == 43) = true := beq_iff_eq.mpr c16
        have c16b1 : ((bt t321 x29_1) != 43) = false := bne_eq_false_iff_eq.mpr c16
        clear c16
        by_cases c17 : 0 ≤ (rd y322 x29_1)
        ·rw [if_pos c17] at H
         have c17b0 := eq_true c17
         have c17b1 : decide (0 ≤ (rd y322 x29_1)) = true := decide_eq_true c17
         clear c17
         obtain ⟨ji18, hji18⟩ : ∃ j_ : Int, (shl .i64 1 (rd y322 x29_1)) = j_ := ⟨_, rfl⟩
         replace H : (impl_chi_split.l0 k1 t321 (Go.bits .or .i64 x13_1 (ji18)) x14_1 y322 (y322.length : Int) (wrap64 (x29_1 + 1))) = some (r1, r2) := by first | (rw [hji18] at H; exact H) | (simp only [hji18] at H ⊢; exact H)
         have hji18_ : (IntKind.i64.wrap (1 * 2 ^ min (rd y322 x29_1).toNat 64)) = ji18 := hji18
         have hji18z : (rd y322 x29_1) ≤ 64 → (IntKind.i64.wrap (1 * 2 ^ (rd y322 x29_1).toNat)) = ji18 := shl_small hji18
         have hji18u : (IntKind.i64.wrap (2 ^ min (rd y322 x29_1).toNat 64)) = ji18 := by have h_ := hji18_; rw [Int.one_mul] at h_; exact h_
         have hji18v : (rd y322 x29_1) ≤ 64 → (IntKind.i64.wrap (2 ^ (rd y322 x29_1).toNat)) = ji18 := fun hle_ => by have h_ := hji18z hle_; rw [Int.one_mul] at h_; exact h_
         have hji18y : (wrap64 (1 * 2 ^ min (rd y322 x29_1).toNat 64)) = ji18 := (i64_w _).symm.trans hji18_
         have hji18x : (rd y322 x29_1) ≤ 64 → (wrap64 (1 * 2 ^ (rd y322 x29_1).toNat)) = ji18 := fun h_ => (i64_w _).symm.trans (hji18z h_)
         have H' := Aside0.mk H
         clear H
         have p325 : 0 ≤ (x29_1 : Int) := of_decide_eq_true (by first | (with_reducible assumption) | assumption)
         have q325 : x29_1 < (y322.length : Int) := of_decide_eq_true (by first | (with_reducible assumption) | assumption)
         obtain ⟨ad325, e325, hx325_0⟩ := Kd.at_int (Kd.R_reads' HO_27.out).2.2 x29_1 p325 q325
         cases e325
         replace p325 := eq_true p325
         replace q325 := eq_true q325
         have p15 : 0 ≤ (x29_1 : Int) := of_decide_eq_true (by first | (with_reducible assumption) | assumption)
         have q15 : x29_1 < (t321.size : Int) := of_decide_eq_true (by first | (with_reducible assumption) | assumption)
         have hx15 := bt_at t321 x29_1
         replace p15 := eq_true p15
         replace q15 := eq_true q15
         go_wp2
         go_roundg k1
         case measure => have := HK1.out; omega
         case rel => exact ⟨(Go.bits .or .i64 x13_1 (ji18)), (x14_1), (wrap64 (x29_1 + 1)), (by first | rfl | (simp; done) | (simp only [← hji18] <;> (first | rfl | simp)) | (simp [*]; done)), (by first | rfl | (simp; done) | (simp [*]; done)), (by first | rfl | (simp; done) | (simp [*]; done)), H', ⟨by have := HK1.out; omega⟩, ⟨by (with_reducible repeat (first | apply Kd.R_alloc | apply Kd.R_drewN | apply Kd.R_drew)); exact HO_27.out⟩, ⟨(bl HB)⟩⟩
        ·rw [if_neg c17] at H
         exact absurd H (by simp)
       ·rw [if_neg c16] at H
        have c16b0 : ((bt t321 x29_1) == 43) = false := beq_eq_false_iff_ne.mpr c16
        have c16b1 : ((bt t321 x29_1) != 43) = true := bne_iff_ne.mpr c16
        by_cases c19 : 0 ≤ (rd y322 x29_1)
        ·rw [if_pos c19] at H
         have c19b0 := eq_true c19
         have c19b1 : decide (0 ≤ (rd y322 x29_1)) = true := decide_eq_true c19
         clear c19
         obtain ⟨ji20, hji20⟩ : ∃ j_ : Int, (shl .i64 1 (rd y322 x29_1)) = j_ := ⟨_, rfl⟩
         replace H : (impl_chi_split.l0 k1 t321 x13_1 (Go.bits .or .i64 x14_1 (ji20)) y322 (y322.length : Int) (wrap64 (x29_1 + 1))) = some (r1, r2) := by first | (rw [hji20] at H; exact H) | (simp only [hji20] at H ⊢; exact H)
         have hji20_ : (IntKind.i64.wrap (1 * 2 ^ min (rd y322 x29_1).toNat 64)) = ji20 := hji20
         have hji20z : (rd y322 x29_1) ≤ 64 → (IntKind.i64.wrap (1 * 2 ^ (rd y322 x29_1).toNat)) = ji20 := shl_small hji20
         have hji20u : (IntKind.i64.wrap (2 ^ min (rd y322 x29_1).toNat 64)) = ji20 := by have h_ := hji20_; rw [Int.one_mul] at h_; exact h_
         have hji20v : (rd y322 x29_1) ≤ 64 → (IntKind.i64.wrap (2 ^ (rd y322 x29_1).toNat)) = ji20 := fun hle_ => by have h_ := hji20z hle_; rw [Int.one_mul] at h_; exact h_
         have hji20y : (wrap64 (1 * 2 ^ min (rd y322 x29_1).toNat 64)) = ji20 := (i64_w _).symm.trans hji20_
         have hji20x : (rd y322 x29_1) ≤ 64 → (wrap64 (1 * 2 ^ (rd y322 x29_1).toNat)) = ji20 := fun h_ => (i64_w _).symm.trans (hji20z h_)
         have H' := Aside0.mk H
         clear H
         have p325 : 0 ≤ (x29_1 : Int) := of_decide_eq_true (by first | (with_reducible assumption) | assumption)
         have q325 : x29_1 < (y322.length : Int) := of_decide_eq_true (by first | (with_reducible assumption) | assumption)
         obtain ⟨ad325, e325, hx325_0⟩ := Kd.at_int (Kd.R_reads' HO_27.out).2.2 x29_1 p325 q325
         cases e325
         replace p325 := eq_true p325
         replace q325 := eq_true q325
         have p15 : 0 ≤ (x29_1 : Int) := of_decide_eq_true (by first | (with_reducible assumption) | assumption)
         have q15 : x29_1 < (t321.size : Int) := of_decide_eq_true (by first | (with_reducible assumption) | assumption)
         have hx15 := bt_at t321 x29_1
         replace p15 := eq_true p15
         replace q15 := eq_true q15
         go_wp2
         go_roundg k1
         case measure => have := HK1.out; omega
         case rel => exact ⟨(x13_1), (Go.bits .or .i64 x14_1 (ji20)), (wrap64 (x29_1 + 1)), (by first | rfl | (simp; done) | (simp [*]; done)), (by first | rfl | (simp; done) | (simp only [← hji20] <;> (first | rfl | simp)) | (simp [*]; done)), (by first | rfl | (simp; done) | (simp [*]; done)), H', ⟨by have := HK1.out; omega⟩, ⟨by (with_reducible repeat (first | apply Kd.R_alloc | apply Kd.R_drewN | apply Kd.R_drew)); exact HO_27.out⟩, ⟨(bl HB)⟩⟩
        ·rw [if_neg c19] at H
         exact absurd H (by simp)
      ·rw [if_neg c14] at H
       exact absurd H (by simp)
     ·rw [if_neg c13] at H
      exact absurd H (by simp)
    ·rw [if_neg c12] at H
     exact absurd H (by simp)
   ·rw [if_neg c11] at H
    have c11b0 : decide (x29_1 < (y322.length : Int)) = false := decide_eq_false c11
    clear c11
    simp only [Option.some.injEq, Prod.mk.injEq] at H
    obtain ⟨rfl, rfl⟩ := H
    go_wp2
    go_ret2
    exact ⟨by first | rfl | (simp [errW_none, errW_some] <;> rfl) | (simp [*, errW_none, errW_some] <;> rfl), (bl HB)⟩

end Go.Proofs.Ytjjfjdejhddcnaa.P
