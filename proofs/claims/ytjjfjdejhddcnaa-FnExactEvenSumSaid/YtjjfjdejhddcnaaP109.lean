-- Printed by a program of this session (wip/tools/myprint.py, over the kit's print.py); not trusted: Lean checks it.
import Derived.Test.YtjjfjdejhddcnaaP0
import Derived.Test.YtjjfjdejhddcnaaOOpp
import Derived.Test.YtjjfjdejhddcnaaP102
namespace Go.Proofs.Ytjjfjdejhddcnaa.P
open Go.RowKit Go.Proofs.YtjjfjdejhddcnaaW.PrintWords Go.Proofs.YtjjfjdejhddcnaaW.PrintLast Go.Proofs.YtjjfjdejhddcnaaW.PrintMore
attribute [local go_sem] max2_int min2_int max_two min_two max_three min_three max_four min_four   -- for this text's walks alone
set_option linter.unusedVariables false
set_option linter.unusedSimpArgs false

attribute [local go_sem] Go.Proofs.Try.underlying74 Go.Proofs.Try.underlying75 Go.Proofs.Try.underlying76 Go.Proofs.Try.underlying78
/-! ### impl_chi_circuit: function 109 -/
def impl_chi_circuit.l0 : Nat → List Int → List Int → Int → Int → Option (ByteArray)
 | 0, _, _, _, _ => none
 | k + 1, x11, x56, x57, x58 => if x58 < x57 then (if 0 ≤ x58 then (if x58 < (x56.length : Int) then (if (rd x56 x58) > 0 then (if x11.length < 140737488355328 then (impl_chi_circuit.l0 k (x11 ++ [43]) x56 x57 (wrap64 (x58 + 1))) else (none)) else (if x11.length < 140737488355328 then (impl_chi_circuit.l0 k (x11 ++ [45]) x56 x57 (wrap64 (x58 + 1))) else (none))) else (none)) else (none)) else (if 0 < (x11.length : Int) then (if (rd x11 0) = 45 then ((impl_opposite.f (strOfNums x11)).bind fun t246 => (some t246)) else (some (strOfNums x11))) else (none))
def impl_chi_circuit.f (k : Nat) (l0 : List Int) (a1 : Int) (a2 : Int) (a3 : Int) (a4 : Int) : Option (ByteArray) := if 0 ≤ a2 then (if a2 < 7 then (if 0 ≤ a3 then (if a3 < 7 then (if 0 ≤ a4 then (if a4 < 7 then (if 344 ≤ (l0.length : Int) then (if 0 ≤ a1 then (if a1 < 7 then ((some (([rd l0 (cidx a2 a3 a4), wrap64 (-(rd l0 (cidx a1 a3 a4))), rd l0 (cidx a1 a2 a4), wrap64 (-(rd l0 (cidx a1 a2 a3)))] : List Int) : List Int)).bind fun y235 => (impl_chi_circuit.l0 k ([] : List Int) y235 (y235.length : Int) 0)) else (none)) else (none)) else (none)) else (none)) else (none)) else (none)) else (none)) else (none)) else (none)
theorem impl_chi_circuit.mono_l : ∀ k, (∀ y0 y1 y2 y3, LeO (impl_chi_circuit.l0 k y0 y1 y2 y3) (impl_chi_circuit.l0 (k + 1) y0 y1 y2 y3))
 | 0 => fun _ _ _ _ r h => by simp [impl_chi_circuit.l0] at h
 | k + 1 => by
  have ih0 := impl_chi_circuit.mono_l k
  ·intro y0 y1 y2 y3
   unfold impl_chi_circuit.l0
   repeat' first
   | (with_reducible exact ih0 _ _ _ _)
   | (with_reducible exact LeO.refl _)
   | (with_reducible exact LeO.none _)
   | (with_reducible refine LeO.ite ?_ ?_)
   | (with_reducible refine LeO.bind ?_ (fun _ => ?_))
   | exact ih0 _ _ _ _
   | exact LeO.none _
   | refine LeO.ite ?_ ?_
   | refine LeO.bind ?_ (fun _ => ?_)
theorem impl_chi_circuit.mono : ∀ a0 a1 a2 a3 a4 k, LeO (impl_chi_circuit.f k a0 a1 a2 a3 a4) (impl_chi_circuit.f (k + 1) a0 a1 a2 a3 a4) := by
 intro a0 a1 a2 a3 a4 k
 have ih0 := impl_chi_circuit.mono_l k
 unfold impl_chi_circuit.f
 repeat' first
   | (with_reducible exact ih0 _ _ _ _)
   | (with_reducible exact LeO.refl _)
   | (with_reducible exact LeO.none _)
   | (with_reducible refine LeO.ite ?_ ?_)
   | (with_reducible refine LeO.bind ?_ (fun _ => ?_))
   | exact ih0 _ _ _ _
   | exact LeO.none _
   | refine LeO.ite ?_ ?_
   | refine LeO.bind ?_ (fun _ => ?_)
def impl_chi_circuit.T2 : Bool × List (List Nat × List Nat) := (true, [([], []), ([], []), ([], []), ([], []), ([0], [0]), ([4], [4]), ([5, 1], [1, 5]), ([6, 2], [2, 6]), ([7, 3], [3, 7]), ([8], [8]), ([], []), ([], []), ([], []), ([], []), ([10], [10]), ([14], [14]), ([15, 11], [11, 15]), ([16, 12], [12, 16]), ([17, 13], [13, 17]), ([18], [18]), ([19], [19]), ([], []), ([], []), ([], []), ([], []), ([21], [21]), ([25], [25]), ([26, 22], [22, 26]), ([27, 23], [23, 27]), ([28, 24], [24, 28]), ([29], [29]), ([], []), ([], []), ([], []), ([], []), ([31], [31]), ([35], [35]), ([36, 32], [32, 36]), ([37, 33], [33, 37]), ([38, 34], [34, 38]), ([39], [39]), ([40], [40]), ([9, 20, 30, 41], [9, 20, 30, 41]), ([42], [42]), ([], [])])
def impl_chi_circuit.B2 : List Nat := [0, 0, 0, 0, 1, 17, 51, 119, 255, 511, 0, 0, 0, 0, 1024, 17408, 52224, 121856, 261120, 523264, 1047552, 0, 0, 0, 0, 2097152, 35651584, 106954752, 249561088, 534773760, 1071644672, 0, 0, 0, 0, 2147483648, 36507222016, 109521666048, 255550554112, 547608330240, 1097364144128, 2196875771904, 4398046511103, 8796093022207, 0]
theorem impl_chi_circuit.tab2 : rtab .any (opsOf Try.f109 2) = impl_chi_circuit.T2 := by kernel_rfl
theorem impl_chi_circuit.bits2 : waitsOk impl_chi_circuit.T2.2 impl_chi_circuit.B2 = true := by kernel_rfl
set_option maxHeartbeats 8000000 in
set_option maxRecDepth 100000 in
theorem impl_chi_circuit.calls (k : Nat) (A0 : Option Addr) (c0 : Nat) (l0 : List Int) (a1 : Int) (a2 : Int) (a3 : Int) (a4 : Int) (r : ByteArray) (w : World) (hr0 : Kd.C (Kd.int .i64) w A0 l0.length l0) (hc0 : l0.length ≤ c0) (h : impl_chi_circuit.f k l0 a1 a2 a3 a4 = some r) :
  Calls Try.prog 109 #[.pointer A0, .int .i64 a1, .int .i64 a2, .int .i64 a3, .int .i64 a4] w fun e w' => e = .returned (.string r) ∧ Below w.heap.size w w' := by
 have HR0 := Aside0.mk hr0
 have HC0 := Aside0.mk hc0
 clear hr0 hc0
 have HB := Aside0.mk (Below.refl w.heap.size w)
 have H : (if 0 ≤ a2 then (if a2 < 7 then (if 0 ≤ a3 then (if a3 < 7 then (if 0 ≤ a4 then (if a4 < 7 then (if 344 ≤ (l0.length : Int) then (if 0 ≤ a1 then (if a1 < 7 then ((some (([rd l0 (cidx a2 a3 a4), wrap64 (-(rd l0 (cidx a1 a3 a4))), rd l0 (cidx a1 a2 a4), wrap64 (-(rd l0 (cidx a1 a2 a3)))] : List Int) : List Int)).bind fun y235 => (impl_chi_circuit.l0 k ([] : List Int) y235 (y235.length : Int) 0)) else (none)) else (none)) else (none)) else (none)) else (none)) else (none)) else (none)) else (none)) else (none)) = some r := h
 clear h
 by_cases c6 : 0 ≤ a2
 ·rw [if_pos c6] at H
  have c6b0 : decide (0 ≤ a2) = true := decide_eq_true c6
  clear c6
  by_cases c7 : a2 < 7
  ·rw [if_pos c7] at H
   have c7b0 : decide (a2 < 7) = true := decide_eq_true c7
   clear c7
   by_cases c8 : 0 ≤ a3
   ·rw [if_pos c8] at H
    have c8b0 : decide (0 ≤ a3) = true := decide_eq_true c8
    clear c8
    by_cases c9 : a3 < 7
    ·rw [if_pos c9] at H
     have c9b0 : decide (a3 < 7) = true := decide_eq_true c9
     clear c9
     by_cases c10 : 0 ≤ a4
     ·rw [if_pos c10] at H
      have c10b0 : decide (0 ≤ a4) = true := decide_eq_true c10
      clear c10
      by_cases c11 : a4 < 7
      ·rw [if_pos c11] at H
       have c11b0 : decide (a4 < 7) = true := decide_eq_true c11
       clear c11
       by_cases c12 : 344 ≤ (l0.length : Int)
       ·rw [if_pos c12] at H
        have c12b0 := eq_true c12
        have c12b1 : decide (344 ≤ (l0.length : Int)) = true := decide_eq_true c12
        clear c12
        by_cases c13 : 0 ≤ a1
        ·rw [if_pos c13] at H
         have c13b0 : decide (0 ≤ a1) = true := decide_eq_true c13
         clear c13
         by_cases c14 : a1 < 7
         ·rw [if_pos c14] at H
          have c14b0 : decide (a1 < 7) = true := decide_eq_true c14
          clear c14
          have c15b0 := eq_true (of_decide_eq_true (by first | (with_reducible assumption) | assumption) : 344 ≤ (l0.length : Int))
          have c16b0 := eq_true (of_decide_eq_true (by first | (with_reducible assumption) | assumption) : 344 ≤ (l0.length : Int))
          have c17b0 := eq_true (of_decide_eq_true (by first | (with_reducible assumption) | assumption) : 344 ≤ (l0.length : Int))
          obtain ⟨y235, hy235⟩ : ∃ y_ : List Int, y_ = (([rd l0 (cidx a2 a3 a4), wrap64 (-(rd l0 (cidx a1 a3 a4))), rd l0 (cidx a1 a2 a4), wrap64 (-(rd l0 (cidx a1 a2 a3)))] : List Int)) := ⟨_, rfl⟩
          replace H : (impl_chi_circuit.l0 k ([] : List Int) y235 (y235.length : Int) 0) = some r := by first | (rw [hy235]; with_reducible exact H) | (have H2_ := (Option.bind_some _ _).symm.trans H; rw [hy235]; with_reducible exact H2_) | (have H2_ := (Option.bind_some _ _).symm.trans H; with_reducible exact H2_) | with_reducible exact H | (rw [hy235]; exact H) | exact H
          have Ny235 := Aside0.mk hy235
          clear hy235
          have H' := Aside0.mk H
          clear H
          go_enter Try.func109, Try.ntmps109
          try go_wp2
          have n0_ := Aside0.mk (below_drew1 HB.out)
          clear HB
          have HB := n0_
          clear n0_
          have cp231_0 : 0 ≤ (a2 : Int) := of_decide_eq_true (by first | (with_reducible assumption) | assumption)
          have cq231_0 : (a2 : Int) < 7 := of_decide_eq_true (by first | (with_reducible assumption) | assumption)
          have cp231_1 : 0 ≤ (a3 : Int) := of_decide_eq_true (by first | (with_reducible assumption) | assumption)
          have cq231_1 : (a3 : Int) < 7 := of_decide_eq_true (by first | (with_reducible assumption) | assumption)
          have cp231_2 : 0 ≤ (a4 : Int) := of_decide_eq_true (by first | (with_reducible assumption) | assumption)
          have cq231_2 : (a4 : Int) < 7 := of_decide_eq_true (by first | (with_reducible assumption) | assumption)
          have cl231 : (344 : Int) ≤ (l0.length : Int) := of_decide_eq_true (by first | (with_reducible assumption) | assumption)
          have p231 : 0 ≤ ((cidx a2 a3 a4) : Int) := cidx_nonneg _ _ _
          have q231 : (cidx a2 a3 a4) < (l0.length : Int) := cidx_lt cq231_0 cq231_1 cq231_2 cl231
          obtain ⟨ad231, e231, hx231_0⟩ := Kd.at_int HR0.out (cidx a2 a3 a4) p231 q231
          have hw231_0 := hx231_0
          (first | rw [chi_add] at hw231_0 | simp only [cidx_nat] at hw231_0)
          cases e231
          (first | rw [chi_add] at hx231_0 | simp only [cidx_nat] at hx231_0)
          replace cp231_0 := eq_true cp231_0
          replace cq231_0 := eq_true cq231_0
          replace cp231_1 := eq_true cp231_1
          replace cq231_1 := eq_true cq231_1
          replace cp231_2 := eq_true cp231_2
          replace cq231_2 := eq_true cq231_2
          replace hx231_0 := (HB.out.cell (World.block_lt_of_cell? w _ hx231_0)).trans hx231_0
          replace p231 := eq_true p231
          replace q231 := eq_true q231
          have cp232_0 : 0 ≤ (a1 : Int) := of_decide_eq_true (by first | (with_reducible assumption) | assumption)
          have cq232_0 : (a1 : Int) < 7 := of_decide_eq_true (by first | (with_reducible assumption) | assumption)
          have cp232_1 : 0 ≤ (a3 : Int) := of_decide_eq_true (by first | (with_reducible assumption) | assumption)
          have cq232_1 : (a3 : Int) < 7 := of_decide_eq_true (by first | (with_reducible assumption) | assumption)
          have cp232_2 : 0 ≤ (a4 : Int) := of_decide_eq_true (by first | (with_reducible assumption) | assumption)
          have cq232_2 : (a4 : Int) < 7 := of_decide_eq_true (by first | (with_reducible assumption) | assumption)
          have cl232 : (344 : Int) ≤ (l0.length : Int) := of_decide_eq_true (by first | (with_reducible assumption) | assumption)
          have p232 : 0 ≤ ((cidx a1 a3 a4) : Int) := cidx_nonneg _ _ _
          have q232 : (cidx a1 a3 a4) < (l0.length : Int) := cidx_lt cq232_0 cq232_1 cq232_2 cl232
          obtain ⟨ad232, e232, hx232_0⟩ := Kd.at_int HR0.out (cidx a1 a3 a4) p232 q232
          have hw232_0 := hx232_0
          (first | rw [chi_add] at hw232_0 | simp only [cidx_nat] at hw232_0)
          obtain rfl : ad231 = ad232 := (by injection e232)
          (first | rw [chi_add] at hx232_0 | simp only [cidx_nat] at hx232_0)
          replace cp232_0 := eq_true cp232_0
          replace cq232_0 := eq_true cq232_0
          replace cp232_1 := eq_true cp232_1
          replace cq232_1 := eq_true cq232_1
          replace cp232_2 := eq_true cp232_2
          replace cq232_2 := eq_true cq232_2
          replace hx232_0 := (HB.out.cell (World.block_lt_of_cell? w _ hx232_0)).trans hx232_0
          replace p232 := eq_true p232
          replace q232 := eq_true q232
          have cp233_0 : 0 ≤ (a1 : Int) := of_decide_eq_true (by first | (with_reducible assumption) | assumption)
          have cq233_0 : (a1 : Int) < 7 := of_decide_eq_true (by first | (with_reducible assumption) | assumption)
          have cp233_1 : 0 ≤ (a2 : Int) := of_decide_eq_true (by first | (with_reducible assumption) | assumption)
          have cq233_1 : (a2 : Int) < 7 := of_decide_eq_true (by first | (with_reducible assumption) | assumption)
          have cp233_2 : 0 ≤ (a4 : Int) := of_decide_eq_true (by first | (with_reducible assumption) | assumption)
          have cq233_2 : (a4 : Int) < 7 := of_decide_eq_true (by first | (with_reducible assumption) | assumption)
          have cl233 : (344 : Int) ≤ (l0.length : Int) := of_decide_eq_true (by first | (with_reducible assumption) | assumption)
          have p233 : 0 ≤ ((cidx a1 a2 a4) : Int) := cidx_nonneg _ _ _
          have q233 : (cidx a1 a2 a4) < (l0.length : Int) := cidx_lt cq233_0 cq233_1 cq233_2 cl233
          obtain ⟨ad233, e233, hx233_0⟩ := Kd.at_int HR0.out (cidx a1 a2 a4) p233 q233
          have hw233_0 := hx233_0
          (first | rw [chi_add] at hw233_0 | simp only [cidx_nat] at hw233_0)
          obtain rfl : ad231 = ad233 := (by injection e233)
          (first | rw [chi_add] at hx233_0 | simp only [cidx_nat] at hx233_0)
          replace cp233_0 := eq_true cp233_0
          replace cq233_0 := eq_true cq233_0
          replace cp233_1 := eq_true cp233_1
          replace cq233_1 := eq_true cq233_1
          replace cp233_2 := eq_true cp233_2
          replace cq233_2 := eq_true cq233_2
          replace hx233_0 := (HB.out.cell (World.block_lt_of_cell? w _ hx233_0)).trans hx233_0
          replace p233 := eq_true p233
          replace q233 := eq_true q233
          have cp234_0 : 0 ≤ (a1 : Int) := of_decide_eq_true (by first | (with_reducible assumption) | assumption)
          have cq234_0 : (a1 : Int) < 7 := of_decide_eq_true (by first | (with_reducible assumption) | assumption)
          have cp234_1 : 0 ≤ (a2 : Int) := of_decide_eq_true (by first | (with_reducible assumption) | assumption)
          have cq234_1 : (a2 : Int) < 7 := of_decide_eq_true (by first | (with_reducible assumption) | assumption)
          have cp234_2 : 0 ≤ (a3 : Int) := of_decide_eq_true (by first | (with_reducible assumption) | assumption)
          have cq234_2 : (a3 : Int) < 7 := of_decide_eq_true (by first | (with_reducible assumption) | assumption)
          have cl234 : (344 : Int) ≤ (l0.length : Int) := of_decide_eq_true (by first | (with_reducible assumption) | assumption)
          have p234 : 0 ≤ ((cidx a1 a2 a3) : Int) := cidx_nonneg _ _ _
          have q234 : (cidx a1 a2 a3) < (l0.length : Int) := cidx_lt cq234_0 cq234_1 cq234_2 cl234
          obtain ⟨ad234, e234, hx234_0⟩ := Kd.at_int HR0.out (cidx a1 a2 a3) p234 q234
          have hw234_0 := hx234_0
          (first | rw [chi_add] at hw234_0 | simp only [cidx_nat] at hw234_0)
          obtain rfl : ad231 = ad234 := (by injection e234)
          (first | rw [chi_add] at hx234_0 | simp only [cidx_nat] at hx234_0)
          replace cp234_0 := eq_true cp234_0
          replace cq234_0 := eq_true cq234_0
          replace cp234_1 := eq_true cp234_1
          replace cq234_1 := eq_true cq234_1
          replace cp234_2 := eq_true cp234_2
          replace cq234_2 := eq_true cq234_2
          replace hx234_0 := (HB.out.cell (World.block_lt_of_cell? w _ hx234_0)).trans hx234_0
          replace p234 := eq_true p234
          replace q234 := eq_true q234
          refine start_ (n := 45) (S := fun w' => w'.cell? ⟨ad231.block, ad231.off + 1 + (a2).toNat * 49 + (a3).toNat * 7 + (a4).toNat, none⟩ = some (.int .i64 (rd l0 (cidx a2 a3 a4))) ∧ w'.cell? ⟨ad231.block, ad231.off + 1 + (a1).toNat * 49 + (a3).toNat * 7 + (a4).toNat, none⟩ = some (.int .i64 (rd l0 (cidx a1 a3 a4))) ∧ w'.cell? ⟨ad231.block, ad231.off + 1 + (a1).toNat * 49 + (a2).toNat * 7 + (a4).toNat, none⟩ = some (.int .i64 (rd l0 (cidx a1 a2 a4))) ∧ w'.cell? ⟨ad231.block, ad231.off + 1 + (a1).toNat * 49 + (a2).toNat * 7 + (a3).toNat, none⟩ = some (.int .i64 (rd l0 (cidx a1 a2 a3)))) (ds := []) #[false, false, false, false, false, false, false, false, false, false, false, false, false, false, false, false, false, false, false, false, false, false, false, false, false, false, false, false, false, false, false, false, false, false, false, false, false, false, false, false, false, false, false, false, false] (by kernel_rfl) rfl rfl ⟨((HB.out.cell (World.block_lt_of_cell? w _ hw231_0)).trans hw231_0), ((HB.out.cell (World.block_lt_of_cell? w _ hw232_0)).trans hw232_0), ((HB.out.cell (World.block_lt_of_cell? w _ hw233_0)).trans hw233_0), ((HB.out.cell (World.block_lt_of_cell? w _ hw234_0)).trans hw234_0)⟩ (fun hHeld => ?_); refine with_tabW impl_chi_circuit.tab2 impl_chi_circuit.bits2 (fun HT_ HW_ => ?_)
          generalize w.drew = w18 at HB hx231_0 hx232_0 hx233_0 hx234_0 hHeld ⊢
          refine pu 0 14 HT_ ?_
          refine pu 1 15 HT_ ?_
          refine pu 2 16 HT_ ?_
          refine pu 3 17 HT_ ?_
          refine pu 4 18 HT_ ?_
          refine pu 5 19 HT_ ?_
          refine pu 6 20 HT_ ?_
          refine pu 7 21 HT_ ?_
          refine pu 8 22 HT_ ?_
          refine pu 10 24 HT_ ?_
          refine pu 11 25 HT_ ?_
          refine pu 12 26 HT_ ?_
          refine pu 13 27 HT_ ?_
          refine pu 14 28 HT_ ?_
          refine pu 15 29 HT_ ?_
          refine pu 16 30 HT_ ?_
          refine pu 17 31 HT_ ?_
          refine pu 18 32 HT_ ?_
          refine pu 21 35 HT_ ?_
          refine pu 22 36 HT_ ?_
          refine pu 23 37 HT_ ?_
          refine pu 24 38 HT_ ?_
          refine pu 25 39 HT_ ?_
          refine pu 26 40 HT_ ?_
          refine pu 27 41 HT_ ?_
          refine pu 28 42 HT_ ?_
          refine pu 29 43 HT_ ?_
          refine pu 31 45 HT_ ?_
          refine pu 32 46 HT_ ?_
          refine pu 33 47 HT_ ?_
          refine pu 34 48 HT_ ?_
          refine pu 35 49 HT_ ?_
          refine pu 36 50 HT_ ?_
          refine pu 37 51 HT_ ?_
          refine pu 38 52 HT_ ?_
          refine pu 39 53 HT_ ?_
          refine pu 44 58 HT_ ?_
          refine take_ (i := 9) (N := some 23) (v := ?_) (a' := ?_) #[true, true, true, true, true, true, true, true, true, true, true, true, true, true, true, true, true, true, true, false, false, true, true, true, true, true, true, true, true, true, false, true, true, true, true, true, true, true, true, true, false, false, false, false, true] rfl rfl (take_ofW HT_.out HW_.out (by kernel_rfl)) (fun _ _ _ h => h) (Or.inl ⟨by rfl, ?_⟩) hHeld ?_ ?_
          rotate_left
          ·rintro w' ⟨s0, s1, s2, s3⟩
           go_simp
           with_reducible rfl
          rotate_left
          ·simp only [Act.put, List.setIfInBounds_toArray, List.set_cons_zero, List.set_cons_succ, i64_w, i32_w]
           rfl
          refine take_ (i := 19) (N := some 33) (v := ?_) (a' := ?_) #[true, true, true, true, true, true, true, true, true, true, true, true, true, true, true, true, true, true, true, true, false, true, true, true, true, true, true, true, true, true, false, true, true, true, true, true, true, true, true, true, false, false, false, false, true] rfl rfl (take_ofW HT_.out HW_.out (by kernel_rfl)) (fun _ _ _ h => h) (Or.inl ⟨by rfl, ?_⟩) hHeld ?_ ?_
          rotate_left
          ·rintro w' ⟨s0, s1, s2, s3⟩
           go_simp
           with_reducible rfl
          rotate_left
          ·simp only [Act.put, List.setIfInBounds_toArray, List.set_cons_zero, List.set_cons_succ, i64_w, i32_w]
           rfl
          refine pu 20 34 HT_ ?_
          refine take_ (i := 30) (N := some 44) (v := ?_) (a' := ?_) #[true, true, true, true, true, true, true, true, true, true, true, true, true, true, true, true, true, true, true, true, true, true, true, true, true, true, true, true, true, true, true, true, true, true, true, true, true, true, true, true, false, false, false, false, true] rfl rfl (take_ofW HT_.out HW_.out (by kernel_rfl)) (fun _ _ _ h => h) (Or.inl ⟨by rfl, ?_⟩) hHeld ?_ ?_
          rotate_left
          ·rintro w' ⟨s0, s1, s2, s3⟩
           go_simp
           with_reducible rfl
          rotate_left
          ·simp only [Act.put, List.setIfInBounds_toArray, List.set_cons_zero, List.set_cons_succ, i64_w, i32_w]
           rfl
          refine take_ (i := 40) (N := some 54) (v := ?_) (a' := ?_) #[true, true, true, true, true, true, true, true, true, true, true, true, true, true, true, true, true, true, true, true, true, true, true, true, true, true, true, true, true, true, true, true, true, true, true, true, true, true, true, true, true, false, false, false, true] rfl rfl (take_ofW HT_.out HW_.out (by kernel_rfl)) (fun _ _ _ h => h) (Or.inl ⟨by rfl, ?_⟩) hHeld ?_ ?_
          rotate_left
          ·rintro w' ⟨s0, s1, s2, s3⟩
           go_simp
           with_reducible rfl
          rotate_left
          ·simp only [Act.put, List.setIfInBounds_toArray, List.set_cons_zero, List.set_cons_succ, i64_w, i32_w]
           rfl
          refine pu 41 55 HT_ ?_
          refine one_ (i := 42) (N := some 56) #[true, true, true, true, true, true, true, true, true, true, true, true, true, true, true, true, true, true, true, true, true, true, true, true, true, true, true, true, true, true, true, true, true, true, true, true, true, true, true, true, true, true, true, false, true] rfl rfl (one_of HT_.out (by kernel_rfl)) (by decide) (fun K hK => ?_)
          refine Kd.R_lit_step (Kd.int .i64) _ 3 ?hg (N := 56) ?hd (xs := ([rd l0 (cidx a2 a3 a4), wrap64 (-(rd l0 (cidx a1 a3 a4))), rd l0 (cidx a1 a2 a4), wrap64 (-(rd l0 (cidx a1 a2 a3)))] : List Int)) (inner := [.int .i64 (rd l0 (cidx a2 a3 a4)), .int .i64 (wrap64 (-(rd l0 (cidx a1 a3 a4)))), .int .i64 (rd l0 (cidx a1 a2 a4)), .int .i64 (wrap64 (-(rd l0 (cidx a1 a2 a3))))]) (ok := fun _ => True) (okp := fun _ => True) ?hr ?hp (fun _ hk => hk) trivial (Below.refl _ _) (Nat.le_refl _) (by simp) ?_; (case hd => rfl); (case hg => rfl); (case hr => first | (go_simp; done) | (go_simp; rfl)); (case hp => exact (Reps.one (show Kd.M (Kd.int .i64) _ _ _ (rd l0 (cidx a2 a3 a4)) [.int .i64 (rd l0 (cidx a2 a3 a4))] from rfl) (Reps.one (show Kd.M (Kd.int .i64) _ _ _ (wrap64 (-(rd l0 (cidx a1 a3 a4)))) [.int .i64 (wrap64 (-(rd l0 (cidx a1 a3 a4))))] from rfl) (Reps.one (show Kd.M (Kd.int .i64) _ _ _ (rd l0 (cidx a1 a2 a4)) [.int .i64 (rd l0 (cidx a1 a2 a4))] from rfl) (Reps.one (show Kd.M (Kd.int .i64) _ _ _ (wrap64 (-(rd l0 (cidx a1 a2 a3)))) [.int .i64 (wrap64 (-(rd l0 (cidx a1 a2 a3))))] from rfl) (Reps.none _ _))))))
          intro v236 w19 ho20 hb hg_ hnew_
          clear hg_ hnew_
          (first | rw [← Ny235.out] at ho20 | (simp only [Int.reduceToNat] at ho20; rw [← Ny235.out] at ho20))
          have n0_ := Aside0.mk (Kd.R_lower ho20 (below_size (bl HB)))
          have n1_ := bs HB hb
          clear HB
          have HO237 := n0_
          have HB := n1_
          clear n0_ n1_
          clear hb ho20
          obtain ⟨Ao21, co21, eo21⟩ := Kd.R_slice HO237.out
          (first | subst eo21 | (injection eo21 with f1_ f2_ f3_; have f4_ := f1_.symm; have f5_ := f3_.symm; clear f1_ f2_ f3_; subst f4_; subst f5_))
          refine hK.out _ _ ⟨((HB.out.cell (World.block_lt_of_cell? w _ hw231_0)).trans hw231_0), ((HB.out.cell (World.block_lt_of_cell? w _ hw232_0)).trans hw232_0), ((HB.out.cell (World.block_lt_of_cell? w _ hw233_0)).trans hw233_0), ((HB.out.cell (World.block_lt_of_cell? w _ hw234_0)).trans hw234_0)⟩ (fun hHeld => ?_)
          clear hK K
          refine norm_ (a' := ?_) ?_ ?_
          rotate_left
          ·show Act.put _ (some 56) _ = _
           simp only [Act.put, List.setIfInBounds_toArray, List.set_cons_zero, List.set_cons_succ, i64_w, i32_w]
           rfl
          refine pu 43 57 HT_ ?_
          refine done_ (done_of HT_.out (by kernel_rfl)) ?_
          try go_wp2
          go_loopg [11, 58] k (fun kq v11 v58 w' => ∃ (x11_1 : List Int) (x58_1 : Int), v58 = .int .i64 x58_1 ∧ Aside0 (impl_chi_circuit.l0 kq x11_1 y235 (y235.length : Int) x58_1 = some r) ∧ Aside0 (kq ≤ k) ∧ Aside0 (Kd.R (Kd.int .u8) 5 w' w.heap.size (fun _ => True) v11 x11_1) ∧ Aside0 (Kd.R (Kd.int .i64) 3 w' w.heap.size (fun _ => True) (.slice Ao21 y235.length co21) y235) ∧ Aside0 (Below w.heap.size w w'))
          case atStart => exact ⟨(([] : List Int)), (0), (by first | rfl | (simp; done) | (simp [*]; done)), H', ⟨Nat.le_refl _⟩, ⟨by first | exact Kd.R_nil _ _ _ _ _ | exact Kd.N_nil _ _ _ _ _ | exact Kd.V_nil _ _ _ _ _ | exact Kd.Q_nil _ _ _ _ _ | exact Kd.S_nil _ _ _ _ _⟩, ⟨by (with_reducible repeat (first | apply Kd.R_alloc | apply Kd.R_drewN | apply Kd.R_drew)); exact HO237.out⟩, ⟨(bl HB)⟩⟩
          case round =>
           clear H'
           try clear c1
           try clear p2
           try clear q2
           try clear hx2
           try clear c6
           try clear c6b0
           try clear p6
           try clear c7
           try clear c7b0
           try clear c8
           try clear c8b0
           try clear c9
           try clear c9b0
           try clear c10
           try clear c10b0
           try clear c11
           try clear c11b0
           try clear c12
           try clear c12b0
           try clear c12b1
           try clear c13
           try clear c13b0
           try clear c14
           try clear c14b0
           try clear c15
           try clear c15b0
           try clear c16
           try clear c16b0
           try clear c17
           try clear c17b0
           try clear hx231_0
           try clear hx232_0
           try clear hx233_0
           try clear hx234_0
           try clear p231
           try clear p232
           try clear p233
           try clear p234
           try clear q231
           try clear q232
           try clear q233
           try clear q234
           obtain ⟨x11_1, x58_1, rfl, HA, HK1, HO_11, HO_56, HB⟩ := hrel
           cases gk with
           | zero => exact absurd HA.out (by simp [impl_chi_circuit.l0])
           | succ k1 =>
            have H := HA.out
            clear HA
            simp only [impl_chi_circuit.l0] at H
            by_cases c22 : x58_1 < (y235.length : Int)
            ·rw [if_pos c22] at H
             have c22b0 : decide (x58_1 < (y235.length : Int)) = true := decide_eq_true c22
             clear c22
             by_cases c23 : 0 ≤ x58_1
             ·rw [if_pos c23] at H
              have c23b0 : decide (0 ≤ x58_1) = true := decide_eq_true c23
              clear c23
              by_cases c24 : x58_1 < (y235.length : Int)
              ·rw [if_pos c24] at H
               have c24b0 : decide (x58_1 < (y235.length : Int)) = true := decide_eq_true c24
               clear c24
               by_cases c25 : (rd y235 x58_1) > 0
               ·rw [if_pos c25] at H
                have c25b0 : decide (0 < (rd y235 x58_1)) = true := decide_eq_true c25
                clear c25
                by_cases c26 : x11_1.length < 140737488355328
                ·rw [if_pos c26] at H
                 have LMc26 := Aside0.mk c26
                 clear c26
                 obtain ⟨y239, hy239⟩ : ∃ y_ : List Int, y_ = (x11_1 ++ [43]) := ⟨_, rfl⟩
                 replace H : (impl_chi_circuit.l0 k1 y239 y235 (y235.length : Int) (wrap64 (x58_1 + 1))) = some r := by first | (rw [hy239]; with_reducible exact H) | (have H2_ := (Option.bind_some _ _).symm.trans H; rw [hy239]; with_reducible exact H2_) | (have H2_ := (Option.bind_some _ _).symm.trans H; with_reducible exact H2_) | with_reducible exact H | (rw [hy239]; exact H) | exact H
                 have Ny239 := Aside0.mk hy239
                 clear hy239
                 have H' := Aside0.mk H
                 clear H
                 have p238 : 0 ≤ (x58_1 : Int) := of_decide_eq_true (by first | (with_reducible assumption) | assumption)
                 have q238 : x58_1 < (y235.length : Int) := of_decide_eq_true (by first | (with_reducible assumption) | assumption)
                 obtain ⟨ad238, e238, hx238_0⟩ := Kd.at_int (Kd.R_reads' HO_56.out).2.2 x58_1 p238 q238
                 cases e238
                 replace p238 := eq_true p238
                 replace q238 := eq_true q238
                 go_wp2_with (first | ((with_reducible refine gate_builtin (b := .append) (xs := #[.tmp 64, .tmp 65]) rfl ?_); at_builtin; refine Kd.R_append (Kd.int .u8) (w0 := w) w.heap.size rfl (.tmp 64) (.tmp 65) 107 5 (.int .u8 0) 1 rfl Try.underlying107 info5 rfl (by decide) (by omega) u11 x11_1 43 [.int .u8 43] (fun _ => True) (fun _ => False) rfl rfl ?aP (fun _ hk => hk.elim) ?aF ?aO ?aB ?aS ?aL ?_; (case aP => exact rfl); (case aB => exact (bl HB)); (case aF => exact (fun _ _ => trivial)); (case aO => exact (rr HO_11)); (case aS => exact (below_size (bl HB))); (case aL => have := LMc26.out; omega); intro v240 w27 ho hb hg hat; rw [← Ny239.out] at ho; have n0_ := Aside0.mk (Kd.R_over' (rr HO_56) (Kd.R_typed (rr HO_11)) (by decide) hg); have n1_ := Aside0.mk (hb); have n2_ := Aside0.mk (ho); clear HO_56; clear HB; clear HO_11; have HO_56 := n0_; have HB := n1_; have HO241 := n2_; clear n0_ n1_ n2_; clear ho hb hg hat))
                 go_roundg k1
                 case measure => have := HK1.out; omega
                 case rel => exact ⟨(y239), (wrap64 (x58_1 + 1)), (by first | rfl | (simp; done) | (simp [*]; done)), H', ⟨by have := HK1.out; omega⟩, ⟨by (with_reducible repeat (first | apply Kd.R_alloc | apply Kd.R_drewN | apply Kd.R_drew)); exact HO241.out⟩, ⟨by (with_reducible repeat (first | apply Kd.R_alloc | apply Kd.R_drewN | apply Kd.R_drew)); exact HO_56.out⟩, ⟨(bl HB)⟩⟩
                ·rw [if_neg c26] at H
                 exact absurd H (by simp)
               ·rw [if_neg c25] at H
                have c25b0 : decide (0 < (rd y235 x58_1)) = false := decide_eq_false c25
                clear c25
                by_cases c28 : x11_1.length < 140737488355328
                ·rw [if_pos c28] at H
                 have LMc28 := Aside0.mk c28
                 clear c28
                 obtain ⟨y242, hy242⟩ : ∃ y_ : List Int, y_ = (x11_1 ++ [45]) := ⟨_, rfl⟩
                 replace H : (impl_chi_circuit.l0 k1 y242 y235 (y235.length : Int) (wrap64 (x58_1 + 1))) = some r := by first | (rw [hy242]; with_reducible exact H) | (have H2_ := (Option.bind_some _ _).symm.trans H; rw [hy242]; with_reducible exact H2_) | (have H2_ := (Option.bind_some _ _).symm.trans H; with_reducible exact H2_) | with_reducible exact H | (rw [hy242]; exact H) | exact H
                 have Ny242 := Aside0.mk hy242
                 clear hy242
                 have H' := Aside0.mk H
                 clear H
                 have p238 : 0 ≤ (x58_1 : Int) := of_decide_eq_true (by first | (with_reducible assumption) | assumption)
                 have q238 : x58_1 < (y235.length : Int) := of_decide_eq_true (by first | (with_reducible assumption) | assumption)
                 obtain ⟨ad238, e238, hx238_0⟩ := Kd.at_int (Kd.R_reads' HO_56.out).2.2 x58_1 p238 q238
                 cases e238
                 replace p238 := eq_true p238
                 replace q238 := eq_true q238
                 go_wp2_with (first | ((with_reducible refine gate_builtin (b := .append) (xs := #[.tmp 67, .tmp 68]) rfl ?_); at_builtin; refine Kd.R_append (Kd.int .u8) (w0 := w) w.heap.size rfl (.tmp 67) (.tmp 68) 107 5 (.int .u8 0) 1 rfl Try.underlying107 info5 rfl (by decide) (by omega) u11 x11_1 45 [.int .u8 45] (fun _ => True) (fun _ => False) rfl rfl ?aP (fun _ hk => hk.elim) ?aF ?aO ?aB ?aS ?aL ?_; (case aP => exact rfl); (case aB => exact (bl HB)); (case aF => exact (fun _ _ => trivial)); (case aO => exact (rr HO_11)); (case aS => exact (below_size (bl HB))); (case aL => have := LMc28.out; omega); intro v243 w29 ho hb hg hat; rw [← Ny242.out] at ho; have n0_ := Aside0.mk (Kd.R_over' (rr HO_56) (Kd.R_typed (rr HO_11)) (by decide) hg); have n1_ := Aside0.mk (hb); have n2_ := Aside0.mk (ho); clear HO_56; clear HB; clear HO_11; have HO_56 := n0_; have HB := n1_; have HO244 := n2_; clear n0_ n1_ n2_; clear ho hb hg hat))
                 go_roundg k1
                 case measure => have := HK1.out; omega
                 case rel => exact ⟨(y242), (wrap64 (x58_1 + 1)), (by first | rfl | (simp; done) | (simp [*]; done)), H', ⟨by have := HK1.out; omega⟩, ⟨by (with_reducible repeat (first | apply Kd.R_alloc | apply Kd.R_drewN | apply Kd.R_drew)); exact HO244.out⟩, ⟨by (with_reducible repeat (first | apply Kd.R_alloc | apply Kd.R_drewN | apply Kd.R_drew)); exact HO_56.out⟩, ⟨(bl HB)⟩⟩
                ·rw [if_neg c28] at H
                 exact absurd H (by simp)
              ·rw [if_neg c24] at H
               exact absurd H (by simp)
             ·rw [if_neg c23] at H
              exact absurd H (by simp)
            ·rw [if_neg c22] at H
             have c22b0 : decide (x58_1 < (y235.length : Int)) = false := decide_eq_false c22
             clear c22
             by_cases c30 : 0 < (x11_1.length : Int)
             ·rw [if_pos c30] at H
              have c30b0 : decide (0 < (x11_1.length : Int)) = true := decide_eq_true c30
              have c30b1 : decide (0 < x11_1.length) = true := decide_eq_true (by omega)
              clear c30
              by_cases c31 : (rd x11_1 0) = 45
              ·rw [if_pos c31] at H
               have c31b0 : ((rd x11_1 0) == 45) = true := beq_iff_eq.mpr c31
               have c31b1 : ((rd x11_1 0) != 45) = false := bne_eq_false_iff_eq.mpr c31
               clear c31
               replace H := Option.bind_eq_some_iff.mp H
               obtain ⟨t246, A320, H⟩ := H
               (try dsimp only at H)
               have A32 := Aside0.mk A320
               clear A320
               obtain rfl := Option.some.inj H
               obtain ⟨Ao33, co33, eo33⟩ := Kd.R_slice HO_11.out
               subst eo33
               have p245 : 0 ≤ (0 : Int) := (by omega)
               have q245 : 0 < (x11_1.length : Int) := of_decide_eq_true (by first | (with_reducible assumption) | assumption)
               obtain ⟨ad245, e245, hx245_0⟩ := Kd.at_int (Kd.R_reads' HO_11.out).2.2 0 p245 q245
               cases e245
               have qi245 : (0 < x11_1.length) = True := eq_true (by omega)
               (try rw [show ((0 : Int)).toNat = 0 from rfl] at hx245_0)
               (try rw [Addr.add_zero'] at hx245_0)
               replace p245 := eq_true p245
               replace q245 := eq_true q245
               have hcv34 := own_string (P := Try.prog) Try.underlying107 Try.underlying5 Try.underlying9 (Kd.own_of_R HO_11.out)
               go_wp2_with (first | ((with_reducible refine gate_callee (f := 122) rfl ?_); refine gL (some 77) rfl rfl Try.func122 (by kernel_rfl) rfl #[.string (strOfNums x11_1)] rfl ?_; (with_reducible refine (impl_opposite.calls (strOfNums x11_1) t246 _ A32.out).mono ?_); rintro e w35 ⟨rfl, hb⟩; refine ⟨_, rfl, ?_⟩; have n0_ := Aside0.mk (Kd.R_below (rr HO_11) hb); have n1_ := Aside0.mk (Kd.R_below (rr HO_56) hb); have n2_ := bs HB hb; clear HO_11; clear HO_56; clear HB; have HO_11 := n0_; have HO_56 := n1_; have HB := n2_; clear n0_ n1_ n2_; (try clear hb); (try clear hb2); (try clear hk); (try clear hi)))
               go_ret
               exact ⟨by first | rfl | (simp [errW_none, errW_some] <;> rfl) | (simp [*, errW_none, errW_some] <;> rfl), (bl HB)⟩
              ·rw [if_neg c31] at H
               have c31b0 : ((rd x11_1 0) == 45) = false := beq_eq_false_iff_ne.mpr c31
               have c31b1 : ((rd x11_1 0) != 45) = true := bne_iff_ne.mpr c31
               obtain rfl := Option.some.inj H
               obtain ⟨Ao36, co36, eo36⟩ := Kd.R_slice HO_11.out
               subst eo36
               have p245 : 0 ≤ (0 : Int) := (by omega)
               have q245 : 0 < (x11_1.length : Int) := of_decide_eq_true (by first | (with_reducible assumption) | assumption)
               obtain ⟨ad245, e245, hx245_0⟩ := Kd.at_int (Kd.R_reads' HO_11.out).2.2 0 p245 q245
               cases e245
               have qi245 : (0 < x11_1.length) = True := eq_true (by omega)
               (try rw [show ((0 : Int)).toNat = 0 from rfl] at hx245_0)
               (try rw [Addr.add_zero'] at hx245_0)
               replace p245 := eq_true p245
               replace q245 := eq_true q245
               have hcv37 := own_string (P := Try.prog) Try.underlying107 Try.underlying5 Try.underlying9 (Kd.own_of_R HO_11.out)
               go_wp2
               go_ret
               exact ⟨by first | rfl | (simp [errW_none, errW_some] <;> rfl) | (simp [*, errW_none, errW_some] <;> rfl), (bl HB)⟩
             ·rw [if_neg c30] at H
              exact absurd H (by simp)
         ·rw [if_neg c14] at H
          exact absurd H (by simp)
        ·rw [if_neg c13] at H
         exact absurd H (by simp)
       ·rw [if_neg c12] at H
        exact absurd H (by simp)
      ·rw [if_neg c11] at H
       exact absurd H (by simp)
     ·rw [if_neg c10] at H
      exact absurd H (by simp)
    ·rw [if_neg c9] at H
     exact absurd H (by simp)
   ·rw [if_neg c8] at H
    exact absurd H (by simp)
  ·rw [if_neg c7] at H
   exact absurd H (by simp)
 ·rw [if_neg c6] at H
  exact absurd H (by simp)

/-! ### impl_chi_isAcyclic: function 98 -/
def impl_chi_isAcyclic.l0 : Nat → List Int → List (S103) → Int → Int → Option (Bool)
 | 0, _, _, _, _ => none
 | k + 1, x0, x9, x10, x11 => if x11 < x10 then (if 0 ≤ x11 then (if x11 < (x9.length : Int) then ((impl_chi_circuit.f k x0 ((rd_T103 x9 x11).f0) ((rd_T103 x9 x11).f1) ((rd_T103 x9 x11).f2) ((rd_T103 x9 x11).f3)).bind fun t253 => (if t253.toList = ([43, 43, 43, 43] : List UInt8) then (some false) else (impl_chi_isAcyclic.l0 k x0 x9 x10 (wrap64 (x11 + 1))))) else (none)) else (none)) else (some true)
def impl_chi_isAcyclic.f (k : Nat) (l0 : List Int) : Option (Bool) := if 344 ≤ (l0.length : Int) then ((impl_quadsOf.f k (rd l0 0)).bind fun t248 => (impl_chi_isAcyclic.l0 k l0 t248 (t248.length : Int) 0)) else (none)
theorem impl_chi_isAcyclic.mono_l : ∀ k, (∀ y0 y1 y2 y3, LeO (impl_chi_isAcyclic.l0 k y0 y1 y2 y3) (impl_chi_isAcyclic.l0 (k + 1) y0 y1 y2 y3))
 | 0 => fun _ _ _ _ r h => by simp [impl_chi_isAcyclic.l0] at h
 | k + 1 => by
  have ih0 := impl_chi_isAcyclic.mono_l k
  ·intro y0 y1 y2 y3
   unfold impl_chi_isAcyclic.l0
   repeat' first
   | (with_reducible exact ih0 _ _ _ _)
   | (with_reducible exact impl_chi_circuit.mono _ _ _ _ _ _)
   | (with_reducible exact impl_quadsOf.mono _ _)
   | (with_reducible exact LeO.refl _)
   | (with_reducible exact LeO.none _)
   | (with_reducible refine LeO.ite ?_ ?_)
   | (with_reducible refine LeO.bind ?_ (fun _ => ?_))
   | exact ih0 _ _ _ _
   | exact impl_chi_circuit.mono _ _ _ _ _ _
   | exact impl_quadsOf.mono _ _
   | exact LeO.none _
   | refine LeO.ite ?_ ?_
   | refine LeO.bind ?_ (fun _ => ?_)
theorem impl_chi_isAcyclic.mono : ∀ a0 k, LeO (impl_chi_isAcyclic.f k a0) (impl_chi_isAcyclic.f (k + 1) a0) := by
 intro a0 k
 have ih0 := impl_chi_isAcyclic.mono_l k
 unfold impl_chi_isAcyclic.f
 repeat' first
   | (with_reducible exact ih0 _ _ _ _)
   | (with_reducible exact impl_chi_circuit.mono _ _ _ _ _ _)
   | (with_reducible exact impl_quadsOf.mono _ _)
   | (with_reducible exact LeO.refl _)
   | (with_reducible exact LeO.none _)
   | (with_reducible refine LeO.ite ?_ ?_)
   | (with_reducible refine LeO.bind ?_ (fun _ => ?_))
   | exact ih0 _ _ _ _
   | exact impl_chi_circuit.mono _ _ _ _ _ _
   | exact impl_quadsOf.mono _ _
   | exact LeO.none _
   | refine LeO.ite ?_ ?_
   | refine LeO.bind ?_ (fun _ => ?_)
set_option maxHeartbeats 8000000 in
set_option maxRecDepth 100000 in
theorem impl_chi_isAcyclic.calls (k : Nat) (A0 : Option Addr) (c0 : Nat) (l0 : List Int) (r : Bool) (w : World) (hr0 : Kd.C (Kd.int .i64) w A0 l0.length l0) (hc0 : l0.length ≤ c0) (h : impl_chi_isAcyclic.f k l0 = some r) :
  Calls Try.prog 98 #[.pointer A0] w fun e w' => e = .returned (.bool r) ∧ Below w.heap.size w w' := by
 have hu103 := Try.underlying103
 have HR0 := Aside0.mk hr0
 have HC0 := Aside0.mk hc0
 clear hr0 hc0
 have HB := Aside0.mk (Below.refl w.heap.size w)
 have H : (if 344 ≤ (l0.length : Int) then ((impl_quadsOf.f k (rd l0 0)).bind fun t248 => (impl_chi_isAcyclic.l0 k l0 t248 (t248.length : Int) 0)) else (none)) = some r := h
 clear h
 by_cases c2 : 344 ≤ (l0.length : Int)
 ·rw [if_pos c2] at H
  have c2b0 := eq_true c2
  have c2b1 : decide (344 ≤ (l0.length : Int)) = true := decide_eq_true c2
  clear c2
  replace H := Option.bind_eq_some_iff.mp H
  obtain ⟨t248, A30, H⟩ := H
  (try dsimp only at H)
  have A3 := Aside0.mk A30
  clear A30
  have H' := Aside0.mk H
  clear H
  have cl247 : (344 : Int) ≤ (l0.length : Int) := of_decide_eq_true (by first | (with_reducible assumption) | assumption)
  have p247 : 0 ≤ (0 : Int) := (by omega)
  have q247 : 0 < (l0.length : Int) := (by omega)
  obtain ⟨ad247, e247, hx247_0⟩ := Kd.at_int HR0.out 0 p247 q247
  cases e247
  have qi247 : (0 < l0.length) = True := eq_true (by omega)
  (try rw [show ((0 : Int)).toNat = 0 from rfl] at hx247_0)
  (try rw [Addr.add_zero'] at hx247_0)
  replace p247 := eq_true p247
  replace q247 := eq_true q247
  go_enter Try.func98, Try.ntmps98
  go_wp2_with (first | ((with_reducible refine gate_callee (f := 115) rfl ?_); refine gL (some 9) rfl rfl Try.func115 (by kernel_rfl) rfl #[.int .i64 (rd l0 0)] rfl ?_; (with_reducible refine (impl_quadsOf.calls k (rd l0 0) t248 _ A3.out).mono ?_); rintro e w4 ⟨v249, rfl, ho0, hb⟩; refine ⟨_, rfl, ?_⟩; have n0_ := Aside0.mk (Kd.R_lower ho0 (below_size (bl HB))); have n1_ := bs HB hb; clear HB; have HO250 := n0_; have HB := n1_; clear n0_ n1_; (try clear hb); (try clear hb2); (try clear hk); (try clear hi); (try clear ho0); obtain ⟨Ao5, co5, eo5⟩ := Kd.R_slice HO250.out; subst eo5))
  go_loopg [11] k (fun kq v11 w' => ∃ (x11_1 : Int), v11 = .int .i64 x11_1 ∧ Aside0 (impl_chi_isAcyclic.l0 kq l0 t248 (t248.length : Int) x11_1 = some r) ∧ Aside0 (kq ≤ k) ∧ Aside0 (Kd.R k103 103 w' w.heap.size (fun _ => True) (.slice Ao5 t248.length co5) t248) ∧ Aside0 (Below w.heap.size w w'))
  case atStart => exact ⟨(0), (by first | rfl | (simp; done) | (simp [*]; done)), H', ⟨Nat.le_refl _⟩, ⟨by (with_reducible repeat (first | apply Kd.R_alloc | apply Kd.R_drewN | apply Kd.R_drew)); exact HO250.out⟩, ⟨(bl HB)⟩⟩
  case round =>
   clear H'
   try clear c1
   try clear c2
   try clear c2b0
   try clear c2b1
   try clear p2
   try clear q2
   try clear hx2
   try clear qi2
   try clear hx247_0
   try clear p247
   try clear q247
   obtain ⟨x11_1, rfl, HA, HK1, HO_9, HB⟩ := hrel
   cases gk with
   | zero => exact absurd HA.out (by simp [impl_chi_isAcyclic.l0])
   | succ k1 =>
    have H := HA.out
    clear HA
    simp only [impl_chi_isAcyclic.l0] at H
    by_cases c6 : x11_1 < (t248.length : Int)
    ·rw [if_pos c6] at H
     have c6b0 : decide (x11_1 < (t248.length : Int)) = true := decide_eq_true c6
     clear c6
     by_cases c7 : 0 ≤ x11_1
     ·rw [if_pos c7] at H
      have c7b0 : decide (0 ≤ x11_1) = true := decide_eq_true c7
      clear c7
      by_cases c8 : x11_1 < (t248.length : Int)
      ·rw [if_pos c8] at H
       have c8b0 : decide (x11_1 < (t248.length : Int)) = true := decide_eq_true c8
       clear c8
       replace H := Option.bind_eq_some_iff.mp H
       obtain ⟨t253, A90, H⟩ := H
       (try dsimp only at H)
       have A9 := Aside0.mk A90
       clear A90
       by_cases c10 : t253.toList = ([43, 43, 43, 43] : List UInt8)
       ·rw [if_pos c10] at H
        have c10b0 : (t253.toList == ([43, 43, 43, 43] : List UInt8)) = true := beq_iff_eq.mpr c10
        have c10b1 : (t253.toList != ([43, 43, 43, 43] : List UInt8)) = false := bne_eq_false_iff_eq.mpr c10
        clear c10
        obtain rfl := Option.some.inj H
        have p251 : 0 ≤ (x11_1 : Int) := of_decide_eq_true (by first | (with_reducible assumption) | assumption)
        have q251 : x11_1 < (t248.length : Int) := of_decide_eq_true (by first | (with_reducible assumption) | assumption)
        obtain ⟨ad251, e251, hx251_0, hx251_1, hx251_2, hx251_3⟩ := at_T103 (Kd.R_reads' HO_9.out).2.2 x11_1 p251 q251
        cases e251
        replace p251 := eq_true p251
        replace q251 := eq_true q251
        go_wp2_with (first | ((with_reducible refine gate_dst (N := 4) rfl ?_); refine bx 4 #[.int .i64 0, .int .i64 0, .int .i64 0, .int .i64 0] 103 ?_; intro gb252 hg w11 hbox hb; have n0_ := Aside0.mk (Kd.R_below (Kd.R_elderB (rr HO_9) gb252 (Nat.le_of_eq hg.symm)) hb); have n1_ := bs HB hb; have n2_ := Aside0.mk (hbox); have n3_ := Aside0.mk ((by rw [hg]; exact (below_size (bl HB)) : w.heap.size ≤ gb252)); have n4_ := Aside0.mk ((by rw [hg]; exact (below_size (bl HB)) : w.heap.size ≤ gb252)); clear HO_9; clear HB; have HO_9 := n0_; have HB := n1_; have BK252 := n2_; have GW252 := n3_; have GE252 := n4_; clear n0_ n1_ n2_ n3_ n4_; clear hb hbox hg; have hcz12_0 := bc BK252 0; have hcz12_1 := bc BK252 1; have hcz12_2 := bc BK252 2; have hcz12_3 := bc BK252 3; have hfz12_0 := bf BK252 0; have hfz12_1 := bf BK252 1; have hfz12_2 := bf BK252 2; have hfz12_3 := bf BK252 3) | ((with_reducible refine gate_callee (f := 109) rfl ?_); refine gL (some 24) rfl rfl Try.func109 (by kernel_rfl) rfl #[.pointer (some ad247), .int .i64 ((rd_T103 t248 x11_1).f0), .int .i64 ((rd_T103 t248 x11_1).f1), .int .i64 ((rd_T103 t248 x11_1).f2), .int .i64 ((rd_T103 t248 x11_1).f3)] rfl ?_; (with_reducible refine (impl_chi_circuit.calls k1 _ c0 l0 ((rd_T103 t248 x11_1).f0) ((rd_T103 t248 x11_1).f1) ((rd_T103 t248 x11_1).f2) ((rd_T103 t248 x11_1).f3) t253 _ ?side1 ?side2 A9.out).mono ?_); (case side1 => exact Kd.C_below HR0.out (bg HB GE252)); (case side2 => exact HC0.out); rintro e w13 ⟨rfl, hb⟩; refine ⟨_, rfl, ?_⟩; have n0_ := Aside0.mk (Kd.R_below (by (with_reducible repeat (first | apply Kd.R_alloc | apply Kd.R_drewN | apply Kd.R_drew)); exact (Kd.R_mono (Kd.R_far (p := ⟨gb252, 3, none⟩) (Kd.R_far (p := ⟨gb252, 2, none⟩) (Kd.R_far (p := ⟨gb252, 1, none⟩) (Kd.R_far (p := ⟨gb252, 0, none⟩) (Kd.R_mono HO_9.out (fun k_ hk => (⟨hk, hk.2⟩ : _ ∧ k_ ≠ gb252))) (fun _ hk => hk.2) (.int .i64 ((rd_T103 t248 x11_1).f0))) (fun _ hk => hk.2) (.int .i64 ((rd_T103 t248 x11_1).f1))) (fun _ hk => hk.2) (.int .i64 ((rd_T103 t248 x11_1).f2))) (fun _ hk => hk.2) (.int .i64 ((rd_T103 t248 x11_1).f3))) (fun _ h_ => h_.1))) hb); have n1_ := Aside0.mk (blk_below (g := gb252) (o := .cells #[.int .i64 ((rd_T103 t248 x11_1).f0), .int .i64 ((rd_T103 t248 x11_1).f1), .int .i64 ((rd_T103 t248 x11_1).f2), .int .i64 ((rd_T103 t248 x11_1).f3)] 103 (0, 0)) (by (with_reducible repeat (first | refine blk_drewN ?_ _ | refine blk_drew ?_ | refine blk_alloc ?_ _)); refine blk_put (cs := #[.int .i64 ((rd_T103 t248 x11_1).f0), .int .i64 ((rd_T103 t248 x11_1).f1), .int .i64 ((rd_T103 t248 x11_1).f2), .int .i64 0]) ?_ 3 _ rfl; (with_reducible repeat (first | refine blk_drewN ?_ _ | refine blk_drew ?_ | refine blk_alloc ?_ _)); refine blk_put (cs := #[.int .i64 ((rd_T103 t248 x11_1).f0), .int .i64 ((rd_T103 t248 x11_1).f1), .int .i64 0, .int .i64 0]) ?_ 2 _ rfl; (with_reducible repeat (first | refine blk_drewN ?_ _ | refine blk_drew ?_ | refine blk_alloc ?_ _)); refine blk_put (cs := #[.int .i64 ((rd_T103 t248 x11_1).f0), .int .i64 0, .int .i64 0, .int .i64 0]) ?_ 1 _ rfl; (with_reducible repeat (first | refine blk_drewN ?_ _ | refine blk_drew ?_ | refine blk_alloc ?_ _)); refine blk_put (cs := #[.int .i64 0, .int .i64 0, .int .i64 0, .int .i64 0]) ?_ 0 _ rfl; (with_reducible repeat (first | refine blk_drewN ?_ _ | refine blk_drew ?_ | refine blk_alloc ?_ _)); exact BK252.out) hb); have n2_ := bsg HB GE252 hb; clear HO_9; clear BK252; clear HB; have HO_9 := n0_; have BK252 := n1_; have HB := n2_; clear n0_ n1_ n2_; (try clear hb); (try clear hb2); (try clear hk); (try clear hi)))
        go_ret
        exact ⟨by first | rfl | (simp [errW_none, errW_some] <;> rfl) | (simp [*, errW_none, errW_some] <;> rfl), (bg HB GE252)⟩
       ·rw [if_neg c10] at H
        have c10b0 : (t253.toList == ([43, 43, 43, 43] : List UInt8)) = false := beq_eq_false_iff_ne.mpr c10
        have c10b1 : (t253.toList != ([43, 43, 43, 43] : List UInt8)) = true := bne_iff_ne.mpr c10
        have H' := Aside0.mk H
        clear H
        have p251 : 0 ≤ (x11_1 : Int) := of_decide_eq_true (by first | (with_reducible assumption) | assumption)
        have q251 : x11_1 < (t248.length : Int) := of_decide_eq_true (by first | (with_reducible assumption) | assumption)
        obtain ⟨ad251, e251, hx251_0, hx251_1, hx251_2, hx251_3⟩ := at_T103 (Kd.R_reads' HO_9.out).2.2 x11_1 p251 q251
        cases e251
        replace p251 := eq_true p251
        replace q251 := eq_true q251
        go_wp2_with (first | ((with_reducible refine gate_dst (N := 4) rfl ?_); refine bx 4 #[.int .i64 0, .int .i64 0, .int .i64 0, .int .i64 0] 103 ?_; intro gb252 hg w14 hbox hb; have n0_ := Aside0.mk (Kd.R_below (Kd.R_elderB (rr HO_9) gb252 (Nat.le_of_eq hg.symm)) hb); have n1_ := bs HB hb; have n2_ := Aside0.mk (hbox); have n3_ := Aside0.mk ((by rw [hg]; exact (below_size (bl HB)) : w.heap.size ≤ gb252)); have n4_ := Aside0.mk ((by rw [hg]; exact (below_size (bl HB)) : w.heap.size ≤ gb252)); clear HO_9; clear HB; have HO_9 := n0_; have HB := n1_; have BK252 := n2_; have GW252 := n3_; have GE252 := n4_; clear n0_ n1_ n2_ n3_ n4_; clear hb hbox hg; have hcz15_0 := bc BK252 0; have hcz15_1 := bc BK252 1; have hcz15_2 := bc BK252 2; have hcz15_3 := bc BK252 3; have hfz15_0 := bf BK252 0; have hfz15_1 := bf BK252 1; have hfz15_2 := bf BK252 2; have hfz15_3 := bf BK252 3) | ((with_reducible refine gate_callee (f := 109) rfl ?_); refine gL (some 24) rfl rfl Try.func109 (by kernel_rfl) rfl #[.pointer (some ad247), .int .i64 ((rd_T103 t248 x11_1).f0), .int .i64 ((rd_T103 t248 x11_1).f1), .int .i64 ((rd_T103 t248 x11_1).f2), .int .i64 ((rd_T103 t248 x11_1).f3)] rfl ?_; (with_reducible refine (impl_chi_circuit.calls k1 _ c0 l0 ((rd_T103 t248 x11_1).f0) ((rd_T103 t248 x11_1).f1) ((rd_T103 t248 x11_1).f2) ((rd_T103 t248 x11_1).f3) t253 _ ?side1 ?side2 A9.out).mono ?_); (case side1 => exact Kd.C_below HR0.out (bg HB GE252)); (case side2 => exact HC0.out); rintro e w16 ⟨rfl, hb⟩; refine ⟨_, rfl, ?_⟩; have n0_ := Aside0.mk (Kd.R_below (by (with_reducible repeat (first | apply Kd.R_alloc | apply Kd.R_drewN | apply Kd.R_drew)); exact (Kd.R_mono (Kd.R_far (p := ⟨gb252, 3, none⟩) (Kd.R_far (p := ⟨gb252, 2, none⟩) (Kd.R_far (p := ⟨gb252, 1, none⟩) (Kd.R_far (p := ⟨gb252, 0, none⟩) (Kd.R_mono HO_9.out (fun k_ hk => (⟨hk, hk.2⟩ : _ ∧ k_ ≠ gb252))) (fun _ hk => hk.2) (.int .i64 ((rd_T103 t248 x11_1).f0))) (fun _ hk => hk.2) (.int .i64 ((rd_T103 t248 x11_1).f1))) (fun _ hk => hk.2) (.int .i64 ((rd_T103 t248 x11_1).f2))) (fun _ hk => hk.2) (.int .i64 ((rd_T103 t248 x11_1).f3))) (fun _ h_ => h_.1))) hb); have n1_ := Aside0.mk (blk_below (g := gb252) (o := .cells #[.int .i64 ((rd_T103 t248 x11_1).f0), .int .i64 ((rd_T103 t248 x11_1).f1), .int .i64 ((rd_T103 t248 x11_1).f2), .int .i64 ((rd_T103 t248 x11_1).f3)] 103 (0, 0)) (by (with_reducible repeat (first | refine blk_drewN ?_ _ | refine blk_drew ?_ | refine blk_alloc ?_ _)); refine blk_put (cs := #[.int .i64 ((rd_T103 t248 x11_1).f0), .int .i64 ((rd_T103 t248 x11_1).f1), .int .i64 ((rd_T103 t248 x11_1).f2), .int .i64 0]) ?_ 3 _ rfl; (with_reducible repeat (first | refine blk_drewN ?_ _ | refine blk_drew ?_ | refine blk_alloc ?_ _)); refine blk_put (cs := #[.int .i64 ((rd_T103 t248 x11_1).f0), .int .i64 ((rd_T103 t248 x11_1).f1), .int .i64 0, .int .i64 0]) ?_ 2 _ rfl; (with_reducible repeat (first | refine blk_drewN ?_ _ | refine blk_drew ?_ | refine blk_alloc ?_ _)); refine blk_put (cs := #[.int .i64 ((rd_T103 t248 x11_1).f0), .int .i64 0, .int .i64 0, .int .i64 0]) ?_ 1 _ rfl; (with_reducible repeat (first | refine blk_drewN ?_ _ | refine blk_drew ?_ | refine blk_alloc ?_ _)); refine blk_put (cs := #[.int .i64 0, .int .i64 0, .int .i64 0, .int .i64 0]) ?_ 0 _ rfl; (with_reducible repeat (first | refine blk_drewN ?_ _ | refine blk_drew ?_ | refine blk_alloc ?_ _)); exact BK252.out) hb); have n2_ := bsg HB GE252 hb; clear HO_9; clear BK252; clear HB; have HO_9 := n0_; have BK252 := n1_; have HB := n2_; clear n0_ n1_ n2_; (try clear hb); (try clear hb2); (try clear hk); (try clear hi)))
        go_roundg k1
        case measure => have := HK1.out; omega
        case rel => exact ⟨(wrap64 (x11_1 + 1)), (by first | rfl | (simp; done) | (simp [*]; done)), H', ⟨by have := HK1.out; omega⟩, ⟨by (with_reducible repeat (first | apply Kd.R_alloc | apply Kd.R_drewN | apply Kd.R_drew)); exact Kd.R_mono HO_9.out (fun _ hk => trivial)⟩, ⟨(bg HB GE252)⟩⟩
      ·rw [if_neg c8] at H
       exact absurd H (by simp)
     ·rw [if_neg c7] at H
      exact absurd H (by simp)
    ·rw [if_neg c6] at H
     have c6b0 : decide (x11_1 < (t248.length : Int)) = false := decide_eq_false c6
     clear c6
     obtain rfl := Option.some.inj H
     go_wp2
     go_ret
     exact ⟨by first | rfl | (simp [errW_none, errW_some] <;> rfl) | (simp [*, errW_none, errW_some] <;> rfl), (bl HB)⟩
 ·rw [if_neg c2] at H
  exact absurd H (by simp)

/-! ### impl_IsAcyclic: function 71 -/
def impl_IsAcyclic.f (k : Nat) (a0_0 : Int) (a0_1 : ByteArray) : Option (Bool) := (impl_IsMatroid.f k a0_0 a0_1).bind fun t255 => (if t255 = true then ((impl_tableOf.f k a0_0 a0_1).bind fun t256 => ((impl_chi_isAcyclic.f k t256).bind fun t259 => (some t259))) else (some false))
theorem impl_IsAcyclic.mono : ∀ a0 a1 k, LeO (impl_IsAcyclic.f k a0 a1) (impl_IsAcyclic.f (k + 1) a0 a1) := by
 intro a0 a1 k
 unfold impl_IsAcyclic.f
 repeat' first
   | (with_reducible exact impl_IsMatroid.mono _ _ _)
   | (with_reducible exact impl_chi_isAcyclic.mono _ _)
   | (with_reducible exact impl_tableOf.mono _ _ _)
   | (with_reducible exact LeO.refl _)
   | (with_reducible exact LeO.none _)
   | (with_reducible refine LeO.ite ?_ ?_)
   | (with_reducible refine LeO.bind ?_ (fun _ => ?_))
   | exact impl_IsMatroid.mono _ _ _
   | exact impl_chi_isAcyclic.mono _ _
   | exact impl_tableOf.mono _ _ _
   | exact LeO.none _
   | refine LeO.ite ?_ ?_
   | refine LeO.bind ?_ (fun _ => ?_)
set_option maxHeartbeats 8000000 in
set_option maxRecDepth 100000 in
theorem impl_IsAcyclic.calls (k : Nat) (a0_0 : Int) (a0_1 : ByteArray) (r : Bool) (w : World) (h : impl_IsAcyclic.f k a0_0 a0_1 = some r) :
  Calls Try.prog 71 #[.agg #[.int .i64 a0_0, .string a0_1]] w fun e w' => e = .returned (.bool r) ∧ Below w.heap.size w w' := by
 have hu26 := Try.underlying26
 have HB := Aside0.mk (Below.refl w.heap.size w)
 have H : ((impl_IsMatroid.f k a0_0 a0_1).bind fun t255 => (if t255 = true then ((impl_tableOf.f k a0_0 a0_1).bind fun t256 => ((impl_chi_isAcyclic.f k t256).bind fun t259 => (some t259))) else (some false))) = some r := h
 clear h
 replace H := Option.bind_eq_some_iff.mp H
 obtain ⟨t255, A20, H⟩ := H
 (try dsimp only at H)
 have A2 := Aside0.mk A20
 clear A20
 by_cases c3 : t255 = true
 ·subst c3
  have H1 : ((impl_tableOf.f k a0_0 a0_1).bind fun t256 => ((impl_chi_isAcyclic.f k t256).bind fun t259 => (some t259))) = some r := by rw [if_pos rfl] at H; exact H
  clear H
  have H := H1
  clear H1
  replace H := Option.bind_eq_some_iff.mp H
  obtain ⟨t256, A40, H⟩ := H
  (try dsimp only at H)
  have A4 := Aside0.mk A40
  clear A40
  replace H := Option.bind_eq_some_iff.mp H
  obtain ⟨t259, A50, H⟩ := H
  (try dsimp only at H)
  have A5 := Aside0.mk A50
  clear A50
  obtain rfl := Option.some.inj H
  go_enter Try.func71, Try.ntmps71
  go_wp2_with (first | ((with_reducible refine gate_dst (N := 1) rfl ?_); refine bx 1 #[.int .i64 a0_0, .string a0_1] 26 ?_; intro gb254 hg w6 hbox hb; have BK254 := Aside0.mk hbox; have GE254 := gs HB hg; have GW254 := GE254; replace HB := bs HB hb; clear hb hbox hg; have hcz7_0 := bc BK254 0; have hcz7_1 := bc BK254 1; have hfz7_0 := bf BK254 0; have hfz7_1 := bf BK254 1) | ((with_reducible refine gate_callee (f := 97) rfl ?_); refine gL (some 4) rfl rfl Try.func97 (by kernel_rfl) rfl #[.agg #[.int .i64 a0_0, .string a0_1]] rfl ?_; (with_reducible refine (impl_IsMatroid.calls k a0_0 a0_1 true _ A2.out).mono ?_); rintro e w8 ⟨rfl, hb⟩; refine ⟨_, rfl, ?_⟩; have n0_ := Aside0.mk (blk_below (g := gb254) (o := .cells #[.int .i64 a0_0, .string a0_1] 26 (0, 0)) (bk BK254) hb); have n1_ := bsg HB GE254 hb; clear BK254; clear HB; have BK254 := n0_; have HB := n1_; clear n0_ n1_; (try clear hb); (try clear hb2); (try clear hk); (try clear hi); have hcz9_0 := bc BK254 0; have hcz9_1 := bc BK254 1; have hfz9_0 := bf BK254 0; have hfz9_1 := bf BK254 1) | (go_at_call 76; (with_reducible refine (impl_tableOf.calls k a0_0 a0_1 t256 _ A4.out).mono ?_); rintro e w10 ⟨v257, rfl, ho0, hb⟩; have n0_ := Aside0.mk (Kd.R_lower ho0 (below_size (bg HB GE254))); have n1_ := Aside0.mk (blk_below (g := gb254) (o := .cells #[.int .i64 a0_0, .string a0_1] 26 (0, 0)) (bk BK254) hb); have n2_ := bsg HB GE254 hb; clear BK254; clear HB; have HO258 := n0_; have BK254 := n1_; have HB := n2_; clear n0_ n1_ n2_; (try clear hb); (try clear hb2); (try clear hk); (try clear hi); (try clear ho0); obtain ⟨Ao11, co11, eo11⟩ := Kd.R_slice HO258.out; subst eo11) | (go_at_call 98; (with_reducible refine (impl_chi_isAcyclic.calls k _ co11 t256 t259 _ ?side1 ?side2 A5.out).mono ?_); (case side1 => repeat (first | exact (Kd.R_reads' HO258.out).2.2 | (with_reducible refine Kd.C_alloc ?_ _) | (with_reducible refine Kd.C_drewN ?_ _) | (with_reducible refine Kd.C_drew ?_))); (case side2 => exact (Kd.R_reads' HO258.out).2.1); rintro e w12 ⟨rfl, hb⟩; have n0_ := Aside0.mk (Kd.R_below (rr HO258) hb); have n1_ := Aside0.mk (blk_below (g := gb254) (o := .cells #[.int .i64 a0_0, .string a0_1] 26 (0, 0)) (bk BK254) hb); have n2_ := bsg HB GE254 hb; clear HO258; clear BK254; clear HB; have HO258 := n0_; have BK254 := n1_; have HB := n2_; clear n0_ n1_ n2_; (try clear hb); (try clear hb2); (try clear hk); (try clear hi)))
  go_ret
  exact ⟨by first | rfl | (simp [errW_none, errW_some] <;> rfl) | (simp [*, errW_none, errW_some] <;> rfl), (bg HB GE254)⟩
 ·replace c3 := Bool.eq_false_iff.mpr c3
  subst c3
  have H1 : (some false) = some r := by rw [if_neg (show ¬ (false = true) by decide)] at H; exact H
  clear H
  have H := H1
  clear H1
  obtain rfl := Option.some.inj H
  go_enter Try.func71, Try.ntmps71
  go_wp2_with (first | ((with_reducible refine gate_dst (N := 1) rfl ?_); refine bx 1 #[.int .i64 a0_0, .string a0_1] 26 ?_; intro gb254 hg w13 hbox hb; have BK254 := Aside0.mk hbox; have GE254 := gs HB hg; have GW254 := GE254; replace HB := bs HB hb; clear hb hbox hg; have hcz14_0 := bc BK254 0; have hcz14_1 := bc BK254 1; have hfz14_0 := bf BK254 0; have hfz14_1 := bf BK254 1) | ((with_reducible refine gate_callee (f := 97) rfl ?_); refine gL (some 4) rfl rfl Try.func97 (by kernel_rfl) rfl #[.agg #[.int .i64 a0_0, .string a0_1]] rfl ?_; (with_reducible refine (impl_IsMatroid.calls k a0_0 a0_1 false _ A2.out).mono ?_); rintro e w15 ⟨rfl, hb⟩; refine ⟨_, rfl, ?_⟩; have n0_ := Aside0.mk (blk_below (g := gb254) (o := .cells #[.int .i64 a0_0, .string a0_1] 26 (0, 0)) (bk BK254) hb); have n1_ := bsg HB GE254 hb; clear BK254; clear HB; have BK254 := n0_; have HB := n1_; clear n0_ n1_; (try clear hb); (try clear hb2); (try clear hk); (try clear hi)))
  go_ret
  exact ⟨by first | rfl | (simp [errW_none, errW_some] <;> rfl) | (simp [*, errW_none, errW_some] <;> rfl), (bg HB GE254)⟩

/-! ### impl_orderOf: function 47 -/
def impl_orderOf.f (k : Nat) (a0_0 : Int) (a0_1 : ByteArray) : Option (List Int × Bool) := (impl_IsAcyclic.f k a0_0 a0_1).bind fun t261 => (if t261 = true then ((impl_tableOf.f k a0_0 a0_1).bind fun t262 => (some (t262, true))) else (some (([] : List Int), false)))
theorem impl_orderOf.mono : ∀ a0 a1 k, LeO (impl_orderOf.f k a0 a1) (impl_orderOf.f (k + 1) a0 a1) := by
 intro a0 a1 k
 unfold impl_orderOf.f
 repeat' first
   | (with_reducible exact impl_IsAcyclic.mono _ _ _)
   | (with_reducible exact impl_tableOf.mono _ _ _)
   | (with_reducible exact LeO.refl _)
   | (with_reducible exact LeO.none _)
   | (with_reducible refine LeO.ite ?_ ?_)
   | (with_reducible refine LeO.bind ?_ (fun _ => ?_))
   | exact impl_IsAcyclic.mono _ _ _
   | exact impl_tableOf.mono _ _ _
   | exact LeO.none _
   | refine LeO.ite ?_ ?_
   | refine LeO.bind ?_ (fun _ => ?_)
set_option maxHeartbeats 8000000 in
set_option maxRecDepth 100000 in
theorem impl_orderOf.calls (k : Nat) (a0_0 : Int) (a0_1 : ByteArray) (r1 : List Int) (r2 : Bool) (w : World) (h : impl_orderOf.f k a0_0 a0_1 = some (r1, r2)) :
  Calls Try.prog 47 #[.agg #[.int .i64 a0_0, .string a0_1]] w fun e w' => ∃ v0_ : Value, e = .returned (.tuple #[(pv v0_), .bool r2]) ∧ Kd.R (Kd.int .i64) 78 w' w.heap.size (fun _ => True) v0_ r1 ∧ Below w.heap.size w w' := by
 have hu26 := Try.underlying26
 have HB := Aside0.mk (Below.refl w.heap.size w)
 have H : ((impl_IsAcyclic.f k a0_0 a0_1).bind fun t261 => (if t261 = true then ((impl_tableOf.f k a0_0 a0_1).bind fun t262 => (some (t262, true))) else (some (([] : List Int), false)))) = some (r1, r2) := h
 clear h
 replace H := Option.bind_eq_some_iff.mp H
 obtain ⟨t261, A20, H⟩ := H
 (try dsimp only at H)
 have A2 := Aside0.mk A20
 clear A20
 by_cases c3 : t261 = true
 ·subst c3
  have H1 : ((impl_tableOf.f k a0_0 a0_1).bind fun t262 => (some (t262, true))) = some (r1, r2) := by rw [if_pos rfl] at H; exact H
  clear H
  have H := H1
  clear H1
  replace H := Option.bind_eq_some_iff.mp H
  obtain ⟨t262, A40, H⟩ := H
  (try dsimp only at H)
  have A4 := Aside0.mk A40
  clear A40
  simp only [Option.some.injEq, Prod.mk.injEq] at H
  obtain ⟨rfl, rfl⟩ := H
  go_enter Try.func47, Try.ntmps47
  go_wp2_with (first | ((with_reducible refine gate_dst (N := 1) rfl ?_); refine bx 1 #[.int .i64 a0_0, .string a0_1] 26 ?_; intro gb260 hg w5 hbox hb; have BK260 := Aside0.mk hbox; have GE260 := gs HB hg; have GW260 := GE260; replace HB := bs HB hb; clear hb hbox hg; have hcz6_0 := bc BK260 0; have hcz6_1 := bc BK260 1; have hfz6_0 := bf BK260 0; have hfz6_1 := bf BK260 1) | ((with_reducible refine gate_callee (f := 71) rfl ?_); refine gL (some 5) rfl rfl Try.func71 (by kernel_rfl) rfl #[.agg #[.int .i64 a0_0, .string a0_1]] rfl ?_; (with_reducible refine (impl_IsAcyclic.calls k a0_0 a0_1 true _ A2.out).mono ?_); rintro e w7 ⟨rfl, hb⟩; refine ⟨_, rfl, ?_⟩; have n0_ := Aside0.mk (blk_below (g := gb260) (o := .cells #[.int .i64 a0_0, .string a0_1] 26 (0, 0)) (bk BK260) hb); have n1_ := bsg HB GE260 hb; clear BK260; clear HB; have BK260 := n0_; have HB := n1_; clear n0_ n1_; (try clear hb); (try clear hb2); (try clear hk); (try clear hi); have hcz8_0 := bc BK260 0; have hcz8_1 := bc BK260 1; have hfz8_0 := bf BK260 0; have hfz8_1 := bf BK260 1) | ((with_reducible refine gate_callee (f := 76) rfl ?_); refine gL (some 8) rfl rfl Try.func76 (by kernel_rfl) rfl #[.agg #[.int .i64 a0_0, .string a0_1]] rfl ?_; (with_reducible refine (impl_tableOf.calls k a0_0 a0_1 t262 _ A4.out).mono ?_); rintro e w9 ⟨v263, rfl, ho0, hb⟩; refine ⟨_, rfl, ?_⟩; have n0_ := Aside0.mk (Kd.R_lower ho0 (below_size (bg HB GE260))); have n1_ := Aside0.mk (blk_below (g := gb260) (o := .cells #[.int .i64 a0_0, .string a0_1] 26 (0, 0)) (bk BK260) hb); have n2_ := bsg HB GE260 hb; clear BK260; clear HB; have HO264 := n0_; have BK260 := n1_; have HB := n2_; clear n0_ n1_ n2_; (try clear hb); (try clear hb2); (try clear hk); (try clear hi); (try clear ho0)))
  go_ret2
  exact ⟨_, by first | rfl | (simp [errW_none, errW_some] <;> rfl) | (simp [*, errW_none, errW_some] <;> rfl), by (with_reducible repeat (first | apply Kd.R_alloc | apply Kd.R_drewN | apply Kd.R_drew)); exact HO264.out, (bg HB GE260)⟩
 ·replace c3 := Bool.eq_false_iff.mpr c3
  subst c3
  have H1 : (some (([] : List Int), false)) = some (r1, r2) := by rw [if_neg (show ¬ (false = true) by decide)] at H; exact H
  clear H
  have H := H1
  clear H1
  simp only [Option.some.injEq, Prod.mk.injEq] at H
  obtain ⟨rfl, rfl⟩ := H
  go_enter Try.func47, Try.ntmps47
  go_wp2_with (first | ((with_reducible refine gate_dst (N := 1) rfl ?_); refine bx 1 #[.int .i64 a0_0, .string a0_1] 26 ?_; intro gb260 hg w10 hbox hb; have BK260 := Aside0.mk hbox; have GE260 := gs HB hg; have GW260 := GE260; replace HB := bs HB hb; clear hb hbox hg; have hcz11_0 := bc BK260 0; have hcz11_1 := bc BK260 1; have hfz11_0 := bf BK260 0; have hfz11_1 := bf BK260 1) | ((with_reducible refine gate_callee (f := 71) rfl ?_); refine gL (some 5) rfl rfl Try.func71 (by kernel_rfl) rfl #[.agg #[.int .i64 a0_0, .string a0_1]] rfl ?_; (with_reducible refine (impl_IsAcyclic.calls k a0_0 a0_1 false _ A2.out).mono ?_); rintro e w12 ⟨rfl, hb⟩; refine ⟨_, rfl, ?_⟩; have n0_ := Aside0.mk (blk_below (g := gb260) (o := .cells #[.int .i64 a0_0, .string a0_1] 26 (0, 0)) (bk BK260) hb); have n1_ := bsg HB GE260 hb; clear BK260; clear HB; have BK260 := n0_; have HB := n1_; clear n0_ n1_; (try clear hb); (try clear hb2); (try clear hk); (try clear hi)))
  go_ret2
  exact ⟨.slice none 0 0, by first | rfl | (simp [errW_none, errW_some] <;> rfl) | (simp [*, errW_none, errW_some] <;> rfl), by first | exact Kd.R_nil _ _ _ _ _ | exact Kd.N_nil _ _ _ _ _ | exact Kd.V_nil _ _ _ _ _ | exact Kd.Q_nil _ _ _ _ _ | exact Kd.S_nil _ _ _ _ _, (bg HB GE260)⟩

end Go.Proofs.Ytjjfjdejhddcnaa.P
