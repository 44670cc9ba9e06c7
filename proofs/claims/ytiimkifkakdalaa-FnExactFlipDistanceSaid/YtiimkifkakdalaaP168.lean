-- Printed by a program of this session (wip/tools/myprint.py, over the kit's print.py); not trusted: Lean checks it.
import Derived.Test.YtiimkifkakdalaaP0
import Derived.Test.YtiimkifkakdalaaOOpp
import Derived.Test.YtiimkifkakdalaaP136
namespace Go.Proofs.Ytiimkifkakdalaa.P
open Go.RowKit Go.Proofs.YtiimkifkakdalaaW.PrintWords Go.Proofs.YtiimkifkakdalaaW.PrintLast Go.Proofs.YtiimkifkakdalaaW.PrintMore
attribute [local go_sem] max2_int min2_int max_two min_two max_three min_three max_four min_four   -- for this text's walks alone
set_option linter.unusedVariables false
set_option linter.unusedSimpArgs false

attribute [local go_sem] Go.Proofs.Try.underlying115 Go.Proofs.Try.underlying116 Go.Proofs.Try.underlying117 Go.Proofs.Try.underlying119
/-! ### impl_chi_circuit: function 168 -/
def impl_chi_circuit.l0 : Nat → List Int → List Int → Int → Int → Option (ByteArray)
 | 0, _, _, _, _ => none
 | k + 1, x11, x56, x57, x58 => if x58 < x57 then (if 0 ≤ x58 then (if x58 < (x56.length : Int) then (if (rd x56 x58) > 0 then (if x11.length < 140737488355328 then (impl_chi_circuit.l0 k (x11 ++ [43]) x56 x57 (wrap64 (x58 + 1))) else (none)) else (if x11.length < 140737488355328 then (impl_chi_circuit.l0 k (x11 ++ [45]) x56 x57 (wrap64 (x58 + 1))) else (none))) else (none)) else (none)) else (if 0 < (x11.length : Int) then (if (rd x11 0) = 45 then ((impl_opposite.f (strOfNums x11)).bind fun t340 => (some t340)) else (some (strOfNums x11))) else (none))
def impl_chi_circuit.f (k : Nat) (l0 : List Int) (a1 : Int) (a2 : Int) (a3 : Int) (a4 : Int) : Option (ByteArray) := if 0 ≤ a2 then (if a2 < 7 then (if 0 ≤ a3 then (if a3 < 7 then (if 0 ≤ a4 then (if a4 < 7 then (if 344 ≤ (l0.length : Int) then (if 0 ≤ a1 then (if a1 < 7 then ((some (([rd l0 (cidx a2 a3 a4), wrap64 (-(rd l0 (cidx a1 a3 a4))), rd l0 (cidx a1 a2 a4), wrap64 (-(rd l0 (cidx a1 a2 a3)))] : List Int) : List Int)).bind fun y329 => (impl_chi_circuit.l0 k ([] : List Int) y329 (y329.length : Int) 0)) else (none)) else (none)) else (none)) else (none)) else (none)) else (none)) else (none)) else (none)) else (none)
theorem impl_chi_circuit.mono_l : ∀ k, (∀ y0 y1 y2 y3, LeO (impl_chi_circuit.l0 k y0 y1 y2 y3) (impl_chi_circuit.l0 (k + 1) y0 y1 y2 y3))
 | 0 => fun _ _ _ _ r h => by simp [impl_chi_circuit.l0] at h
 | k + 1 => by
  have ih0 := impl_chi_circuit.mono_l k
  ·intro y0 y1 y2 y3
   unfold impl_chi_circuit.l0
   repeat' first
   | (with_reducible exact ih0 _ _ _ _)
   | (with_reducible exact LeO.refl _)
   | (with_reducible exact LeO.none _)
   | (with_reducible refine LeO.ite ?_ ?_)
   | (with_reducible refine LeO.bind ?_ (fun _ => ?_))
   | exact ih0 _ _ _ _
   | exact LeO.none _
   | refine LeO.ite ?_ ?_
   | refine LeO.bind ?_ (fun _ => ?_)
theorem impl_chi_circuit.mono : ∀ a0 a1 a2 a3 a4 k, LeO (impl_chi_circuit.f k a0 a1 a2 a3 a4) (impl_chi_circuit.f (k + 1) a0 a1 a2 a3 a4) := by
 intro a0 a1 a2 a3 a4 k
 have ih0 := impl_chi_circuit.mono_l k
 unfold impl_chi_circuit.f
 repeat' first
   | (with_reducible exact ih0 _ _ _ _)
   | (with_reducible exact LeO.refl _)
   | (with_reducible exact LeO.none _)
   | (with_reducible refine LeO.ite ?_ ?_)
   | (with_reducible refine LeO.bind ?_ (fun _ => ?_))
   | exact ih0 _ _ _ _
   | exact LeO.none _
   | refine LeO.ite ?_ ?_
   | refine LeO.bind ?_ (fun _ => ?_)
def impl_chi_circuit.T2 : Bool × List (List Nat × List Nat) := (true, [([], []), ([], []), ([], []), ([], []), ([0], [0]), ([4], [4]), ([5, 1], [1, 5]), ([6, 2], [2, 6]), ([7, 3], [3, 7]), ([8], [8]), ([], []), ([], []), ([], []), ([], []), ([10], [10]), ([14], [14]), ([15, 11], [11, 15]), ([16, 12], [12, 16]), ([17, 13], [13, 17]), ([18], [18]), ([19], [19]), ([], []), ([], []), ([], []), ([], []), ([21], [21]), ([25], [25]), ([26, 22], [22, 26]), ([27, 23], [23, 27]), ([28, 24], [24, 28]), ([29], [29]), ([], []), ([], []), ([], []), ([], []), ([31], [31]), ([35], [35]), ([36, 32], [32, 36]), ([37, 33], [33, 37]), ([38, 34], [34, 38]), ([39], [39]), ([40], [40]), ([9, 20, 30, 41], [9, 20, 30, 41]), ([42], [42]), ([], [])])
def impl_chi_circuit.B2 : List Nat := [0, 0, 0, 0, 1, 17, 51, 119, 255, 511, 0, 0, 0, 0, 1024, 17408, 52224, 121856, 261120, 523264, 1047552, 0, 0, 0, 0, 2097152, 35651584, 106954752, 249561088, 534773760, 1071644672, 0, 0, 0, 0, 2147483648, 36507222016, 109521666048, 255550554112, 547608330240, 1097364144128, 2196875771904, 4398046511103, 8796093022207, 0]
theorem impl_chi_circuit.tab2 : rtab .any (opsOf Try.f168 2) = impl_chi_circuit.T2 := by kernel_rfl
theorem impl_chi_circuit.bits2 : waitsOk impl_chi_circuit.T2.2 impl_chi_circuit.B2 = true := by kernel_rfl
set_option maxHeartbeats 8000000 in
set_option maxRecDepth 100000 in
theorem impl_chi_circuit.calls (k : Nat) (A0 : Option Addr) (c0 : Nat) (l0 : List Int) (a1 : Int) (a2 : Int) (a3 : Int) (a4 : Int) (r : ByteArray) (w : World) (hr0 : Kd.C (Kd.int .i64) w A0 l0.length l0) (hc0 : l0.length ≤ c0) (h : impl_chi_circuit.f k l0 a1 a2 a3 a4 = some r) :
  Calls Try.prog 168 #[.pointer A0, .int .i64 a1, .int .i64 a2, .int .i64 a3, .int .i64 a4] w fun e w' => e = .returned (.string r) ∧ Below w.heap.size w w' := by
 have HR0 := Aside0.mk hr0
 have HC0 := Aside0.mk hc0
 clear hr0 hc0
 have HB := Aside0.mk (Below.refl w.heap.size w)
 have H : (if 0 ≤ a2 then (if a2 < 7 then (if 0 ≤ a3 then (if a3 < 7 then (if 0 ≤ a4 then (if a4 < 7 then (if 344 ≤ (l0.length : Int) then (if 0 ≤ a1 then (if a1 < 7 then ((some (([rd l0 (cidx a2 a3 a4), wrap64 (-(rd l0 (cidx a1 a3 a4))), rd l0 (cidx a1 a2 a4), wrap64 (-(rd l0 (cidx a1 a2 a3)))] : List Int) : List Int)).bind fun y329 => (impl_chi_circuit.l0 k ([] : List Int) y329 (y329.length : Int) 0)) else (none)) else (none)) else (none)) else (none)) else (none)) else (none)) else (none)) else (none)) else (none)) = some r := h
 clear h
 by_cases c6 : 0 ≤ a2
 ·rw [if_pos c6] at H
  have c6b0 : decide (0 ≤ a2) = true := decide_eq_true c6
  clear c6
  by_cases c7 : a2 < 7
  ·rw [if_pos c7] at H
   have c7b0 : decide (a2 < 7) = true := decide_eq_true c7
   clear c7
   by_cases c8 : 0 ≤ a3
   ·rw [if_pos c8] at H
    have c8b0 : decide (0 ≤ a3) = true := decide_eq_true c8
    clear c8
    by_cases c9 : a3 < 7
    ·rw [if_pos c9] at H
     have c9b0 : decide (a3 < 7) = true := decide_eq_true c9
     clear c9
     by_cases c10 : 0 ≤ a4
     ·rw [if_pos c10] at H
      have c10b0 : decide (0 ≤ a4) = true := decide_eq_true c10
      clear c10
      by_cases c11 : a4 < 7
      ·rw [if_pos c11] at H
       have c11b0 : decide (a4 < 7) = true := decide_eq_true c11
       clear c11
       by_cases c12 : 344 ≤ (l0.length : Int)
       ·rw [if_pos c12] at H
        have c12b0 := eq_true c12
        have c12b1 : decide (344 ≤ (l0.length : Int)) = true := decide_eq_true c12
        clear c12
        by_cases c13 : 0 ≤ a1
        ·rw [if_pos c13] at H
         have c13b0 : decide (0 ≤ a1) = true := decide_eq_true c13
         clear c13
         by_cases c14 : a1 < 7
         ·rw [if_pos c14] at H
          have c14b0 : decide (a1 < 7) = true := decide_eq_true c14
          clear c14
          have c15b0 := eq_true (of_decide_eq_true (by first | (with_reducible assumption) | assumption) : 344 ≤ (l0.length : Int))
          have c16b0 := eq_true (of_decide_eq_true (by first | (with_reducible assumption) | assumption) : 344 ≤ (l0.length : Int))
          have c17b0 := eq_true (of_decide_eq_true (by first | (with_reducible assumption) | assumption) : 344 ≤ (l0.length : Int))
          obtain ⟨y329, hy329⟩ : ∃ y_ : List Int, y_ = (([rd l0 (cidx a2 a3 a4), wrap64 (-(rd l0 (cidx a1 a3 a4))), rd l0 (cidx a1 a2 a4), wrap64 (-(rd l0 (cidx a1 a2 a3)))] : List Int)) := ⟨_, rfl⟩
          replace H : (impl_chi_circuit.l0 k ([] : List Int) y329 (y329.length : Int) 0) = some r := by first | (rw [hy329]; with_reducible exact H) | (have H2_ := (Option.bind_some _ _).symm.trans H; rw [hy329]; with_reducible exact H2_) | (have H2_ := (Option.bind_some _ _).symm.trans H; with_reducible exact H2_) | with_reducible exact H | (rw [hy329]; exact H) | exact H
          have Ny329 := Aside0.mk hy329
          clear hy329
          have H' := Aside0.mk H
          clear H
          go_enter Try.func168, Try.ntmps168
          try go_wp2
          have n0_ := Aside0.mk (below_drew1 HB.out)
          clear HB
          have HB := n0_
          clear n0_
          have cp325_0 : 0 ≤ (a2 : Int) := of_decide_eq_true (by first | (with_reducible assumption) | assumption)
          have cq325_0 : (a2 : Int) < 7 := of_decide_eq_true (by first | (with_reducible assumption) | assumption)
          have cp325_1 : 0 ≤ (a3 : Int) := of_decide_eq_true (by first | (with_reducible assumption) | assumption)
          have cq325_1 : (a3 : Int) < 7 := of_decide_eq_true (by first | (with_reducible assumption) | assumption)
          have cp325_2 : 0 ≤ (a4 : Int) := of_decide_eq_true (by first | (with_reducible assumption) | assumption)
          have cq325_2 : (a4 : Int) < 7 := of_decide_eq_true (by first | (with_reducible assumption) | assumption)
          have cl325 : (344 : Int) ≤ (l0.length : Int) := of_decide_eq_true (by first | (with_reducible assumption) | assumption)
          have p325 : 0 ≤ ((cidx a2 a3 a4) : Int) := cidx_nonneg _ _ _
          have q325 : (cidx a2 a3 a4) < (l0.length : Int) := cidx_lt cq325_0 cq325_1 cq325_2 cl325
          obtain ⟨ad325, e325, hx325_0⟩ := Kd.at_int HR0.out (cidx a2 a3 a4) p325 q325
          have hw325_0 := hx325_0
          (first | rw [chi_add] at hw325_0 | simp only [cidx_nat] at hw325_0)
          cases e325
          (first | rw [chi_add] at hx325_0 | simp only [cidx_nat] at hx325_0)
          replace cp325_0 := eq_true cp325_0
          replace cq325_0 := eq_true cq325_0
          replace cp325_1 := eq_true cp325_1
          replace cq325_1 := eq_true cq325_1
          replace cp325_2 := eq_true cp325_2
          replace cq325_2 := eq_true cq325_2
          replace hx325_0 := (HB.out.cell (World.block_lt_of_cell? w _ hx325_0)).trans hx325_0
          replace p325 := eq_true p325
          replace q325 := eq_true q325
          have cp326_0 : 0 ≤ (a1 : Int) := of_decide_eq_true (by first | (with_reducible assumption) | assumption)
          have cq326_0 : (a1 : Int) < 7 := of_decide_eq_true (by first | (with_reducible assumption) | assumption)
          have cp326_1 : 0 ≤ (a3 : Int) := of_decide_eq_true (by first | (with_reducible assumption) | assumption)
          have cq326_1 : (a3 : Int) < 7 := of_decide_eq_true (by first | (with_reducible assumption) | assumption)
          have cp326_2 : 0 ≤ (a4 : Int) := of_decide_eq_true (by first | (with_reducible assumption) | assumption)
          have cq326_2 : (a4 : Int) < 7 := of_decide_eq_true (by first | (with_reducible assumption) | assumption)
          have cl326 : (344 : Int) ≤ (l0.length : Int) := of_decide_eq_true (by first | (with_reducible assumption) | assumption)
          have p326 : 0 ≤ ((cidx a1 a3 a4) : Int) := cidx_nonneg _ _ _
          have q326 : (cidx a1 a3 a4) < (l0.length : Int) := cidx_lt cq326_0 cq326_1 cq326_2 cl326
          obtain ⟨ad326, e326, hx326_0⟩ := Kd.at_int HR0.out (cidx a1 a3 a4) p326 q326
          have hw326_0 := hx326_0
          (first | rw [chi_add] at hw326_0 | simp only [cidx_nat] at hw326_0)
          obtain rfl : ad325 = ad326 := (by injection e326)
          (first | rw [chi_add] at hx326_0 | simp only [cidx_nat] at hx326_0)
          replace cp326_0 := eq_true cp326_0
          replace cq326_0 := eq_true cq326_0
          replace cp326_1 := eq_true cp326_1
          replace cq326_1 := eq_true cq326_1
          replace cp326_2 := eq_true cp326_2
          replace cq326_2 := eq_true cq326_2
          replace hx326_0 := (HB.out.cell (World.block_lt_of_cell? w _ hx326_0)).trans hx326_0
          replace p326 := eq_true p326
          replace q326 := eq_true q326
          have cp327_0 : 0 ≤ (a1 : Int) := of_decide_eq_true (by first | (with_reducible assumption) | assumption)
          have cq327_0 : (a1 : Int) < 7 := of_decide_eq_true (by first | (with_reducible assumption) | assumption)
          have cp327_1 : 0 ≤ (a2 : Int) := of_decide_eq_true (by first | (with_reducible assumption) | assumption)
          have cq327_1 : (a2 : Int) < 7 := of_decide_eq_true (by first | (with_reducible assumption) | assumption)
          have cp327_2 : 0 ≤ (a4 : Int) := of_decide_eq_true (by first | (with_reducible assumption) | assumption)
          have cq327_2 : (a4 : Int) < 7 := of_decide_eq_true (by first | (with_reducible assumption) | assumption)
          have cl327 : (344 : Int) ≤ (l0.length : Int) := of_decide_eq_true (by first | (with_reducible assumption) | assumption)
          have p327 : 0 ≤ ((cidx a1 a2 a4) : Int) := cidx_nonneg _ _ _
          have q327 : (cidx a1 a2 a4) < (l0.length : Int) := cidx_lt cq327_0 cq327_1 cq327_2 cl327
          obtain ⟨ad327, e327, hx327_0⟩ := Kd.at_int HR0.out (cidx a1 a2 a4) p327 q327
          have hw327_0 := hx327_0
          (first | rw [chi_add] at hw327_0 | simp only [cidx_nat] at hw327_0)
          obtain rfl : ad325 = ad327 := (by injection e327)
          (first | rw [chi_add] at hx327_0 | simp only [cidx_nat] at hx327_0)
          replace cp327_0 := eq_true cp327_0
          replace cq327_0 := eq_true cq327_0
          replace cp327_1 := eq_true cp327_1
          replace cq327_1 := eq_true cq327_1
          replace cp327_2 := eq_true cp327_2
          replace cq327_2 := eq_true cq327_2
          replace hx327_0 := (HB.out.cell (World.block_lt_of_cell? w _ hx327_0)).trans hx327_0
          replace p327 := eq_true p327
          replace q327 := eq_true q327
          have cp328_0 : 0 ≤ (a1 : Int) := of_decide_eq_true (by first | (with_reducible assumption) | assumption)
          have cq328_0 : (a1 : Int) < 7 := of_decide_eq_true (by first | (with_reducible assumption) | assumption)
          have cp328_1 : 0 ≤ (a2 : Int) := of_decide_eq_true (by first | (with_reducible assumption) | assumption)
          have cq328_1 : (a2 : Int) < 7 := of_decide_eq_true (by first | (with_reducible assumption) | assumption)
          have cp328_2 : 0 ≤ (a3 : Int) := of_decide_eq_true (by first | (with_reducible assumption) | assumption)
          have cq328_2 : (a3 : Int) < 7 := of_decide_eq_true (by first | (with_reducible assumption) | assumption)
          have cl328 : (344 : Int) ≤ (l0.length : Int) := of_decide_eq_true (by first | (with_reducible assumption) | assumption)
          have p328 : 0 ≤ ((cidx a1 a2 a3) : Int) := cidx_nonneg _ _ _
          have q328 : (cidx a1 a2 a3) < (l0.length : Int) := cidx_lt cq328_0 cq328_1 cq328_2 cl328
          obtain ⟨ad328, e328, hx328_0⟩ := Kd.at_int HR0.out (cidx a1 a2 a3) p328 q328
          have hw328_0 := hx328_0
          (first | rw [chi_add] at hw328_0 | simp only [cidx_nat] at hw328_0)
          obtain rfl : ad325 = ad328 := (by injection e328)
          (first | rw [chi_add] at hx328_0 | simp only [cidx_nat] at hx328_0)
          replace cp328_0 := eq_true cp328_0
          replace cq328_0 := eq_true cq328_0
          replace cp328_1 := eq_true cp328_1
          replace cq328_1 := eq_true cq328_1
          replace cp328_2 := eq_true cp328_2
          replace cq328_2 := eq_true cq328_2
          replace hx328_0 := (HB.out.cell (World.block_lt_of_cell? w _ hx328_0)).trans hx328_0
          replace p328 := eq_true p328
          replace q328 := eq_true q328
          refine start_ (n := 45) (S := fun w' => w'.cell? ⟨ad325.block, ad325.off + 1 + (a2).toNat * 49 + (a3).toNat * 7 + (a4).toNat, none⟩ = some (.int .i64 (rd l0 (cidx a2 a3 a4))) ∧ w'.cell? ⟨ad325.block, ad325.off + 1 + (a1).toNat * 49 + (a3).toNat * 7 + (a4).toNat, none⟩ = some (.int .i64 (rd l0 (cidx a1 a3 a4))) ∧ w'.cell? ⟨ad325.block, ad325.off + 1 + (a1).toNat * 49 + (a2).toNat * 7 + (a4).toNat, none⟩ = some (.int .i64 (rd l0 (cidx a1 a2 a4))) ∧ w'.cell? ⟨ad325.block, ad325.off + 1 + (a1).toNat * 49 + (a2).toNat * 7 + (a3).toNat, none⟩ = some (.int .i64 (rd l0 (cidx a1 a2 a3)))) (ds := []) #[false, false, false, false, false, false, false, false, false, false, false, false, false, false, false, false, false, false, false, false, false, false, false, false, false, false, false, false, false, false, false, false, false, false, false, false, false, false, false, false, false, false, false, false, false] (by kernel_rfl) rfl rfl ⟨((HB.out.cell (World.block_lt_of_cell? w _ hw325_0)).trans hw325_0), ((HB.out.cell (World.block_lt_of_cell? w _ hw326_0)).trans hw326_0), ((HB.out.cell (World.block_lt_of_cell? w _ hw327_0)).trans hw327_0), ((HB.out.cell (World.block_lt_of_cell? w _ hw328_0)).trans hw328_0)⟩ (fun hHeld => ?_); refine with_tabW impl_chi_circuit.tab2 impl_chi_circuit.bits2 (fun HT_ HW_ => ?_)
          generalize w.drew = w18 at HB hx325_0 hx326_0 hx327_0 hx328_0 hHeld ⊢
          refine pu 0 14 HT_ ?_
          refine pu 1 15 HT_ ?_
          refine pu 2 16 HT_ ?_
          refine pu 3 17 HT_ ?_
          refine pu 4 18 HT_ ?_
          refine pu 5 19 HT_ ?_
          refine pu 6 20 HT_ ?_
          refine pu 7 21 HT_ ?_
          refine pu 8 22 HT_ ?_
          refine pu 10 24 HT_ ?_
          refine pu 11 25 HT_ ?_
          refine pu 12 26 HT_ ?_
          refine pu 13 27 HT_ ?_
          refine pu 14 28 HT_ ?_
          refine pu 15 29 HT_ ?_
          refine pu 16 30 HT_ ?_
          refine pu 17 31 HT_ ?_
          refine pu 18 32 HT_ ?_
          refine pu 21 35 HT_ ?_
          refine pu 22 36 HT_ ?_
          refine pu 23 37 HT_ ?_
          refine pu 24 38 HT_ ?_
          refine pu 25 39 HT_ ?_
          refine pu 26 40 HT_ ?_
          refine pu 27 41 HT_ ?_
          refine pu 28 42 HT_ ?_
          refine pu 29 43 HT_ ?_
          refine pu 31 45 HT_ ?_
          refine pu 32 46 HT_ ?_
          refine pu 33 47 HT_ ?_
          refine pu 34 48 HT_ ?_
          refine pu 35 49 HT_ ?_
          refine pu 36 50 HT_ ?_
          refine pu 37 51 HT_ ?_
          refine pu 38 52 HT_ ?_
          refine pu 39 53 HT_ ?_
          refine pu 44 58 HT_ ?_
          refine take_ (i := 9) (N := some 23) (v := ?_) (a' := ?_) #[true, true, true, true, true, true, true, true, true, true, true, true, true, true, true, true, true, true, true, false, false, true, true, true, true, true, true, true, true, true, false, true, true, true, true, true, true, true, true, true, false, false, false, false, true] rfl rfl (take_ofW HT_.out HW_.out (by kernel_rfl)) (fun _ _ _ h => h) (Or.inl ⟨by rfl, ?_⟩) hHeld ?_ ?_
          rotate_left
          ·rintro w' ⟨s0, s1, s2, s3⟩
           go_simp
           with_reducible rfl
          rotate_left
          ·simp only [Act.put, List.setIfInBounds_toArray, List.set_cons_zero, List.set_cons_succ, i64_w, i32_w]
           rfl
          refine take_ (i := 19) (N := some 33) (v := ?_) (a' := ?_) #[true, true, true, true, true, true, true, true, true, true, true, true, true, true, true, true, true, true, true, true, false, true, true, true, true, true, true, true, true, true, false, true, true, true, true, true, true, true, true, true, false, false, false, false, true] rfl rfl (take_ofW HT_.out HW_.out (by kernel_rfl)) (fun _ _ _ h => h) (Or.inl ⟨by rfl, ?_⟩) hHeld ?_ ?_
          rotate_left
          ·rintro w' ⟨s0, s1, s2, s3⟩
           go_simp
           with_reducible rfl
          rotate_left
          ·simp only [Act.put, List.setIfInBounds_toArray, List.set_cons_zero, List.set_cons_succ, i64_w, i32_w]
           rfl
          refine pu 20 34 HT_ ?_
          refine take_ (i := 30) (N := some 44) (v := ?_) (a' := ?_) #[true, true, true, true, true, true, true, true, true, true, true, true, true, true, true, true, true, true, true, true, true, true, true, true, true, true, true, true, true, true, true, true, true, true, true, true, true, true, true, true, false, false, false, false, true] rfl rfl (take_ofW HT_.out HW_.out (by kernel_rfl)) (fun _ _ _ h => h) (Or.inl ⟨by rfl, ?_⟩) hHeld ?_ ?_
          rotate_left
          ·rintro w' ⟨s0, s1, s2, s3⟩
           go_simp
           with_reducible rfl
          rotate_left
          ·simp only [Act.put, List.setIfInBounds_toArray, List.set_cons_zero, List.set_cons_succ, i64_w, i32_w]
           rfl
          refine take_ (i := 40) (N := some 54) (v := ?_) (a' := ?_) #[true, true, true, true, true, true, true, true, true, true, true, true, true, true, true, true, true, true, true, true, true, true, true, true, true, true, true, true, true, true, true, true, true, true, true, true, true, true, true, true, true, false, false, false, true] rfl rfl (take_ofW HT_.out HW_.out (by kernel_rfl)) (fun _ _ _ h => h) (Or.inl ⟨by rfl, ?_⟩) hHeld ?_ ?_
          rotate_left
          ·rintro w' ⟨s0, s1, s2, s3⟩
           go_simp
           with_reducible rfl
          rotate_left
          ·simp only [Act.put, List.setIfInBounds_toArray, List.set_cons_zero, List.set_cons_succ, i64_w, i32_w]
           rfl
          refine pu 41 55 HT_ ?_
          refine one_ (i := 42) (N := some 56) #[true, true, true, true, true, true, true, true, true, true, true, true, true, true, true, true, true, true, true, true, true, true, true, true, true, true, true, true, true, true, true, true, true, true, true, true, true, true, true, true, true, true, true, false, true] rfl rfl (one_of HT_.out (by kernel_rfl)) (by decide) (fun K hK => ?_)
          refine Kd.R_lit_step (Kd.int .i64) _ 3 ?hg (N := 56) ?hd (xs := ([rd l0 (cidx a2 a3 a4), wrap64 (-(rd l0 (cidx a1 a3 a4))), rd l0 (cidx a1 a2 a4), wrap64 (-(rd l0 (cidx a1 a2 a3)))] : List Int)) (inner := [.int .i64 (rd l0 (cidx a2 a3 a4)), .int .i64 (wrap64 (-(rd l0 (cidx a1 a3 a4)))), .int .i64 (rd l0 (cidx a1 a2 a4)), .int .i64 (wrap64 (-(rd l0 (cidx a1 a2 a3))))]) (ok := fun _ => True) (okp := fun _ => True) ?hr ?hp (fun _ hk => hk) trivial (Below.refl _ _) (Nat.le_refl _) (by simp) ?_; (case hd => rfl); (case hg => rfl); (case hr => first | (go_simp; done) | (go_simp; rfl)); (case hp => exact (Reps.one (show Kd.M (Kd.int .i64) _ _ _ (rd l0 (cidx a2 a3 a4)) [.int .i64 (rd l0 (cidx a2 a3 a4))] from rfl) (Reps.one (show Kd.M (Kd.int .i64) _ _ _ (wrap64 (-(rd l0 (cidx a1 a3 a4)))) [.int .i64 (wrap64 (-(rd l0 (cidx a1 a3 a4))))] from rfl) (Reps.one (show Kd.M (Kd.int .i64) _ _ _ (rd l0 (cidx a1 a2 a4)) [.int .i64 (rd l0 (cidx a1 a2 a4))] from rfl) (Reps.one (show Kd.M (Kd.int .i64) _ _ _ (wrap64 (-(rd l0 (cidx a1 a2 a3)))) [.int .i64 (wrap64 (-(rd l0 (cidx a1 a2 a3))))] from rfl) (Reps.none _ _))))))
          intro v330 w19 ho20 hb hg_ hnew_
          clear hg_ hnew_
          (first | rw [← Ny329.out] at ho20 | (simp only [Int.reduceToNat] at ho20; rw [← Ny329.out] at ho20))
          have n0_ := Aside0.mk (Kd.R_lower ho20 (below_size (bl HB)))
          have n1_ := bs HB hb
          clear HB
          have HO331 := n0_
          have HB := n1_
          clear n0_ n1_
          clear hb ho20
          obtain ⟨Ao21, co21, eo21⟩ := Kd.R_slice HO331.out
          (first | subst eo21 | (injection eo21 with f1_ f2_ f3_; have f4_ := f1_.symm; have f5_ := f3_.symm; clear f1_ f2_ f3_; subst f4_; subst f5_))
          refine hK.out _ _ ⟨((HB.out.cell (World.block_lt_of_cell? w _ hw325_0)).trans hw325_0), ((HB.out.cell (World.block_lt_of_cell? w _ hw326_0)).trans hw326_0), ((HB.out.cell (World.block_lt_of_cell? w _ hw327_0)).trans hw327_0), ((HB.out.cell (World.block_lt_of_cell? w _ hw328_0)).trans hw328_0)⟩ (fun hHeld => ?_)
          clear hK K
          refine norm_ (a' := ?_) ?_ ?_
          rotate_left
          ·show Act.put _ (some 56) _ = _
           simp only [Act.put, List.setIfInBounds_toArray, List.set_cons_zero, List.set_cons_succ, i64_w, i32_w]
           rfl
          refine pu 43 57 HT_ ?_
          refine done_ (done_of HT_.out (by kernel_rfl)) ?_
          try go_wp2
          go_loopg [11, 58] k (fun kq v11 v58 w' => ∃ (x11_1 : List Int) (x58_1 : Int), v58 = .int .i64 x58_1 ∧ Aside0 (impl_chi_circuit.l0 kq x11_1 y329 (y329.length : Int) x58_1 = some r) ∧ Aside0 (kq ≤ k) ∧ Aside0 (Kd.R (Kd.int .u8) 5 w' w.heap.size (fun _ => True) v11 x11_1) ∧ Aside0 (Kd.R (Kd.int .i64) 3 w' w.heap.size (fun _ => True) (.slice Ao21 y329.length co21) y329) ∧ Aside0 (Below w.heap.size w w'))
          case atStart => exact ⟨(([] : List Int)), (0), (by first | rfl | (simp; done) | (simp [*]; done)), H', ⟨Nat.le_refl _⟩, ⟨by first | exact Kd.R_nil _ _ _ _ _ | exact Kd.N_nil _ _ _ _ _ | exact Kd.V_nil _ _ _ _ _ | exact Kd.Q_nil _ _ _ _ _ | exact Kd.S_nil _ _ _ _ _⟩, ⟨by (with_reducible repeat (first | apply Kd.R_alloc | apply Kd.R_drewN | apply Kd.R_drew)); exact HO331.out⟩, ⟨(bl HB)⟩⟩
          case round =>
           clear H'
           try clear c1
           try clear p2
           try clear p3
           try clear q3
           try clear hx3
           try clear c6
           try clear c6b0
           try clear p6
           try clear c7
           try clear c7b0
           try clear c8
           try clear c8b0
           try clear c9
           try clear c9b0
           try clear c10
           try clear c10b0
           try clear c11
           try clear c11b0
           try clear c12
           try clear c12b0
           try clear c12b1
           try clear c13
           try clear c13b0
           try clear c14
           try clear c14b0
           try clear c15
           try clear c15b0
           try clear c16
           try clear c16b0
           try clear c17
           try clear c17b0
           try clear hx325_0
           try clear hx326_0
           try clear hx327_0
           try clear hx328_0
           try clear p325
           try clear p326
           try clear p327
           try clear p328
           try clear q325
           try clear q326
           try clear q327
           try clear q328
           obtain ⟨x11_1, x58_1, rfl, HA, HK1, HO_11, HO_56, HB⟩ := hrel
           cases gk with
           | zero => exact absurd HA.out (by simp [impl_chi_circuit.l0])
           | succ k1 =>
            have H := HA.out
            clear HA
            simp only [impl_chi_circuit.l0] at H
            by_cases c22 : x58_1 < (y329.length : Int)
            ·rw [if_pos c22] at H
             have c22b0 : decide (x58_1 < (y329.length : Int)) = true := decide_eq_true c22
             clear c22
             by_cases c23 : 0 ≤ x58_1
             ·rw [if_pos c23] at H
              have c23b0 : decide (0 ≤ x58_1) = true := decide_eq_true c23
              clear c23
              by_cases c24 : x58_1 < (y329.length : Int)
              ·rw [if_pos c24] at H
               have c24b0 : decide (x58_1 < (y329.length : Int)) = true := decide_eq_true c24
               clear c24
               by_cases c25 : (rd y329 x58_1) > 0
               ·rw [if_pos c25] at H
                have c25b0 : decide (0 < (rd y329 x58_1)) = true := decide_eq_true c25
                clear c25
                by_cases c26 : x11_1.length < 140737488355328
                ·rw [if_pos c26] at H
                 have LMc26 := Aside0.mk c26
                 clear c26
                 obtain ⟨y333, hy333⟩ : ∃ y_ : List Int, y_ = (x11_1 ++ [43]) := ⟨_, rfl⟩
                 replace H : (impl_chi_circuit.l0 k1 y333 y329 (y329.length : Int) (wrap64 (x58_1 + 1))) = some r := by first | (rw [hy333]; with_reducible exact H) | (have H2_ := (Option.bind_some _ _).symm.trans H; rw [hy333]; with_reducible exact H2_) | (have H2_ := (Option.bind_some _ _).symm.trans H; with_reducible exact H2_) | with_reducible exact H | (rw [hy333]; exact H) | exact H
                 have Ny333 := Aside0.mk hy333
                 clear hy333
                 have H' := Aside0.mk H
                 clear H
                 have p332 : 0 ≤ (x58_1 : Int) := of_decide_eq_true (by first | (with_reducible assumption) | assumption)
                 have q332 : x58_1 < (y329.length : Int) := of_decide_eq_true (by first | (with_reducible assumption) | assumption)
                 obtain ⟨ad332, e332, hx332_0⟩ := Kd.at_int (Kd.R_reads' HO_56.out).2.2 x58_1 p332 q332
                 cases e332
                 replace p332 := eq_true p332
                 replace q332 := eq_true q332
                 go_wp2_with (first | ((with_reducible refine gate_builtin (b := .append) (xs := #[.tmp 64, .tmp 65]) rfl ?_); at_builtin; refine Kd.R_append (Kd.int .u8) (w0 := w) w.heap.size rfl (.tmp 64) (.tmp 65) 160 5 (.int .u8 0) 1 rfl Try.underlying160 info5 rfl (by decide) (by omega) u11 x11_1 43 [.int .u8 43] (fun _ => True) (fun _ => False) rfl rfl ?aP (fun _ hk => hk.elim) ?aF ?aO ?aB ?aS ?aL ?_; (case aP => exact rfl); (case aB => exact (bl HB)); (case aF => exact (fun _ _ => trivial)); (case aO => exact (rr HO_11)); (case aS => exact (below_size (bl HB))); (case aL => have := LMc26.out; omega); intro v334 w27 ho hb hg hat; rw [← Ny333.out] at ho; have n0_ := Aside0.mk (Kd.R_over' (rr HO_56) (Kd.R_typed (rr HO_11)) (by decide) hg); have n1_ := Aside0.mk (hb); have n2_ := Aside0.mk (ho); clear HO_56; clear HB; clear HO_11; have HO_56 := n0_; have HB := n1_; have HO335 := n2_; clear n0_ n1_ n2_; clear ho hb hg hat))
                 go_roundg k1
                 case measure => have := HK1.out; omega
                 case rel => exact ⟨(y333), (wrap64 (x58_1 + 1)), (by first | rfl | (simp; done) | (simp [*]; done)), H', ⟨by have := HK1.out; omega⟩, ⟨by (with_reducible repeat (first | apply Kd.R_alloc | apply Kd.R_drewN | apply Kd.R_drew)); exact HO335.out⟩, ⟨by (with_reducible repeat (first | apply Kd.R_alloc | apply Kd.R_drewN | apply Kd.R_drew)); exact HO_56.out⟩, ⟨(bl HB)⟩⟩
                ·rw [if_neg c26] at H
                 exact absurd H (by simp)
               ·rw [if_neg c25] at H
                have c25b0 : decide (0 < (rd y329 x58_1)) = false := decide_eq_false c25
                clear c25
                by_cases c28 : x11_1.length < 140737488355328
                ·rw [if_pos c28] at H
                 have LMc28 := Aside0.mk c28
                 clear c28
                 obtain ⟨y336, hy336⟩ : ∃ y_ : List Int, y_ = (x11_1 ++ [45]) := ⟨_, rfl⟩
                 replace H : (impl_chi_circuit.l0 k1 y336 y329 (y329.length : Int) (wrap64 (x58_1 + 1))) = some r := by first | (rw [hy336]; with_reducible exact H) | (have H2_ := (Option.bind_some _ _).symm.trans H; rw [hy336]; with_reducible exact H2_) | (have H2_ := (Option.bind_some _ _).symm.trans H; with_reducible exact H2_) | with_reducible exact H | (rw [hy336]; exact H) | exact H
                 have Ny336 := Aside0.mk hy336
                 clear hy336
                 have H' := Aside0.mk H
                 clear H
                 have p332 : 0 ≤ (x58_1 : Int) := of_decide_eq_true (by first | (with_reducible assumption) | assumption)
                 have q332 : x58_1 < (y329.length : Int) := of_decide_eq_true (by first | (with_reducible assumption) | assumption)
                 obtain ⟨ad332, e332, hx332_0⟩ := Kd.at_int (Kd.R_reads' HO_56.out).2.2 x58_1 p332 q332
                 cases e332
                 replace p332 := eq_true p332
                 replace q332 := eq_true q332
                 go_wp2_with (first | ((with_reducible refine gate_builtin (b := .append) (xs := #[.tmp 67, .tmp 68]) rfl ?_); at_builtin; refine Kd.R_append (Kd.int .u8) (w0 := w) w.heap.size rfl (.tmp 67) (.tmp 68) 160 5 (.int .u8 0) 1 rfl Try.underlying160 info5 rfl (by decide) (by omega) u11 x11_1 45 [.int .u8 45] (fun _ => True) (fun _ => False) rfl rfl ?aP (fun _ hk => hk.elim) ?aF ?aO ?aB ?aS ?aL ?_; (case aP => exact rfl); (case aB => exact (bl HB)); (case aF => exact (fun _ _ => trivial)); (case aO => exact (rr HO_11)); (case aS => exact (below_size (bl HB))); (case aL => have := LMc28.out; omega); intro v337 w29 ho hb hg hat; rw [← Ny336.out] at ho; have n0_ := Aside0.mk (Kd.R_over' (rr HO_56) (Kd.R_typed (rr HO_11)) (by decide) hg); have n1_ := Aside0.mk (hb); have n2_ := Aside0.mk (ho); clear HO_56; clear HB; clear HO_11; have HO_56 := n0_; have HB := n1_; have HO338 := n2_; clear n0_ n1_ n2_; clear ho hb hg hat))
                 go_roundg k1
                 case measure => have := HK1.out; omega
                 case rel => exact ⟨(y336), (wrap64 (x58_1 + 1)), (by first | rfl | (simp; done) | (simp [*]; done)), H', ⟨by have := HK1.out; omega⟩, ⟨by (with_reducible repeat (first | apply Kd.R_alloc | apply Kd.R_drewN | apply Kd.R_drew)); exact HO338.out⟩, ⟨by (with_reducible repeat (first | apply Kd.R_alloc | apply Kd.R_drewN | apply Kd.R_drew)); exact HO_56.out⟩, ⟨(bl HB)⟩⟩
                ·rw [if_neg c28] at H
                 exact absurd H (by simp)
              ·rw [if_neg c24] at H
               exact absurd H (by simp)
             ·rw [if_neg c23] at H
              exact absurd H (by simp)
            ·rw [if_neg c22] at H
             have c22b0 : decide (x58_1 < (y329.length : Int)) = false := decide_eq_false c22
             clear c22
             by_cases c30 : 0 < (x11_1.length : Int)
             ·rw [if_pos c30] at H
              have c30b0 : decide (0 < (x11_1.length : Int)) = true := decide_eq_true c30
              have c30b1 : decide (0 < x11_1.length) = true := decide_eq_true (by omega)
              clear c30
              by_cases c31 : (rd x11_1 0) = 45
              ·rw [if_pos c31] at H
               have c31b0 : ((rd x11_1 0) == 45) = true := beq_iff_eq.mpr c31
               have c31b1 : ((rd x11_1 0) != 45) = false := bne_eq_false_iff_eq.mpr c31
               clear c31
               replace H := Option.bind_eq_some_iff.mp H
               obtain ⟨t340, A320, H⟩ := H
               (try dsimp only at H)
               have A32 := Aside0.mk A320
               clear A320
               obtain rfl := Option.some.inj H
               obtain ⟨Ao33, co33, eo33⟩ := Kd.R_slice HO_11.out
               subst eo33
               have p339 : 0 ≤ (0 : Int) := (by omega)
               have q339 : 0 < (x11_1.length : Int) := of_decide_eq_true (by first | (with_reducible assumption) | assumption)
               obtain ⟨ad339, e339, hx339_0⟩ := Kd.at_int (Kd.R_reads' HO_11.out).2.2 0 p339 q339
               cases e339
               have qi339 : (0 < x11_1.length) = True := eq_true (by omega)
               (try rw [show ((0 : Int)).toNat = 0 from rfl] at hx339_0)
               (try rw [Addr.add_zero'] at hx339_0)
               replace p339 := eq_true p339
               replace q339 := eq_true q339
               have hcv34 := own_string (P := Try.prog) Try.underlying160 Try.underlying5 Try.underlying9 (Kd.own_of_R HO_11.out)
               go_wp2_with (first | ((with_reducible refine gate_callee (f := 180) rfl ?_); refine gL (some 77) rfl rfl Try.func180 (by kernel_rfl) rfl #[.string (strOfNums x11_1)] rfl ?_; (with_reducible refine (impl_opposite.calls (strOfNums x11_1) t340 _ A32.out).mono ?_); rintro e w35 ⟨rfl, hb⟩; refine ⟨_, rfl, ?_⟩; have n0_ := Aside0.mk (Kd.R_below (rr HO_11) hb); have n1_ := Aside0.mk (Kd.R_below (rr HO_56) hb); have n2_ := bs HB hb; clear HO_11; clear HO_56; clear HB; have HO_11 := n0_; have HO_56 := n1_; have HB := n2_; clear n0_ n1_ n2_; (try clear hb); (try clear hb2); (try clear hk); (try clear hi)))
               go_ret
               exact ⟨by first | rfl | (simp [errW_none, errW_some] <;> rfl) | (simp [*, errW_none, errW_some] <;> rfl), (bl HB)⟩
              ·rw [if_neg c31] at H
               have c31b0 : ((rd x11_1 0) == 45) = false := beq_eq_false_iff_ne.mpr c31
               have c31b1 : ((rd x11_1 0) != 45) = true := bne_iff_ne.mpr c31
               obtain rfl := Option.some.inj H
               obtain ⟨Ao36, co36, eo36⟩ := Kd.R_slice HO_11.out
               subst eo36
               have p339 : 0 ≤ (0 : Int) := (by omega)
               have q339 : 0 < (x11_1.length : Int) := of_decide_eq_true (by first | (with_reducible assumption) | assumption)
               obtain ⟨ad339, e339, hx339_0⟩ := Kd.at_int (Kd.R_reads' HO_11.out).2.2 0 p339 q339
               cases e339
               have qi339 : (0 < x11_1.length) = True := eq_true (by omega)
               (try rw [show ((0 : Int)).toNat = 0 from rfl] at hx339_0)
               (try rw [Addr.add_zero'] at hx339_0)
               replace p339 := eq_true p339
               replace q339 := eq_true q339
               have hcv37 := own_string (P := Try.prog) Try.underlying160 Try.underlying5 Try.underlying9 (Kd.own_of_R HO_11.out)
               go_wp2
               go_ret
               exact ⟨by first | rfl | (simp [errW_none, errW_some] <;> rfl) | (simp [*, errW_none, errW_some] <;> rfl), (bl HB)⟩
             ·rw [if_neg c30] at H
              exact absurd H (by simp)
         ·rw [if_neg c14] at H
          exact absurd H (by simp)
        ·rw [if_neg c13] at H
         exact absurd H (by simp)
       ·rw [if_neg c12] at H
        exact absurd H (by simp)
      ·rw [if_neg c11] at H
       exact absurd H (by simp)
     ·rw [if_neg c10] at H
      exact absurd H (by simp)
    ·rw [if_neg c9] at H
     exact absurd H (by simp)
   ·rw [if_neg c8] at H
    exact absurd H (by simp)
  ·rw [if_neg c7] at H
   exact absurd H (by simp)
 ·rw [if_neg c6] at H
  exact absurd H (by simp)

/-! ### impl_chi_isAcyclic: function 135 -/
def impl_chi_isAcyclic.l0 : Nat → List Int → List (S149) → Int → Int → Option (Bool)
 | 0, _, _, _, _ => none
 | k + 1, x0, x9, x10, x11 => if x11 < x10 then (if 0 ≤ x11 then (if x11 < (x9.length : Int) then ((impl_chi_circuit.f k x0 ((rd_T149 x9 x11).f0) ((rd_T149 x9 x11).f1) ((rd_T149 x9 x11).f2) ((rd_T149 x9 x11).f3)).bind fun t347 => (if t347.toList = ([43, 43, 43, 43] : List UInt8) then (some false) else (impl_chi_isAcyclic.l0 k x0 x9 x10 (wrap64 (x11 + 1))))) else (none)) else (none)) else (some true)
def impl_chi_isAcyclic.f (k : Nat) (l0 : List Int) : Option (Bool) := if 344 ≤ (l0.length : Int) then ((impl_quadsOf.f k (rd l0 0)).bind fun t342 => (impl_chi_isAcyclic.l0 k l0 t342 (t342.length : Int) 0)) else (none)
theorem impl_chi_isAcyclic.mono_l : ∀ k, (∀ y0 y1 y2 y3, LeO (impl_chi_isAcyclic.l0 k y0 y1 y2 y3) (impl_chi_isAcyclic.l0 (k + 1) y0 y1 y2 y3))
 | 0 => fun _ _ _ _ r h => by simp [impl_chi_isAcyclic.l0] at h
 | k + 1 => by
  have ih0 := impl_chi_isAcyclic.mono_l k
  ·intro y0 y1 y2 y3
   unfold impl_chi_isAcyclic.l0
   repeat' first
   | (with_reducible exact ih0 _ _ _ _)
   | (with_reducible exact impl_chi_circuit.mono _ _ _ _ _ _)
   | (with_reducible exact impl_quadsOf.mono _ _)
   | (with_reducible exact LeO.refl _)
   | (with_reducible exact LeO.none _)
   | (with_reducible refine LeO.ite ?_ ?_)
   | (with_reducible refine LeO.bind ?_ (fun _ => ?_))
   | exact ih0 _ _ _ _
   | exact impl_chi_circuit.mono _ _ _ _ _ _
   | exact impl_quadsOf.mono _ _
   | exact LeO.none _
   | refine LeO.ite ?_ ?_
   | refine LeO.bind ?_ (fun _ => ?_)
theorem impl_chi_isAcyclic.mono : ∀ a0 k, LeO (impl_chi_isAcyclic.f k a0) (impl_chi_isAcyclic.f (k + 1) a0) := by
 intro a0 k
 have ih0 := impl_chi_isAcyclic.mono_l k
 unfold impl_chi_isAcyclic.f
 repeat' first
   | (with_reducible exact ih0 _ _ _ _)
   | (with_reducible exact impl_chi_circuit.mono _ _ _ _ _ _)
   | (with_reducible exact impl_quadsOf.mono _ _)
   | (with_reducible exact LeO.refl _)
   | (with_reducible exact LeO.none _)
   | (with_reducible refine LeO.ite ?_ ?_)
   | (with_reducible refine LeO.bind ?_ (fun _ => ?_))
   | exact ih0 _ _ _ _
   | exact impl_chi_circuit.mono _ _ _ _ _ _
   | exact impl_quadsOf.mono _ _
   | exact LeO.none _
   | refine LeO.ite ?_ ?_
   | refine LeO.bind ?_ (fun _ => ?_)
set_option maxHeartbeats 8000000 in
set_option maxRecDepth 100000 in
theorem impl_chi_isAcyclic.calls (k : Nat) (A0 : Option Addr) (c0 : Nat) (l0 : List Int) (r : Bool) (w : World) (hr0 : Kd.C (Kd.int .i64) w A0 l0.length l0) (hc0 : l0.length ≤ c0) (h : impl_chi_isAcyclic.f k l0 = some r) :
  Calls Try.prog 135 #[.pointer A0] w fun e w' => e = .returned (.bool r) ∧ Below w.heap.size w w' := by
 have hu149 := Try.underlying149
 have HR0 := Aside0.mk hr0
 have HC0 := Aside0.mk hc0
 clear hr0 hc0
 have HB := Aside0.mk (Below.refl w.heap.size w)
 have H : (if 344 ≤ (l0.length : Int) then ((impl_quadsOf.f k (rd l0 0)).bind fun t342 => (impl_chi_isAcyclic.l0 k l0 t342 (t342.length : Int) 0)) else (none)) = some r := h
 clear h
 by_cases c2 : 344 ≤ (l0.length : Int)
 ·rw [if_pos c2] at H
  have c2b0 := eq_true c2
  have c2b1 : decide (344 ≤ (l0.length : Int)) = true := decide_eq_true c2
  clear c2
  replace H := Option.bind_eq_some_iff.mp H
  obtain ⟨t342, A30, H⟩ := H
  (try dsimp only at H)
  have A3 := Aside0.mk A30
  clear A30
  have H' := Aside0.mk H
  clear H
  have cl341 : (344 : Int) ≤ (l0.length : Int) := of_decide_eq_true (by first | (with_reducible assumption) | assumption)
  have p341 : 0 ≤ (0 : Int) := (by omega)
  have q341 : 0 < (l0.length : Int) := (by omega)
  obtain ⟨ad341, e341, hx341_0⟩ := Kd.at_int HR0.out 0 p341 q341
  cases e341
  have qi341 : (0 < l0.length) = True := eq_true (by omega)
  (try rw [show ((0 : Int)).toNat = 0 from rfl] at hx341_0)
  (try rw [Addr.add_zero'] at hx341_0)
  replace p341 := eq_true p341
  replace q341 := eq_true q341
  go_enter Try.func135, Try.ntmps135
  go_wp2_with (first | ((with_reducible refine gate_callee (f := 167) rfl ?_); refine gL (some 9) rfl rfl Try.func167 (by kernel_rfl) rfl #[.int .i64 (rd l0 0)] rfl ?_; (with_reducible refine (impl_quadsOf.calls k (rd l0 0) t342 _ A3.out).mono ?_); rintro e w4 ⟨v343, rfl, ho0, hb⟩; refine ⟨_, rfl, ?_⟩; have n0_ := Aside0.mk (Kd.R_lower ho0 (below_size (bl HB))); have n1_ := bs HB hb; clear HB; have HO344 := n0_; have HB := n1_; clear n0_ n1_; (try clear hb); (try clear hb2); (try clear hk); (try clear hi); (try clear ho0); obtain ⟨Ao5, co5, eo5⟩ := Kd.R_slice HO344.out; subst eo5))
  go_loopg [11] k (fun kq v11 w' => ∃ (x11_1 : Int), v11 = .int .i64 x11_1 ∧ Aside0 (impl_chi_isAcyclic.l0 kq l0 t342 (t342.length : Int) x11_1 = some r) ∧ Aside0 (kq ≤ k) ∧ Aside0 (Kd.R k149 149 w' w.heap.size (fun _ => True) (.slice Ao5 t342.length co5) t342) ∧ Aside0 (Below w.heap.size w w'))
  case atStart => exact ⟨(0), (by first | rfl | (simp; done) | (simp [*]; done)), H', ⟨Nat.le_refl _⟩, ⟨by (with_reducible repeat (first | apply Kd.R_alloc | apply Kd.R_drewN | apply Kd.R_drew)); exact HO344.out⟩, ⟨(bl HB)⟩⟩
  case round =>
   clear H'
   try clear c1
   try clear c2
   try clear c2b0
   try clear c2b1
   try clear p2
   try clear p3
   try clear q3
   try clear hx3
   try clear qi3
   try clear hx341_0
   try clear p341
   try clear q341
   obtain ⟨x11_1, rfl, HA, HK1, HO_9, HB⟩ := hrel
   cases gk with
   | zero => exact absurd HA.out (by simp [impl_chi_isAcyclic.l0])
   | succ k1 =>
    have H := HA.out
    clear HA
    simp only [impl_chi_isAcyclic.l0] at H
    by_cases c6 : x11_1 < (t342.length : Int)
    ·rw [if_pos c6] at H
     have c6b0 : decide (x11_1 < (t342.length : Int)) = true := decide_eq_true c6
     clear c6
     by_cases c7 : 0 ≤ x11_1
     ·rw [if_pos c7] at H
      have c7b0 : decide (0 ≤ x11_1) = true := decide_eq_true c7
      clear c7
      by_cases c8 : x11_1 < (t342.length : Int)
      ·rw [if_pos c8] at H
       have c8b0 : decide (x11_1 < (t342.length : Int)) = true := decide_eq_true c8
       clear c8
       replace H := Option.bind_eq_some_iff.mp H
       obtain ⟨t347, A90, H⟩ := H
       (try dsimp only at H)
       have A9 := Aside0.mk A90
       clear A90
       by_cases c10 : t347.toList = ([43, 43, 43, 43] : List UInt8)
       ·rw [if_pos c10] at H
        have c10b0 : (t347.toList == ([43, 43, 43, 43] : List UInt8)) = true := beq_iff_eq.mpr c10
        have c10b1 : (t347.toList != ([43, 43, 43, 43] : List UInt8)) = false := bne_eq_false_iff_eq.mpr c10
        clear c10
        obtain rfl := Option.some.inj H
        have p345 : 0 ≤ (x11_1 : Int) := of_decide_eq_true (by first | (with_reducible assumption) | assumption)
        have q345 : x11_1 < (t342.length : Int) := of_decide_eq_true (by first | (with_reducible assumption) | assumption)
        obtain ⟨ad345, e345, hx345_0, hx345_1, hx345_2, hx345_3⟩ := at_T149 (Kd.R_reads' HO_9.out).2.2 x11_1 p345 q345
        cases e345
        replace p345 := eq_true p345
        replace q345 := eq_true q345
        go_wp2_with (first | ((with_reducible refine gate_dst (N := 4) rfl ?_); refine bx 4 #[.int .i64 0, .int .i64 0, .int .i64 0, .int .i64 0] 149 ?_; intro gb346 hg w11 hbox hb; have n0_ := Aside0.mk (Kd.R_below (Kd.R_elderB (rr HO_9) gb346 (Nat.le_of_eq hg.symm)) hb); have n1_ := bs HB hb; have n2_ := Aside0.mk (hbox); have n3_ := Aside0.mk ((by rw [hg]; exact (below_size (bl HB)) : w.heap.size ≤ gb346)); have n4_ := Aside0.mk ((by rw [hg]; exact (below_size (bl HB)) : w.heap.size ≤ gb346)); clear HO_9; clear HB; have HO_9 := n0_; have HB := n1_; have BK346 := n2_; have GW346 := n3_; have GE346 := n4_; clear n0_ n1_ n2_ n3_ n4_; clear hb hbox hg; have hcz12_0 := bc BK346 0; have hcz12_1 := bc BK346 1; have hcz12_2 := bc BK346 2; have hcz12_3 := bc BK346 3; have hfz12_0 := bf BK346 0; have hfz12_1 := bf BK346 1; have hfz12_2 := bf BK346 2; have hfz12_3 := bf BK346 3) | ((with_reducible refine gate_callee (f := 168) rfl ?_); refine gL (some 24) rfl rfl Try.func168 (by kernel_rfl) rfl #[.pointer (some ad341), .int .i64 ((rd_T149 t342 x11_1).f0), .int .i64 ((rd_T149 t342 x11_1).f1), .int .i64 ((rd_T149 t342 x11_1).f2), .int .i64 ((rd_T149 t342 x11_1).f3)] rfl ?_; (with_reducible refine (impl_chi_circuit.calls k1 _ c0 l0 ((rd_T149 t342 x11_1).f0) ((rd_T149 t342 x11_1).f1) ((rd_T149 t342 x11_1).f2) ((rd_T149 t342 x11_1).f3) t347 _ ?side1 ?side2 A9.out).mono ?_); (case side1 => exact Kd.C_below HR0.out (bg HB GE346)); (case side2 => exact HC0.out); rintro e w13 ⟨rfl, hb⟩; refine ⟨_, rfl, ?_⟩; have n0_ := Aside0.mk (Kd.R_below (by (with_reducible repeat (first | apply Kd.R_alloc | apply Kd.R_drewN | apply Kd.R_drew)); exact (Kd.R_mono (Kd.R_far (p := ⟨gb346, 3, none⟩) (Kd.R_far (p := ⟨gb346, 2, none⟩) (Kd.R_far (p := ⟨gb346, 1, none⟩) (Kd.R_far (p := ⟨gb346, 0, none⟩) (Kd.R_mono HO_9.out (fun k_ hk => (⟨hk, hk.2⟩ : _ ∧ k_ ≠ gb346))) (fun _ hk => hk.2) (.int .i64 ((rd_T149 t342 x11_1).f0))) (fun _ hk => hk.2) (.int .i64 ((rd_T149 t342 x11_1).f1))) (fun _ hk => hk.2) (.int .i64 ((rd_T149 t342 x11_1).f2))) (fun _ hk => hk.2) (.int .i64 ((rd_T149 t342 x11_1).f3))) (fun _ h_ => h_.1))) hb); have n1_ := Aside0.mk (blk_below (g := gb346) (o := .cells #[.int .i64 ((rd_T149 t342 x11_1).f0), .int .i64 ((rd_T149 t342 x11_1).f1), .int .i64 ((rd_T149 t342 x11_1).f2), .int .i64 ((rd_T149 t342 x11_1).f3)] 149 (0, 0)) (by (with_reducible repeat (first | refine blk_drewN ?_ _ | refine blk_drew ?_ | refine blk_alloc ?_ _)); refine blk_put (cs := #[.int .i64 ((rd_T149 t342 x11_1).f0), .int .i64 ((rd_T149 t342 x11_1).f1), .int .i64 ((rd_T149 t342 x11_1).f2), .int .i64 0]) ?_ 3 _ rfl; (with_reducible repeat (first | refine blk_drewN ?_ _ | refine blk_drew ?_ | refine blk_alloc ?_ _)); refine blk_put (cs := #[.int .i64 ((rd_T149 t342 x11_1).f0), .int .i64 ((rd_T149 t342 x11_1).f1), .int .i64 0, .int .i64 0]) ?_ 2 _ rfl; (with_reducible repeat (first | refine blk_drewN ?_ _ | refine blk_drew ?_ | refine blk_alloc ?_ _)); refine blk_put (cs := #[.int .i64 ((rd_T149 t342 x11_1).f0), .int .i64 0, .int .i64 0, .int .i64 0]) ?_ 1 _ rfl; (with_reducible repeat (first | refine blk_drewN ?_ _ | refine blk_drew ?_ | refine blk_alloc ?_ _)); refine blk_put (cs := #[.int .i64 0, .int .i64 0, .int .i64 0, .int .i64 0]) ?_ 0 _ rfl; (with_reducible repeat (first | refine blk_drewN ?_ _ | refine blk_drew ?_ | refine blk_alloc ?_ _)); exact BK346.out) hb); have n2_ := bsg HB GE346 hb; clear HO_9; clear BK346; clear HB; have HO_9 := n0_; have BK346 := n1_; have HB := n2_; clear n0_ n1_ n2_; (try clear hb); (try clear hb2); (try clear hk); (try clear hi)))
        go_ret
        exact ⟨by first | rfl | (simp [errW_none, errW_some] <;> rfl) | (simp [*, errW_none, errW_some] <;> rfl), (bg HB GE346)⟩
       ·rw [if_neg c10] at H
        have c10b0 : (t347.toList == ([43, 43, 43, 43] : List UInt8)) = false := beq_eq_false_iff_ne.mpr c10
        have c10b1 : (t347.toList != ([43, 43, 43, 43] : List UInt8)) = true := bne_iff_ne.mpr c10
        have H' := Aside0.mk H
        clear H
        have p345 : 0 ≤ (x11_1 : Int) := of_decide_eq_true (by first | (with_reducible assumption) | assumption)
        have q345 : x11_1 < (t342.length : Int) := of_decide_eq_true (by first | (with_reducible assumption) | assumption)
        obtain ⟨ad345, e345, hx345_0, hx345_1, hx345_2, hx345_3⟩ := at_T149 (Kd.R_reads' HO_9.out).2.2 x11_1 p345 q345
        cases e345
        replace p345 := eq_true p345
        replace q345 := eq_true q345
        go_wp2_with (first | ((with_reducible refine gate_dst (N := 4) rfl ?_); refine bx 4 #[.int .i64 0, .int .i64 0, .int .i64 0, .int .i64 0] 149 ?_; intro gb346 hg w14 hbox hb; have n0_ := Aside0.mk (Kd.R_below (Kd.R_elderB (rr HO_9) gb346 (Nat.le_of_eq hg.symm)) hb); have n1_ := bs HB hb; have n2_ := Aside0.mk (hbox); have n3_ := Aside0.mk ((by rw [hg]; exact (below_size (bl HB)) : w.heap.size ≤ gb346)); have n4_ := Aside0.mk ((by rw [hg]; exact (below_size (bl HB)) : w.heap.size ≤ gb346)); clear HO_9; clear HB; have HO_9 := n0_; have HB := n1_; have BK346 := n2_; have GW346 := n3_; have GE346 := n4_; clear n0_ n1_ n2_ n3_ n4_; clear hb hbox hg; have hcz15_0 := bc BK346 0; have hcz15_1 := bc BK346 1; have hcz15_2 := bc BK346 2; have hcz15_3 := bc BK346 3; have hfz15_0 := bf BK346 0; have hfz15_1 := bf BK346 1; have hfz15_2 := bf BK346 2; have hfz15_3 := bf BK346 3) | ((with_reducible refine gate_callee (f := 168) rfl ?_); refine gL (some 24) rfl rfl Try.func168 (by kernel_rfl) rfl #[.pointer (some ad341), .int .i64 ((rd_T149 t342 x11_1).f0), .int .i64 ((rd_T149 t342 x11_1).f1), .int .i64 ((rd_T149 t342 x11_1).f2), .int .i64 ((rd_T149 t342 x11_1).f3)] rfl ?_; (with_reducible refine (impl_chi_circuit.calls k1 _ c0 l0 ((rd_T149 t342 x11_1).f0) ((rd_T149 t342 x11_1).f1) ((rd_T149 t342 x11_1).f2) ((rd_T149 t342 x11_1).f3) t347 _ ?side1 ?side2 A9.out).mono ?_); (case side1 => exact Kd.C_below HR0.out (bg HB GE346)); (case side2 => exact HC0.out); rintro e w16 ⟨rfl, hb⟩; refine ⟨_, rfl, ?_⟩; have n0_ := Aside0.mk (Kd.R_below (by (with_reducible repeat (first | apply Kd.R_alloc | apply Kd.R_drewN | apply Kd.R_drew)); exact (Kd.R_mono (Kd.R_far (p := ⟨gb346, 3, none⟩) (Kd.R_far (p := ⟨gb346, 2, none⟩) (Kd.R_far (p := ⟨gb346, 1, none⟩) (Kd.R_far (p := ⟨gb346, 0, none⟩) (Kd.R_mono HO_9.out (fun k_ hk => (⟨hk, hk.2⟩ : _ ∧ k_ ≠ gb346))) (fun _ hk => hk.2) (.int .i64 ((rd_T149 t342 x11_1).f0))) (fun _ hk => hk.2) (.int .i64 ((rd_T149 t342 x11_1).f1))) (fun _ hk => hk.2) (.int .i64 ((rd_T149 t342 x11_1).f2))) (fun _ hk => hk.2) (.int .i64 ((rd_T149 t342 x11_1).f3))) (fun _ h_ => h_.1))) hb); have n1_ := Aside0.mk (blk_below (g := gb346) (o := .cells #[.int .i64 ((rd_T149 t342 x11_1).f0), .int .i64 ((rd_T149 t342 x11_1).f1), .int .i64 ((rd_T149 t342 x11_1).f2), .int .i64 ((rd_T149 t342 x11_1).f3)] 149 (0, 0)) (by (with_reducible repeat (first | refine blk_drewN ?_ _ | refine blk_drew ?_ | refine blk_alloc ?_ _)); refine blk_put (cs := #[.int .i64 ((rd_T149 t342 x11_1).f0), .int .i64 ((rd_T149 t342 x11_1).f1), .int .i64 ((rd_T149 t342 x11_1).f2), .int .i64 0]) ?_ 3 _ rfl; (with_reducible repeat (first | refine blk_drewN ?_ _ | refine blk_drew ?_ | refine blk_alloc ?_ _)); refine blk_put (cs := #[.int .i64 ((rd_T149 t342 x11_1).f0), .int .i64 ((rd_T149 t342 x11_1).f1), .int .i64 0, .int .i64 0]) ?_ 2 _ rfl; (with_reducible repeat (first | refine blk_drewN ?_ _ | refine blk_drew ?_ | refine blk_alloc ?_ _)); refine blk_put (cs := #[.int .i64 ((rd_T149 t342 x11_1).f0), .int .i64 0, .int .i64 0, .int .i64 0]) ?_ 1 _ rfl; (with_reducible repeat (first | refine blk_drewN ?_ _ | refine blk_drew ?_ | refine blk_alloc ?_ _)); refine blk_put (cs := #[.int .i64 0, .int .i64 0, .int .i64 0, .int .i64 0]) ?_ 0 _ rfl; (with_reducible repeat (first | refine blk_drewN ?_ _ | refine blk_drew ?_ | refine blk_alloc ?_ _)); exact BK346.out) hb); have n2_ := bsg HB GE346 hb; clear HO_9; clear BK346; clear HB; have HO_9 := n0_; have BK346 := n1_; have HB := n2_; clear n0_ n1_ n2_; (try clear hb); (try clear hb2); (try clear hk); (try clear hi)))
        go_roundg k1
        case measure => have := HK1.out; omega
        case rel => exact ⟨(wrap64 (x11_1 + 1)), (by first | rfl | (simp; done) | (simp [*]; done)), H', ⟨by have := HK1.out; omega⟩, ⟨by (with_reducible repeat (first | apply Kd.R_alloc | apply Kd.R_drewN | apply Kd.R_drew)); exact Kd.R_mono HO_9.out (fun _ hk => trivial)⟩, ⟨(bg HB GE346)⟩⟩
      ·rw [if_neg c8] at H
       exact absurd H (by simp)
     ·rw [if_neg c7] at H
      exact absurd H (by simp)
    ·rw [if_neg c6] at H
     have c6b0 : decide (x11_1 < (t342.length : Int)) = false := decide_eq_false c6
     clear c6
     obtain rfl := Option.some.inj H
     go_wp2
     go_ret
     exact ⟨by first | rfl | (simp [errW_none, errW_some] <;> rfl) | (simp [*, errW_none, errW_some] <;> rfl), (bl HB)⟩
 ·rw [if_neg c2] at H
  exact absurd H (by simp)

/-! ### impl_IsAcyclic: function 114 -/
def impl_IsAcyclic.f (k : Nat) (a0_0 : Int) (a0_1 : ByteArray) : Option (Bool) := (impl_IsMatroid.f k a0_0 a0_1).bind fun t349 => (if t349 = true then ((impl_tableOf.f k a0_0 a0_1).bind fun t350 => ((impl_chi_isAcyclic.f k t350).bind fun t353 => (some t353))) else (some false))
theorem impl_IsAcyclic.mono : ∀ a0 a1 k, LeO (impl_IsAcyclic.f k a0 a1) (impl_IsAcyclic.f (k + 1) a0 a1) := by
 intro a0 a1 k
 unfold impl_IsAcyclic.f
 repeat' first
   | (with_reducible exact impl_IsMatroid.mono _ _ _)
   | (with_reducible exact impl_chi_isAcyclic.mono _ _)
   | (with_reducible exact impl_tableOf.mono _ _ _)
   | (with_reducible exact LeO.refl _)
   | (with_reducible exact LeO.none _)
   | (with_reducible refine LeO.ite ?_ ?_)
   | (with_reducible refine LeO.bind ?_ (fun _ => ?_))
   | exact impl_IsMatroid.mono _ _ _
   | exact impl_chi_isAcyclic.mono _ _
   | exact impl_tableOf.mono _ _ _
   | exact LeO.none _
   | refine LeO.ite ?_ ?_
   | refine LeO.bind ?_ (fun _ => ?_)
set_option maxHeartbeats 8000000 in
set_option maxRecDepth 100000 in
theorem impl_IsAcyclic.calls (k : Nat) (a0_0 : Int) (a0_1 : ByteArray) (r : Bool) (w : World) (h : impl_IsAcyclic.f k a0_0 a0_1 = some r) :
  Calls Try.prog 114 #[.agg #[.int .i64 a0_0, .string a0_1]] w fun e w' => e = .returned (.bool r) ∧ Below w.heap.size w w' := by
 have hu27 := Try.underlying27
 have HB := Aside0.mk (Below.refl w.heap.size w)
 have H : ((impl_IsMatroid.f k a0_0 a0_1).bind fun t349 => (if t349 = true then ((impl_tableOf.f k a0_0 a0_1).bind fun t350 => ((impl_chi_isAcyclic.f k t350).bind fun t353 => (some t353))) else (some false))) = some r := h
 clear h
 replace H := Option.bind_eq_some_iff.mp H
 obtain ⟨t349, A20, H⟩ := H
 (try dsimp only at H)
 have A2 := Aside0.mk A20
 clear A20
 by_cases c3 : t349 = true
 ·subst c3
  have H1 : ((impl_tableOf.f k a0_0 a0_1).bind fun t350 => ((impl_chi_isAcyclic.f k t350).bind fun t353 => (some t353))) = some r := by rw [if_pos rfl] at H; exact H
  clear H
  have H := H1
  clear H1
  replace H := Option.bind_eq_some_iff.mp H
  obtain ⟨t350, A40, H⟩ := H
  (try dsimp only at H)
  have A4 := Aside0.mk A40
  clear A40
  replace H := Option.bind_eq_some_iff.mp H
  obtain ⟨t353, A50, H⟩ := H
  (try dsimp only at H)
  have A5 := Aside0.mk A50
  clear A50
  obtain rfl := Option.some.inj H
  go_enter Try.func114, Try.ntmps114
  go_wp2_with (first | ((with_reducible refine gate_dst (N := 1) rfl ?_); refine bx 1 #[.int .i64 a0_0, .string a0_1] 27 ?_; intro gb348 hg w6 hbox hb; have BK348 := Aside0.mk hbox; have GE348 := gs HB hg; have GW348 := GE348; replace HB := bs HB hb; clear hb hbox hg; have hcz7_0 := bc BK348 0; have hcz7_1 := bc BK348 1; have hfz7_0 := bf BK348 0; have hfz7_1 := bf BK348 1) | ((with_reducible refine gate_callee (f := 134) rfl ?_); refine gL (some 4) rfl rfl Try.func134 (by kernel_rfl) rfl #[.agg #[.int .i64 a0_0, .string a0_1]] rfl ?_; (with_reducible refine (impl_IsMatroid.calls k a0_0 a0_1 true _ A2.out).mono ?_); rintro e w8 ⟨rfl, hb⟩; refine ⟨_, rfl, ?_⟩; have n0_ := Aside0.mk (blk_below (g := gb348) (o := .cells #[.int .i64 a0_0, .string a0_1] 27 (0, 0)) (bk BK348) hb); have n1_ := bsg HB GE348 hb; clear BK348; clear HB; have BK348 := n0_; have HB := n1_; clear n0_ n1_; (try clear hb); (try clear hb2); (try clear hk); (try clear hi); have hcz9_0 := bc BK348 0; have hcz9_1 := bc BK348 1; have hfz9_0 := bf BK348 0; have hfz9_1 := bf BK348 1) | (go_at_call 115; (with_reducible refine (impl_tableOf.calls k a0_0 a0_1 t350 _ A4.out).mono ?_); rintro e w10 ⟨v351, rfl, ho0, hb⟩; have n0_ := Aside0.mk (Kd.R_lower ho0 (below_size (bg HB GE348))); have n1_ := Aside0.mk (blk_below (g := gb348) (o := .cells #[.int .i64 a0_0, .string a0_1] 27 (0, 0)) (bk BK348) hb); have n2_ := bsg HB GE348 hb; clear BK348; clear HB; have HO352 := n0_; have BK348 := n1_; have HB := n2_; clear n0_ n1_ n2_; (try clear hb); (try clear hb2); (try clear hk); (try clear hi); (try clear ho0); obtain ⟨Ao11, co11, eo11⟩ := Kd.R_slice HO352.out; subst eo11) | (go_at_call 135; (with_reducible refine (impl_chi_isAcyclic.calls k _ co11 t350 t353 _ ?side1 ?side2 A5.out).mono ?_); (case side1 => repeat (first | exact (Kd.R_reads' HO352.out).2.2 | (with_reducible refine Kd.C_alloc ?_ _) | (with_reducible refine Kd.C_drewN ?_ _) | (with_reducible refine Kd.C_drew ?_))); (case side2 => exact (Kd.R_reads' HO352.out).2.1); rintro e w12 ⟨rfl, hb⟩; have n0_ := Aside0.mk (Kd.R_below (rr HO352) hb); have n1_ := Aside0.mk (blk_below (g := gb348) (o := .cells #[.int .i64 a0_0, .string a0_1] 27 (0, 0)) (bk BK348) hb); have n2_ := bsg HB GE348 hb; clear HO352; clear BK348; clear HB; have HO352 := n0_; have BK348 := n1_; have HB := n2_; clear n0_ n1_ n2_; (try clear hb); (try clear hb2); (try clear hk); (try clear hi)))
  go_ret
  exact ⟨by first | rfl | (simp [errW_none, errW_some] <;> rfl) | (simp [*, errW_none, errW_some] <;> rfl), (bg HB GE348)⟩
 ·replace c3 := Bool.eq_false_iff.mpr c3
  subst c3
  have H1 : (some false) = some r := by rw [if_neg (show ¬ (false = true) by decide)] at H; exact H
  clear H
  have H := H1
  clear H1
  obtain rfl := Option.some.inj H
  go_enter Try.func114, Try.ntmps114
  go_wp2_with (first | ((with_reducible refine gate_dst (N := 1) rfl ?_); refine bx 1 #[.int .i64 a0_0, .string a0_1] 27 ?_; intro gb348 hg w13 hbox hb; have BK348 := Aside0.mk hbox; have GE348 := gs HB hg; have GW348 := GE348; replace HB := bs HB hb; clear hb hbox hg; have hcz14_0 := bc BK348 0; have hcz14_1 := bc BK348 1; have hfz14_0 := bf BK348 0; have hfz14_1 := bf BK348 1) | ((with_reducible refine gate_callee (f := 134) rfl ?_); refine gL (some 4) rfl rfl Try.func134 (by kernel_rfl) rfl #[.agg #[.int .i64 a0_0, .string a0_1]] rfl ?_; (with_reducible refine (impl_IsMatroid.calls k a0_0 a0_1 false _ A2.out).mono ?_); rintro e w15 ⟨rfl, hb⟩; refine ⟨_, rfl, ?_⟩; have n0_ := Aside0.mk (blk_below (g := gb348) (o := .cells #[.int .i64 a0_0, .string a0_1] 27 (0, 0)) (bk BK348) hb); have n1_ := bsg HB GE348 hb; clear BK348; clear HB; have BK348 := n0_; have HB := n1_; clear n0_ n1_; (try clear hb); (try clear hb2); (try clear hk); (try clear hi)))
  go_ret
  exact ⟨by first | rfl | (simp [errW_none, errW_some] <;> rfl) | (simp [*, errW_none, errW_some] <;> rfl), (bg HB GE348)⟩

/-! ### impl_orderOf: function 85 -/
def impl_orderOf.f (k : Nat) (a0_0 : Int) (a0_1 : ByteArray) : Option (List Int × Bool) := (impl_IsAcyclic.f k a0_0 a0_1).bind fun t355 => (if t355 = true then ((impl_tableOf.f k a0_0 a0_1).bind fun t356 => (some (t356, true))) else (some (([] : List Int), false)))
theorem impl_orderOf.mono : ∀ a0 a1 k, LeO (impl_orderOf.f k a0 a1) (impl_orderOf.f (k + 1) a0 a1) := by
 intro a0 a1 k
 unfold impl_orderOf.f
 repeat' first
   | (with_reducible exact impl_IsAcyclic.mono _ _ _)
   | (with_reducible exact impl_tableOf.mono _ _ _)
   | (with_reducible exact LeO.refl _)
   | (with_reducible exact LeO.none _)
   | (with_reducible refine LeO.ite ?_ ?_)
   | (with_reducible refine LeO.bind ?_ (fun _ => ?_))
   | exact impl_IsAcyclic.mono _ _ _
   | exact impl_tableOf.mono _ _ _
   | exact LeO.none _
   | refine LeO.ite ?_ ?_
   | refine LeO.bind ?_ (fun _ => ?_)
set_option maxHeartbeats 8000000 in
set_option maxRecDepth 100000 in
theorem impl_orderOf.calls (k : Nat) (a0_0 : Int) (a0_1 : ByteArray) (r1 : List Int) (r2 : Bool) (w : World) (h : impl_orderOf.f k a0_0 a0_1 = some (r1, r2)) :
  Calls Try.prog 85 #[.agg #[.int .i64 a0_0, .string a0_1]] w fun e w' => ∃ v0_ : Value, e = .returned (.tuple #[(pv v0_), .bool r2]) ∧ Kd.R (Kd.int .i64) 119 w' w.heap.size (fun _ => True) v0_ r1 ∧ Below w.heap.size w w' := by
 have hu27 := Try.underlying27
 have HB := Aside0.mk (Below.refl w.heap.size w)
 have H : ((impl_IsAcyclic.f k a0_0 a0_1).bind fun t355 => (if t355 = true then ((impl_tableOf.f k a0_0 a0_1).bind fun t356 => (some (t356, true))) else (some (([] : List Int), false)))) = some (r1, r2) := h
 clear h
 replace H := Option.bind_eq_some_iff.mp H
 obtain ⟨t355, A20, H⟩ := H
 (try dsimp only at H)
 have A2 := Aside0.mk A20
 clear A20
 by_cases c3 : t355 = true
 ·subst c3
  have H1 : ((impl_tableOf.f k a0_0 a0_1).bind fun t356 => (some (t356, true))) = some (r1, r2) := by rw [if_pos rfl] at H; exact H
  clear H
  have H := H1
  clear H1
  replace H := Option.bind_eq_some_iff.mp H
  obtain ⟨t356, A40, H⟩ := H
  (try dsimp only at H)
  have A4 := Aside0.mk A40
  clear A40
  simp only [Option.some.injEq, Prod.mk.injEq] at H
  obtain ⟨rfl, rfl⟩ := H
  go_enter Try.func85, Try.ntmps85
  go_wp2_with (first | ((with_reducible refine gate_dst (N := 1) rfl ?_); refine bx 1 #[.int .i64 a0_0, .string a0_1] 27 ?_; intro gb354 hg w5 hbox hb; have BK354 := Aside0.mk hbox; have GE354 := gs HB hg; have GW354 := GE354; replace HB := bs HB hb; clear hb hbox hg; have hcz6_0 := bc BK354 0; have hcz6_1 := bc BK354 1; have hfz6_0 := bf BK354 0; have hfz6_1 := bf BK354 1) | ((with_reducible refine gate_callee (f := 114) rfl ?_); refine gL (some 5) rfl rfl Try.func114 (by kernel_rfl) rfl #[.agg #[.int .i64 a0_0, .string a0_1]] rfl ?_; (with_reducible refine (impl_IsAcyclic.calls k a0_0 a0_1 true _ A2.out).mono ?_); rintro e w7 ⟨rfl, hb⟩; refine ⟨_, rfl, ?_⟩; have n0_ := Aside0.mk (blk_below (g := gb354) (o := .cells #[.int .i64 a0_0, .string a0_1] 27 (0, 0)) (bk BK354) hb); have n1_ := bsg HB GE354 hb; clear BK354; clear HB; have BK354 := n0_; have HB := n1_; clear n0_ n1_; (try clear hb); (try clear hb2); (try clear hk); (try clear hi); have hcz8_0 := bc BK354 0; have hcz8_1 := bc BK354 1; have hfz8_0 := bf BK354 0; have hfz8_1 := bf BK354 1) | ((with_reducible refine gate_callee (f := 115) rfl ?_); refine gL (some 8) rfl rfl Try.func115 (by kernel_rfl) rfl #[.agg #[.int .i64 a0_0, .string a0_1]] rfl ?_; (with_reducible refine (impl_tableOf.calls k a0_0 a0_1 t356 _ A4.out).mono ?_); rintro e w9 ⟨v357, rfl, ho0, hb⟩; refine ⟨_, rfl, ?_⟩; have n0_ := Aside0.mk (Kd.R_lower ho0 (below_size (bg HB GE354))); have n1_ := Aside0.mk (blk_below (g := gb354) (o := .cells #[.int .i64 a0_0, .string a0_1] 27 (0, 0)) (bk BK354) hb); have n2_ := bsg HB GE354 hb; clear BK354; clear HB; have HO358 := n0_; have BK354 := n1_; have HB := n2_; clear n0_ n1_ n2_; (try clear hb); (try clear hb2); (try clear hk); (try clear hi); (try clear ho0)))
  go_ret2
  exact ⟨_, by first | rfl | (simp [errW_none, errW_some] <;> rfl) | (simp [*, errW_none, errW_some] <;> rfl), by (with_reducible repeat (first | apply Kd.R_alloc | apply Kd.R_drewN | apply Kd.R_drew)); exact HO358.out, (bg HB GE354)⟩
 ·replace c3 := Bool.eq_false_iff.mpr c3
  subst c3
  have H1 : (some (([] : List Int), false)) = some (r1, r2) := by rw [if_neg (show ¬ (false = true) by decide)] at H; exact H
  clear H
  have H := H1
  clear H1
  simp only [Option.some.injEq, Prod.mk.injEq] at H
  obtain ⟨rfl, rfl⟩ := H
  go_enter Try.func85, Try.ntmps85
  go_wp2_with (first | ((with_reducible refine gate_dst (N := 1) rfl ?_); refine bx 1 #[.int .i64 a0_0, .string a0_1] 27 ?_; intro gb354 hg w10 hbox hb; have BK354 := Aside0.mk hbox; have GE354 := gs HB hg; have GW354 := GE354; replace HB := bs HB hb; clear hb hbox hg; have hcz11_0 := bc BK354 0; have hcz11_1 := bc BK354 1; have hfz11_0 := bf BK354 0; have hfz11_1 := bf BK354 1) | ((with_reducible refine gate_callee (f := 114) rfl ?_); refine gL (some 5) rfl rfl Try.func114 (by kernel_rfl) rfl #[.agg #[.int .i64 a0_0, .string a0_1]] rfl ?_; (with_reducible refine (impl_IsAcyclic.calls k a0_0 a0_1 false _ A2.out).mono ?_); rintro e w12 ⟨rfl, hb⟩; refine ⟨_, rfl, ?_⟩; have n0_ := Aside0.mk (blk_below (g := gb354) (o := .cells #[.int .i64 a0_0, .string a0_1] 27 (0, 0)) (bk BK354) hb); have n1_ := bsg HB GE354 hb; clear BK354; clear HB; have BK354 := n0_; have HB := n1_; clear n0_ n1_; (try clear hb); (try clear hb2); (try clear hk); (try clear hi)))
  go_ret2
  exact ⟨.slice none 0 0, by first | rfl | (simp [errW_none, errW_some] <;> rfl) | (simp [*, errW_none, errW_some] <;> rfl), by first | exact Kd.R_nil _ _ _ _ _ | exact Kd.N_nil _ _ _ _ _ | exact Kd.V_nil _ _ _ _ _ | exact Kd.Q_nil _ _ _ _ _ | exact Kd.S_nil _ _ _ _ _, (bg HB GE354)⟩

/-! ### impl_chi_split: function 139 -/
def impl_chi_split.l0 : Nat → ByteArray → Int → Int → List Int → Int → Int → Option (Int × Int)
 | 0, _, _, _, _, _, _ => none
 | k + 1, x12, x13, x14, x27, x28, x29 => if x29 < x28 then (if 0 ≤ x29 then (if x29 < (x27.length : Int) then (if x29 < (x12.size : Int) then (if (bt x12 x29) = 43 then (if 0 ≤ (rd x27 x29) then (impl_chi_split.l0 k x12 (Go.bits .or .i64 x13 (shl .i64 1 (rd x27 x29))) x14 x27 x28 (wrap64 (x29 + 1))) else (none)) else (if 0 ≤ (rd x27 x29) then (impl_chi_split.l0 k x12 x13 (Go.bits .or .i64 x14 (shl .i64 1 (rd x27 x29))) x27 x28 (wrap64 (x29 + 1))) else (none))) else (none)) else (none)) else (none)) else (some (x13, x14))
def impl_chi_split.f (k : Nat) (l0 : List Int) (a1 : Int) (a2 : Int) (a3 : Int) (a4 : Int) : Option (Int × Int) := (impl_chi_circuit.f k l0 a1 a2 a3 a4).bind fun t365 => ((some (([a1, a2, a3, a4] : List Int) : List Int)).bind fun y366 => (impl_chi_split.l0 k t365 0 0 y366 (y366.length : Int) 0))
theorem impl_chi_split.mono_l : ∀ k, (∀ y0 y1 y2 y3 y4 y5, LeO (impl_chi_split.l0 k y0 y1 y2 y3 y4 y5) (impl_chi_split.l0 (k + 1) y0 y1 y2 y3 y4 y5))
 | 0 => fun _ _ _ _ _ _ r h => by simp [impl_chi_split.l0] at h
 | k + 1 => by
  have ih0 := impl_chi_split.mono_l k
  ·intro y0 y1 y2 y3 y4 y5
   unfold impl_chi_split.l0
   repeat' first
   | (with_reducible exact ih0 _ _ _ _ _ _)
   | (with_reducible exact impl_chi_circuit.mono _ _ _ _ _ _)
   | (with_reducible exact LeO.refl _)
   | (with_reducible exact LeO.none _)
   | (with_reducible refine LeO.ite ?_ ?_)
   | (with_reducible refine LeO.bind ?_ (fun _ => ?_))
   | exact ih0 _ _ _ _ _ _
   | exact impl_chi_circuit.mono _ _ _ _ _ _
   | exact LeO.none _
   | refine LeO.ite ?_ ?_
   | refine LeO.bind ?_ (fun _ => ?_)
theorem impl_chi_split.mono : ∀ a0 a1 a2 a3 a4 k, LeO (impl_chi_split.f k a0 a1 a2 a3 a4) (impl_chi_split.f (k + 1) a0 a1 a2 a3 a4) := by
 intro a0 a1 a2 a3 a4 k
 have ih0 := impl_chi_split.mono_l k
 unfold impl_chi_split.f
 repeat' first
   | (with_reducible exact ih0 _ _ _ _ _ _)
   | (with_reducible exact impl_chi_circuit.mono _ _ _ _ _ _)
   | (with_reducible exact LeO.refl _)
   | (with_reducible exact LeO.none _)
   | (with_reducible refine LeO.ite ?_ ?_)
   | (with_reducible refine LeO.bind ?_ (fun _ => ?_))
   | exact ih0 _ _ _ _ _ _
   | exact impl_chi_circuit.mono _ _ _ _ _ _
   | exact LeO.none _
   | refine LeO.ite ?_ ?_
   | refine LeO.bind ?_ (fun _ => ?_)
set_option maxHeartbeats 8000000 in
set_option maxRecDepth 100000 in
theorem impl_chi_split.calls (k : Nat) (A0 : Option Addr) (c0 : Nat) (l0 : List Int) (a1 : Int) (a2 : Int) (a3 : Int) (a4 : Int) (r1 : Int) (r2 : Int) (w : World) (hr0 : Kd.C (Kd.int .i64) w A0 l0.length l0) (hc0 : l0.length ≤ c0) (h : impl_chi_split.f k l0 a1 a2 a3 a4 = some (r1, r2)) :
  Calls Try.prog 139 #[.pointer A0, .int .i64 a1, .int .i64 a2, .int .i64 a3, .int .i64 a4] w fun e w' => e = .returned (.tuple #[.int .i64 r1, .int .i64 r2]) ∧ Below w.heap.size w w' := by
 have HR0 := Aside0.mk hr0
 have HC0 := Aside0.mk hc0
 clear hr0 hc0
 have HB := Aside0.mk (Below.refl w.heap.size w)
 have H : ((impl_chi_circuit.f k l0 a1 a2 a3 a4).bind fun t365 => ((some (([a1, a2, a3, a4] : List Int) : List Int)).bind fun y366 => (impl_chi_split.l0 k t365 0 0 y366 (y366.length : Int) 0))) = some (r1, r2) := h
 clear h
 replace H := Option.bind_eq_some_iff.mp H
 obtain ⟨t365, A60, H⟩ := H
 (try dsimp only at H)
 have A6 := Aside0.mk A60
 clear A60
 obtain ⟨y366, hy366⟩ : ∃ y_ : List Int, y_ = (([a1, a2, a3, a4] : List Int)) := ⟨_, rfl⟩
 replace H : (impl_chi_split.l0 k t365 0 0 y366 (y366.length : Int) 0) = some (r1, r2) := by first | (rw [hy366]; with_reducible exact H) | (have H2_ := (Option.bind_some _ _).symm.trans H; rw [hy366]; with_reducible exact H2_) | (have H2_ := (Option.bind_some _ _).symm.trans H; with_reducible exact H2_) | with_reducible exact H | (rw [hy366]; exact H) | exact H
 have Ny366 := Aside0.mk hy366
 clear hy366
 have H' := Aside0.mk H
 clear H
 go_enter Try.func139, Try.ntmps139
 go_wp2_with (first | ((with_reducible refine gate_callee (f := 168) rfl ?_); refine gL (some 22) rfl rfl Try.func168 (by kernel_rfl) rfl #[.pointer A0, .int .i64 a1, .int .i64 a2, .int .i64 a3, .int .i64 a4] rfl ?_; (with_reducible refine (impl_chi_circuit.calls k _ c0 l0 a1 a2 a3 a4 t365 _ ?side1 ?side2 A6.out).mono ?_); (case side1 => repeat (first | exact HR0.out | (with_reducible refine Kd.C_alloc ?_ _) | (with_reducible refine Kd.C_drewN ?_ _) | (with_reducible refine Kd.C_drew ?_))); (case side2 => exact HC0.out); rintro e w7 ⟨rfl, hb⟩; refine ⟨_, rfl, ?_⟩; have n0_ := bs HB hb; clear HB; have HB := n0_; clear n0_; (try clear hb); (try clear hb2); (try clear hk); (try clear hi)) | ((with_reducible refine gate_dst (N := 27) rfl ?_); refine Kd.R_lit (Kd.int .i64) _ 3 ?hg (N := 27) ?hd (xs := ([a1, a2, a3, a4] : List Int)) (inner := [.int .i64 a1, .int .i64 a2, .int .i64 a3, .int .i64 a4]) (ok := fun _ => True) (okp := fun _ => True) ?hr ?hp (fun _ hk => hk) trivial (Below.refl _ _) (Nat.le_refl _) (by simp) ?_; (case hd => rfl); (case hg => rfl); (case hr => first | (go_simp; done) | (go_simp; rfl)); (case hp => exact (Reps.one (show Kd.M (Kd.int .i64) _ _ _ a1 [.int .i64 a1] from rfl) (Reps.one (show Kd.M (Kd.int .i64) _ _ _ a2 [.int .i64 a2] from rfl) (Reps.one (show Kd.M (Kd.int .i64) _ _ _ a3 [.int .i64 a3] from rfl) (Reps.one (show Kd.M (Kd.int .i64) _ _ _ a4 [.int .i64 a4] from rfl) (Reps.none _ _)))))); intro v367 w8 ho9 hb hg_ hnew_; clear hg_ hnew_; (first | rw [← Ny366.out] at ho9 | (simp only [Int.reduceToNat] at ho9; rw [← Ny366.out] at ho9)); have n0_ := Aside0.mk (Kd.R_lower ho9 (below_size (bl HB))); have n1_ := bs HB hb; clear HB; have HO368 := n0_; have HB := n1_; clear n0_ n1_; clear hb ho9; obtain ⟨Ao10, co10, eo10⟩ := Kd.R_slice HO368.out; subst eo10))
 go_loopg [13, 14, 29] k (fun kq v13 v14 v29 w' => ∃ (x13_1 : Int) (x14_1 : Int) (x29_1 : Int), v13 = .int .i64 x13_1 ∧ v14 = .int .i64 x14_1 ∧ v29 = .int .i64 x29_1 ∧ Aside0 (impl_chi_split.l0 kq t365 x13_1 x14_1 y366 (y366.length : Int) x29_1 = some (r1, r2)) ∧ Aside0 (kq ≤ k) ∧ Aside0 (Kd.R (Kd.int .i64) 3 w' w.heap.size (fun _ => True) (.slice Ao10 y366.length co10) y366) ∧ Aside0 (Below w.heap.size w w'))
 case atStart => exact ⟨(0), (0), (0), (by first | rfl | (simp; done) | (simp [*]; done)), (by first | rfl | (simp; done) | (simp [*]; done)), (by first | rfl | (simp; done) | (simp [*]; done)), H', ⟨Nat.le_refl _⟩, ⟨by (with_reducible repeat (first | apply Kd.R_alloc | apply Kd.R_drewN | apply Kd.R_drew)); exact HO368.out⟩, ⟨(bl HB)⟩⟩
 case round =>
  clear H'
  try clear c1
  try clear p2
  obtain ⟨x13_1, x14_1, x29_1, rfl, rfl, rfl, HA, HK1, HO_27, HB⟩ := hrel
  cases gk with
  | zero => exact absurd HA.out (by simp [impl_chi_split.l0])
  | succ k1 =>
   have H := HA.out
   clear HA
   simp only [impl_chi_split.l0] at H
   by_cases c11 : x29_1 < (y366.length : Int)
   ·rw [if_pos c11] at H
    have c11b0 : decide (x29_1 < (y366.length : Int)) = true := decide_eq_true c11
    clear c11
    by_cases c12 : 0 ≤ x29_1
    ·rw [if_pos c12] at H
     have c12b0 : decide (0 ≤ x29_1) = true := decide_eq_true c12
     clear c12
     by_cases c13 : x29_1 < (y366.length : Int)
     ·rw [if_pos c13] at H
      have c13b0 : decide (x29_1 < (y366.length : Int)) = true := decide_eq_true c13
      clear c13
      by_cases c14 : x29_1 < (t365.size : Int)
      ·rw [if_pos c14] at H
       have c14b0 : decide (x29_1 < (t365.size : Int)) = true := decide_eq_true c14
       clear c14
       by_cases c16 : (bt t365 x29_1) = 43
       ·rw [if_pos c16] at H
        have c16b0 : ((bt t365 x29_1) == 43) = true := beq_iff_eq.mpr c16
        have c16b1 : ((bt t365 x29_1) != 43) = false := bne_eq_false_iff_eq.mpr c16
        clear c16
        by_cases c17 : 0 ≤ (rd y366 x29_1)
        ·rw [if_pos c17] at H
         have c17b0 := eq_true c17
         have c17b1 : decide (0 ≤ (rd y366 x29_1)) = true := decide_eq_true c17
         clear c17
         obtain ⟨ji18, hji18⟩ : ∃ j_ : Int, (shl .i64 1 (rd y366 x29_1)) = j_ := ⟨_, rfl⟩
         replace H : (impl_chi_split.l0 k1 t365 (Go.bits .or .i64 x13_1 (ji18)) x14_1 y366 (y366.length : Int) (wrap64 (x29_1 + 1))) = some (r1, r2) := by first | (rw [hji18] at H; exact H) | (simp only [hji18] at H ⊢; exact H)
         have hji18_ : (IntKind.i64.wrap (1 * 2 ^ min (rd y366 x29_1).toNat 64)) = ji18 := hji18
         have hji18z : (rd y366 x29_1) ≤ 64 → (IntKind.i64.wrap (1 * 2 ^ (rd y366 x29_1).toNat)) = ji18 := shl_small hji18
         have hji18u : (IntKind.i64.wrap (2 ^ min (rd y366 x29_1).toNat 64)) = ji18 := by have h_ := hji18_; rw [Int.one_mul] at h_; exact h_
         have hji18v : (rd y366 x29_1) ≤ 64 → (IntKind.i64.wrap (2 ^ (rd y366 x29_1).toNat)) = ji18 := fun hle_ => by have h_ := hji18z hle_; rw [Int.one_mul] at h_; exact h_
         have hji18y : (wrap64 (1 * 2 ^ min (rd y366 x29_1).toNat 64)) = ji18 := (i64_w _).symm.trans hji18_
         have hji18x : (rd y366 x29_1) ≤ 64 → (wrap64 (1 * 2 ^ (rd y366 x29_1).toNat)) = ji18 := fun h_ => (i64_w _).symm.trans (hji18z h_)
         have H' := Aside0.mk H
         clear H
         have p369 : 0 ≤ (x29_1 : Int) := of_decide_eq_true (by first | (with_reducible assumption) | assumption)
         have q369 : x29_1 < (y366.length : Int) := of_decide_eq_true (by first | (with_reducible assumption) | assumption)
         obtain ⟨ad369, e369, hx369_0⟩ := Kd.at_int (Kd.R_reads' HO_27.out).2.2 x29_1 p369 q369
         cases e369
         replace p369 := eq_true p369
         replace q369 := eq_true q369
         have p15 : 0 ≤ (x29_1 : Int) := of_decide_eq_true (by first | (with_reducible assumption) | assumption)
         have q15 : x29_1 < (t365.size : Int) := of_decide_eq_true (by first | (with_reducible assumption) | assumption)
         have hx15 := bt_at t365 x29_1
         replace p15 := eq_true p15
         replace q15 := eq_true q15
         go_wp2
         go_roundg k1
         case measure => have := HK1.out; omega
         case rel => exact ⟨(Go.bits .or .i64 x13_1 (ji18)), (x14_1), (wrap64 (x29_1 + 1)), (by first | rfl | (simp; done) | (simp only [← hji18] <;> (first | rfl | simp)) | (simp [*]; done)), (by first | rfl | (simp; done) | (simp [*]; done)), (by first | rfl | (simp; done) | (simp [*]; done)), H', ⟨by have := HK1.out; omega⟩, ⟨by (with_reducible repeat (first | apply Kd.R_alloc | apply Kd.R_drewN | apply Kd.R_drew)); exact HO_27.out⟩, ⟨(bl HB)⟩⟩
        ·rw [if_neg c17] at H
         exact absurd H (by simp)
       ·rw [if_neg c16] at H
        have c16b0 : ((bt t365 x29_1) == 43) = false := beq_eq_false_iff_ne.mpr c16
        have c16b1 : ((bt t365 x29_1) != 43) = true := bne_iff_ne.mpr c16
        by_cases c19 : 0 ≤ (rd y366 x29_1)
        ·rw [if_pos c19] at H
         have c19b0 := eq_true c19
         have c19b1 : decide (0 ≤ (rd y366 x29_1)) = true := decide_eq_true c19
         clear c19
         obtain ⟨ji20, hji20⟩ : ∃ j_ : Int, (shl .i64 1 (rd y366 x29_1)) = j_ := ⟨_, rfl⟩
         replace H : (impl_chi_split.l0 k1 t365 x13_1 (Go.bits .or .i64 x14_1 (ji20)) y366 (y366.length : Int) (wrap64 (x29_1 + 1))) = some (r1, r2) := by first | (rw [hji20] at H; exact H) | (simp only [hji20] at H ⊢; exact H)
         have hji20_ : (IntKind.i64.wrap (1 * 2 ^ min (rd y366 x29_1).toNat 64)) = ji20 := hji20
         have hji20z : (rd y366 x29_1) ≤ 64 → (IntKind.i64.wrap (1 * 2 ^ (rd y366 x29_1).toNat)) = ji20 := shl_small hji20
         have hji20u : (IntKind.i64.wrap (2 ^ min (rd y366 x29_1).toNat 64)) = ji20 := by have h_ := hji20_; rw [Int.one_mul] at h_; exact h_
         have hji20v : (rd y366 x29_1) ≤ 64 → (IntKind.i64.wrap (2 ^ (rd y366 x29_1).toNat)) = ji20 := fun hle_ => by have h_ := hji20z hle_; rw [Int.one_mul] at h_; exact h_
         have hji20y : (wrap64 (1 * 2 ^ min (rd y366 x29_1).toNat 64)) = ji20 := (i64_w _).symm.trans hji20_
         have hji20x : (rd y366 x29_1) ≤ 64 → (wrap64 (1 * 2 ^ (rd y366 x29_1).toNat)) = ji20 := fun h_ => (i64_w _).symm.trans (hji20z h_)
         have H' := Aside0.mk H
         clear H
         have p369 : 0 ≤ (x29_1 : Int) := of_decide_eq_true (by first | (with_reducible assumption) | assumption)
         have q369 : x29_1 < (y366.length : Int) := of_decide_eq_true (by first | (with_reducible assumption) | assumption)
         obtain ⟨ad369, e369, hx369_0⟩ := Kd.at_int (Kd.R_reads' HO_27.out).2.2 x29_1 p369 q369
         cases e369
         replace p369 := eq_true p369
         replace q369 := eq_true q369
         have p15 : 0 ≤ (x29_1 : Int) := of_decide_eq_true (by first | (with_reducible assumption) | assumption)
         have q15 : x29_1 < (t365.size : Int) := of_decide_eq_true (by first | (with_reducible assumption) | assumption)
         have hx15 := bt_at t365 x29_1
         replace p15 := eq_true p15
         replace q15 := eq_true q15
         go_wp2
         go_roundg k1
         case measure => have := HK1.out; omega
         case rel => exact ⟨(x13_1), (Go.bits .or .i64 x14_1 (ji20)), (wrap64 (x29_1 + 1)), (by first | rfl | (simp; done) | (simp [*]; done)), (by first | rfl | (simp; done) | (simp only [← hji20] <;> (first | rfl | simp)) | (simp [*]; done)), (by first | rfl | (simp; done) | (simp [*]; done)), H', ⟨by have := HK1.out; omega⟩, ⟨by (with_reducible repeat (first | apply Kd.R_alloc | apply Kd.R_drewN | apply Kd.R_drew)); exact HO_27.out⟩, ⟨(bl HB)⟩⟩
        ·rw [if_neg c19] at H
         exact absurd H (by simp)
      ·rw [if_neg c14] at H
       exact absurd H (by simp)
     ·rw [if_neg c13] at H
      exact absurd H (by simp)
    ·rw [if_neg c12] at H
     exact absurd H (by simp)
   ·rw [if_neg c11] at H
    have c11b0 : decide (x29_1 < (y366.length : Int)) = false := decide_eq_false c11
    clear c11
    simp only [Option.some.injEq, Prod.mk.injEq] at H
    obtain ⟨rfl, rfl⟩ := H
    go_wp2
    go_ret2
    exact ⟨by first | rfl | (simp [errW_none, errW_some] <;> rfl) | (simp [*, errW_none, errW_some] <;> rfl), (bl HB)⟩

/-! ### impl_chi_cross: function 117 -/
def impl_chi_cross.f (k : Nat) (l0 : List Int) (a1 : Int) (a2 : Int) (a3 : Int) (a4 : Int) : Option (Bool) := (impl_chi_split.f k l0 a1 a2 a3 a4).bind fun bt370 => (if 0 ≤ a1 then (if 0 ≤ a2 then (if 0 ≤ a3 then (if 0 ≤ a4 then (if bt370.1 = (Go.bits .or .i64 (shl .i64 1 a1) (shl .i64 1 a2)) then (if bt370.2 = (Go.bits .or .i64 (shl .i64 1 a3) (shl .i64 1 a4)) then (some true) else (if bt370.1 = (Go.bits .or .i64 (shl .i64 1 a3) (shl .i64 1 a4)) then (some (bt370.2 == (Go.bits .or .i64 (shl .i64 1 a1) (shl .i64 1 a2)))) else (some false))) else (if bt370.1 = (Go.bits .or .i64 (shl .i64 1 a3) (shl .i64 1 a4)) then (some (bt370.2 == (Go.bits .or .i64 (shl .i64 1 a1) (shl .i64 1 a2)))) else (some false))) else (none)) else (none)) else (none)) else (none))
theorem impl_chi_cross.mono : ∀ a0 a1 a2 a3 a4 k, LeO (impl_chi_cross.f k a0 a1 a2 a3 a4) (impl_chi_cross.f (k + 1) a0 a1 a2 a3 a4) := by
 intro a0 a1 a2 a3 a4 k
 unfold impl_chi_cross.f
 repeat' first
   | (with_reducible exact impl_chi_split.mono _ _ _ _ _ _)
   | (with_reducible exact LeO.refl _)
   | (with_reducible exact LeO.none _)
   | (with_reducible refine LeO.ite ?_ ?_)
   | (with_reducible refine LeO.bind ?_ (fun _ => ?_))
   | exact impl_chi_split.mono _ _ _ _ _ _
   | exact LeO.none _
   | refine LeO.ite ?_ ?_
   | refine LeO.bind ?_ (fun _ => ?_)
set_option maxHeartbeats 8000000 in
set_option maxRecDepth 100000 in
theorem impl_chi_cross.calls (k : Nat) (A0 : Option Addr) (c0 : Nat) (l0 : List Int) (a1 : Int) (a2 : Int) (a3 : Int) (a4 : Int) (r : Bool) (w : World) (hr0 : Kd.C (Kd.int .i64) w A0 l0.length l0) (hc0 : l0.length ≤ c0) (h : impl_chi_cross.f k l0 a1 a2 a3 a4 = some r) :
  Calls Try.prog 117 #[.pointer A0, .int .i64 a1, .int .i64 a2, .int .i64 a3, .int .i64 a4] w fun e w' => e = .returned (.bool r) ∧ Below w.heap.size w w' := by
 have HR0 := Aside0.mk hr0
 have HC0 := Aside0.mk hc0
 clear hr0 hc0
 have HB := Aside0.mk (Below.refl w.heap.size w)
 have H : ((impl_chi_split.f k l0 a1 a2 a3 a4).bind fun bt370 => (if 0 ≤ a1 then (if 0 ≤ a2 then (if 0 ≤ a3 then (if 0 ≤ a4 then (if bt370.1 = (Go.bits .or .i64 (shl .i64 1 a1) (shl .i64 1 a2)) then (if bt370.2 = (Go.bits .or .i64 (shl .i64 1 a3) (shl .i64 1 a4)) then (some true) else (if bt370.1 = (Go.bits .or .i64 (shl .i64 1 a3) (shl .i64 1 a4)) then (some (bt370.2 == (Go.bits .or .i64 (shl .i64 1 a1) (shl .i64 1 a2)))) else (some false))) else (if bt370.1 = (Go.bits .or .i64 (shl .i64 1 a3) (shl .i64 1 a4)) then (some (bt370.2 == (Go.bits .or .i64 (shl .i64 1 a1) (shl .i64 1 a2)))) else (some false))) else (none)) else (none)) else (none)) else (none))) = some r := h
 clear h
 replace H := Option.bind_eq_some_iff.mp H
 obtain ⟨⟨t370, t371⟩, A60, H⟩ := H
 (try dsimp only at H)
 have A6 := Aside0.mk A60
 clear A60
 by_cases c7 : 0 ≤ a1
 ·rw [if_pos c7] at H
  have c7b0 := eq_true c7
  have c7b1 : decide (0 ≤ a1) = true := decide_eq_true c7
  clear c7
  obtain ⟨ji8, hji8⟩ : ∃ j_ : Int, (shl .i64 1 a1) = j_ := ⟨_, rfl⟩
  replace H : (if 0 ≤ a2 then (if 0 ≤ a3 then (if 0 ≤ a4 then (if t370 = (Go.bits .or .i64 (ji8) (shl .i64 1 a2)) then (if t371 = (Go.bits .or .i64 (shl .i64 1 a3) (shl .i64 1 a4)) then (some true) else (if t370 = (Go.bits .or .i64 (shl .i64 1 a3) (shl .i64 1 a4)) then (some (t371 == (Go.bits .or .i64 (ji8) (shl .i64 1 a2)))) else (some false))) else (if t370 = (Go.bits .or .i64 (shl .i64 1 a3) (shl .i64 1 a4)) then (some (t371 == (Go.bits .or .i64 (ji8) (shl .i64 1 a2)))) else (some false))) else (none)) else (none)) else (none)) = some r := by first | (rw [hji8] at H; exact H) | (simp only [hji8] at H ⊢; exact H)
  (try rw [hji8] at A6)
  have hji8_ : (IntKind.i64.wrap (1 * 2 ^ min a1.toNat 64)) = ji8 := hji8
  have hji8z : a1 ≤ 64 → (IntKind.i64.wrap (1 * 2 ^ a1.toNat)) = ji8 := shl_small hji8
  have hji8u : (IntKind.i64.wrap (2 ^ min a1.toNat 64)) = ji8 := by have h_ := hji8_; rw [Int.one_mul] at h_; exact h_
  have hji8v : a1 ≤ 64 → (IntKind.i64.wrap (2 ^ a1.toNat)) = ji8 := fun hle_ => by have h_ := hji8z hle_; rw [Int.one_mul] at h_; exact h_
  have hji8y : (wrap64 (1 * 2 ^ min a1.toNat 64)) = ji8 := (i64_w _).symm.trans hji8_
  have hji8x : a1 ≤ 64 → (wrap64 (1 * 2 ^ a1.toNat)) = ji8 := fun h_ => (i64_w _).symm.trans (hji8z h_)
  by_cases c9 : 0 ≤ a2
  ·rw [if_pos c9] at H
   have c9b0 := eq_true c9
   have c9b1 : decide (0 ≤ a2) = true := decide_eq_true c9
   clear c9
   obtain ⟨ji10, hji10⟩ : ∃ j_ : Int, (shl .i64 1 a2) = j_ := ⟨_, rfl⟩
   replace H : (if 0 ≤ a3 then (if 0 ≤ a4 then (if t370 = (Go.bits .or .i64 (ji8) (ji10)) then (if t371 = (Go.bits .or .i64 (shl .i64 1 a3) (shl .i64 1 a4)) then (some true) else (if t370 = (Go.bits .or .i64 (shl .i64 1 a3) (shl .i64 1 a4)) then (some (t371 == (Go.bits .or .i64 (ji8) (ji10)))) else (some false))) else (if t370 = (Go.bits .or .i64 (shl .i64 1 a3) (shl .i64 1 a4)) then (some (t371 == (Go.bits .or .i64 (ji8) (ji10)))) else (some false))) else (none)) else (none)) = some r := by first | (rw [hji10] at H; exact H) | (simp only [hji10] at H ⊢; exact H)
   (try rw [hji10] at A6)
   have hji10_ : (IntKind.i64.wrap (1 * 2 ^ min a2.toNat 64)) = ji10 := hji10
   have hji10z : a2 ≤ 64 → (IntKind.i64.wrap (1 * 2 ^ a2.toNat)) = ji10 := shl_small hji10
   have hji10u : (IntKind.i64.wrap (2 ^ min a2.toNat 64)) = ji10 := by have h_ := hji10_; rw [Int.one_mul] at h_; exact h_
   have hji10v : a2 ≤ 64 → (IntKind.i64.wrap (2 ^ a2.toNat)) = ji10 := fun hle_ => by have h_ := hji10z hle_; rw [Int.one_mul] at h_; exact h_
   have hji10y : (wrap64 (1 * 2 ^ min a2.toNat 64)) = ji10 := (i64_w _).symm.trans hji10_
   have hji10x : a2 ≤ 64 → (wrap64 (1 * 2 ^ a2.toNat)) = ji10 := fun h_ => (i64_w _).symm.trans (hji10z h_)
   by_cases c11 : 0 ≤ a3
   ·rw [if_pos c11] at H
    have c11b0 := eq_true c11
    have c11b1 : decide (0 ≤ a3) = true := decide_eq_true c11
    clear c11
    obtain ⟨ji12, hji12⟩ : ∃ j_ : Int, (shl .i64 1 a3) = j_ := ⟨_, rfl⟩
    replace H : (if 0 ≤ a4 then (if t370 = (Go.bits .or .i64 (ji8) (ji10)) then (if t371 = (Go.bits .or .i64 (ji12) (shl .i64 1 a4)) then (some true) else (if t370 = (Go.bits .or .i64 (ji12) (shl .i64 1 a4)) then (some (t371 == (Go.bits .or .i64 (ji8) (ji10)))) else (some false))) else (if t370 = (Go.bits .or .i64 (ji12) (shl .i64 1 a4)) then (some (t371 == (Go.bits .or .i64 (ji8) (ji10)))) else (some false))) else (none)) = some r := by first | (rw [hji12] at H; exact H) | (simp only [hji12] at H ⊢; exact H)
    (try rw [hji12] at A6)
    have hji12_ : (IntKind.i64.wrap (1 * 2 ^ min a3.toNat 64)) = ji12 := hji12
    have hji12z : a3 ≤ 64 → (IntKind.i64.wrap (1 * 2 ^ a3.toNat)) = ji12 := shl_small hji12
    have hji12u : (IntKind.i64.wrap (2 ^ min a3.toNat 64)) = ji12 := by have h_ := hji12_; rw [Int.one_mul] at h_; exact h_
    have hji12v : a3 ≤ 64 → (IntKind.i64.wrap (2 ^ a3.toNat)) = ji12 := fun hle_ => by have h_ := hji12z hle_; rw [Int.one_mul] at h_; exact h_
    have hji12y : (wrap64 (1 * 2 ^ min a3.toNat 64)) = ji12 := (i64_w _).symm.trans hji12_
    have hji12x : a3 ≤ 64 → (wrap64 (1 * 2 ^ a3.toNat)) = ji12 := fun h_ => (i64_w _).symm.trans (hji12z h_)
    by_cases c13 : 0 ≤ a4
    ·rw [if_pos c13] at H
     have c13b0 := eq_true c13
     have c13b1 : decide (0 ≤ a4) = true := decide_eq_true c13
     clear c13
     obtain ⟨ji14, hji14⟩ : ∃ j_ : Int, (shl .i64 1 a4) = j_ := ⟨_, rfl⟩
     replace H : (if t370 = (Go.bits .or .i64 (ji8) (ji10)) then (if t371 = (Go.bits .or .i64 (ji12) (ji14)) then (some true) else (if t370 = (Go.bits .or .i64 (ji12) (ji14)) then (some (t371 == (Go.bits .or .i64 (ji8) (ji10)))) else (some false))) else (if t370 = (Go.bits .or .i64 (ji12) (ji14)) then (some (t371 == (Go.bits .or .i64 (ji8) (ji10)))) else (some false))) = some r := by first | (rw [hji14] at H; exact H) | (simp only [hji14] at H ⊢; exact H)
     (try rw [hji14] at A6)
     have hji14_ : (IntKind.i64.wrap (1 * 2 ^ min a4.toNat 64)) = ji14 := hji14
     have hji14z : a4 ≤ 64 → (IntKind.i64.wrap (1 * 2 ^ a4.toNat)) = ji14 := shl_small hji14
     have hji14u : (IntKind.i64.wrap (2 ^ min a4.toNat 64)) = ji14 := by have h_ := hji14_; rw [Int.one_mul] at h_; exact h_
     have hji14v : a4 ≤ 64 → (IntKind.i64.wrap (2 ^ a4.toNat)) = ji14 := fun hle_ => by have h_ := hji14z hle_; rw [Int.one_mul] at h_; exact h_
     have hji14y : (wrap64 (1 * 2 ^ min a4.toNat 64)) = ji14 := (i64_w _).symm.trans hji14_
     have hji14x : a4 ≤ 64 → (wrap64 (1 * 2 ^ a4.toNat)) = ji14 := fun h_ => (i64_w _).symm.trans (hji14z h_)
     by_cases c15 : t370 = (Go.bits .or .i64 (ji8) (ji10))
     ·rw [if_pos c15] at H
      have c15b0 : (t370 == (Go.bits .or .i64 (ji8) (ji10))) = true := beq_iff_eq.mpr c15
      have c15b1 : (t370 != (Go.bits .or .i64 (ji8) (ji10))) = false := bne_eq_false_iff_eq.mpr c15
      clear c15
      by_cases c16 : t371 = (Go.bits .or .i64 (ji12) (ji14))
      ·rw [if_pos c16] at H
       have c16b0 : (t371 == (Go.bits .or .i64 (ji12) (ji14))) = true := beq_iff_eq.mpr c16
       have c16b1 : (t371 != (Go.bits .or .i64 (ji12) (ji14))) = false := bne_eq_false_iff_eq.mpr c16
       clear c16
       obtain rfl := Option.some.inj H
       go_enter Try.func117, Try.ntmps117
       go_wp2_with (first | (go_at_call 139; (with_reducible refine (impl_chi_split.calls k _ c0 l0 a1 a2 a3 a4 t370 t371 _ ?side1 ?side2 A6.out).mono ?_); (case side1 => repeat (first | exact HR0.out | (with_reducible refine Kd.C_alloc ?_ _) | (with_reducible refine Kd.C_drewN ?_ _) | (with_reducible refine Kd.C_drew ?_))); (case side2 => exact HC0.out); rintro e w17 ⟨rfl, hb⟩; have n0_ := bs HB hb; clear HB; have HB := n0_; clear n0_; (try clear hb); (try clear hb2); (try clear hk); (try clear hi)))
       repeat (go_quiet (first | (go_at_call 139; (with_reducible refine (impl_chi_split.calls k _ c0 l0 a1 a2 a3 a4 t370 t371 _ ?side1 ?side2 A6.out).mono ?_); (case side1 => repeat (first | exact HR0.out | (with_reducible refine Kd.C_alloc ?_ _) | (with_reducible refine Kd.C_drewN ?_ _) | (with_reducible refine Kd.C_drew ?_))); (case side2 => exact HC0.out); rintro e w17 ⟨rfl, hb⟩; have n0_ := bs HB hb; clear HB; have HB := n0_; clear n0_; (try clear hb); (try clear hb2); (try clear hk); (try clear hi))); try go_wp2_with (first | (go_at_call 139; (with_reducible refine (impl_chi_split.calls k _ c0 l0 a1 a2 a3 a4 t370 t371 _ ?side1 ?side2 A6.out).mono ?_); (case side1 => repeat (first | exact HR0.out | (with_reducible refine Kd.C_alloc ?_ _) | (with_reducible refine Kd.C_drewN ?_ _) | (with_reducible refine Kd.C_drew ?_))); (case side2 => exact HC0.out); rintro e w17 ⟨rfl, hb⟩; have n0_ := bs HB hb; clear HB; have HB := n0_; clear n0_; (try clear hb); (try clear hb2); (try clear hk); (try clear hi))))
       go_ret
       exact ⟨by first | rfl | (simp [errW_none, errW_some] <;> rfl) | (simp only [← hji8, ← hji10, ← hji12, ← hji14]; first | rfl | (simp [errW_none, errW_some] <;> rfl)) | (simp [*, errW_none, errW_some] <;> rfl), (bl HB)⟩
      ·rw [if_neg c16] at H
       have c16b0 : (t371 == (Go.bits .or .i64 (ji12) (ji14))) = false := beq_eq_false_iff_ne.mpr c16
       have c16b1 : (t371 != (Go.bits .or .i64 (ji12) (ji14))) = true := bne_iff_ne.mpr c16
       by_cases c18 : t370 = (Go.bits .or .i64 (ji12) (ji14))
       ·rw [if_pos c18] at H
        have c18b0 : (t370 == (Go.bits .or .i64 (ji12) (ji14))) = true := beq_iff_eq.mpr c18
        have c18b1 : (t370 != (Go.bits .or .i64 (ji12) (ji14))) = false := bne_eq_false_iff_eq.mpr c18
        clear c18
        obtain rfl := Option.some.inj H
        go_enter Try.func117, Try.ntmps117
        go_wp2_with (first | (go_at_call 139; (with_reducible refine (impl_chi_split.calls k _ c0 l0 a1 a2 a3 a4 t370 t371 _ ?side1 ?side2 A6.out).mono ?_); (case side1 => repeat (first | exact HR0.out | (with_reducible refine Kd.C_alloc ?_ _) | (with_reducible refine Kd.C_drewN ?_ _) | (with_reducible refine Kd.C_drew ?_))); (case side2 => exact HC0.out); rintro e w19 ⟨rfl, hb⟩; have n0_ := bs HB hb; clear HB; have HB := n0_; clear n0_; (try clear hb); (try clear hb2); (try clear hk); (try clear hi)))
        repeat (go_quiet (first | (go_at_call 139; (with_reducible refine (impl_chi_split.calls k _ c0 l0 a1 a2 a3 a4 t370 t371 _ ?side1 ?side2 A6.out).mono ?_); (case side1 => repeat (first | exact HR0.out | (with_reducible refine Kd.C_alloc ?_ _) | (with_reducible refine Kd.C_drewN ?_ _) | (with_reducible refine Kd.C_drew ?_))); (case side2 => exact HC0.out); rintro e w19 ⟨rfl, hb⟩; have n0_ := bs HB hb; clear HB; have HB := n0_; clear n0_; (try clear hb); (try clear hb2); (try clear hk); (try clear hi))); try go_wp2_with (first | (go_at_call 139; (with_reducible refine (impl_chi_split.calls k _ c0 l0 a1 a2 a3 a4 t370 t371 _ ?side1 ?side2 A6.out).mono ?_); (case side1 => repeat (first | exact HR0.out | (with_reducible refine Kd.C_alloc ?_ _) | (with_reducible refine Kd.C_drewN ?_ _) | (with_reducible refine Kd.C_drew ?_))); (case side2 => exact HC0.out); rintro e w19 ⟨rfl, hb⟩; have n0_ := bs HB hb; clear HB; have HB := n0_; clear n0_; (try clear hb); (try clear hb2); (try clear hk); (try clear hi))))
        go_ret
        exact ⟨by first | rfl | (simp [errW_none, errW_some] <;> rfl) | (simp only [← hji8, ← hji10, ← hji12, ← hji14]; first | rfl | (simp [errW_none, errW_some] <;> rfl)) | (simp [*, errW_none, errW_some] <;> rfl), (bl HB)⟩
       ·rw [if_neg c18] at H
        have c18b0 : (t370 == (Go.bits .or .i64 (ji12) (ji14))) = false := beq_eq_false_iff_ne.mpr c18
        have c18b1 : (t370 != (Go.bits .or .i64 (ji12) (ji14))) = true := bne_iff_ne.mpr c18
        obtain rfl := Option.some.inj H
        go_enter Try.func117, Try.ntmps117
        go_wp2_with (first | (go_at_call 139; (with_reducible refine (impl_chi_split.calls k _ c0 l0 a1 a2 a3 a4 t370 t371 _ ?side1 ?side2 A6.out).mono ?_); (case side1 => repeat (first | exact HR0.out | (with_reducible refine Kd.C_alloc ?_ _) | (with_reducible refine Kd.C_drewN ?_ _) | (with_reducible refine Kd.C_drew ?_))); (case side2 => exact HC0.out); rintro e w20 ⟨rfl, hb⟩; have n0_ := bs HB hb; clear HB; have HB := n0_; clear n0_; (try clear hb); (try clear hb2); (try clear hk); (try clear hi)))
        repeat (go_quiet (first | (go_at_call 139; (with_reducible refine (impl_chi_split.calls k _ c0 l0 a1 a2 a3 a4 t370 t371 _ ?side1 ?side2 A6.out).mono ?_); (case side1 => repeat (first | exact HR0.out | (with_reducible refine Kd.C_alloc ?_ _) | (with_reducible refine Kd.C_drewN ?_ _) | (with_reducible refine Kd.C_drew ?_))); (case side2 => exact HC0.out); rintro e w20 ⟨rfl, hb⟩; have n0_ := bs HB hb; clear HB; have HB := n0_; clear n0_; (try clear hb); (try clear hb2); (try clear hk); (try clear hi))); try go_wp2_with (first | (go_at_call 139; (with_reducible refine (impl_chi_split.calls k _ c0 l0 a1 a2 a3 a4 t370 t371 _ ?side1 ?side2 A6.out).mono ?_); (case side1 => repeat (first | exact HR0.out | (with_reducible refine Kd.C_alloc ?_ _) | (with_reducible refine Kd.C_drewN ?_ _) | (with_reducible refine Kd.C_drew ?_))); (case side2 => exact HC0.out); rintro e w20 ⟨rfl, hb⟩; have n0_ := bs HB hb; clear HB; have HB := n0_; clear n0_; (try clear hb); (try clear hb2); (try clear hk); (try clear hi))))
        go_ret
        exact ⟨by first | rfl | (simp [errW_none, errW_some] <;> rfl) | (simp only [← hji8, ← hji10, ← hji12, ← hji14]; first | rfl | (simp [errW_none, errW_some] <;> rfl)) | (simp [*, errW_none, errW_some] <;> rfl), (bl HB)⟩
     ·rw [if_neg c15] at H
      have c15b0 : (t370 == (Go.bits .or .i64 (ji8) (ji10))) = false := beq_eq_false_iff_ne.mpr c15
      have c15b1 : (t370 != (Go.bits .or .i64 (ji8) (ji10))) = true := bne_iff_ne.mpr c15
      by_cases c21 : t370 = (Go.bits .or .i64 (ji12) (ji14))
      ·rw [if_pos c21] at H
       have c21b0 : (t370 == (Go.bits .or .i64 (ji12) (ji14))) = true := beq_iff_eq.mpr c21
       have c21b1 : (t370 != (Go.bits .or .i64 (ji12) (ji14))) = false := bne_eq_false_iff_eq.mpr c21
       clear c21
       obtain rfl := Option.some.inj H
       go_enter Try.func117, Try.ntmps117
       go_wp2_with (first | (go_at_call 139; (with_reducible refine (impl_chi_split.calls k _ c0 l0 a1 a2 a3 a4 t370 t371 _ ?side1 ?side2 A6.out).mono ?_); (case side1 => repeat (first | exact HR0.out | (with_reducible refine Kd.C_alloc ?_ _) | (with_reducible refine Kd.C_drewN ?_ _) | (with_reducible refine Kd.C_drew ?_))); (case side2 => exact HC0.out); rintro e w22 ⟨rfl, hb⟩; have n0_ := bs HB hb; clear HB; have HB := n0_; clear n0_; (try clear hb); (try clear hb2); (try clear hk); (try clear hi)))
       repeat (go_quiet (first | (go_at_call 139; (with_reducible refine (impl_chi_split.calls k _ c0 l0 a1 a2 a3 a4 t370 t371 _ ?side1 ?side2 A6.out).mono ?_); (case side1 => repeat (first | exact HR0.out | (with_reducible refine Kd.C_alloc ?_ _) | (with_reducible refine Kd.C_drewN ?_ _) | (with_reducible refine Kd.C_drew ?_))); (case side2 => exact HC0.out); rintro e w22 ⟨rfl, hb⟩; have n0_ := bs HB hb; clear HB; have HB := n0_; clear n0_; (try clear hb); (try clear hb2); (try clear hk); (try clear hi))); try go_wp2_with (first | (go_at_call 139; (with_reducible refine (impl_chi_split.calls k _ c0 l0 a1 a2 a3 a4 t370 t371 _ ?side1 ?side2 A6.out).mono ?_); (case side1 => repeat (first | exact HR0.out | (with_reducible refine Kd.C_alloc ?_ _) | (with_reducible refine Kd.C_drewN ?_ _) | (with_reducible refine Kd.C_drew ?_))); (case side2 => exact HC0.out); rintro e w22 ⟨rfl, hb⟩; have n0_ := bs HB hb; clear HB; have HB := n0_; clear n0_; (try clear hb); (try clear hb2); (try clear hk); (try clear hi))))
       go_ret
       exact ⟨by first | rfl | (simp [errW_none, errW_some] <;> rfl) | (simp only [← hji8, ← hji10, ← hji12, ← hji14]; first | rfl | (simp [errW_none, errW_some] <;> rfl)) | (simp [*, errW_none, errW_some] <;> rfl), (bl HB)⟩
      ·rw [if_neg c21] at H
       have c21b0 : (t370 == (Go.bits .or .i64 (ji12) (ji14))) = false := beq_eq_false_iff_ne.mpr c21
       have c21b1 : (t370 != (Go.bits .or .i64 (ji12) (ji14))) = true := bne_iff_ne.mpr c21
       obtain rfl := Option.some.inj H
       go_enter Try.func117, Try.ntmps117
       go_wp2_with (first | (go_at_call 139; (with_reducible refine (impl_chi_split.calls k _ c0 l0 a1 a2 a3 a4 t370 t371 _ ?side1 ?side2 A6.out).mono ?_); (case side1 => repeat (first | exact HR0.out | (with_reducible refine Kd.C_alloc ?_ _) | (with_reducible refine Kd.C_drewN ?_ _) | (with_reducible refine Kd.C_drew ?_))); (case side2 => exact HC0.out); rintro e w23 ⟨rfl, hb⟩; have n0_ := bs HB hb; clear HB; have HB := n0_; clear n0_; (try clear hb); (try clear hb2); (try clear hk); (try clear hi)))
       repeat (go_quiet (first | (go_at_call 139; (with_reducible refine (impl_chi_split.calls k _ c0 l0 a1 a2 a3 a4 t370 t371 _ ?side1 ?side2 A6.out).mono ?_); (case side1 => repeat (first | exact HR0.out | (with_reducible refine Kd.C_alloc ?_ _) | (with_reducible refine Kd.C_drewN ?_ _) | (with_reducible refine Kd.C_drew ?_))); (case side2 => exact HC0.out); rintro e w23 ⟨rfl, hb⟩; have n0_ := bs HB hb; clear HB; have HB := n0_; clear n0_; (try clear hb); (try clear hb2); (try clear hk); (try clear hi))); try go_wp2_with (first | (go_at_call 139; (with_reducible refine (impl_chi_split.calls k _ c0 l0 a1 a2 a3 a4 t370 t371 _ ?side1 ?side2 A6.out).mono ?_); (case side1 => repeat (first | exact HR0.out | (with_reducible refine Kd.C_alloc ?_ _) | (with_reducible refine Kd.C_drewN ?_ _) | (with_reducible refine Kd.C_drew ?_))); (case side2 => exact HC0.out); rintro e w23 ⟨rfl, hb⟩; have n0_ := bs HB hb; clear HB; have HB := n0_; clear n0_; (try clear hb); (try clear hb2); (try clear hk); (try clear hi))))
       go_ret
       exact ⟨by first | rfl | (simp [errW_none, errW_some] <;> rfl) | (simp only [← hji8, ← hji10, ← hji12, ← hji14]; first | rfl | (simp [errW_none, errW_some] <;> rfl)) | (simp [*, errW_none, errW_some] <;> rfl), (bl HB)⟩
    ·rw [if_neg c13] at H
     exact absurd H (by simp)
   ·rw [if_neg c11] at H
    exact absurd H (by simp)
  ·rw [if_neg c9] at H
   exact absurd H (by simp)
 ·rw [if_neg c7] at H
  exact absurd H (by simp)

end Go.Proofs.Ytiimkifkakdalaa.P
