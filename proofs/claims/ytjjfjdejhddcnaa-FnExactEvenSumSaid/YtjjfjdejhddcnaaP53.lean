-- Printed by a program of this session (wip/tools/myprint.py, over the kit's print.py); not trusted: Lean checks it.
import Derived.Test.YtjjfjdejhddcnaaP0
import Derived.Test.YtjjfjdejhddcnaaP87
namespace Go.Proofs.Ytjjfjdejhddcnaa.P
open Go.RowKit Go.Proofs.YtjjfjdejhddcnaaW.PrintWords Go.Proofs.YtjjfjdejhddcnaaW.PrintLast Go.Proofs.YtjjfjdejhddcnaaW.PrintMore
attribute [local go_sem] max2_int min2_int max_two min_two max_three min_three max_four min_four   -- for this text's walks alone
set_option linter.unusedVariables false
set_option linter.unusedSimpArgs false

/-! ### impl_chi_cross: function 53 -/
def impl_chi_cross.f (k : Nat) (l0 : List Int) (a1 : Int) (a2 : Int) (a3 : Int) (a4 : Int) : Option (Bool) := (impl_chi_split.f k l0 a1 a2 a3 a4).bind fun bt326 => (if 0 ≤ a1 then (if 0 ≤ a2 then (if 0 ≤ a3 then (if 0 ≤ a4 then (if bt326.1 = (Go.bits .or .i64 (shl .i64 1 a1) (shl .i64 1 a2)) then (if bt326.2 = (Go.bits .or .i64 (shl .i64 1 a3) (shl .i64 1 a4)) then (some true) else (if bt326.1 = (Go.bits .or .i64 (shl .i64 1 a3) (shl .i64 1 a4)) then (some (bt326.2 == (Go.bits .or .i64 (shl .i64 1 a1) (shl .i64 1 a2)))) else (some false))) else (if bt326.1 = (Go.bits .or .i64 (shl .i64 1 a3) (shl .i64 1 a4)) then (some (bt326.2 == (Go.bits .or .i64 (shl .i64 1 a1) (shl .i64 1 a2)))) else (some false))) else (none)) else (none)) else (none)) else (none))
theorem impl_chi_cross.mono : ∀ a0 a1 a2 a3 a4 k, LeO (impl_chi_cross.f k a0 a1 a2 a3 a4) (impl_chi_cross.f (k + 1) a0 a1 a2 a3 a4) := by
 intro a0 a1 a2 a3 a4 k
 unfold impl_chi_cross.f
 repeat' first
   | (with_reducible exact impl_chi_split.mono _ _ _ _ _ _)
   | (with_reducible exact LeO.refl _)
   | (with_reducible exact LeO.none _)
   | (with_reducible refine LeO.ite ?_ ?_)
   | (with_reducible refine LeO.bind ?_ (fun _ => ?_))
   | exact impl_chi_split.mono _ _ _ _ _ _
   | exact LeO.none _
   | refine LeO.ite ?_ ?_
   | refine LeO.bind ?_ (fun _ => ?_)
set_option maxHeartbeats 8000000 in
set_option maxRecDepth 100000 in
theorem impl_chi_cross.calls (k : Nat) (A0 : Option Addr) (c0 : Nat) (l0 : List Int) (a1 : Int) (a2 : Int) (a3 : Int) (a4 : Int) (r : Bool) (w : World) (hr0 : Kd.C (Kd.int .i64) w A0 l0.length l0) (hc0 : l0.length ≤ c0) (h : impl_chi_cross.f k l0 a1 a2 a3 a4 = some r) :
  Calls Try.prog 53 #[.pointer A0, .int .i64 a1, .int .i64 a2, .int .i64 a3, .int .i64 a4] w fun e w' => e = .returned (.bool r) ∧ Below w.heap.size w w' := by
 have HR0 := Aside0.mk hr0
 have HC0 := Aside0.mk hc0
 clear hr0 hc0
 have HB := Aside0.mk (Below.refl w.heap.size w)
 have H : ((impl_chi_split.f k l0 a1 a2 a3 a4).bind fun bt326 => (if 0 ≤ a1 then (if 0 ≤ a2 then (if 0 ≤ a3 then (if 0 ≤ a4 then (if bt326.1 = (Go.bits .or .i64 (shl .i64 1 a1) (shl .i64 1 a2)) then (if bt326.2 = (Go.bits .or .i64 (shl .i64 1 a3) (shl .i64 1 a4)) then (some true) else (if bt326.1 = (Go.bits .or .i64 (shl .i64 1 a3) (shl .i64 1 a4)) then (some (bt326.2 == (Go.bits .or .i64 (shl .i64 1 a1) (shl .i64 1 a2)))) else (some false))) else (if bt326.1 = (Go.bits .or .i64 (shl .i64 1 a3) (shl .i64 1 a4)) then (some (bt326.2 == (Go.bits .or .i64 (shl .i64 1 a1) (shl .i64 1 a2)))) else (some false))) else (none)) else (none)) else (none)) else (none))) = some r := h
 clear h
 replace H := Option.bind_eq_some_iff.mp H
 obtain ⟨⟨t326, t327⟩, A60, H⟩ := H
 (try dsimp only at H)
 have A6 := Aside0.mk A60
 clear A60
 by_cases c7 : 0 ≤ a1
 ·rw [if_pos c7] at H
  have c7b0 := eq_true c7
  have c7b1 : decide (0 ≤ a1) = true := decide_eq_true c7
  clear c7
  obtain ⟨ji8, hji8⟩ : ∃ j_ : Int, (shl .i64 1 a1) = j_ := ⟨_, rfl⟩
  replace H : (if 0 ≤ a2 then (if 0 ≤ a3 then (if 0 ≤ a4 then (if t326 = (Go.bits .or .i64 (ji8) (shl .i64 1 a2)) then (if t327 = (Go.bits .or .i64 (shl .i64 1 a3) (shl .i64 1 a4)) then (some true) else (if t326 = (Go.bits .or .i64 (shl .i64 1 a3) (shl .i64 1 a4)) then (some (t327 == (Go.bits .or .i64 (ji8) (shl .i64 1 a2)))) else (some false))) else (if t326 = (Go.bits .or .i64 (shl .i64 1 a3) (shl .i64 1 a4)) then (some (t327 == (Go.bits .or .i64 (ji8) (shl .i64 1 a2)))) else (some false))) else (none)) else (none)) else (none)) = some r := by first | (rw [hji8] at H; exact H) | (simp only [hji8] at H ⊢; exact H)
  (try rw [hji8] at A6)
  have hji8_ : (IntKind.i64.wrap (1 * 2 ^ min a1.toNat 64)) = ji8 := hji8
  have hji8z : a1 ≤ 64 → (IntKind.i64.wrap (1 * 2 ^ a1.toNat)) = ji8 := shl_small hji8
  have hji8u : (IntKind.i64.wrap (2 ^ min a1.toNat 64)) = ji8 := by have h_ := hji8_; rw [Int.one_mul] at h_; exact h_
  have hji8v : a1 ≤ 64 → (IntKind.i64.wrap (2 ^ a1.toNat)) = ji8 := fun hle_ => by have h_ := hji8z hle_; rw [Int.one_mul] at h_; exact h_
  have hji8y : (wrap64 (1 * 2 ^ min a1.toNat 64)) = ji8 := (i64_w _).symm.trans hji8_
  have hji8x : a1 ≤ 64 → (wrap64 (1 * 2 ^ a1.toNat)) = ji8 := fun h_ => (i64_w _).symm.trans (hji8z h_)
  by_cases c9 : 0 ≤ a2
  ·rw [if_pos c9] at H
   have c9b0 := eq_true c9
   have c9b1 : decide (0 ≤ a2) = true := decide_eq_true c9
   clear c9
   obtain ⟨ji10, hji10⟩ : ∃ j_ : Int, (shl .i64 1 a2) = j_ := ⟨_, rfl⟩
   replace H : (if 0 ≤ a3 then (if 0 ≤ a4 then (if t326 = (Go.bits .or .i64 (ji8) (ji10)) then (if t327 = (Go.bits .or .i64 (shl .i64 1 a3) (shl .i64 1 a4)) then (some true) else (if t326 = (Go.bits .or .i64 (shl .i64 1 a3) (shl .i64 1 a4)) then (some (t327 == (Go.bits .or .i64 (ji8) (ji10)))) else (some false))) else (if t326 = (Go.bits .or .i64 (shl .i64 1 a3) (shl .i64 1 a4)) then (some (t327 == (Go.bits .or .i64 (ji8) (ji10)))) else (some false))) else (none)) else (none)) = some r := by first | (rw [hji10] at H; exact H) | (simp only [hji10] at H ⊢; exact H)
   (try rw [hji10] at A6)
   have hji10_ : (IntKind.i64.wrap (1 * 2 ^ min a2.toNat 64)) = ji10 := hji10
   have hji10z : a2 ≤ 64 → (IntKind.i64.wrap (1 * 2 ^ a2.toNat)) = ji10 := shl_small hji10
   have hji10u : (IntKind.i64.wrap (2 ^ min a2.toNat 64)) = ji10 := by have h_ := hji10_; rw [Int.one_mul] at h_; exact h_
   have hji10v : a2 ≤ 64 → (IntKind.i64.wrap (2 ^ a2.toNat)) = ji10 := fun hle_ => by have h_ := hji10z hle_; rw [Int.one_mul] at h_; exact h_
   have hji10y : (wrap64 (1 * 2 ^ min a2.toNat 64)) = ji10 := (i64_w _).symm.trans hji10_
   have hji10x : a2 ≤ 64 → (wrap64 (1 * 2 ^ a2.toNat)) = ji10 := fun h_ => (i64_w _).symm.trans (hji10z h_)
   by_cases c11 : 0 ≤ a3
   ·rw [if_pos c11] at H
    have c11b0 := eq_true c11
    have c11b1 : decide (0 ≤ a3) = true := decide_eq_true c11
    clear c11
    obtain ⟨ji12, hji12⟩ : ∃ j_ : Int, (shl .i64 1 a3) = j_ := ⟨_, rfl⟩
    replace H : (if 0 ≤ a4 then (if t326 = (Go.bits .or .i64 (ji8) (ji10)) then (if t327 = (Go.bits .or .i64 (ji12) (shl .i64 1 a4)) then (some true) else (if t326 = (Go.bits .or .i64 (ji12) (shl .i64 1 a4)) then (some (t327 == (Go.bits .or .i64 (ji8) (ji10)))) else (some false))) else (if t326 = (Go.bits .or .i64 (ji12) (shl .i64 1 a4)) then (some (t327 == (Go.bits .or .i64 (ji8) (ji10)))) else (some false))) else (none)) = some r := by first | (rw [hji12] at H; exact H) | (simp only [hji12] at H ⊢; exact H)
    (try rw [hji12] at A6)
    have hji12_ : (IntKind.i64.wrap (1 * 2 ^ min a3.toNat 64)) = ji12 := hji12
    have hji12z : a3 ≤ 64 → (IntKind.i64.wrap (1 * 2 ^ a3.toNat)) = ji12 := shl_small hji12
    have hji12u : (IntKind.i64.wrap (2 ^ min a3.toNat 64)) = ji12 := by have h_ := hji12_; rw [Int.one_mul] at h_; exact h_
    have hji12v : a3 ≤ 64 → (IntKind.i64.wrap (2 ^ a3.toNat)) = ji12 := fun hle_ => by have h_ := hji12z hle_; rw [Int.one_mul] at h_; exact h_
    have hji12y : (wrap64 (1 * 2 ^ min a3.toNat 64)) = ji12 := (i64_w _).symm.trans hji12_
    have hji12x : a3 ≤ 64 → (wrap64 (1 * 2 ^ a3.toNat)) = ji12 := fun h_ => (i64_w _).symm.trans (hji12z h_)
    by_cases c13 : 0 ≤ a4
    ·rw [if_pos c13] at H
     have c13b0 := eq_true c13
     have c13b1 : decide (0 ≤ a4) = true := decide_eq_true c13
     clear c13
     obtain ⟨ji14, hji14⟩ : ∃ j_ : Int, (shl .i64 1 a4) = j_ := ⟨_, rfl⟩
     replace H : (if t326 = (Go.bits .or .i64 (ji8) (ji10)) then (if t327 = (Go.bits .or .i64 (ji12) (ji14)) then (some true) else (if t326 = (Go.bits .or .i64 (ji12) (ji14)) then (some (t327 == (Go.bits .or .i64 (ji8) (ji10)))) else (some false))) else (if t326 = (Go.bits .or .i64 (ji12) (ji14)) then (some (t327 == (Go.bits .or .i64 (ji8) (ji10)))) else (some false))) = some r := by first | (rw [hji14] at H; exact H) | (simp only [hji14] at H ⊢; exact H)
     (try rw [hji14] at A6)
     have hji14_ : (IntKind.i64.wrap (1 * 2 ^ min a4.toNat 64)) = ji14 := hji14
     have hji14z : a4 ≤ 64 → (IntKind.i64.wrap (1 * 2 ^ a4.toNat)) = ji14 := shl_small hji14
     have hji14u : (IntKind.i64.wrap (2 ^ min a4.toNat 64)) = ji14 := by have h_ := hji14_; rw [Int.one_mul] at h_; exact h_
     have hji14v : a4 ≤ 64 → (IntKind.i64.wrap (2 ^ a4.toNat)) = ji14 := fun hle_ => by have h_ := hji14z hle_; rw [Int.one_mul] at h_; exact h_
     have hji14y : (wrap64 (1 * 2 ^ min a4.toNat 64)) = ji14 := (i64_w _).symm.trans hji14_
     have hji14x : a4 ≤ 64 → (wrap64 (1 * 2 ^ a4.toNat)) = ji14 := fun h_ => (i64_w _).symm.trans (hji14z h_)
     by_cases c15 : t326 = (Go.bits .or .i64 (ji8) (ji10))
     ·rw [if_pos c15] at H
      have c15b0 : (t326 == (Go.bits .or .i64 (ji8) (ji10))) = true := beq_iff_eq.mpr c15
      have c15b1 : (t326 != (Go.bits .or .i64 (ji8) (ji10))) = false := bne_eq_false_iff_eq.mpr c15
      clear c15
      by_cases c16 : t327 = (Go.bits .or .i64 (ji12) (ji14))
      ·rw [if_pos c16] at H
       have c16b0 : (t327 == (Go.bits .or .i64 (ji12) (ji14))) = true := beq_iff_eq.mpr c16
       have c16b1 : (t327 != (Go.bits .or .i64 (ji12) (ji14))) = false := bne_eq_false_iff_eq.mpr c16
       clear c16
       obtain rfl := Option.some.inj H
       go_enter Try.func53, Try.ntmps53
       go_wp2_with (first | (go_at_call 87; (with_reducible refine (impl_chi_split.calls k _ c0 l0 a1 a2 a3 a4 t326 t327 _ ?side1 ?side2 A6.out).mono ?_); (case side1 => repeat (first | exact HR0.out | (with_reducible refine Kd.C_alloc ?_ _) | (with_reducible refine Kd.C_drewN ?_ _) | (with_reducible refine Kd.C_drew ?_))); (case side2 => exact HC0.out); rintro e w17 ⟨rfl, hb⟩; have n0_ := bs HB hb; clear HB; have HB := n0_; clear n0_; (try clear hb); (try clear hb2); (try clear hk); (try clear hi)))
       repeat (go_quiet (first | (go_at_call 87; (with_reducible refine (impl_chi_split.calls k _ c0 l0 a1 a2 a3 a4 t326 t327 _ ?side1 ?side2 A6.out).mono ?_); (case side1 => repeat (first | exact HR0.out | (with_reducible refine Kd.C_alloc ?_ _) | (with_reducible refine Kd.C_drewN ?_ _) | (with_reducible refine Kd.C_drew ?_))); (case side2 => exact HC0.out); rintro e w17 ⟨rfl, hb⟩; have n0_ := bs HB hb; clear HB; have HB := n0_; clear n0_; (try clear hb); (try clear hb2); (try clear hk); (try clear hi))); try go_wp2_with (first | (go_at_call 87; (with_reducible refine (impl_chi_split.calls k _ c0 l0 a1 a2 a3 a4 t326 t327 _ ?side1 ?side2 A6.out).mono ?_); (case side1 => repeat (first | exact HR0.out | (with_reducible refine Kd.C_alloc ?_ _) | (with_reducible refine Kd.C_drewN ?_ _) | (with_reducible refine Kd.C_drew ?_))); (case side2 => exact HC0.out); rintro e w17 ⟨rfl, hb⟩; have n0_ := bs HB hb; clear HB; have HB := n0_; clear n0_; (try clear hb); (try clear hb2); (try clear hk); (try clear hi))))
       go_ret
       exact ⟨by first | rfl | (simp [errW_none, errW_some] <;> rfl) | (simp only [← hji8, ← hji10, ← hji12, ← hji14]; first | rfl | (simp [errW_none, errW_some] <;> rfl)) | (simp [*, errW_none, errW_some] <;> rfl), (bl HB)⟩
      ·rw [if_neg c16] at H
       have c16b0 : (t327 == (Go.bits .or .i64 (ji12) (ji14))) = false := beq_eq_false_iff_ne.mpr c16
       have c16b1 : (t327 != (Go.bits .or .i64 (ji12) (ji14))) = true := bne_iff_ne.mpr c16
       by_cases c18 : t326 = (Go.bits .or .i64 (ji12) (ji14))
       ·rw [if_pos c18] at H
        have c18b0 : (t326 == (Go.bits .or .i64 (ji12) (ji14))) = true := beq_iff_eq.mpr c18
        have c18b1 : (t326 != (Go.bits .or .i64 (ji12) (ji14))) = false := bne_eq_false_iff_eq.mpr c18
        clear c18
        obtain rfl := Option.some.inj H
        go_enter Try.func53, Try.ntmps53
        go_wp2_with (first | (go_at_call 87; (with_reducible refine (impl_chi_split.calls k _ c0 l0 a1 a2 a3 a4 t326 t327 _ ?side1 ?side2 A6.out).mono ?_); (case side1 => repeat (first | exact HR0.out | (with_reducible refine Kd.C_alloc ?_ _) | (with_reducible refine Kd.C_drewN ?_ _) | (with_reducible refine Kd.C_drew ?_))); (case side2 => exact HC0.out); rintro e w19 ⟨rfl, hb⟩; have n0_ := bs HB hb; clear HB; have HB := n0_; clear n0_; (try clear hb); (try clear hb2); (try clear hk); (try clear hi)))
        repeat (go_quiet (first | (go_at_call 87; (with_reducible refine (impl_chi_split.calls k _ c0 l0 a1 a2 a3 a4 t326 t327 _ ?side1 ?side2 A6.out).mono ?_); (case side1 => repeat (first | exact HR0.out | (with_reducible refine Kd.C_alloc ?_ _) | (with_reducible refine Kd.C_drewN ?_ _) | (with_reducible refine Kd.C_drew ?_))); (case side2 => exact HC0.out); rintro e w19 ⟨rfl, hb⟩; have n0_ := bs HB hb; clear HB; have HB := n0_; clear n0_; (try clear hb); (try clear hb2); (try clear hk); (try clear hi))); try go_wp2_with (first | (go_at_call 87; (with_reducible refine (impl_chi_split.calls k _ c0 l0 a1 a2 a3 a4 t326 t327 _ ?side1 ?side2 A6.out).mono ?_); (case side1 => repeat (first | exact HR0.out | (with_reducible refine Kd.C_alloc ?_ _) | (with_reducible refine Kd.C_drewN ?_ _) | (with_reducible refine Kd.C_drew ?_))); (case side2 => exact HC0.out); rintro e w19 ⟨rfl, hb⟩; have n0_ := bs HB hb; clear HB; have HB := n0_; clear n0_; (try clear hb); (try clear hb2); (try clear hk); (try clear hi))))
        go_ret
        exact ⟨by first | rfl | (simp [errW_none, errW_some] <;> rfl) | (simp only [← hji8, ← hji10, ← hji12, ← hji14]; first | rfl | (simp [errW_none, errW_some] <;> rfl)) | (simp [*, errW_none, errW_some] <;> rfl), (bl HB)⟩
       ·rw [if_neg c18] at H
        have c18b0 : (t326 == (Go.bits .or .i64 (ji12) (ji14))) = false := beq_eq_false_iff_ne.mpr c18
        have c18b1 : (t326 != (Go.bits .or .i64 (ji12) (ji14))) = true := bne_iff_ne.mpr c18
        obtain rfl := Option.some.inj H
        go_enter Try.func53, Try.ntmps53
        go_wp2_with (first | (go_at_call 87; (with_reducible refine (impl_chi_split.calls k _ c0 l0 a1 a2 a3 a4 t326 t327 _ ?side1 ?side2 A6.out).mono ?_); (case side1 => repeat (first | exact HR0.out | (with_reducible refine Kd.C_alloc ?_ _) | (with_reducible refine Kd.C_drewN ?_ _) | (with_reducible refine Kd.C_drew ?_))); (case side2 => exact HC0.out); rintro e w20 ⟨rfl, hb⟩; have n0_ := bs HB hb; clear HB; have HB := n0_; clear n0_; (try clear hb); (try clear hb2); (try clear hk); (try clear hi)))
        repeat (go_quiet (first | (go_at_call 87; (with_reducible refine (impl_chi_split.calls k _ c0 l0 a1 a2 a3 a4 t326 t327 _ ?side1 ?side2 A6.out).mono ?_); (case side1 => repeat (first | exact HR0.out | (with_reducible refine Kd.C_alloc ?_ _) | (with_reducible refine Kd.C_drewN ?_ _) | (with_reducible refine Kd.C_drew ?_))); (case side2 => exact HC0.out); rintro e w20 ⟨rfl, hb⟩; have n0_ := bs HB hb; clear HB; have HB := n0_; clear n0_; (try clear hb); (try clear hb2); (try clear hk); (try clear hi))); try go_wp2_with (first | (go_at_call 87; (with_reducible refine (impl_chi_split.calls k _ c0 l0 a1 a2 a3 a4 t326 t327 _ ?side1 ?side2 A6.out).mono ?_); (case side1 => repeat (first | exact HR0.out | (with_reducible refine Kd.C_alloc ?_ _) | (with_reducible refine Kd.C_drewN ?_ _) | (with_reducible refine Kd.C_drew ?_))); (case side2 => exact HC0.out); rintro e w20 ⟨rfl, hb⟩; have n0_ := bs HB hb; clear HB; have HB := n0_; clear n0_; (try clear hb); (try clear hb2); (try clear hk); (try clear hi))))
        go_ret
        exact ⟨by first | rfl | (simp [errW_none, errW_some] <;> rfl) | (simp only [← hji8, ← hji10, ← hji12, ← hji14]; first | rfl | (simp [errW_none, errW_some] <;> rfl)) | (simp [*, errW_none, errW_some] <;> rfl), (bl HB)⟩
     ·rw [if_neg c15] at H
      have c15b0 : (t326 == (Go.bits .or .i64 (ji8) (ji10))) = false := beq_eq_false_iff_ne.mpr c15
      have c15b1 : (t326 != (Go.bits .or .i64 (ji8) (ji10))) = true := bne_iff_ne.mpr c15
      by_cases c21 : t326 = (Go.bits .or .i64 (ji12) (ji14))
      ·rw [if_pos c21] at H
       have c21b0 : (t326 == (Go.bits .or .i64 (ji12) (ji14))) = true := beq_iff_eq.mpr c21
       have c21b1 : (t326 != (Go.bits .or .i64 (ji12) (ji14))) = false := bne_eq_false_iff_eq.mpr c21
       clear c21
       obtain rfl := Option.some.inj H
       go_enter Try.func53, Try.ntmps53
       go_wp2_with (first | (go_at_call 87; (with_reducible refine (impl_chi_split.calls k _ c0 l0 a1 a2 a3 a4 t326 t327 _ ?side1 ?side2 A6.out).mono ?_); (case side1 => repeat (first | exact HR0.out | (with_reducible refine Kd.C_alloc ?_ _) | (with_reducible refine Kd.C_drewN ?_ _) | (with_reducible refine Kd.C_drew ?_))); (case side2 => exact HC0.out); rintro e w22 ⟨rfl, hb⟩; have n0_ := bs HB hb; clear HB; have HB := n0_; clear n0_; (try clear hb); (try clear hb2); (try clear hk); (try clear hi)))
       repeat (go_quiet (first | (go_at_call 87; (with_reducible refine (impl_chi_split.calls k _ c0 l0 a1 a2 a3 a4 t326 t327 _ ?side1 ?side2 A6.out).mono ?_); (case side1 => repeat (first | exact HR0.out | (with_reducible refine Kd.C_alloc ?_ _) | (with_reducible refine Kd.C_drewN ?_ _) | (with_reducible refine Kd.C_drew ?_))); (case side2 => exact HC0.out); rintro e w22 ⟨rfl, hb⟩; have n0_ := bs HB hb; clear HB; have HB := n0_; clear n0_; (try clear hb); (try clear hb2); (try clear hk); (try clear hi))); try go_wp2_with (first | (go_at_call 87; (with_reducible refine (impl_chi_split.calls k _ c0 l0 a1 a2 a3 a4 t326 t327 _ ?side1 ?side2 A6.out).mono ?_); (case side1 => repeat (first | exact HR0.out | (with_reducible refine Kd.C_alloc ?_ _) | (with_reducible refine Kd.C_drewN ?_ _) | (with_reducible refine Kd.C_drew ?_))); (case side2 => exact HC0.out); rintro e w22 ⟨rfl, hb⟩; have n0_ := bs HB hb; clear HB; have HB := n0_; clear n0_; (try clear hb); (try clear hb2); (try clear hk); (try clear hi))))
       go_ret
       exact ⟨by first | rfl | (simp [errW_none, errW_some] <;> rfl) | (simp only [← hji8, ← hji10, ← hji12, ← hji14]; first | rfl | (simp [errW_none, errW_some] <;> rfl)) | (simp [*, errW_none, errW_some] <;> rfl), (bl HB)⟩
      ·rw [if_neg c21] at H
       have c21b0 : (t326 == (Go.bits .or .i64 (ji12) (ji14))) = false := beq_eq_false_iff_ne.mpr c21
       have c21b1 : (t326 != (Go.bits .or .i64 (ji12) (ji14))) = true := bne_iff_ne.mpr c21
       obtain rfl := Option.some.inj H
       go_enter Try.func53, Try.ntmps53
       go_wp2_with (first | (go_at_call 87; (with_reducible refine (impl_chi_split.calls k _ c0 l0 a1 a2 a3 a4 t326 t327 _ ?side1 ?side2 A6.out).mono ?_); (case side1 => repeat (first | exact HR0.out | (with_reducible refine Kd.C_alloc ?_ _) | (with_reducible refine Kd.C_drewN ?_ _) | (with_reducible refine Kd.C_drew ?_))); (case side2 => exact HC0.out); rintro e w23 ⟨rfl, hb⟩; have n0_ := bs HB hb; clear HB; have HB := n0_; clear n0_; (try clear hb); (try clear hb2); (try clear hk); (try clear hi)))
       repeat (go_quiet (first | (go_at_call 87; (with_reducible refine (impl_chi_split.calls k _ c0 l0 a1 a2 a3 a4 t326 t327 _ ?side1 ?side2 A6.out).mono ?_); (case side1 => repeat (first | exact HR0.out | (with_reducible refine Kd.C_alloc ?_ _) | (with_reducible refine Kd.C_drewN ?_ _) | (with_reducible refine Kd.C_drew ?_))); (case side2 => exact HC0.out); rintro e w23 ⟨rfl, hb⟩; have n0_ := bs HB hb; clear HB; have HB := n0_; clear n0_; (try clear hb); (try clear hb2); (try clear hk); (try clear hi))); try go_wp2_with (first | (go_at_call 87; (with_reducible refine (impl_chi_split.calls k _ c0 l0 a1 a2 a3 a4 t326 t327 _ ?side1 ?side2 A6.out).mono ?_); (case side1 => repeat (first | exact HR0.out | (with_reducible refine Kd.C_alloc ?_ _) | (with_reducible refine Kd.C_drewN ?_ _) | (with_reducible refine Kd.C_drew ?_))); (case side2 => exact HC0.out); rintro e w23 ⟨rfl, hb⟩; have n0_ := bs HB hb; clear HB; have HB := n0_; clear n0_; (try clear hb); (try clear hb2); (try clear hk); (try clear hi))))
       go_ret
       exact ⟨by first | rfl | (simp [errW_none, errW_some] <;> rfl) | (simp only [← hji8, ← hji10, ← hji12, ← hji14]; first | rfl | (simp [errW_none, errW_some] <;> rfl)) | (simp [*, errW_none, errW_some] <;> rfl), (bl HB)⟩
    ·rw [if_neg c13] at H
     exact absurd H (by simp)
   ·rw [if_neg c11] at H
    exact absurd H (by simp)
  ·rw [if_neg c9] at H
   exact absurd H (by simp)
 ·rw [if_neg c7] at H
  exact absurd H (by simp)

end Go.Proofs.Ytjjfjdejhddcnaa.P
