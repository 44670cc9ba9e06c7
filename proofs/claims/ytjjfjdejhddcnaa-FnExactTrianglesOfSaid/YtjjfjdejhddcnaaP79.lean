-- Printed by a program of this session (wip/tools/myprint.py, over the kit's print.py); not trusted: Lean checks it.
import Derived.Test.YtjjfjdejhddcnaaP0
import Derived.Test.YtjjfjdejhddcnaaP116
namespace Go.Proofs.Ytjjfjdejhddcnaa.P
open Go.RowKit Go.Proofs.YtjjfjdejhddcnaaW.PrintWords Go.Proofs.YtjjfjdejhddcnaaW.PrintLast Go.Proofs.YtjjfjdejhddcnaaW.PrintMore
attribute [local go_sem] max2_int min2_int max_two min_two max_three min_three max_four min_four   -- for this text's walks alone
set_option linter.unusedVariables false
set_option linter.unusedSimpArgs false

attribute [local go_sem] Go.Proofs.Try.underlying74 Go.Proofs.Try.underlying75 Go.Proofs.Try.underlying76 Go.Proofs.Try.underlying78
/-! ### impl_chi_countInside: function 79 -/
def impl_chi_countInside.l0 : Nat → List Int → Int → Int → Int → Int → Int → Option (Int)
 | 0, _, _, _, _, _, _ => none
 | k + 1, x0, x1, x2, x3, x9, x10 => if 344 ≤ (x0.length : Int) then (if x10 < (rd x0 0) then (if x10 = x1 then (impl_chi_countInside.l0 k x0 x1 x2 x3 x9 (wrap64 (x10 + 1))) else (if x10 = x2 then (impl_chi_countInside.l0 k x0 x1 x2 x3 x9 (wrap64 (x10 + 1))) else (if x10 = x3 then (impl_chi_countInside.l0 k x0 x1 x2 x3 x9 (wrap64 (x10 + 1))) else ((impl_chi_isInside.f k x0 x10 x1 x2 x3).bind fun t701 => (if t701 = true then (impl_chi_countInside.l0 k x0 x1 x2 x3 (wrap64 (x9 + 1)) (wrap64 (x10 + 1))) else (impl_chi_countInside.l0 k x0 x1 x2 x3 x9 (wrap64 (x10 + 1)))))))) else (some x9)) else (none)
def impl_chi_countInside.f (k : Nat) (l0 : List Int) (a1 : Int) (a2 : Int) (a3 : Int) : Option (Int) := impl_chi_countInside.l0 k l0 a1 a2 a3 0 0
theorem impl_chi_countInside.mono_l : ∀ k, (∀ y0 y1 y2 y3 y4 y5, LeO (impl_chi_countInside.l0 k y0 y1 y2 y3 y4 y5) (impl_chi_countInside.l0 (k + 1) y0 y1 y2 y3 y4 y5))
 | 0 => fun _ _ _ _ _ _ r h => by simp [impl_chi_countInside.l0] at h
 | k + 1 => by
  have ih0 := impl_chi_countInside.mono_l k
  ·intro y0 y1 y2 y3 y4 y5
   unfold impl_chi_countInside.l0
   repeat' first
   | (with_reducible exact ih0 _ _ _ _ _ _)
   | (with_reducible exact impl_chi_isInside.mono _ _ _ _ _ _)
   | (with_reducible exact LeO.refl _)
   | (with_reducible exact LeO.none _)
   | (with_reducible refine LeO.ite ?_ ?_)
   | (with_reducible refine LeO.bind ?_ (fun _ => ?_))
   | exact ih0 _ _ _ _ _ _
   | exact impl_chi_isInside.mono _ _ _ _ _ _
   | exact LeO.none _
   | refine LeO.ite ?_ ?_
   | refine LeO.bind ?_ (fun _ => ?_)
theorem impl_chi_countInside.mono : ∀ a0 a1 a2 a3 k, LeO (impl_chi_countInside.f k a0 a1 a2 a3) (impl_chi_countInside.f (k + 1) a0 a1 a2 a3) := by
 intro a0 a1 a2 a3 k
 have ih0 := impl_chi_countInside.mono_l k
 unfold impl_chi_countInside.f
 repeat' first
   | (with_reducible exact ih0 _ _ _ _ _ _)
   | (with_reducible exact impl_chi_isInside.mono _ _ _ _ _ _)
   | (with_reducible exact LeO.refl _)
   | (with_reducible exact LeO.none _)
   | (with_reducible refine LeO.ite ?_ ?_)
   | (with_reducible refine LeO.bind ?_ (fun _ => ?_))
   | exact ih0 _ _ _ _ _ _
   | exact impl_chi_isInside.mono _ _ _ _ _ _
   | exact LeO.none _
   | refine LeO.ite ?_ ?_
   | refine LeO.bind ?_ (fun _ => ?_)
set_option maxHeartbeats 8000000 in
set_option maxRecDepth 100000 in
theorem impl_chi_countInside.calls (k : Nat) (A0 : Option Addr) (c0 : Nat) (l0 : List Int) (a1 : Int) (a2 : Int) (a3 : Int) (r : Int) (w : World) (hr0 : Kd.C (Kd.int .i64) w A0 l0.length l0) (hc0 : l0.length ≤ c0) (h : impl_chi_countInside.f k l0 a1 a2 a3 = some r) :
  Calls Try.prog 79 #[.pointer A0, .int .i64 a1, .int .i64 a2, .int .i64 a3] w fun e w' => e = .returned (.int .i64 r) ∧ Below w.heap.size w w' := by
 have HR0 := Aside0.mk hr0
 have HC0 := Aside0.mk hc0
 clear hr0 hc0
 have HB := Aside0.mk (Below.refl w.heap.size w)
 have H : (impl_chi_countInside.l0 k l0 a1 a2 a3 0 0) = some r := h
 clear h
 have H' := Aside0.mk H
 clear H
 go_enter Try.func79, Try.ntmps79
 go_wp2
 go_loopg [9, 10] k (fun kq v9 v10 w' => ∃ (x9_1 : Int) (x10_1 : Int), v9 = .int .i64 x9_1 ∧ v10 = .int .i64 x10_1 ∧ Aside0 (impl_chi_countInside.l0 kq l0 a1 a2 a3 x9_1 x10_1 = some r) ∧ Aside0 (kq ≤ k) ∧ Aside0 (Below w.heap.size w w'))
 case atStart => exact ⟨(0), (0), (by first | rfl | (simp; done) | (simp [*]; done)), (by first | rfl | (simp; done) | (simp [*]; done)), H', ⟨Nat.le_refl _⟩, ⟨(bl HB)⟩⟩
 case round =>
  clear H'
  try clear p2
  obtain ⟨x9_1, x10_1, rfl, rfl, HA, HK1, HB⟩ := hrel
  cases gk with
  | zero => exact absurd HA.out (by simp [impl_chi_countInside.l0])
  | succ k1 =>
   have H := HA.out
   clear HA
   simp only [impl_chi_countInside.l0] at H
   by_cases c5 : 344 ≤ (l0.length : Int)
   ·rw [if_pos c5] at H
    have c5b0 := eq_true c5
    have c5b1 : decide (344 ≤ (l0.length : Int)) = true := decide_eq_true c5
    clear c5
    by_cases c6 : x10_1 < (rd l0 0)
    ·rw [if_pos c6] at H
     have c6b0 : decide (x10_1 < (rd l0 0)) = true := decide_eq_true c6
     clear c6
     by_cases c7 : x10_1 = a1
     ·rw [if_pos c7] at H
      have c7b0 : (x10_1 == a1) = true := beq_iff_eq.mpr c7
      have c7b1 : (x10_1 != a1) = false := bne_eq_false_iff_eq.mpr c7
      clear c7
      have H' := Aside0.mk H
      clear H
      have cl700 : (344 : Int) ≤ (l0.length : Int) := of_decide_eq_true (by first | (with_reducible assumption) | assumption)
      have p700 : 0 ≤ (0 : Int) := (by omega)
      have q700 : 0 < (l0.length : Int) := (by omega)
      obtain ⟨ad700, e700, hx700_0⟩ := Kd.at_int HR0.out 0 p700 q700
      cases e700
      have qi700 : (0 < l0.length) = True := eq_true (by omega)
      (try rw [show ((0 : Int)).toNat = 0 from rfl] at hx700_0)
      (try rw [Addr.add_zero'] at hx700_0)
      replace hx700_0 := (HB.out.cell (World.block_lt_of_cell? w _ hx700_0)).trans hx700_0
      replace p700 := eq_true p700
      replace q700 := eq_true q700
      go_wp2
      go_roundg k1
      case measure => have := HK1.out; omega
      case rel => exact ⟨(x9_1), (wrap64 (x10_1 + 1)), (by first | rfl | (simp; done) | (simp [*]; done)), (by first | rfl | (simp; done) | (simp [*]; done)), H', ⟨by have := HK1.out; omega⟩, ⟨(bl HB)⟩⟩
     ·rw [if_neg c7] at H
      have c7b0 : (x10_1 == a1) = false := beq_eq_false_iff_ne.mpr c7
      have c7b1 : (x10_1 != a1) = true := bne_iff_ne.mpr c7
      by_cases c8 : x10_1 = a2
      ·rw [if_pos c8] at H
       have c8b0 : (x10_1 == a2) = true := beq_iff_eq.mpr c8
       have c8b1 : (x10_1 != a2) = false := bne_eq_false_iff_eq.mpr c8
       clear c8
       have H' := Aside0.mk H
       clear H
       have cl700 : (344 : Int) ≤ (l0.length : Int) := of_decide_eq_true (by first | (with_reducible assumption) | assumption)
       have p700 : 0 ≤ (0 : Int) := (by omega)
       have q700 : 0 < (l0.length : Int) := (by omega)
       obtain ⟨ad700, e700, hx700_0⟩ := Kd.at_int HR0.out 0 p700 q700
       cases e700
       have qi700 : (0 < l0.length) = True := eq_true (by omega)
       (try rw [show ((0 : Int)).toNat = 0 from rfl] at hx700_0)
       (try rw [Addr.add_zero'] at hx700_0)
       replace hx700_0 := (HB.out.cell (World.block_lt_of_cell? w _ hx700_0)).trans hx700_0
       replace p700 := eq_true p700
       replace q700 := eq_true q700
       go_wp2
       go_roundg k1
       case measure => have := HK1.out; omega
       case rel => exact ⟨(x9_1), (wrap64 (x10_1 + 1)), (by first | rfl | (simp; done) | (simp [*]; done)), (by first | rfl | (simp; done) | (simp [*]; done)), H', ⟨by have := HK1.out; omega⟩, ⟨(bl HB)⟩⟩
      ·rw [if_neg c8] at H
       have c8b0 : (x10_1 == a2) = false := beq_eq_false_iff_ne.mpr c8
       have c8b1 : (x10_1 != a2) = true := bne_iff_ne.mpr c8
       by_cases c9 : x10_1 = a3
       ·rw [if_pos c9] at H
        have c9b0 : (x10_1 == a3) = true := beq_iff_eq.mpr c9
        have c9b1 : (x10_1 != a3) = false := bne_eq_false_iff_eq.mpr c9
        clear c9
        have H' := Aside0.mk H
        clear H
        have cl700 : (344 : Int) ≤ (l0.length : Int) := of_decide_eq_true (by first | (with_reducible assumption) | assumption)
        have p700 : 0 ≤ (0 : Int) := (by omega)
        have q700 : 0 < (l0.length : Int) := (by omega)
        obtain ⟨ad700, e700, hx700_0⟩ := Kd.at_int HR0.out 0 p700 q700
        cases e700
        have qi700 : (0 < l0.length) = True := eq_true (by omega)
        (try rw [show ((0 : Int)).toNat = 0 from rfl] at hx700_0)
        (try rw [Addr.add_zero'] at hx700_0)
        replace hx700_0 := (HB.out.cell (World.block_lt_of_cell? w _ hx700_0)).trans hx700_0
        replace p700 := eq_true p700
        replace q700 := eq_true q700
        go_wp2
        go_roundg k1
        case measure => have := HK1.out; omega
        case rel => exact ⟨(x9_1), (wrap64 (x10_1 + 1)), (by first | rfl | (simp; done) | (simp [*]; done)), (by first | rfl | (simp; done) | (simp [*]; done)), H', ⟨by have := HK1.out; omega⟩, ⟨(bl HB)⟩⟩
       ·rw [if_neg c9] at H
        have c9b0 : (x10_1 == a3) = false := beq_eq_false_iff_ne.mpr c9
        have c9b1 : (x10_1 != a3) = true := bne_iff_ne.mpr c9
        replace H := Option.bind_eq_some_iff.mp H
        obtain ⟨t701, A100, H⟩ := H
        (try dsimp only at H)
        have A10 := Aside0.mk A100
        clear A100
        by_cases c11 : t701 = true
        ·subst c11
         have H1 : (impl_chi_countInside.l0 k1 l0 a1 a2 a3 (wrap64 (x9_1 + 1)) (wrap64 (x10_1 + 1))) = some r := by rw [if_pos rfl] at H; exact H
         clear H
         have H := H1
         clear H1
         have H' := Aside0.mk H
         clear H
         have cl700 : (344 : Int) ≤ (l0.length : Int) := of_decide_eq_true (by first | (with_reducible assumption) | assumption)
         have p700 : 0 ≤ (0 : Int) := (by omega)
         have q700 : 0 < (l0.length : Int) := (by omega)
         obtain ⟨ad700, e700, hx700_0⟩ := Kd.at_int HR0.out 0 p700 q700
         cases e700
         have qi700 : (0 < l0.length) = True := eq_true (by omega)
         (try rw [show ((0 : Int)).toNat = 0 from rfl] at hx700_0)
         (try rw [Addr.add_zero'] at hx700_0)
         replace hx700_0 := (HB.out.cell (World.block_lt_of_cell? w _ hx700_0)).trans hx700_0
         replace p700 := eq_true p700
         replace q700 := eq_true q700
         go_wp2_with (first | (go_at_call 100; (with_reducible refine (impl_chi_isInside.calls k1 _ c0 l0 x10_1 a1 a2 a3 true _ ?side1 ?side2 A10.out).mono ?_); (case side1 => repeat (first | exact (Kd.C_below HR0.out HB.out) | (with_reducible refine Kd.C_alloc ?_ _) | (with_reducible refine Kd.C_drewN ?_ _) | (with_reducible refine Kd.C_drew ?_))); (case side2 => exact HC0.out); rintro e w12 ⟨rfl, hb⟩; have n0_ := bs HB hb; clear HB; have HB := n0_; clear n0_; (try clear hb); (try clear hb2); (try clear hk); (try clear hi)))
         go_roundg k1
         case measure => have := HK1.out; omega
         case rel => exact ⟨(wrap64 (x9_1 + 1)), (wrap64 (x10_1 + 1)), (by first | rfl | (simp; done) | (simp [*]; done)), (by first | rfl | (simp; done) | (simp [*]; done)), H', ⟨by have := HK1.out; omega⟩, ⟨(bl HB)⟩⟩
        ·replace c11 := Bool.eq_false_iff.mpr c11
         subst c11
         have H1 : (impl_chi_countInside.l0 k1 l0 a1 a2 a3 x9_1 (wrap64 (x10_1 + 1))) = some r := by rw [if_neg (show ¬ (false = true) by decide)] at H; exact H
         clear H
         have H := H1
         clear H1
         have H' := Aside0.mk H
         clear H
         have cl700 : (344 : Int) ≤ (l0.length : Int) := of_decide_eq_true (by first | (with_reducible assumption) | assumption)
         have p700 : 0 ≤ (0 : Int) := (by omega)
         have q700 : 0 < (l0.length : Int) := (by omega)
         obtain ⟨ad700, e700, hx700_0⟩ := Kd.at_int HR0.out 0 p700 q700
         cases e700
         have qi700 : (0 < l0.length) = True := eq_true (by omega)
         (try rw [show ((0 : Int)).toNat = 0 from rfl] at hx700_0)
         (try rw [Addr.add_zero'] at hx700_0)
         replace hx700_0 := (HB.out.cell (World.block_lt_of_cell? w _ hx700_0)).trans hx700_0
         replace p700 := eq_true p700
         replace q700 := eq_true q700
         go_wp2_with (first | (go_at_call 100; (with_reducible refine (impl_chi_isInside.calls k1 _ c0 l0 x10_1 a1 a2 a3 false _ ?side1 ?side2 A10.out).mono ?_); (case side1 => repeat (first | exact (Kd.C_below HR0.out HB.out) | (with_reducible refine Kd.C_alloc ?_ _) | (with_reducible refine Kd.C_drewN ?_ _) | (with_reducible refine Kd.C_drew ?_))); (case side2 => exact HC0.out); rintro e w13 ⟨rfl, hb⟩; have n0_ := bs HB hb; clear HB; have HB := n0_; clear n0_; (try clear hb); (try clear hb2); (try clear hk); (try clear hi)))
         go_roundg k1
         case measure => have := HK1.out; omega
         case rel => exact ⟨(x9_1), (wrap64 (x10_1 + 1)), (by first | rfl | (simp; done) | (simp [*]; done)), (by first | rfl | (simp; done) | (simp [*]; done)), H', ⟨by have := HK1.out; omega⟩, ⟨(bl HB)⟩⟩
    ·rw [if_neg c6] at H
     have c6b0 : decide (x10_1 < (rd l0 0)) = false := decide_eq_false c6
     clear c6
     obtain rfl := Option.some.inj H
     have cl700 : (344 : Int) ≤ (l0.length : Int) := of_decide_eq_true (by first | (with_reducible assumption) | assumption)
     have p700 : 0 ≤ (0 : Int) := (by omega)
     have q700 : 0 < (l0.length : Int) := (by omega)
     obtain ⟨ad700, e700, hx700_0⟩ := Kd.at_int HR0.out 0 p700 q700
     cases e700
     have qi700 : (0 < l0.length) = True := eq_true (by omega)
     (try rw [show ((0 : Int)).toNat = 0 from rfl] at hx700_0)
     (try rw [Addr.add_zero'] at hx700_0)
     replace hx700_0 := (HB.out.cell (World.block_lt_of_cell? w _ hx700_0)).trans hx700_0
     replace p700 := eq_true p700
     replace q700 := eq_true q700
     go_wp2
     go_ret
     exact ⟨by first | rfl | (simp [errW_none, errW_some] <;> rfl) | (simp [*, errW_none, errW_some] <;> rfl), (bl HB)⟩
   ·rw [if_neg c5] at H
    exact absurd H (by simp)

end Go.Proofs.Ytjjfjdejhddcnaa.P
