-- Printed by a program of this session (wip/tools/myprint.py, over the kit's print.py); not trusted: Lean checks it.
import Derived.Test.YtiimkifkakdalaaWAll2
import Derived.Test.YtiimkifkakdalaaP0
import Derived.Test.YtiimkifkakdalaaP108
import Derived.Test.YtiimkifkakdalaaP77
namespace Go.Proofs.Ytiimkifkakdalaa.P
open Go.RowKit Go.Proofs.YtiimkifkakdalaaW.PrintWords Go.Proofs.YtiimkifkakdalaaW.PrintLast Go.Proofs.YtiimkifkakdalaaW.PrintMore
attribute [local go_sem] max2_int min2_int max_two min_two max_three min_three max_four min_four   -- for this text's walks alone
set_option linter.unusedVariables false
set_option linter.unusedSimpArgs false

/-! ### spec_FlipDistance: function 25 -/
mutual
def spec_FlipDistance.j0 : Nat → Int → Int → Bool → Int → ByteArray → Option (Int)
 | 0, _, _, _, _, _ => none
 | k + 1, x1, x2, x24, x618000, x618001 => if x24 = true then (some (-1)) else ((spec_l10Pairs.f k x618000 x618001).bind fun t620 => (spec_FlipDistance.l0 k x2 t620 (([x1] : List Int)) (([0] : List Int)) 0))
def spec_FlipDistance.l0 : Nat → Int → List Int → List Int → List Int → Int → Option (Int)
 | 0, _, _, _, _, _ => none
 | k + 1, x2, x7, x8, x9, x10 => if x10 < (x8.length : Int) then (if 0 ≤ x10 then (if (rd x8 x10) = x2 then (if x10 < (x9.length : Int) then (some (rd x9 x10)) else (none)) else ((spec_l10Flips.f k x7 (rd x8 x10)).bind fun t632 => (spec_FlipDistance.l1 k x2 x7 x8 x9 x10 t632 0))) else (none)) else (some (-1))
def spec_FlipDistance.l1 : Nat → Int → List Int → List Int → List Int → Int → List Int → Int → Option (Int)
 | 0, _, _, _, _, _, _, _ => none
 | k + 1, x2, x7, x8, x9, x10, x11, x12 => if x12 < (x11.length : Int) then (spec_FlipDistance.l2 k x2 x7 x8 x9 x10 x11 x12 false 0) else (spec_FlipDistance.l0 k x2 x7 x8 x9 (wrap64 (x10 + 1)))
def spec_FlipDistance.l2 : Nat → Int → List Int → List Int → List Int → Int → List Int → Int → Bool → Int → Option (Int)
 | 0, _, _, _, _, _, _, _, _, _ => none
 | k + 1, x2, x7, x8, x9, x10, x11, x12, x13, x14 => if x14 < (x8.length : Int) then (if x13 = true then (spec_FlipDistance.l2 k x2 x7 x8 x9 x10 x11 x12 true (wrap64 (x14 + 1))) else (if 0 ≤ x14 then (if 0 ≤ x12 then (if x12 < (x11.length : Int) then (spec_FlipDistance.l2 k x2 x7 x8 x9 x10 x11 x12 ((rd x8 x14) == (rd x11 x12)) (wrap64 (x14 + 1))) else (none)) else (none)) else (none))) else (if x13 = true then (spec_FlipDistance.l1 k x2 x7 x8 x9 x10 x11 (wrap64 (x12 + 1))) else (if 0 ≤ x12 then (if x12 < (x11.length : Int) then (if x8.length < 17592186044416 then (if 0 ≤ x10 then (if x10 < (x9.length : Int) then (if x9.length < 17592186044416 then (spec_FlipDistance.l1 k x2 x7 (x8 ++ [rd x11 x12]) (x9 ++ [wrap64 ((rd x9 x10) + 1)]) x10 x11 (wrap64 (x12 + 1))) else (none)) else (none)) else (none)) else (none)) else (none)) else (none)))
end
def spec_FlipDistance.f (k : Nat) (a0_0 : Int) (a0_1 : ByteArray) (a1 : Int) (a2 : Int) : Option (Int) := (spec_IsTriangulation.f k a0_0 a0_1 a1).bind fun t618 => (if t618 = true then ((spec_IsTriangulation.f k a0_0 a0_1 a2).bind fun t619 => (spec_FlipDistance.j0 k a1 a2 (!t619) a0_0 a0_1)) else (spec_FlipDistance.j0 k a1 a2 true a0_0 a0_1))
theorem spec_FlipDistance.mono_l : ∀ k, (∀ y0 y1 y2 y3 y4, LeO (spec_FlipDistance.j0 k y0 y1 y2 y3 y4) (spec_FlipDistance.j0 (k + 1) y0 y1 y2 y3 y4)) ∧ (∀ y0 y1 y2 y3 y4, LeO (spec_FlipDistance.l0 k y0 y1 y2 y3 y4) (spec_FlipDistance.l0 (k + 1) y0 y1 y2 y3 y4)) ∧ (∀ y0 y1 y2 y3 y4 y5 y6, LeO (spec_FlipDistance.l1 k y0 y1 y2 y3 y4 y5 y6) (spec_FlipDistance.l1 (k + 1) y0 y1 y2 y3 y4 y5 y6)) ∧ (∀ y0 y1 y2 y3 y4 y5 y6 y7 y8, LeO (spec_FlipDistance.l2 k y0 y1 y2 y3 y4 y5 y6 y7 y8) (spec_FlipDistance.l2 (k + 1) y0 y1 y2 y3 y4 y5 y6 y7 y8))
 | 0 => ⟨fun _ _ _ _ _ r h => by simp [spec_FlipDistance.j0] at h, fun _ _ _ _ _ r h => by simp [spec_FlipDistance.l0] at h, fun _ _ _ _ _ _ _ r h => by simp [spec_FlipDistance.l1] at h, fun _ _ _ _ _ _ _ _ _ r h => by simp [spec_FlipDistance.l2] at h⟩
 | k + 1 => by
  obtain ⟨ih0, ih1, ih2, ih3⟩ := spec_FlipDistance.mono_l k
  refine ⟨?_, ?_, ?_, ?_⟩
  ·intro y0 y1 y2 y3 y4
   unfold spec_FlipDistance.j0
   repeat' first
   | (with_reducible exact ih0 _ _ _ _ _)
   | (with_reducible exact ih1 _ _ _ _ _)
   | (with_reducible exact ih2 _ _ _ _ _ _ _)
   | (with_reducible exact ih3 _ _ _ _ _ _ _ _ _)
   | (with_reducible exact spec_IsTriangulation.mono _ _ _ _)
   | (with_reducible exact spec_l10Flips.mono _ _ _)
   | (with_reducible exact spec_l10Pairs.mono _ _ _)
   | (with_reducible exact LeO.refl _)
   | (with_reducible exact LeO.none _)
   | (with_reducible refine LeO.ite ?_ ?_)
   | (with_reducible refine LeO.bind ?_ (fun _ => ?_))
   | exact ih0 _ _ _ _ _
   | exact ih1 _ _ _ _ _
   | exact ih2 _ _ _ _ _ _ _
   | exact ih3 _ _ _ _ _ _ _ _ _
   | exact spec_IsTriangulation.mono _ _ _ _
   | exact spec_l10Flips.mono _ _ _
   | exact spec_l10Pairs.mono _ _ _
   | exact LeO.none _
   | refine LeO.ite ?_ ?_
   | refine LeO.bind ?_ (fun _ => ?_)
  ·intro y0 y1 y2 y3 y4
   unfold spec_FlipDistance.l0
   repeat' first
   | (with_reducible exact ih0 _ _ _ _ _)
   | (with_reducible exact ih1 _ _ _ _ _)
   | (with_reducible exact ih2 _ _ _ _ _ _ _)
   | (with_reducible exact ih3 _ _ _ _ _ _ _ _ _)
   | (with_reducible exact spec_IsTriangulation.mono _ _ _ _)
   | (with_reducible exact spec_l10Flips.mono _ _ _)
   | (with_reducible exact spec_l10Pairs.mono _ _ _)
   | (with_reducible exact LeO.refl _)
   | (with_reducible exact LeO.none _)
   | (with_reducible refine LeO.ite ?_ ?_)
   | (with_reducible refine LeO.bind ?_ (fun _ => ?_))
   | exact ih0 _ _ _ _ _
   | exact ih1 _ _ _ _ _
   | exact ih2 _ _ _ _ _ _ _
   | exact ih3 _ _ _ _ _ _ _ _ _
   | exact spec_IsTriangulation.mono _ _ _ _
   | exact spec_l10Flips.mono _ _ _
   | exact spec_l10Pairs.mono _ _ _
   | exact LeO.none _
   | refine LeO.ite ?_ ?_
   | refine LeO.bind ?_ (fun _ => ?_)
  ·intro y0 y1 y2 y3 y4 y5 y6
   unfold spec_FlipDistance.l1
   repeat' first
   | (with_reducible exact ih0 _ _ _ _ _)
   | (with_reducible exact ih1 _ _ _ _ _)
   | (with_reducible exact ih2 _ _ _ _ _ _ _)
   | (with_reducible exact ih3 _ _ _ _ _ _ _ _ _)
   | (with_reducible exact spec_IsTriangulation.mono _ _ _ _)
   | (with_reducible exact spec_l10Flips.mono _ _ _)
   | (with_reducible exact spec_l10Pairs.mono _ _ _)
   | (with_reducible exact LeO.refl _)
   | (with_reducible exact LeO.none _)
   | (with_reducible refine LeO.ite ?_ ?_)
   | (with_reducible refine LeO.bind ?_ (fun _ => ?_))
   | exact ih0 _ _ _ _ _
   | exact ih1 _ _ _ _ _
   | exact ih2 _ _ _ _ _ _ _
   | exact ih3 _ _ _ _ _ _ _ _ _
   | exact spec_IsTriangulation.mono _ _ _ _
   | exact spec_l10Flips.mono _ _ _
   | exact spec_l10Pairs.mono _ _ _
   | exact LeO.none _
   | refine LeO.ite ?_ ?_
   | refine LeO.bind ?_ (fun _ => ?_)
  ·intro y0 y1 y2 y3 y4 y5 y6 y7 y8
   unfold spec_FlipDistance.l2
   repeat' first
   | (with_reducible exact ih0 _ _ _ _ _)
   | (with_reducible exact ih1 _ _ _ _ _)
   | (with_reducible exact ih2 _ _ _ _ _ _ _)
   | (with_reducible exact ih3 _ _ _ _ _ _ _ _ _)
   | (with_reducible exact spec_IsTriangulation.mono _ _ _ _)
   | (with_reducible exact spec_l10Flips.mono _ _ _)
   | (with_reducible exact spec_l10Pairs.mono _ _ _)
   | (with_reducible exact LeO.refl _)
   | (with_reducible exact LeO.none _)
   | (with_reducible refine LeO.ite ?_ ?_)
   | (with_reducible refine LeO.bind ?_ (fun _ => ?_))
   | exact ih0 _ _ _ _ _
   | exact ih1 _ _ _ _ _
   | exact ih2 _ _ _ _ _ _ _
   | exact ih3 _ _ _ _ _ _ _ _ _
   | exact spec_IsTriangulation.mono _ _ _ _
   | exact spec_l10Flips.mono _ _ _
   | exact spec_l10Pairs.mono _ _ _
   | exact LeO.none _
   | refine LeO.ite ?_ ?_
   | refine LeO.bind ?_ (fun _ => ?_)
theorem spec_FlipDistance.mono : ∀ a0 a1 a2 a3 k, LeO (spec_FlipDistance.f k a0 a1 a2 a3) (spec_FlipDistance.f (k + 1) a0 a1 a2 a3) := by
 intro a0 a1 a2 a3 k
 obtain ⟨ih0, ih1, ih2, ih3⟩ := spec_FlipDistance.mono_l k
 unfold spec_FlipDistance.f
 repeat' first
   | (with_reducible exact ih0 _ _ _ _ _)
   | (with_reducible exact ih1 _ _ _ _ _)
   | (with_reducible exact ih2 _ _ _ _ _ _ _)
   | (with_reducible exact ih3 _ _ _ _ _ _ _ _ _)
   | (with_reducible exact spec_IsTriangulation.mono _ _ _ _)
   | (with_reducible exact spec_l10Flips.mono _ _ _)
   | (with_reducible exact spec_l10Pairs.mono _ _ _)
   | (with_reducible exact LeO.refl _)
   | (with_reducible exact LeO.none _)
   | (with_reducible refine LeO.ite ?_ ?_)
   | (with_reducible refine LeO.bind ?_ (fun _ => ?_))
   | exact ih0 _ _ _ _ _
   | exact ih1 _ _ _ _ _
   | exact ih2 _ _ _ _ _ _ _
   | exact ih3 _ _ _ _ _ _ _ _ _
   | exact spec_IsTriangulation.mono _ _ _ _
   | exact spec_l10Flips.mono _ _ _
   | exact spec_l10Pairs.mono _ _ _
   | exact LeO.none _
   | refine LeO.ite ?_ ?_
   | refine LeO.bind ?_ (fun _ => ?_)
set_option maxHeartbeats 8000000 in
set_option maxRecDepth 100000 in
theorem spec_FlipDistance.calls (k : Nat) (a0_0 : Int) (a0_1 : ByteArray) (a1 : Int) (a2 : Int) (r : Int) (w : World) (h : spec_FlipDistance.f k a0_0 a0_1 a1 a2 = some r) :
  Calls Try.prog 25 #[.agg #[.int .i64 a0_0, .string a0_1], .int .i64 a1, .int .i64 a2] w fun e w' => e = .returned (.int .i64 r) ∧ Below w.heap.size w w' := by
 have hu27 := Try.underlying27
 have HB := Aside0.mk (Below.refl w.heap.size w)
 have H : ((spec_IsTriangulation.f k a0_0 a0_1 a1).bind fun t618 => (if t618 = true then ((spec_IsTriangulation.f k a0_0 a0_1 a2).bind fun t619 => (spec_FlipDistance.j0 k a1 a2 (!t619) a0_0 a0_1)) else (spec_FlipDistance.j0 k a1 a2 true a0_0 a0_1))) = some r := h
 clear h
 have HC4 := Aside0.mk H
 clear H
 go_enter Try.func25, Try.ntmps25
 go_upto_region 1 with (first | ((with_reducible refine gate_dst (N := 3) rfl ?_); refine bx 3 #[.int .i64 a0_0, .string a0_1] 27 ?_; intro gb617 hg w5 hbox hb; have BK617 := Aside0.mk hbox; have GE617 := gs HB hg; have GW617 := GE617; replace HB := bs HB hb; clear hb hbox hg))
 repeat (go_quiet (first | ((with_reducible refine gate_dst (N := 3) rfl ?_); refine bx 3 #[.int .i64 a0_0, .string a0_1] 27 ?_; intro gb617 hg w5 hbox hb; have BK617 := Aside0.mk hbox; have GE617 := gs HB hg; have GW617 := GE617; replace HB := bs HB hb; clear hb hbox hg)); go_upto_region 1 with (first | ((with_reducible refine gate_dst (N := 3) rfl ?_); refine bx 3 #[.int .i64 a0_0, .string a0_1] 27 ?_; intro gb617 hg w5 hbox hb; have BK617 := Aside0.mk hbox; have GE617 := gs HB hg; have GW617 := GE617; replace HB := bs HB hb; clear hb hbox hg)))
 (try simp only [Act.put, List.setIfInBounds_toArray, List.set_cons_zero, List.set_cons_succ])
 go_cut [24] (fun v24 wc => ∃ (kq : Nat) (x24_3 : Bool), v24 = .bool x24_3 ∧ Aside0 (spec_FlipDistance.j0 kq a1 a2 x24_3 a0_0 a0_1 = some r) ∧ Aside0 (kq ≤ k) ∧ Aside0 (wc.heap[gb617]? = some (.cells #[.int .i64 a0_0, .string a0_1] 27 (0, 0))) ∧ Aside0 (Below w.heap.size w wc))
 case first =>
  have H := HC4.out
  clear HC4
  replace H := Option.bind_eq_some_iff.mp H
  obtain ⟨t618, A60, H⟩ := H
  (try dsimp only at H)
  have A6 := Aside0.mk A60
  clear A60
  by_cases c7 : t618 = true
  ·subst c7
   have H1 : ((spec_IsTriangulation.f k a0_0 a0_1 a2).bind fun t619 => (spec_FlipDistance.j0 k a1 a2 (!t619) a0_0 a0_1)) = some r := by rw [if_pos rfl] at H; exact H
   clear H
   have H := H1
   clear H1
   replace H := Option.bind_eq_some_iff.mp H
   obtain ⟨t619, A80, H⟩ := H
   (try dsimp only at H)
   have A8 := Aside0.mk A80
   clear A80
   have H' := Aside0.mk H
   clear H
   have hcz9_0 := bc BK617 0
   have hcz9_1 := bc BK617 1
   have hfz9_0 := bf BK617 0
   have hfz9_1 := bf BK617 1
   go_wp2_with (first | (go_at_call 46; (with_reducible refine (spec_IsTriangulation.calls k a0_0 a0_1 a1 true _ A6.out).mono ?_); rintro e w10 ⟨rfl, hb⟩; have n0_ := Aside0.mk (blk_below (g := gb617) (o := .cells #[.int .i64 a0_0, .string a0_1] 27 (0, 0)) (bk BK617) hb); have n1_ := bsg HB GE617 hb; clear BK617; clear HB; have BK617 := n0_; have HB := n1_; clear n0_ n1_; (try clear hb); (try clear hb2); (try clear hk); (try clear hi); have hcz11_0 := bc BK617 0; have hcz11_1 := bc BK617 1; have hfz11_0 := bf BK617 0; have hfz11_1 := bf BK617 1) | (go_at_call 46; (with_reducible refine (spec_IsTriangulation.calls k a0_0 a0_1 a2 t619 _ A8.out).mono ?_); rintro e w12 ⟨rfl, hb⟩; have n0_ := Aside0.mk (blk_below (g := gb617) (o := .cells #[.int .i64 a0_0, .string a0_1] 27 (0, 0)) (bk BK617) hb); have n1_ := bsg HB GE617 hb; clear BK617; clear HB; have BK617 := n0_; have HB := n1_; clear n0_ n1_; (try clear hb); (try clear hb2); (try clear hk); (try clear hi)))
   repeat (go_quiet (first | (go_at_call 46; (with_reducible refine (spec_IsTriangulation.calls k a0_0 a0_1 a1 true _ A6.out).mono ?_); rintro e w10 ⟨rfl, hb⟩; have n0_ := Aside0.mk (blk_below (g := gb617) (o := .cells #[.int .i64 a0_0, .string a0_1] 27 (0, 0)) (bk BK617) hb); have n1_ := bsg HB GE617 hb; clear BK617; clear HB; have BK617 := n0_; have HB := n1_; clear n0_ n1_; (try clear hb); (try clear hb2); (try clear hk); (try clear hi); have hcz11_0 := bc BK617 0; have hcz11_1 := bc BK617 1; have hfz11_0 := bf BK617 0; have hfz11_1 := bf BK617 1) | (go_at_call 46; (with_reducible refine (spec_IsTriangulation.calls k a0_0 a0_1 a2 t619 _ A8.out).mono ?_); rintro e w12 ⟨rfl, hb⟩; have n0_ := Aside0.mk (blk_below (g := gb617) (o := .cells #[.int .i64 a0_0, .string a0_1] 27 (0, 0)) (bk BK617) hb); have n1_ := bsg HB GE617 hb; clear BK617; clear HB; have BK617 := n0_; have HB := n1_; clear n0_ n1_; (try clear hb); (try clear hb2); (try clear hk); (try clear hi))); try go_wp2_with (first | (go_at_call 46; (with_reducible refine (spec_IsTriangulation.calls k a0_0 a0_1 a1 true _ A6.out).mono ?_); rintro e w10 ⟨rfl, hb⟩; have n0_ := Aside0.mk (blk_below (g := gb617) (o := .cells #[.int .i64 a0_0, .string a0_1] 27 (0, 0)) (bk BK617) hb); have n1_ := bsg HB GE617 hb; clear BK617; clear HB; have BK617 := n0_; have HB := n1_; clear n0_ n1_; (try clear hb); (try clear hb2); (try clear hk); (try clear hi); have hcz11_0 := bc BK617 0; have hcz11_1 := bc BK617 1; have hfz11_0 := bf BK617 0; have hfz11_1 := bf BK617 1) | (go_at_call 46; (with_reducible refine (spec_IsTriangulation.calls k a0_0 a0_1 a2 t619 _ A8.out).mono ?_); rintro e w12 ⟨rfl, hb⟩; have n0_ := Aside0.mk (blk_below (g := gb617) (o := .cells #[.int .i64 a0_0, .string a0_1] 27 (0, 0)) (bk BK617) hb); have n1_ := bsg HB GE617 hb; clear BK617; clear HB; have BK617 := n0_; have HB := n1_; clear n0_ n1_; (try clear hb); (try clear hb2); (try clear hk); (try clear hi))))
   go_meet
   case rel => exact ⟨_, (!t619), (by first | rfl | (simp; done) | (simp [*]; done)), H', ⟨by first | omega | exact Nat.le_refl _⟩, ⟨by (with_reducible repeat (first | refine blk_drewN ?_ _ | refine blk_drew ?_ | refine blk_alloc ?_ _)); exact BK617.out⟩, ⟨(bg HB GE617)⟩⟩
  ·replace c7 := Bool.eq_false_iff.mpr c7
   subst c7
   have H1 : (spec_FlipDistance.j0 k a1 a2 true a0_0 a0_1) = some r := by rw [if_neg (show ¬ (false = true) by decide)] at H; exact H
   clear H
   have H := H1
   clear H1
   have H' := Aside0.mk H
   clear H
   have hcz13_0 := bc BK617 0
   have hcz13_1 := bc BK617 1
   have hfz13_0 := bf BK617 0
   have hfz13_1 := bf BK617 1
   go_wp2_with (first | (go_at_call 46; (with_reducible refine (spec_IsTriangulation.calls k a0_0 a0_1 a1 false _ A6.out).mono ?_); rintro e w14 ⟨rfl, hb⟩; have n0_ := Aside0.mk (blk_below (g := gb617) (o := .cells #[.int .i64 a0_0, .string a0_1] 27 (0, 0)) (bk BK617) hb); have n1_ := bsg HB GE617 hb; clear BK617; clear HB; have BK617 := n0_; have HB := n1_; clear n0_ n1_; (try clear hb); (try clear hb2); (try clear hk); (try clear hi)))
   repeat (go_quiet (first | (go_at_call 46; (with_reducible refine (spec_IsTriangulation.calls k a0_0 a0_1 a1 false _ A6.out).mono ?_); rintro e w14 ⟨rfl, hb⟩; have n0_ := Aside0.mk (blk_below (g := gb617) (o := .cells #[.int .i64 a0_0, .string a0_1] 27 (0, 0)) (bk BK617) hb); have n1_ := bsg HB GE617 hb; clear BK617; clear HB; have BK617 := n0_; have HB := n1_; clear n0_ n1_; (try clear hb); (try clear hb2); (try clear hk); (try clear hi))); try go_wp2_with (first | (go_at_call 46; (with_reducible refine (spec_IsTriangulation.calls k a0_0 a0_1 a1 false _ A6.out).mono ?_); rintro e w14 ⟨rfl, hb⟩; have n0_ := Aside0.mk (blk_below (g := gb617) (o := .cells #[.int .i64 a0_0, .string a0_1] 27 (0, 0)) (bk BK617) hb); have n1_ := bsg HB GE617 hb; clear BK617; clear HB; have BK617 := n0_; have HB := n1_; clear n0_ n1_; (try clear hb); (try clear hb2); (try clear hk); (try clear hi))))
   go_meet
   case rel => exact ⟨_, (true), (by first | rfl | (simp; done) | (simp [*]; done)), H', ⟨by first | omega | exact Nat.le_refl _⟩, ⟨by (with_reducible repeat (first | refine blk_drewN ?_ _ | refine blk_drew ?_ | refine blk_alloc ?_ _)); exact BK617.out⟩, ⟨(bg HB GE617)⟩⟩
 case rest =>
  clear HC4
  try clear c2
  try clear p2
  try clear c7
  try clear hcz11_0
  try clear hcz11_1
  try clear hcz13_0
  try clear hcz13_1
  try clear hcz9_0
  try clear hcz9_1
  try clear hfz11_0
  try clear hfz11_1
  try clear hfz13_0
  try clear hfz13_1
  try clear hfz9_0
  try clear hfz9_1
  obtain ⟨kq, x24_3, rfl, HA, HJ3, BK617, HB⟩ := hcut
  cases kq with
  | zero => exact absurd HA.out (by simp [spec_FlipDistance.j0])
  | succ kj3 =>
   have H := HA.out
   clear HA
   simp only [spec_FlipDistance.j0] at H
   by_cases c15 : x24_3 = true
   ·subst c15
    have H1 : (some (-1)) = some r := by rw [if_pos rfl] at H; exact H
    clear H
    have H := H1
    clear H1
    obtain rfl := Option.some.inj H
    go_wp2
    repeat (go_quiet (fail); try go_wp2)
    go_ret
    exact ⟨by first | rfl | (simp [errW_none, errW_some] <;> rfl) | (simp [*, errW_none, errW_some] <;> rfl), (bg HB GE617)⟩
   ·replace c15 := Bool.eq_false_iff.mpr c15
    subst c15
    have H1 : ((spec_l10Pairs.f kj3 a0_0 a0_1).bind fun t620 => (spec_FlipDistance.l0 kj3 a2 t620 (([a1] : List Int)) (([0] : List Int)) 0)) = some r := by rw [if_neg (show ¬ (false = true) by decide)] at H; exact H
    clear H
    have H := H1
    clear H1
    replace H := Option.bind_eq_some_iff.mp H
    obtain ⟨t620, A160, H⟩ := H
    (try dsimp only at H)
    have A16 := Aside0.mk A160
    clear A160
    obtain ⟨y623, hy623⟩ : ∃ y_ : List Int, y_ = (([a1] : List Int)) := ⟨_, rfl⟩
    replace H : (spec_FlipDistance.l0 kj3 a2 t620 y623 (([0] : List Int)) 0) = some r := by first | (rw [hy623]; with_reducible exact H) | (have H2_ := (Option.bind_some _ _).symm.trans H; rw [hy623]; with_reducible exact H2_) | (have H2_ := (Option.bind_some _ _).symm.trans H; with_reducible exact H2_) | with_reducible exact H | (rw [hy623]; exact H) | exact H
    have Ny623 := Aside0.mk hy623
    clear hy623
    obtain ⟨y626, hy626⟩ : ∃ y_ : List Int, y_ = (([0] : List Int)) := ⟨_, rfl⟩
    replace H : (spec_FlipDistance.l0 kj3 a2 t620 y623 y626 0) = some r := by first | (rw [hy626]; with_reducible exact H) | (have H2_ := (Option.bind_some _ _).symm.trans H; rw [hy626]; with_reducible exact H2_) | (have H2_ := (Option.bind_some _ _).symm.trans H; with_reducible exact H2_) | with_reducible exact H | (rw [hy626]; exact H) | exact H
    have Ny626 := Aside0.mk hy626
    clear hy626
    have H' := Aside0.mk H
    clear H
    have hcz17_0 := bc BK617 0
    have hcz17_1 := bc BK617 1
    have hfz17_0 := bf BK617 0
    have hfz17_1 := bf BK617 1
    go_wp2_with (first | (go_at_call 48; (with_reducible refine (spec_l10Pairs.calls kj3 a0_0 a0_1 t620 _ A16.out).mono ?_); rintro e w18 ⟨v621, rfl, ho0, hb⟩; have n0_ := Aside0.mk (Kd.R_lower ho0 (below_size (bg HB GE617))); have n1_ := Aside0.mk (blk_below (g := gb617) (o := .cells #[.int .i64 a0_0, .string a0_1] 27 (0, 0)) (bk BK617) hb); have n2_ := bsg HB GE617 hb; clear BK617; clear HB; have HO622 := n0_; have BK617 := n1_; have HB := n2_; clear n0_ n1_ n2_; (try clear hb); (try clear hb2); (try clear hk); (try clear hi); (try clear ho0)) | ((with_reducible refine gate_dst (N := 28) rfl ?_); refine Kd.R_lit (Kd.int .i64) _ 3 ?hg (N := 28) ?hd (xs := ([a1] : List Int)) (inner := [.int .i64 a1]) (ok := fun _ => True) (okp := fun _ => True) ?hr ?hp (fun _ hk => hk) trivial (Below.refl _ _) (Nat.le_refl _) (by simp) ?_; (case hd => rfl); (case hg => rfl); (case hr => first | (go_simp; done) | (go_simp; rfl)); (case hp => exact (Reps.one (show Kd.M (Kd.int .i64) _ _ _ a1 [.int .i64 a1] from rfl) (Reps.none _ _))); intro v624 w19 ho20 hb hg_ hnew_; clear hg_ hnew_; (first | rw [← Ny623.out] at ho20 | (simp only [Int.reduceToNat] at ho20; rw [← Ny623.out] at ho20)); have n0_ := Aside0.mk (Kd.R_elder' (rr HO622) (Kd.R_base ho20) hb); have n1_ := Aside0.mk (Kd.R_lower (Kd.R_new' ho20 (Kd.R_lt (rr HO622))) (below_size (bg HB GE617))); have n2_ := Aside0.mk (blk_below (g := gb617) (o := .cells #[.int .i64 a0_0, .string a0_1] 27 (0, 0)) (bk BK617) hb); have n3_ := bsg HB GE617 hb; clear HO622; clear BK617; clear HB; have HO622 := n0_; have HO625 := n1_; have BK617 := n2_; have HB := n3_; clear n0_ n1_ n2_ n3_; clear hb ho20) | ((with_reducible refine gate_dst (N := 29) rfl ?_); refine Kd.R_lit (Kd.int .i64) _ 3 ?hg (N := 29) ?hd (xs := ([0] : List Int)) (inner := [.int .i64 0]) (ok := fun _ => True) (okp := fun _ => True) ?hr ?hp (fun _ hk => hk) trivial (Below.refl _ _) (Nat.le_refl _) (by simp) ?_; (case hd => rfl); (case hg => rfl); (case hr => first | (go_simp; done) | (go_simp; rfl)); (case hp => exact (Reps.one (show Kd.M (Kd.int .i64) _ _ _ 0 [.int .i64 0] from rfl) (Reps.none _ _))); intro v627 w21 ho22 hb hg_ hnew_; clear hg_ hnew_; (first | rw [← Ny626.out] at ho22 | (simp only [Int.reduceToNat] at ho22; rw [← Ny626.out] at ho22)); have n0_ := Aside0.mk (Kd.R_elder' (rr HO622) (Kd.R_base ho22) hb); have n1_ := Aside0.mk (Kd.R_elder' (rr HO625) (Kd.R_base ho22) hb); have n2_ := Aside0.mk (Kd.R_lower (Kd.R_new' (Kd.R_new' ho22 (Kd.R_lt (rr HO622))) (Kd.R_lt (rr HO625))) (below_size (bg HB GE617))); have n3_ := Aside0.mk (blk_below (g := gb617) (o := .cells #[.int .i64 a0_0, .string a0_1] 27 (0, 0)) (bk BK617) hb); have n4_ := bsg HB GE617 hb; clear HO622; clear HO625; clear BK617; clear HB; have HO622 := n0_; have HO625 := n1_; have HO628 := n2_; have BK617 := n3_; have HB := n4_; clear n0_ n1_ n2_ n3_ n4_; clear hb ho22))
    repeat (go_quiet (first | (go_at_call 48; (with_reducible refine (spec_l10Pairs.calls kj3 a0_0 a0_1 t620 _ A16.out).mono ?_); rintro e w18 ⟨v621, rfl, ho0, hb⟩; have n0_ := Aside0.mk (Kd.R_lower ho0 (below_size (bg HB GE617))); have n1_ := Aside0.mk (blk_below (g := gb617) (o := .cells #[.int .i64 a0_0, .string a0_1] 27 (0, 0)) (bk BK617) hb); have n2_ := bsg HB GE617 hb; clear BK617; clear HB; have HO622 := n0_; have BK617 := n1_; have HB := n2_; clear n0_ n1_ n2_; (try clear hb); (try clear hb2); (try clear hk); (try clear hi); (try clear ho0)) | ((with_reducible refine gate_dst (N := 28) rfl ?_); refine Kd.R_lit (Kd.int .i64) _ 3 ?hg (N := 28) ?hd (xs := ([a1] : List Int)) (inner := [.int .i64 a1]) (ok := fun _ => True) (okp := fun _ => True) ?hr ?hp (fun _ hk => hk) trivial (Below.refl _ _) (Nat.le_refl _) (by simp) ?_; (case hd => rfl); (case hg => rfl); (case hr => first | (go_simp; done) | (go_simp; rfl)); (case hp => exact (Reps.one (show Kd.M (Kd.int .i64) _ _ _ a1 [.int .i64 a1] from rfl) (Reps.none _ _))); intro v624 w19 ho20 hb hg_ hnew_; clear hg_ hnew_; (first | rw [← Ny623.out] at ho20 | (simp only [Int.reduceToNat] at ho20; rw [← Ny623.out] at ho20)); have n0_ := Aside0.mk (Kd.R_elder' (rr HO622) (Kd.R_base ho20) hb); have n1_ := Aside0.mk (Kd.R_lower (Kd.R_new' ho20 (Kd.R_lt (rr HO622))) (below_size (bg HB GE617))); have n2_ := Aside0.mk (blk_below (g := gb617) (o := .cells #[.int .i64 a0_0, .string a0_1] 27 (0, 0)) (bk BK617) hb); have n3_ := bsg HB GE617 hb; clear HO622; clear BK617; clear HB; have HO622 := n0_; have HO625 := n1_; have BK617 := n2_; have HB := n3_; clear n0_ n1_ n2_ n3_; clear hb ho20) | ((with_reducible refine gate_dst (N := 29) rfl ?_); refine Kd.R_lit (Kd.int .i64) _ 3 ?hg (N := 29) ?hd (xs := ([0] : List Int)) (inner := [.int .i64 0]) (ok := fun _ => True) (okp := fun _ => True) ?hr ?hp (fun _ hk => hk) trivial (Below.refl _ _) (Nat.le_refl _) (by simp) ?_; (case hd => rfl); (case hg => rfl); (case hr => first | (go_simp; done) | (go_simp; rfl)); (case hp => exact (Reps.one (show Kd.M (Kd.int .i64) _ _ _ 0 [.int .i64 0] from rfl) (Reps.none _ _))); intro v627 w21 ho22 hb hg_ hnew_; clear hg_ hnew_; (first | rw [← Ny626.out] at ho22 | (simp only [Int.reduceToNat] at ho22; rw [← Ny626.out] at ho22)); have n0_ := Aside0.mk (Kd.R_elder' (rr HO622) (Kd.R_base ho22) hb); have n1_ := Aside0.mk (Kd.R_elder' (rr HO625) (Kd.R_base ho22) hb); have n2_ := Aside0.mk (Kd.R_lower (Kd.R_new' (Kd.R_new' ho22 (Kd.R_lt (rr HO622))) (Kd.R_lt (rr HO625))) (below_size (bg HB GE617))); have n3_ := Aside0.mk (blk_below (g := gb617) (o := .cells #[.int .i64 a0_0, .string a0_1] 27 (0, 0)) (bk BK617) hb); have n4_ := bsg HB GE617 hb; clear HO622; clear HO625; clear BK617; clear HB; have HO622 := n0_; have HO625 := n1_; have HO628 := n2_; have BK617 := n3_; have HB := n4_; clear n0_ n1_ n2_ n3_ n4_; clear hb ho22)); try go_wp2_with (first | (go_at_call 48; (with_reducible refine (spec_l10Pairs.calls kj3 a0_0 a0_1 t620 _ A16.out).mono ?_); rintro e w18 ⟨v621, rfl, ho0, hb⟩; have n0_ := Aside0.mk (Kd.R_lower ho0 (below_size (bg HB GE617))); have n1_ := Aside0.mk (blk_below (g := gb617) (o := .cells #[.int .i64 a0_0, .string a0_1] 27 (0, 0)) (bk BK617) hb); have n2_ := bsg HB GE617 hb; clear BK617; clear HB; have HO622 := n0_; have BK617 := n1_; have HB := n2_; clear n0_ n1_ n2_; (try clear hb); (try clear hb2); (try clear hk); (try clear hi); (try clear ho0)) | ((with_reducible refine gate_dst (N := 28) rfl ?_); refine Kd.R_lit (Kd.int .i64) _ 3 ?hg (N := 28) ?hd (xs := ([a1] : List Int)) (inner := [.int .i64 a1]) (ok := fun _ => True) (okp := fun _ => True) ?hr ?hp (fun _ hk => hk) trivial (Below.refl _ _) (Nat.le_refl _) (by simp) ?_; (case hd => rfl); (case hg => rfl); (case hr => first | (go_simp; done) | (go_simp; rfl)); (case hp => exact (Reps.one (show Kd.M (Kd.int .i64) _ _ _ a1 [.int .i64 a1] from rfl) (Reps.none _ _))); intro v624 w19 ho20 hb hg_ hnew_; clear hg_ hnew_; (first | rw [← Ny623.out] at ho20 | (simp only [Int.reduceToNat] at ho20; rw [← Ny623.out] at ho20)); have n0_ := Aside0.mk (Kd.R_elder' (rr HO622) (Kd.R_base ho20) hb); have n1_ := Aside0.mk (Kd.R_lower (Kd.R_new' ho20 (Kd.R_lt (rr HO622))) (below_size (bg HB GE617))); have n2_ := Aside0.mk (blk_below (g := gb617) (o := .cells #[.int .i64 a0_0, .string a0_1] 27 (0, 0)) (bk BK617) hb); have n3_ := bsg HB GE617 hb; clear HO622; clear BK617; clear HB; have HO622 := n0_; have HO625 := n1_; have BK617 := n2_; have HB := n3_; clear n0_ n1_ n2_ n3_; clear hb ho20) | ((with_reducible refine gate_dst (N := 29) rfl ?_); refine Kd.R_lit (Kd.int .i64) _ 3 ?hg (N := 29) ?hd (xs := ([0] : List Int)) (inner := [.int .i64 0]) (ok := fun _ => True) (okp := fun _ => True) ?hr ?hp (fun _ hk => hk) trivial (Below.refl _ _) (Nat.le_refl _) (by simp) ?_; (case hd => rfl); (case hg => rfl); (case hr => first | (go_simp; done) | (go_simp; rfl)); (case hp => exact (Reps.one (show Kd.M (Kd.int .i64) _ _ _ 0 [.int .i64 0] from rfl) (Reps.none _ _))); intro v627 w21 ho22 hb hg_ hnew_; clear hg_ hnew_; (first | rw [← Ny626.out] at ho22 | (simp only [Int.reduceToNat] at ho22; rw [← Ny626.out] at ho22)); have n0_ := Aside0.mk (Kd.R_elder' (rr HO622) (Kd.R_base ho22) hb); have n1_ := Aside0.mk (Kd.R_elder' (rr HO625) (Kd.R_base ho22) hb); have n2_ := Aside0.mk (Kd.R_lower (Kd.R_new' (Kd.R_new' ho22 (Kd.R_lt (rr HO622))) (Kd.R_lt (rr HO625))) (below_size (bg HB GE617))); have n3_ := Aside0.mk (blk_below (g := gb617) (o := .cells #[.int .i64 a0_0, .string a0_1] 27 (0, 0)) (bk BK617) hb); have n4_ := bsg HB GE617 hb; clear HO622; clear HO625; clear BK617; clear HB; have HO622 := n0_; have HO625 := n1_; have HO628 := n2_; have BK617 := n3_; have HB := n4_; clear n0_ n1_ n2_ n3_ n4_; clear hb ho22)))
    go_loopg [8, 9, 10] kj3 (fun kq v8 v9 v10 w' => ∃ (x8_2 : List Int) (x9_2 : List Int) (x10_2 : Int), v10 = .int .i64 x10_2 ∧ Aside0 (spec_FlipDistance.l0 kq a2 t620 x8_2 x9_2 x10_2 = some r) ∧ Aside0 (kq ≤ kj3) ∧ Aside0 (Kd.R (Kd.int .i64) 3 w' w.heap.size (fun k_ => some k_ ≠ (v8 : Value).ownBlock ∧ some k_ ≠ (v9 : Value).ownBlock) v621 t620) ∧ Aside0 (Kd.R (Kd.int .i64) 3 w' w.heap.size (fun k_ => some k_ ≠ (v621 : Value).ownBlock ∧ some k_ ≠ (v9 : Value).ownBlock) v8 x8_2) ∧ Aside0 (Kd.R (Kd.int .i64) 3 w' w.heap.size (fun k_ => some k_ ≠ (v621 : Value).ownBlock ∧ some k_ ≠ (v8 : Value).ownBlock) v9 x9_2) ∧ Aside0 (w'.heap[gb617]? = some (.cells #[.int .i64 a0_0, .string a0_1] 27 (0, 0))) ∧ Aside0 (Below w.heap.size w w'))
    case atStart => exact ⟨(y623), (y626), (0), (by first | rfl | (simp; done) | (simp [*]; done)), H', ⟨Nat.le_refl _⟩, ⟨by (with_reducible repeat (first | apply Kd.R_alloc | apply Kd.R_drewN | apply Kd.R_drew)); exact Kd.R_mono HO622.out (fun _ hk => ⟨hk.1.2, hk.2⟩)⟩, ⟨by (with_reducible repeat (first | apply Kd.R_alloc | apply Kd.R_drewN | apply Kd.R_drew)); exact Kd.R_mono HO625.out (fun _ hk => ⟨hk.1.2, hk.2⟩)⟩, ⟨by (with_reducible repeat (first | apply Kd.R_alloc | apply Kd.R_drewN | apply Kd.R_drew)); exact Kd.R_mono HO628.out (fun _ hk => ⟨hk.1.2, hk.2⟩)⟩, ⟨by (with_reducible repeat (first | refine blk_drewN ?_ _ | refine blk_drew ?_ | refine blk_alloc ?_ _)); exact BK617.out⟩, ⟨(bg HB GE617)⟩⟩
    case round =>
     clear H'
     try clear c1
     try clear c2
     try clear p2
     try clear c7
     try clear c15
     try clear hcz11_0
     try clear hcz11_1
     try clear hcz13_0
     try clear hcz13_1
     try clear hcz17_0
     try clear hcz17_1
     try clear hcz9_0
     try clear hcz9_1
     try clear hfz11_0
     try clear hfz11_1
     try clear hfz13_0
     try clear hfz13_1
     try clear hfz17_0
     try clear hfz17_1
     try clear hfz9_0
     try clear hfz9_1
     try clear p2
     obtain ⟨x8_2, x9_2, x10_2, rfl, HA, HK2, HO_7, HO_8, HO_9, BK617, HB⟩ := hrel
     cases gk with
     | zero => exact absurd HA.out (by simp [spec_FlipDistance.l0])
     | succ k2 =>
      have H := HA.out
      clear HA
      simp only [spec_FlipDistance.l0] at H
      by_cases c23 : x10_2 < (x8_2.length : Int)
      ·rw [if_pos c23] at H
       have c23b0 : decide (x10_2 < (x8_2.length : Int)) = true := decide_eq_true c23
       clear c23
       by_cases c24 : 0 ≤ x10_2
       ·rw [if_pos c24] at H
        have c24b0 : decide (0 ≤ x10_2) = true := decide_eq_true c24
        clear c24
        by_cases c25 : (rd x8_2 x10_2) = a2
        ·rw [if_pos c25] at H
         have c25b0 : ((rd x8_2 x10_2) == a2) = true := beq_iff_eq.mpr c25
         have c25b1 : ((rd x8_2 x10_2) != a2) = false := bne_eq_false_iff_eq.mpr c25
         clear c25
         by_cases c26 : x10_2 < (x9_2.length : Int)
         ·rw [if_pos c26] at H
          have c26b0 : decide (x10_2 < (x9_2.length : Int)) = true := decide_eq_true c26
          clear c26
          obtain rfl := Option.some.inj H
          obtain ⟨Ao27, co27, eo27⟩ := Kd.R_slice HO_8.out
          subst eo27
          have p629 : 0 ≤ (x10_2 : Int) := of_decide_eq_true (by first | (with_reducible assumption) | assumption)
          have q629 : x10_2 < (x8_2.length : Int) := of_decide_eq_true (by first | (with_reducible assumption) | assumption)
          obtain ⟨ad629, e629, hx629_0⟩ := Kd.at_int (Kd.R_reads' HO_8.out).2.2 x10_2 p629 q629
          cases e629
          replace p629 := eq_true p629
          replace q629 := eq_true q629
          obtain ⟨Ao28, co28, eo28⟩ := Kd.R_slice HO_9.out
          subst eo28
          have p630 : 0 ≤ (x10_2 : Int) := of_decide_eq_true (by first | (with_reducible assumption) | assumption)
          have q630 : x10_2 < (x9_2.length : Int) := of_decide_eq_true (by first | (with_reducible assumption) | assumption)
          obtain ⟨ad630, e630, hx630_0⟩ := Kd.at_int (Kd.R_reads' HO_9.out).2.2 x10_2 p630 q630
          cases e630
          replace p630 := eq_true p630
          replace q630 := eq_true q630
          go_wp2
          repeat (go_quiet (fail); try go_wp2)
          go_ret
          exact ⟨by first | rfl | (simp [errW_none, errW_some] <;> rfl) | (simp [*, errW_none, errW_some] <;> rfl), (bg HB GE617)⟩
         ·rw [if_neg c26] at H
          exact absurd H (by simp)
        ·rw [if_neg c25] at H
         have c25b0 : ((rd x8_2 x10_2) == a2) = false := beq_eq_false_iff_ne.mpr c25
         have c25b1 : ((rd x8_2 x10_2) != a2) = true := bne_iff_ne.mpr c25
         replace H := Option.bind_eq_some_iff.mp H
         obtain ⟨t632, A290, H⟩ := H
         (try dsimp only at H)
         have A29 := Aside0.mk A290
         clear A290
         have H' := Aside0.mk H
         clear H
         obtain ⟨Ao30, co30, eo30⟩ := Kd.R_slice HO_8.out
         subst eo30
         have p629 : 0 ≤ (x10_2 : Int) := of_decide_eq_true (by first | (with_reducible assumption) | assumption)
         have q629 : x10_2 < (x8_2.length : Int) := of_decide_eq_true (by first | (with_reducible assumption) | assumption)
         obtain ⟨ad629, e629, hx629_0⟩ := Kd.at_int (Kd.R_reads' HO_8.out).2.2 x10_2 p629 q629
         cases e629
         replace p629 := eq_true p629
         replace q629 := eq_true q629
         have p631 : 0 ≤ (x10_2 : Int) := of_decide_eq_true (by first | (with_reducible assumption) | assumption)
         have q631 : x10_2 < (x8_2.length : Int) := of_decide_eq_true (by first | (with_reducible assumption) | assumption)
         obtain ⟨ad631, e631, hx631_0⟩ := Kd.at_int (Kd.R_reads' HO_8.out).2.2 x10_2 p631 q631
         obtain rfl : ad629 = ad631 := (by injection e631)
         replace p631 := eq_true p631
         replace q631 := eq_true q631
         obtain ⟨Ao31, co31, eo31⟩ := Kd.R_slice HO_7.out
         subst eo31
         go_wp2_with (first | (go_at_call 47; (with_reducible refine (spec_l10Flips.calls k2 _ _ t620 (rd x8_2 x10_2) t632 _ ?side1 ?side2 A29.out).mono ?_); (case side1 => repeat (first | exact (Kd.R_reads' HO_7.out).2.2 | (with_reducible refine Kd.C_alloc ?_ _) | (with_reducible refine Kd.C_drewN ?_ _) | (with_reducible refine Kd.C_drew ?_))); (case side2 => exact (Kd.R_reads' HO_7.out).2.1); rintro e w32 ⟨v633, rfl, ho0, hb⟩; have n0_ := Aside0.mk (Kd.R_elder' (rr HO_7) (Kd.R_base ho0) hb); have n1_ := Aside0.mk (Kd.R_elder' (rr HO_8) (Kd.R_base ho0) hb); have n2_ := Aside0.mk (Kd.R_elder' (rr HO_9) (Kd.R_base ho0) hb); have n3_ := Aside0.mk (Kd.R_lower (Kd.R_new' (Kd.R_new' (Kd.R_new' ho0 (Kd.R_lt (rr HO_7))) (Kd.R_lt (rr HO_8))) (Kd.R_lt (rr HO_9))) (below_size (bg HB GE617))); have n4_ := Aside0.mk (blk_below (g := gb617) (o := .cells #[.int .i64 a0_0, .string a0_1] 27 (0, 0)) (bk BK617) hb); have n5_ := bsg HB GE617 hb; clear HO_7; clear HO_8; clear HO_9; clear BK617; clear HB; have HO_7 := n0_; have HO_8 := n1_; have HO_9 := n2_; have HO634 := n3_; have BK617 := n4_; have HB := n5_; clear n0_ n1_ n2_ n3_ n4_ n5_; (try clear hb); (try clear hb2); (try clear hk); (try clear hi); (try clear ho0)))
         repeat (go_quiet (first | (go_at_call 47; (with_reducible refine (spec_l10Flips.calls k2 _ _ t620 (rd x8_2 x10_2) t632 _ ?side1 ?side2 A29.out).mono ?_); (case side1 => repeat (first | exact (Kd.R_reads' HO_7.out).2.2 | (with_reducible refine Kd.C_alloc ?_ _) | (with_reducible refine Kd.C_drewN ?_ _) | (with_reducible refine Kd.C_drew ?_))); (case side2 => exact (Kd.R_reads' HO_7.out).2.1); rintro e w32 ⟨v633, rfl, ho0, hb⟩; have n0_ := Aside0.mk (Kd.R_elder' (rr HO_7) (Kd.R_base ho0) hb); have n1_ := Aside0.mk (Kd.R_elder' (rr HO_8) (Kd.R_base ho0) hb); have n2_ := Aside0.mk (Kd.R_elder' (rr HO_9) (Kd.R_base ho0) hb); have n3_ := Aside0.mk (Kd.R_lower (Kd.R_new' (Kd.R_new' (Kd.R_new' ho0 (Kd.R_lt (rr HO_7))) (Kd.R_lt (rr HO_8))) (Kd.R_lt (rr HO_9))) (below_size (bg HB GE617))); have n4_ := Aside0.mk (blk_below (g := gb617) (o := .cells #[.int .i64 a0_0, .string a0_1] 27 (0, 0)) (bk BK617) hb); have n5_ := bsg HB GE617 hb; clear HO_7; clear HO_8; clear HO_9; clear BK617; clear HB; have HO_7 := n0_; have HO_8 := n1_; have HO_9 := n2_; have HO634 := n3_; have BK617 := n4_; have HB := n5_; clear n0_ n1_ n2_ n3_ n4_ n5_; (try clear hb); (try clear hb2); (try clear hk); (try clear hi); (try clear ho0))); try go_wp2_with (first | (go_at_call 47; (with_reducible refine (spec_l10Flips.calls k2 _ _ t620 (rd x8_2 x10_2) t632 _ ?side1 ?side2 A29.out).mono ?_); (case side1 => repeat (first | exact (Kd.R_reads' HO_7.out).2.2 | (with_reducible refine Kd.C_alloc ?_ _) | (with_reducible refine Kd.C_drewN ?_ _) | (with_reducible refine Kd.C_drew ?_))); (case side2 => exact (Kd.R_reads' HO_7.out).2.1); rintro e w32 ⟨v633, rfl, ho0, hb⟩; have n0_ := Aside0.mk (Kd.R_elder' (rr HO_7) (Kd.R_base ho0) hb); have n1_ := Aside0.mk (Kd.R_elder' (rr HO_8) (Kd.R_base ho0) hb); have n2_ := Aside0.mk (Kd.R_elder' (rr HO_9) (Kd.R_base ho0) hb); have n3_ := Aside0.mk (Kd.R_lower (Kd.R_new' (Kd.R_new' (Kd.R_new' ho0 (Kd.R_lt (rr HO_7))) (Kd.R_lt (rr HO_8))) (Kd.R_lt (rr HO_9))) (below_size (bg HB GE617))); have n4_ := Aside0.mk (blk_below (g := gb617) (o := .cells #[.int .i64 a0_0, .string a0_1] 27 (0, 0)) (bk BK617) hb); have n5_ := bsg HB GE617 hb; clear HO_7; clear HO_8; clear HO_9; clear BK617; clear HB; have HO_7 := n0_; have HO_8 := n1_; have HO_9 := n2_; have HO634 := n3_; have BK617 := n4_; have HB := n5_; clear n0_ n1_ n2_ n3_ n4_ n5_; (try clear hb); (try clear hb2); (try clear hk); (try clear hi); (try clear ho0))))
         go_loopg [8, 9, 12] k2 (fun kq v8 v9 v12 w' => ∃ (x8_3 : List Int) (x9_3 : List Int) (x12_3 : Int), v12 = .int .i64 x12_3 ∧ Aside0 (spec_FlipDistance.l1 kq a2 t620 x8_3 x9_3 x10_2 t632 x12_3 = some r) ∧ Aside0 (kq ≤ k2) ∧ Aside0 (Kd.R (Kd.int .i64) 3 w' w.heap.size (fun k_ => some k_ ≠ (v8 : Value).ownBlock ∧ some k_ ≠ (v9 : Value).ownBlock ∧ some k_ ≠ (v633 : Value).ownBlock) (.slice Ao31 t620.length co31) t620) ∧ Aside0 (Kd.R (Kd.int .i64) 3 w' w.heap.size (fun k_ => some k_ ≠ ((.slice Ao31 t620.length co31) : Value).ownBlock ∧ some k_ ≠ (v9 : Value).ownBlock ∧ some k_ ≠ (v633 : Value).ownBlock) v8 x8_3) ∧ Aside0 (Kd.R (Kd.int .i64) 3 w' w.heap.size (fun k_ => some k_ ≠ ((.slice Ao31 t620.length co31) : Value).ownBlock ∧ some k_ ≠ (v8 : Value).ownBlock ∧ some k_ ≠ (v633 : Value).ownBlock) v9 x9_3) ∧ Aside0 (Kd.R (Kd.int .i64) 3 w' w.heap.size (fun k_ => some k_ ≠ ((.slice Ao31 t620.length co31) : Value).ownBlock ∧ some k_ ≠ (v8 : Value).ownBlock ∧ some k_ ≠ (v9 : Value).ownBlock) v633 t632) ∧ Aside0 (w'.heap[gb617]? = some (.cells #[.int .i64 a0_0, .string a0_1] 27 (0, 0))) ∧ Aside0 (Below w.heap.size w w'))
         case atStart => exact ⟨(x8_2), (x9_2), (0), (by first | rfl | (simp; done) | (simp [*]; done)), H', ⟨Nat.le_refl _⟩, ⟨by (with_reducible repeat (first | apply Kd.R_alloc | apply Kd.R_drewN | apply Kd.R_drew)); exact Kd.R_mono HO_7.out (fun _ hk => ⟨hk.1.1, ⟨hk.1.2, hk.2⟩⟩)⟩, ⟨by (with_reducible repeat (first | apply Kd.R_alloc | apply Kd.R_drewN | apply Kd.R_drew)); exact Kd.R_mono HO_8.out (fun _ hk => ⟨hk.1.1, ⟨hk.1.2, hk.2⟩⟩)⟩, ⟨by (with_reducible repeat (first | apply Kd.R_alloc | apply Kd.R_drewN | apply Kd.R_drew)); exact Kd.R_mono HO_9.out (fun _ hk => ⟨hk.1.1, ⟨hk.1.2, hk.2⟩⟩)⟩, ⟨by (with_reducible repeat (first | apply Kd.R_alloc | apply Kd.R_drewN | apply Kd.R_drew)); exact Kd.R_mono HO634.out (fun _ hk => ⟨hk.1.1.2, ⟨hk.1.2, hk.2⟩⟩)⟩, ⟨by (with_reducible repeat (first | refine blk_drewN ?_ _ | refine blk_drew ?_ | refine blk_alloc ?_ _)); exact BK617.out⟩, ⟨(bg HB GE617)⟩⟩
         case round =>
          clear H'
          try clear c1
          try clear c2
          try clear p2
          try clear p6
          try clear q6
          try clear hx6
          try clear c7
          try clear c15
          try clear c23
          try clear c23b0
          try clear c24
          try clear c24b0
          try clear c25
          try clear c25b0
          try clear c25b1
          try clear c26
          try clear c26b0
          try clear hcz11_0
          try clear hcz11_1
          try clear hcz13_0
          try clear hcz13_1
          try clear hcz17_0
          try clear hcz17_1
          try clear hcz9_0
          try clear hcz9_1
          try clear hfz11_0
          try clear hfz11_1
          try clear hfz13_0
          try clear hfz13_1
          try clear hfz17_0
          try clear hfz17_1
          try clear hfz9_0
          try clear hfz9_1
          try clear hx629_0
          try clear hx630_0
          try clear hx631_0
          try clear p2
          try clear p629
          try clear p630
          try clear p631
          try clear q629
          try clear q630
          try clear q631
          obtain ⟨x8_3, x9_3, x12_3, rfl, HA, HK3, HO_7, HO_8, HO_9, HO_11, BK617, HB⟩ := hrel
          cases gk with
          | zero => exact absurd HA.out (by simp [spec_FlipDistance.l1])
          | succ k3 =>
           have H := HA.out
           clear HA
           simp only [spec_FlipDistance.l1] at H
           by_cases c33 : x12_3 < (t632.length : Int)
           ·rw [if_pos c33] at H
            have c33b0 : decide (x12_3 < (t632.length : Int)) = true := decide_eq_true c33
            clear c33
            have H' := Aside0.mk H
            clear H
            obtain ⟨Ao34, co34, eo34⟩ := Kd.R_slice HO_11.out
            subst eo34
            go_wp2
            repeat (go_quiet (fail); try go_wp2)
            go_loopg [13, 14] k3 (fun kq v13 v14 w' => ∃ (x13_4 : Bool) (x14_4 : Int), v13 = .bool x13_4 ∧ v14 = .int .i64 x14_4 ∧ Aside0 (spec_FlipDistance.l2 kq a2 t620 x8_3 x9_3 x10_2 t632 x12_3 x13_4 x14_4 = some r) ∧ Aside0 (kq ≤ k3) ∧ Aside0 (Kd.R (Kd.int .i64) 3 w' w.heap.size (fun k_ => some k_ ≠ (u8 : Value).ownBlock ∧ some k_ ≠ (u9 : Value).ownBlock ∧ some k_ ≠ ((.slice Ao34 t632.length co34) : Value).ownBlock) (.slice Ao31 t620.length co31) t620) ∧ Aside0 (Kd.R (Kd.int .i64) 3 w' w.heap.size (fun k_ => some k_ ≠ ((.slice Ao31 t620.length co31) : Value).ownBlock ∧ some k_ ≠ (u9 : Value).ownBlock ∧ some k_ ≠ ((.slice Ao34 t632.length co34) : Value).ownBlock) u8 x8_3) ∧ Aside0 (Kd.R (Kd.int .i64) 3 w' w.heap.size (fun k_ => some k_ ≠ ((.slice Ao31 t620.length co31) : Value).ownBlock ∧ some k_ ≠ (u8 : Value).ownBlock ∧ some k_ ≠ ((.slice Ao34 t632.length co34) : Value).ownBlock) u9 x9_3) ∧ Aside0 (Kd.R (Kd.int .i64) 3 w' w.heap.size (fun k_ => some k_ ≠ ((.slice Ao31 t620.length co31) : Value).ownBlock ∧ some k_ ≠ (u8 : Value).ownBlock ∧ some k_ ≠ (u9 : Value).ownBlock) (.slice Ao34 t632.length co34) t632) ∧ Aside0 (w'.heap[gb617]? = some (.cells #[.int .i64 a0_0, .string a0_1] 27 (0, 0))) ∧ Aside0 (Below w.heap.size w w'))
            case atStart => exact ⟨(false), (0), (by first | rfl | (simp; done) | (simp [*]; done)), (by first | rfl | (simp; done) | (simp [*]; done)), H', ⟨Nat.le_refl _⟩, ⟨by (with_reducible repeat (first | apply Kd.R_alloc | apply Kd.R_drewN | apply Kd.R_drew)); exact HO_7.out⟩, ⟨by (with_reducible repeat (first | apply Kd.R_alloc | apply Kd.R_drewN | apply Kd.R_drew)); exact HO_8.out⟩, ⟨by (with_reducible repeat (first | apply Kd.R_alloc | apply Kd.R_drewN | apply Kd.R_drew)); exact HO_9.out⟩, ⟨by (with_reducible repeat (first | apply Kd.R_alloc | apply Kd.R_drewN | apply Kd.R_drew)); exact HO_11.out⟩, ⟨by (with_reducible repeat (first | refine blk_drewN ?_ _ | refine blk_drew ?_ | refine blk_alloc ?_ _)); exact BK617.out⟩, ⟨(bg HB GE617)⟩⟩
            case round =>
             clear H'
             try clear c1
             try clear c2
             try clear p2
             try clear c3
             try clear p6
             try clear q6
             try clear hx6
             try clear c7
             try clear c15
             try clear c23
             try clear c23b0
             try clear c24
             try clear c24b0
             try clear c25
             try clear c25b0
             try clear c25b1
             try clear c26
             try clear c26b0
             try clear c33
             try clear c33b0
             try clear hcz11_0
             try clear hcz11_1
             try clear hcz13_0
             try clear hcz13_1
             try clear hcz17_0
             try clear hcz17_1
             try clear hcz9_0
             try clear hcz9_1
             try clear hfz11_0
             try clear hfz11_1
             try clear hfz13_0
             try clear hfz13_1
             try clear hfz17_0
             try clear hfz17_1
             try clear hfz9_0
             try clear hfz9_1
             try clear hx629_0
             try clear hx630_0
             try clear hx631_0
             try clear p2
             try clear p6
             try clear p629
             try clear p630
             try clear p631
             try clear q6
             try clear q629
             try clear q630
             try clear q631
             obtain ⟨x13_4, x14_4, rfl, rfl, HA, HK4, HO_7, HO_8, HO_9, HO_11, BK617, HB⟩ := hrel
             cases gk with
             | zero => exact absurd HA.out (by simp [spec_FlipDistance.l2])
             | succ k4 =>
              have H := HA.out
              clear HA
              simp only [spec_FlipDistance.l2] at H
              by_cases c35 : x14_4 < (x8_3.length : Int)
              ·rw [if_pos c35] at H
               have c35b0 : decide (x14_4 < (x8_3.length : Int)) = true := decide_eq_true c35
               clear c35
               by_cases c36 : x13_4 = true
               ·subst c36
                have H1 : (spec_FlipDistance.l2 k4 a2 t620 x8_3 x9_3 x10_2 t632 x12_3 true (wrap64 (x14_4 + 1))) = some r := by rw [if_pos rfl] at H; exact H
                clear H
                have H := H1
                clear H1
                have H' := Aside0.mk H
                clear H
                obtain ⟨Ao37, co37, eo37⟩ := Kd.R_slice HO_8.out
                subst eo37
                go_wp2
                repeat (go_quiet (fail); try go_wp2)
                go_roundg k4
                case measure => have := HJ3.out; have := HK2.out; have := HK3.out; have := HK4.out; omega
                case rel => exact ⟨(true), (wrap64 (x14_4 + 1)), (by first | rfl | (simp; done) | (simp [*]; done)), (by first | rfl | (simp; done) | (simp [*]; done)), H', ⟨by have := HJ3.out; have := HK2.out; have := HK3.out; have := HK4.out; omega⟩, ⟨by (with_reducible repeat (first | apply Kd.R_alloc | apply Kd.R_drewN | apply Kd.R_drew)); exact HO_7.out⟩, ⟨by (with_reducible repeat (first | apply Kd.R_alloc | apply Kd.R_drewN | apply Kd.R_drew)); exact HO_8.out⟩, ⟨by (with_reducible repeat (first | apply Kd.R_alloc | apply Kd.R_drewN | apply Kd.R_drew)); exact HO_9.out⟩, ⟨by (with_reducible repeat (first | apply Kd.R_alloc | apply Kd.R_drewN | apply Kd.R_drew)); exact HO_11.out⟩, ⟨by (with_reducible repeat (first | refine blk_drewN ?_ _ | refine blk_drew ?_ | refine blk_alloc ?_ _)); exact BK617.out⟩, ⟨(bg HB GE617)⟩⟩
               ·replace c36 := Bool.eq_false_iff.mpr c36
                subst c36
                have H1 : (if 0 ≤ x14_4 then (if 0 ≤ x12_3 then (if x12_3 < (t632.length : Int) then (spec_FlipDistance.l2 k4 a2 t620 x8_3 x9_3 x10_2 t632 x12_3 ((rd x8_3 x14_4) == (rd t632 x12_3)) (wrap64 (x14_4 + 1))) else (none)) else (none)) else (none)) = some r := by rw [if_neg (show ¬ (false = true) by decide)] at H; exact H
                clear H
                have H := H1
                clear H1
                by_cases c38 : 0 ≤ x14_4
                ·rw [if_pos c38] at H
                 have c38b0 : decide (0 ≤ x14_4) = true := decide_eq_true c38
                 clear c38
                 by_cases c39 : 0 ≤ x12_3
                 ·rw [if_pos c39] at H
                  have c39b0 : decide (0 ≤ x12_3) = true := decide_eq_true c39
                  clear c39
                  by_cases c40 : x12_3 < (t632.length : Int)
                  ·rw [if_pos c40] at H
                   have c40b0 : decide (x12_3 < (t632.length : Int)) = true := decide_eq_true c40
                   clear c40
                   have H' := Aside0.mk H
                   clear H
                   obtain ⟨Ao41, co41, eo41⟩ := Kd.R_slice HO_8.out
                   subst eo41
                   have p635 : 0 ≤ (x14_4 : Int) := of_decide_eq_true (by first | (with_reducible assumption) | assumption)
                   have q635 : x14_4 < (x8_3.length : Int) := of_decide_eq_true (by first | (with_reducible assumption) | assumption)
                   obtain ⟨ad635, e635, hx635_0⟩ := Kd.at_int (Kd.R_reads' HO_8.out).2.2 x14_4 p635 q635
                   cases e635
                   replace p635 := eq_true p635
                   replace q635 := eq_true q635
                   have p636 : 0 ≤ (x12_3 : Int) := of_decide_eq_true (by first | (with_reducible assumption) | assumption)
                   have q636 : x12_3 < (t632.length : Int) := of_decide_eq_true (by first | (with_reducible assumption) | assumption)
                   obtain ⟨ad636, e636, hx636_0⟩ := Kd.at_int (Kd.R_reads' HO_11.out).2.2 x12_3 p636 q636
                   cases e636
                   replace p636 := eq_true p636
                   replace q636 := eq_true q636
                   go_wp2
                   repeat (go_quiet (fail); try go_wp2)
                   go_roundg k4
                   case measure => have := HJ3.out; have := HK2.out; have := HK3.out; have := HK4.out; omega
                   case rel => exact ⟨(((rd x8_3 x14_4) == (rd t632 x12_3))), (wrap64 (x14_4 + 1)), (by first | rfl | (simp; done) | (simp [*]; done)), (by first | rfl | (simp; done) | (simp [*]; done)), H', ⟨by have := HJ3.out; have := HK2.out; have := HK3.out; have := HK4.out; omega⟩, ⟨by (with_reducible repeat (first | apply Kd.R_alloc | apply Kd.R_drewN | apply Kd.R_drew)); exact HO_7.out⟩, ⟨by (with_reducible repeat (first | apply Kd.R_alloc | apply Kd.R_drewN | apply Kd.R_drew)); exact HO_8.out⟩, ⟨by (with_reducible repeat (first | apply Kd.R_alloc | apply Kd.R_drewN | apply Kd.R_drew)); exact HO_9.out⟩, ⟨by (with_reducible repeat (first | apply Kd.R_alloc | apply Kd.R_drewN | apply Kd.R_drew)); exact HO_11.out⟩, ⟨by (with_reducible repeat (first | refine blk_drewN ?_ _ | refine blk_drew ?_ | refine blk_alloc ?_ _)); exact BK617.out⟩, ⟨(bg HB GE617)⟩⟩
                  ·rw [if_neg c40] at H
                   exact absurd H (by simp)
                 ·rw [if_neg c39] at H
                  exact absurd H (by simp)
                ·rw [if_neg c38] at H
                 exact absurd H (by simp)
              ·rw [if_neg c35] at H
               have c35b0 : decide (x14_4 < (x8_3.length : Int)) = false := decide_eq_false c35
               clear c35
               by_cases c42 : x13_4 = true
               ·subst c42
                have H1 : (spec_FlipDistance.l1 k4 a2 t620 x8_3 x9_3 x10_2 t632 (wrap64 (x12_3 + 1))) = some r := by rw [if_pos rfl] at H; exact H
                clear H
                have H := H1
                clear H1
                have H' := Aside0.mk H
                clear H
                obtain ⟨Ao43, co43, eo43⟩ := Kd.R_slice HO_8.out
                subst eo43
                go_wp2
                repeat (go_quiet (fail); try go_wp2)
                go_roundg k4
                case measure => have := HJ3.out; have := HK2.out; have := HK3.out; have := HK4.out; omega
                case rel => exact ⟨(x8_3), (x9_3), (wrap64 (x12_3 + 1)), (by first | rfl | (simp; done) | (simp [*]; done)), H', ⟨by have := HJ3.out; have := HK2.out; have := HK3.out; have := HK4.out; omega⟩, ⟨by (with_reducible repeat (first | apply Kd.R_alloc | apply Kd.R_drewN | apply Kd.R_drew)); exact HO_7.out⟩, ⟨by (with_reducible repeat (first | apply Kd.R_alloc | apply Kd.R_drewN | apply Kd.R_drew)); exact HO_8.out⟩, ⟨by (with_reducible repeat (first | apply Kd.R_alloc | apply Kd.R_drewN | apply Kd.R_drew)); exact HO_9.out⟩, ⟨by (with_reducible repeat (first | apply Kd.R_alloc | apply Kd.R_drewN | apply Kd.R_drew)); exact HO_11.out⟩, ⟨by (with_reducible repeat (first | refine blk_drewN ?_ _ | refine blk_drew ?_ | refine blk_alloc ?_ _)); exact BK617.out⟩, ⟨(bg HB GE617)⟩⟩
               ·replace c42 := Bool.eq_false_iff.mpr c42
                subst c42
                have H1 : (if 0 ≤ x12_3 then (if x12_3 < (t632.length : Int) then (if x8_3.length < 17592186044416 then (if 0 ≤ x10_2 then (if x10_2 < (x9_3.length : Int) then (if x9_3.length < 17592186044416 then (spec_FlipDistance.l1 k4 a2 t620 (x8_3 ++ [rd t632 x12_3]) (x9_3 ++ [wrap64 ((rd x9_3 x10_2) + 1)]) x10_2 t632 (wrap64 (x12_3 + 1))) else (none)) else (none)) else (none)) else (none)) else (none)) else (none)) = some r := by rw [if_neg (show ¬ (false = true) by decide)] at H; exact H
                clear H
                have H := H1
                clear H1
                by_cases c44 : 0 ≤ x12_3
                ·rw [if_pos c44] at H
                 have c44b0 : decide (0 ≤ x12_3) = true := decide_eq_true c44
                 clear c44
                 by_cases c45 : x12_3 < (t632.length : Int)
                 ·rw [if_pos c45] at H
                  have c45b0 : decide (x12_3 < (t632.length : Int)) = true := decide_eq_true c45
                  clear c45
                  by_cases c46 : x8_3.length < 17592186044416
                  ·rw [if_pos c46] at H
                   have LMc46 := Aside0.mk c46
                   clear c46
                   obtain ⟨y638, hy638⟩ : ∃ y_ : List Int, y_ = (x8_3 ++ [rd t632 x12_3]) := ⟨_, rfl⟩
                   replace H : (if 0 ≤ x10_2 then (if x10_2 < (x9_3.length : Int) then (if x9_3.length < 17592186044416 then (spec_FlipDistance.l1 k4 a2 t620 y638 (x9_3 ++ [wrap64 ((rd x9_3 x10_2) + 1)]) x10_2 t632 (wrap64 (x12_3 + 1))) else (none)) else (none)) else (none)) = some r := by first | (rw [hy638]; with_reducible exact H) | (have H2_ := (Option.bind_some _ _).symm.trans H; rw [hy638]; with_reducible exact H2_) | (have H2_ := (Option.bind_some _ _).symm.trans H; with_reducible exact H2_) | with_reducible exact H | (rw [hy638]; exact H) | exact H
                   have Ny638 := Aside0.mk hy638
                   clear hy638
                   by_cases c47 : 0 ≤ x10_2
                   ·rw [if_pos c47] at H
                    have c47b0 : decide (0 ≤ x10_2) = true := decide_eq_true c47
                    clear c47
                    by_cases c48 : x10_2 < (x9_3.length : Int)
                    ·rw [if_pos c48] at H
                     have c48b0 : decide (x10_2 < (x9_3.length : Int)) = true := decide_eq_true c48
                     clear c48
                     by_cases c49 : x9_3.length < 17592186044416
                     ·rw [if_pos c49] at H
                      have LMc49 := Aside0.mk c49
                      clear c49
                      obtain ⟨y642, hy642⟩ : ∃ y_ : List Int, y_ = (x9_3 ++ [wrap64 ((rd x9_3 x10_2) + 1)]) := ⟨_, rfl⟩
                      replace H : (spec_FlipDistance.l1 k4 a2 t620 y638 y642 x10_2 t632 (wrap64 (x12_3 + 1))) = some r := by first | (rw [hy642]; with_reducible exact H) | (have H2_ := (Option.bind_some _ _).symm.trans H; rw [hy642]; with_reducible exact H2_) | (have H2_ := (Option.bind_some _ _).symm.trans H; with_reducible exact H2_) | with_reducible exact H | (rw [hy642]; exact H) | exact H
                      have Ny642 := Aside0.mk hy642
                      clear hy642
                      have H' := Aside0.mk H
                      clear H
                      obtain ⟨Ao50, co50, eo50⟩ := Kd.R_slice HO_8.out
                      subst eo50
                      have p637 : 0 ≤ (x12_3 : Int) := of_decide_eq_true (by first | (with_reducible assumption) | assumption)
                      have q637 : x12_3 < (t632.length : Int) := of_decide_eq_true (by first | (with_reducible assumption) | assumption)
                      obtain ⟨ad637, e637, hx637_0⟩ := Kd.at_int (Kd.R_reads' HO_11.out).2.2 x12_3 p637 q637
                      cases e637
                      replace p637 := eq_true p637
                      replace q637 := eq_true q637
                      go_wp2_with (first | ((with_reducible refine gate_builtin (b := .append) (xs := #[.tmp 78, .tmp 83]) rfl ?_); at_builtin; refine Kd.R_append (Kd.int .i64) (w0 := w) w.heap.size rfl (.tmp 78) (.tmp 83) 25 3 (.int .i64 0) 8 rfl Try.underlying25 info3 rfl (by decide) (by omega) (.slice Ao50 x8_3.length co50) x8_3 (rd t632 x12_3) [.int .i64 (rd t632 x12_3)] (fun k_ => some k_ ≠ (.slice Ao31 t620.length co31 : Value).ownBlock ∧ some k_ ≠ (u9 : Value).ownBlock ∧ some k_ ≠ (.slice (some ad637) t632.length co34 : Value).ownBlock) (fun _ => False) rfl rfl ?aP (fun _ hk => hk.elim) ?aF ?aO ?aB ?aS ?aL ?_; (case aP => exact rfl); (case aB => exact (bg HB GE617)); (case aF => exact (fun k_ hk => ⟨Kd.fresh' (Kd.R_lt (rr HO_7)) k_ hk, Kd.fresh' (Kd.R_lt (rr HO_9)) k_ hk, Kd.fresh' (Kd.R_lt (rr HO_11)) k_ hk⟩)); (case aO => exact (rr HO_8)); (case aS => exact (below_size (bg HB GE617))); (case aL => have := LMc46.out; omega); intro v639 w51 ho hb hg hat; rw [← Ny638.out] at ho; have n0_ := Aside0.mk (Kd.R_after (ok := (fun k_ => some k_ ≠ (u9 : Value).ownBlock ∧ some k_ ≠ (.slice (some ad637) t632.length co34 : Value).ownBlock)) (by (with_reducible repeat (first | apply Kd.R_alloc | apply Kd.R_drewN | apply Kd.R_drew)); exact Kd.R_mono HO_7.out (fun _ hk => ⟨⟨hk.2.1, hk.2.2⟩, hk.1⟩)) hg hat); have n1_ := Aside0.mk (Kd.R_after (ok := (fun k_ => some k_ ≠ (.slice Ao31 t620.length co31 : Value).ownBlock ∧ some k_ ≠ (.slice (some ad637) t632.length co34 : Value).ownBlock)) (by (with_reducible repeat (first | apply Kd.R_alloc | apply Kd.R_drewN | apply Kd.R_drew)); exact Kd.R_mono HO_9.out (fun _ hk => ⟨⟨hk.1, hk.2.2⟩, hk.2.1⟩)) hg hat); have n2_ := Aside0.mk (Kd.R_after (ok := (fun k_ => some k_ ≠ (.slice Ao31 t620.length co31 : Value).ownBlock ∧ some k_ ≠ (u9 : Value).ownBlock)) (by (with_reducible repeat (first | apply Kd.R_alloc | apply Kd.R_drewN | apply Kd.R_drew)); exact Kd.R_mono HO_11.out (fun _ hk => ⟨⟨hk.1, hk.2.2⟩, hk.2.1⟩)) hg hat); have n3_ := Aside0.mk (blk_grown (g := gb617) (o := .cells #[.int .i64 a0_0, .string a0_1] 27 (0, 0)) (bk BK617) hg (Kd.R_ne HO_8.out BK617.out (by decide))); have n4_ := Aside0.mk (hb); have n5_ := Aside0.mk (ho); clear HO_7; clear HO_9; clear HO_11; clear BK617; clear HB; clear HO_8; have HO_7 := n0_; have HO_9 := n1_; have HO_11 := n2_; have BK617 := n3_; have HB := n4_; have HO640 := n5_; clear n0_ n1_ n2_ n3_ n4_ n5_; clear ho hb hg hat; obtain ⟨Ao52, co52, eo52⟩ := Kd.R_slice HO_9.out; subst eo52; have p641 : 0 ≤ (x10_2 : Int) := of_decide_eq_true (by first | (with_reducible assumption) | assumption); have q641 : x10_2 < (x9_3.length : Int) := of_decide_eq_true (by first | (with_reducible assumption) | assumption); obtain ⟨ad641, e641, hx641_0⟩ := Kd.at_int (Kd.R_reads' HO_9.out).2.2 x10_2 p641 q641; cases e641; replace p641 := eq_true p641; replace q641 := eq_true q641) | ((with_reducible refine gate_builtin (b := .append) (xs := #[.tmp 85, .tmp 91]) rfl ?_); at_builtin; refine Kd.R_append (Kd.int .i64) (w0 := w) w.heap.size rfl (.tmp 85) (.tmp 91) 25 3 (.int .i64 0) 8 rfl Try.underlying25 info3 rfl (by decide) (by omega) (.slice (some ad641) x9_3.length co52) x9_3 (wrap64 ((rd x9_3 x10_2) + 1)) [.int .i64 (wrap64 ((rd x9_3 x10_2) + 1))] (fun k_ => some k_ ≠ (.slice Ao31 t620.length co31 : Value).ownBlock ∧ some k_ ≠ (.slice (some ad637) t632.length co34 : Value).ownBlock ∧ some k_ ≠ (v639 : Value).ownBlock) (fun _ => False) rfl rfl ?aP (fun _ hk => hk.elim) ?aF ?aO ?aB ?aS ?aL ?_; (case aP => exact rfl); (case aB => exact (bg HB GE617)); (case aF => exact (fun k_ hk => ⟨Kd.fresh' (Kd.R_lt (rr HO_7)) k_ hk, Kd.fresh' (Kd.R_lt (rr HO_11)) k_ hk, Kd.fresh' (Kd.R_lt (rr HO640)) k_ hk⟩)); (case aO => exact (by (with_reducible repeat (first | apply Kd.R_alloc | apply Kd.R_drewN | apply Kd.R_drew)); exact Kd.R_mono HO_9.out (fun _ hk => ⟨hk.1.1, ⟨hk.1.2, hk.2⟩⟩))); (case aS => exact (below_size (bg HB GE617))); (case aL => have := LMc49.out; omega); intro v643 w53 ho hb hg hat; rw [← Ny642.out] at ho; have n0_ := Aside0.mk (Kd.R_after (ok := (fun k_ => some k_ ≠ (.slice (some ad637) t632.length co34 : Value).ownBlock ∧ some k_ ≠ (v639 : Value).ownBlock)) (by (with_reducible repeat (first | apply Kd.R_alloc | apply Kd.R_drewN | apply Kd.R_drew)); exact Kd.R_mono HO_7.out (fun _ hk => ⟨⟨hk.1.2, hk.2⟩, hk.1.1⟩)) hg hat); have n1_ := Aside0.mk (Kd.R_after (ok := (fun k_ => some k_ ≠ (.slice Ao31 t620.length co31 : Value).ownBlock ∧ some k_ ≠ (v639 : Value).ownBlock)) (by (with_reducible repeat (first | apply Kd.R_alloc | apply Kd.R_drewN | apply Kd.R_drew)); exact Kd.R_mono HO_11.out (fun _ hk => ⟨⟨hk.1.1, hk.2⟩, hk.1.2⟩)) hg hat); have n2_ := Aside0.mk (blk_grown (g := gb617) (o := .cells #[.int .i64 a0_0, .string a0_1] 27 (0, 0)) (bk BK617) hg (Kd.R_ne HO_9.out BK617.out (by decide))); have n3_ := Aside0.mk (Kd.R_after (ok := (fun k_ => some k_ ≠ (.slice Ao31 t620.length co31 : Value).ownBlock ∧ some k_ ≠ (.slice (some ad637) t632.length co34 : Value).ownBlock)) (by (with_reducible repeat (first | apply Kd.R_alloc | apply Kd.R_drewN | apply Kd.R_drew)); exact Kd.R_mono HO640.out (fun _ hk => ⟨⟨hk.1, hk.2.2⟩, hk.2.1⟩)) hg hat); have n4_ := Aside0.mk (hb); have n5_ := Aside0.mk (ho); clear HO_7; clear HO_11; clear BK617; clear HO640; clear HB; clear HO_9; have HO_7 := n0_; have HO_11 := n1_; have BK617 := n2_; have HO640 := n3_; have HB := n4_; have HO644 := n5_; clear n0_ n1_ n2_ n3_ n4_ n5_; clear ho hb hg hat))
                      repeat (go_quiet (first | ((with_reducible refine gate_builtin (b := .append) (xs := #[.tmp 78, .tmp 83]) rfl ?_); at_builtin; refine Kd.R_append (Kd.int .i64) (w0 := w) w.heap.size rfl (.tmp 78) (.tmp 83) 25 3 (.int .i64 0) 8 rfl Try.underlying25 info3 rfl (by decide) (by omega) (.slice Ao50 x8_3.length co50) x8_3 (rd t632 x12_3) [.int .i64 (rd t632 x12_3)] (fun k_ => some k_ ≠ (.slice Ao31 t620.length co31 : Value).ownBlock ∧ some k_ ≠ (u9 : Value).ownBlock ∧ some k_ ≠ (.slice (some ad637) t632.length co34 : Value).ownBlock) (fun _ => False) rfl rfl ?aP (fun _ hk => hk.elim) ?aF ?aO ?aB ?aS ?aL ?_; (case aP => exact rfl); (case aB => exact (bg HB GE617)); (case aF => exact (fun k_ hk => ⟨Kd.fresh' (Kd.R_lt (rr HO_7)) k_ hk, Kd.fresh' (Kd.R_lt (rr HO_9)) k_ hk, Kd.fresh' (Kd.R_lt (rr HO_11)) k_ hk⟩)); (case aO => exact (rr HO_8)); (case aS => exact (below_size (bg HB GE617))); (case aL => have := LMc46.out; omega); intro v639 w51 ho hb hg hat; rw [← Ny638.out] at ho; have n0_ := Aside0.mk (Kd.R_after (ok := (fun k_ => some k_ ≠ (u9 : Value).ownBlock ∧ some k_ ≠ (.slice (some ad637) t632.length co34 : Value).ownBlock)) (by (with_reducible repeat (first | apply Kd.R_alloc | apply Kd.R_drewN | apply Kd.R_drew)); exact Kd.R_mono HO_7.out (fun _ hk => ⟨⟨hk.2.1, hk.2.2⟩, hk.1⟩)) hg hat); have n1_ := Aside0.mk (Kd.R_after (ok := (fun k_ => some k_ ≠ (.slice Ao31 t620.length co31 : Value).ownBlock ∧ some k_ ≠ (.slice (some ad637) t632.length co34 : Value).ownBlock)) (by (with_reducible repeat (first | apply Kd.R_alloc | apply Kd.R_drewN | apply Kd.R_drew)); exact Kd.R_mono HO_9.out (fun _ hk => ⟨⟨hk.1, hk.2.2⟩, hk.2.1⟩)) hg hat); have n2_ := Aside0.mk (Kd.R_after (ok := (fun k_ => some k_ ≠ (.slice Ao31 t620.length co31 : Value).ownBlock ∧ some k_ ≠ (u9 : Value).ownBlock)) (by (with_reducible repeat (first | apply Kd.R_alloc | apply Kd.R_drewN | apply Kd.R_drew)); exact Kd.R_mono HO_11.out (fun _ hk => ⟨⟨hk.1, hk.2.2⟩, hk.2.1⟩)) hg hat); have n3_ := Aside0.mk (blk_grown (g := gb617) (o := .cells #[.int .i64 a0_0, .string a0_1] 27 (0, 0)) (bk BK617) hg (Kd.R_ne HO_8.out BK617.out (by decide))); have n4_ := Aside0.mk (hb); have n5_ := Aside0.mk (ho); clear HO_7; clear HO_9; clear HO_11; clear BK617; clear HB; clear HO_8; have HO_7 := n0_; have HO_9 := n1_; have HO_11 := n2_; have BK617 := n3_; have HB := n4_; have HO640 := n5_; clear n0_ n1_ n2_ n3_ n4_ n5_; clear ho hb hg hat; obtain ⟨Ao52, co52, eo52⟩ := Kd.R_slice HO_9.out; subst eo52; have p641 : 0 ≤ (x10_2 : Int) := of_decide_eq_true (by first | (with_reducible assumption) | assumption); have q641 : x10_2 < (x9_3.length : Int) := of_decide_eq_true (by first | (with_reducible assumption) | assumption); obtain ⟨ad641, e641, hx641_0⟩ := Kd.at_int (Kd.R_reads' HO_9.out).2.2 x10_2 p641 q641; cases e641; replace p641 := eq_true p641; replace q641 := eq_true q641) | ((with_reducible refine gate_builtin (b := .append) (xs := #[.tmp 85, .tmp 91]) rfl ?_); at_builtin; refine Kd.R_append (Kd.int .i64) (w0 := w) w.heap.size rfl (.tmp 85) (.tmp 91) 25 3 (.int .i64 0) 8 rfl Try.underlying25 info3 rfl (by decide) (by omega) (.slice (some ad641) x9_3.length co52) x9_3 (wrap64 ((rd x9_3 x10_2) + 1)) [.int .i64 (wrap64 ((rd x9_3 x10_2) + 1))] (fun k_ => some k_ ≠ (.slice Ao31 t620.length co31 : Value).ownBlock ∧ some k_ ≠ (.slice (some ad637) t632.length co34 : Value).ownBlock ∧ some k_ ≠ (v639 : Value).ownBlock) (fun _ => False) rfl rfl ?aP (fun _ hk => hk.elim) ?aF ?aO ?aB ?aS ?aL ?_; (case aP => exact rfl); (case aB => exact (bg HB GE617)); (case aF => exact (fun k_ hk => ⟨Kd.fresh' (Kd.R_lt (rr HO_7)) k_ hk, Kd.fresh' (Kd.R_lt (rr HO_11)) k_ hk, Kd.fresh' (Kd.R_lt (rr HO640)) k_ hk⟩)); (case aO => exact (by (with_reducible repeat (first | apply Kd.R_alloc | apply Kd.R_drewN | apply Kd.R_drew)); exact Kd.R_mono HO_9.out (fun _ hk => ⟨hk.1.1, ⟨hk.1.2, hk.2⟩⟩))); (case aS => exact (below_size (bg HB GE617))); (case aL => have := LMc49.out; omega); intro v643 w53 ho hb hg hat; rw [← Ny642.out] at ho; have n0_ := Aside0.mk (Kd.R_after (ok := (fun k_ => some k_ ≠ (.slice (some ad637) t632.length co34 : Value).ownBlock ∧ some k_ ≠ (v639 : Value).ownBlock)) (by (with_reducible repeat (first | apply Kd.R_alloc | apply Kd.R_drewN | apply Kd.R_drew)); exact Kd.R_mono HO_7.out (fun _ hk => ⟨⟨hk.1.2, hk.2⟩, hk.1.1⟩)) hg hat); have n1_ := Aside0.mk (Kd.R_after (ok := (fun k_ => some k_ ≠ (.slice Ao31 t620.length co31 : Value).ownBlock ∧ some k_ ≠ (v639 : Value).ownBlock)) (by (with_reducible repeat (first | apply Kd.R_alloc | apply Kd.R_drewN | apply Kd.R_drew)); exact Kd.R_mono HO_11.out (fun _ hk => ⟨⟨hk.1.1, hk.2⟩, hk.1.2⟩)) hg hat); have n2_ := Aside0.mk (blk_grown (g := gb617) (o := .cells #[.int .i64 a0_0, .string a0_1] 27 (0, 0)) (bk BK617) hg (Kd.R_ne HO_9.out BK617.out (by decide))); have n3_ := Aside0.mk (Kd.R_after (ok := (fun k_ => some k_ ≠ (.slice Ao31 t620.length co31 : Value).ownBlock ∧ some k_ ≠ (.slice (some ad637) t632.length co34 : Value).ownBlock)) (by (with_reducible repeat (first | apply Kd.R_alloc | apply Kd.R_drewN | apply Kd.R_drew)); exact Kd.R_mono HO640.out (fun _ hk => ⟨⟨hk.1, hk.2.2⟩, hk.2.1⟩)) hg hat); have n4_ := Aside0.mk (hb); have n5_ := Aside0.mk (ho); clear HO_7; clear HO_11; clear BK617; clear HO640; clear HB; clear HO_9; have HO_7 := n0_; have HO_11 := n1_; have BK617 := n2_; have HO640 := n3_; have HB := n4_; have HO644 := n5_; clear n0_ n1_ n2_ n3_ n4_ n5_; clear ho hb hg hat)); try go_wp2_with (first | ((with_reducible refine gate_builtin (b := .append) (xs := #[.tmp 78, .tmp 83]) rfl ?_); at_builtin; refine Kd.R_append (Kd.int .i64) (w0 := w) w.heap.size rfl (.tmp 78) (.tmp 83) 25 3 (.int .i64 0) 8 rfl Try.underlying25 info3 rfl (by decide) (by omega) (.slice Ao50 x8_3.length co50) x8_3 (rd t632 x12_3) [.int .i64 (rd t632 x12_3)] (fun k_ => some k_ ≠ (.slice Ao31 t620.length co31 : Value).ownBlock ∧ some k_ ≠ (u9 : Value).ownBlock ∧ some k_ ≠ (.slice (some ad637) t632.length co34 : Value).ownBlock) (fun _ => False) rfl rfl ?aP (fun _ hk => hk.elim) ?aF ?aO ?aB ?aS ?aL ?_; (case aP => exact rfl); (case aB => exact (bg HB GE617)); (case aF => exact (fun k_ hk => ⟨Kd.fresh' (Kd.R_lt (rr HO_7)) k_ hk, Kd.fresh' (Kd.R_lt (rr HO_9)) k_ hk, Kd.fresh' (Kd.R_lt (rr HO_11)) k_ hk⟩)); (case aO => exact (rr HO_8)); (case aS => exact (below_size (bg HB GE617))); (case aL => have := LMc46.out; omega); intro v639 w51 ho hb hg hat; rw [← Ny638.out] at ho; have n0_ := Aside0.mk (Kd.R_after (ok := (fun k_ => some k_ ≠ (u9 : Value).ownBlock ∧ some k_ ≠ (.slice (some ad637) t632.length co34 : Value).ownBlock)) (by (with_reducible repeat (first | apply Kd.R_alloc | apply Kd.R_drewN | apply Kd.R_drew)); exact Kd.R_mono HO_7.out (fun _ hk => ⟨⟨hk.2.1, hk.2.2⟩, hk.1⟩)) hg hat); have n1_ := Aside0.mk (Kd.R_after (ok := (fun k_ => some k_ ≠ (.slice Ao31 t620.length co31 : Value).ownBlock ∧ some k_ ≠ (.slice (some ad637) t632.length co34 : Value).ownBlock)) (by (with_reducible repeat (first | apply Kd.R_alloc | apply Kd.R_drewN | apply Kd.R_drew)); exact Kd.R_mono HO_9.out (fun _ hk => ⟨⟨hk.1, hk.2.2⟩, hk.2.1⟩)) hg hat); have n2_ := Aside0.mk (Kd.R_after (ok := (fun k_ => some k_ ≠ (.slice Ao31 t620.length co31 : Value).ownBlock ∧ some k_ ≠ (u9 : Value).ownBlock)) (by (with_reducible repeat (first | apply Kd.R_alloc | apply Kd.R_drewN | apply Kd.R_drew)); exact Kd.R_mono HO_11.out (fun _ hk => ⟨⟨hk.1, hk.2.2⟩, hk.2.1⟩)) hg hat); have n3_ := Aside0.mk (blk_grown (g := gb617) (o := .cells #[.int .i64 a0_0, .string a0_1] 27 (0, 0)) (bk BK617) hg (Kd.R_ne HO_8.out BK617.out (by decide))); have n4_ := Aside0.mk (hb); have n5_ := Aside0.mk (ho); clear HO_7; clear HO_9; clear HO_11; clear BK617; clear HB; clear HO_8; have HO_7 := n0_; have HO_9 := n1_; have HO_11 := n2_; have BK617 := n3_; have HB := n4_; have HO640 := n5_; clear n0_ n1_ n2_ n3_ n4_ n5_; clear ho hb hg hat; obtain ⟨Ao52, co52, eo52⟩ := Kd.R_slice HO_9.out; subst eo52; have p641 : 0 ≤ (x10_2 : Int) := of_decide_eq_true (by first | (with_reducible assumption) | assumption); have q641 : x10_2 < (x9_3.length : Int) := of_decide_eq_true (by first | (with_reducible assumption) | assumption); obtain ⟨ad641, e641, hx641_0⟩ := Kd.at_int (Kd.R_reads' HO_9.out).2.2 x10_2 p641 q641; cases e641; replace p641 := eq_true p641; replace q641 := eq_true q641) | ((with_reducible refine gate_builtin (b := .append) (xs := #[.tmp 85, .tmp 91]) rfl ?_); at_builtin; refine Kd.R_append (Kd.int .i64) (w0 := w) w.heap.size rfl (.tmp 85) (.tmp 91) 25 3 (.int .i64 0) 8 rfl Try.underlying25 info3 rfl (by decide) (by omega) (.slice (some ad641) x9_3.length co52) x9_3 (wrap64 ((rd x9_3 x10_2) + 1)) [.int .i64 (wrap64 ((rd x9_3 x10_2) + 1))] (fun k_ => some k_ ≠ (.slice Ao31 t620.length co31 : Value).ownBlock ∧ some k_ ≠ (.slice (some ad637) t632.length co34 : Value).ownBlock ∧ some k_ ≠ (v639 : Value).ownBlock) (fun _ => False) rfl rfl ?aP (fun _ hk => hk.elim) ?aF ?aO ?aB ?aS ?aL ?_; (case aP => exact rfl); (case aB => exact (bg HB GE617)); (case aF => exact (fun k_ hk => ⟨Kd.fresh' (Kd.R_lt (rr HO_7)) k_ hk, Kd.fresh' (Kd.R_lt (rr HO_11)) k_ hk, Kd.fresh' (Kd.R_lt (rr HO640)) k_ hk⟩)); (case aO => exact (by (with_reducible repeat (first | apply Kd.R_alloc | apply Kd.R_drewN | apply Kd.R_drew)); exact Kd.R_mono HO_9.out (fun _ hk => ⟨hk.1.1, ⟨hk.1.2, hk.2⟩⟩))); (case aS => exact (below_size (bg HB GE617))); (case aL => have := LMc49.out; omega); intro v643 w53 ho hb hg hat; rw [← Ny642.out] at ho; have n0_ := Aside0.mk (Kd.R_after (ok := (fun k_ => some k_ ≠ (.slice (some ad637) t632.length co34 : Value).ownBlock ∧ some k_ ≠ (v639 : Value).ownBlock)) (by (with_reducible repeat (first | apply Kd.R_alloc | apply Kd.R_drewN | apply Kd.R_drew)); exact Kd.R_mono HO_7.out (fun _ hk => ⟨⟨hk.1.2, hk.2⟩, hk.1.1⟩)) hg hat); have n1_ := Aside0.mk (Kd.R_after (ok := (fun k_ => some k_ ≠ (.slice Ao31 t620.length co31 : Value).ownBlock ∧ some k_ ≠ (v639 : Value).ownBlock)) (by (with_reducible repeat (first | apply Kd.R_alloc | apply Kd.R_drewN | apply Kd.R_drew)); exact Kd.R_mono HO_11.out (fun _ hk => ⟨⟨hk.1.1, hk.2⟩, hk.1.2⟩)) hg hat); have n2_ := Aside0.mk (blk_grown (g := gb617) (o := .cells #[.int .i64 a0_0, .string a0_1] 27 (0, 0)) (bk BK617) hg (Kd.R_ne HO_9.out BK617.out (by decide))); have n3_ := Aside0.mk (Kd.R_after (ok := (fun k_ => some k_ ≠ (.slice Ao31 t620.length co31 : Value).ownBlock ∧ some k_ ≠ (.slice (some ad637) t632.length co34 : Value).ownBlock)) (by (with_reducible repeat (first | apply Kd.R_alloc | apply Kd.R_drewN | apply Kd.R_drew)); exact Kd.R_mono HO640.out (fun _ hk => ⟨⟨hk.1, hk.2.2⟩, hk.2.1⟩)) hg hat); have n4_ := Aside0.mk (hb); have n5_ := Aside0.mk (ho); clear HO_7; clear HO_11; clear BK617; clear HO640; clear HB; clear HO_9; have HO_7 := n0_; have HO_11 := n1_; have BK617 := n2_; have HO640 := n3_; have HB := n4_; have HO644 := n5_; clear n0_ n1_ n2_ n3_ n4_ n5_; clear ho hb hg hat)))
                      go_roundg k4
                      case measure => have := HJ3.out; have := HK2.out; have := HK3.out; have := HK4.out; omega
                      case rel => exact ⟨(y638), (y642), (wrap64 (x12_3 + 1)), (by first | rfl | (simp; done) | (simp [*]; done)), H', ⟨by have := HJ3.out; have := HK2.out; have := HK3.out; have := HK4.out; omega⟩, ⟨by (with_reducible repeat (first | apply Kd.R_alloc | apply Kd.R_drewN | apply Kd.R_drew)); exact Kd.R_mono HO_7.out (fun _ hk => ⟨hk.1.2, ⟨hk.2, hk.1.1⟩⟩)⟩, ⟨by (with_reducible repeat (first | apply Kd.R_alloc | apply Kd.R_drewN | apply Kd.R_drew)); exact Kd.R_mono HO640.out (fun _ hk => ⟨hk.1.1, ⟨hk.2, hk.1.2⟩⟩)⟩, ⟨by (with_reducible repeat (first | apply Kd.R_alloc | apply Kd.R_drewN | apply Kd.R_drew)); exact Kd.R_mono HO644.out (fun _ hk => ⟨hk.1, ⟨hk.2.2, hk.2.1⟩⟩)⟩, ⟨by (with_reducible repeat (first | apply Kd.R_alloc | apply Kd.R_drewN | apply Kd.R_drew)); exact Kd.R_mono HO_11.out (fun _ hk => ⟨hk.1.1, ⟨hk.1.2, hk.2⟩⟩)⟩, ⟨by (with_reducible repeat (first | refine blk_drewN ?_ _ | refine blk_drew ?_ | refine blk_alloc ?_ _)); exact BK617.out⟩, ⟨(bg HB GE617)⟩⟩
                     ·rw [if_neg c49] at H
                      exact absurd H (by simp)
                    ·rw [if_neg c48] at H
                     exact absurd H (by simp)
                   ·rw [if_neg c47] at H
                    exact absurd H (by simp)
                  ·rw [if_neg c46] at H
                   exact absurd H (by simp)
                 ·rw [if_neg c45] at H
                  exact absurd H (by simp)
                ·rw [if_neg c44] at H
                 exact absurd H (by simp)
           ·rw [if_neg c33] at H
            have c33b0 : decide (x12_3 < (t632.length : Int)) = false := decide_eq_false c33
            clear c33
            have H' := Aside0.mk H
            clear H
            obtain ⟨Ao54, co54, eo54⟩ := Kd.R_slice HO_11.out
            subst eo54
            go_wp2
            repeat (go_quiet (fail); try go_wp2)
            go_roundg k3
            case measure => have := HJ3.out; have := HK2.out; have := HK3.out; omega
            case rel => exact ⟨(x8_3), (x9_3), (wrap64 (x10_2 + 1)), (by first | rfl | (simp; done) | (simp [*]; done)), H', ⟨by have := HJ3.out; have := HK2.out; have := HK3.out; omega⟩, ⟨by (with_reducible repeat (first | apply Kd.R_alloc | apply Kd.R_drewN | apply Kd.R_drew)); exact Kd.R_mono HO_7.out (fun _ hk => ⟨hk.1, hk.2.1⟩)⟩, ⟨by (with_reducible repeat (first | apply Kd.R_alloc | apply Kd.R_drewN | apply Kd.R_drew)); exact Kd.R_mono HO_8.out (fun _ hk => ⟨hk.1, hk.2.1⟩)⟩, ⟨by (with_reducible repeat (first | apply Kd.R_alloc | apply Kd.R_drewN | apply Kd.R_drew)); exact Kd.R_mono HO_9.out (fun _ hk => ⟨hk.1, hk.2.1⟩)⟩, ⟨by (with_reducible repeat (first | refine blk_drewN ?_ _ | refine blk_drew ?_ | refine blk_alloc ?_ _)); exact BK617.out⟩, ⟨(bg HB GE617)⟩⟩
       ·rw [if_neg c24] at H
        exact absurd H (by simp)
      ·rw [if_neg c23] at H
       have c23b0 : decide (x10_2 < (x8_2.length : Int)) = false := decide_eq_false c23
       clear c23
       obtain rfl := Option.some.inj H
       obtain ⟨Ao55, co55, eo55⟩ := Kd.R_slice HO_8.out
       subst eo55
       go_wp2
       repeat (go_quiet (fail); try go_wp2)
       go_ret
       exact ⟨by first | rfl | (simp [errW_none, errW_some] <;> rfl) | (simp [*, errW_none, errW_some] <;> rfl), (bg HB GE617)⟩

end Go.Proofs.Ytiimkifkakdalaa.P
