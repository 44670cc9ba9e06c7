-- Printed by a program of this session (wip/tools/myprint.py, over the kit's print.py); not trusted: Lean checks it.
import Derived.Test.YtiimkifkakdalaaWAll2
import Derived.Test.YtiimkifkakdalaaP0
import Derived.Test.YtiimkifkakdalaaP27
namespace Go.Proofs.Ytiimkifkakdalaa.P
open Go.RowKit Go.Proofs.YtiimkifkakdalaaW.PrintWords Go.Proofs.YtiimkifkakdalaaW.PrintLast Go.Proofs.YtiimkifkakdalaaW.PrintMore
attribute [local go_sem] max2_int min2_int max_two min_two max_three min_three max_four min_four   -- for this text's walks alone
set_option linter.unusedVariables false
set_option linter.unusedSimpArgs false

/-! ### spec_SlopeBefore: function 53 -/
def spec_SlopeBefore.f (a0_0 : Int) (a0_1 : Int) (a1_0 : Int) (a1_1 : Int) (a2_0 : Int) (a2_1 : Int) (a3_0 : Int) (a3_1 : Int) : Option (Bool) := (spec_l2Fits.f a0_0 a0_1 1000).bind fun t719 => (if t719 = true then ((spec_l2Fits.f a1_0 a1_1 1000).bind fun t720 => (if t720 = true then ((spec_l2Fits.f a2_0 a2_1 1000).bind fun t721 => (if t721 = true then ((spec_l2Fits.f a3_0 a3_1 1000).bind fun t722 => (if t722 = true then (if a0_0 ≥ a1_0 then (some false) else (if a2_0 ≥ a3_0 then (some false) else (some (decide ((wrap64 ((wrap64 (a1_1 - a0_1)) * (wrap64 (a3_0 - a2_0)))) < (wrap64 ((wrap64 (a3_1 - a2_1)) * (wrap64 (a1_0 - a0_0))))))))) else (some false))) else (some false))) else (some false))) else (some false))
set_option maxHeartbeats 8000000 in
set_option maxRecDepth 100000 in
theorem spec_SlopeBefore.calls (a0_0 : Int) (a0_1 : Int) (a1_0 : Int) (a1_1 : Int) (a2_0 : Int) (a2_1 : Int) (a3_0 : Int) (a3_1 : Int) (r : Bool) (w : World) (h : spec_SlopeBefore.f a0_0 a0_1 a1_0 a1_1 a2_0 a2_1 a3_0 a3_1 = some r) :
  Calls Try.prog 53 #[.agg #[.int .i64 a0_0, .int .i64 a0_1], .agg #[.int .i64 a1_0, .int .i64 a1_1], .agg #[.int .i64 a2_0, .int .i64 a2_1], .agg #[.int .i64 a3_0, .int .i64 a3_1]] w fun e w' => e = .returned (.bool r) ∧ Below w.heap.size w w' := by
 have hu64 := Try.underlying64
 have HB := Aside0.mk (Below.refl w.heap.size w)
 have H : ((spec_l2Fits.f a0_0 a0_1 1000).bind fun t719 => (if t719 = true then ((spec_l2Fits.f a1_0 a1_1 1000).bind fun t720 => (if t720 = true then ((spec_l2Fits.f a2_0 a2_1 1000).bind fun t721 => (if t721 = true then ((spec_l2Fits.f a3_0 a3_1 1000).bind fun t722 => (if t722 = true then (if a0_0 ≥ a1_0 then (some false) else (if a2_0 ≥ a3_0 then (some false) else (some (decide ((wrap64 ((wrap64 (a1_1 - a0_1)) * (wrap64 (a3_0 - a2_0)))) < (wrap64 ((wrap64 (a3_1 - a2_1)) * (wrap64 (a1_0 - a0_0))))))))) else (some false))) else (some false))) else (some false))) else (some false))) = some r := h
 clear h
 replace H := Option.bind_eq_some_iff.mp H
 obtain ⟨t719, A50, H⟩ := H
 (try dsimp only at H)
 have A5 := Aside0.mk A50
 clear A50
 by_cases c6 : t719 = true
 ·subst c6
  have H1 : ((spec_l2Fits.f a1_0 a1_1 1000).bind fun t720 => (if t720 = true then ((spec_l2Fits.f a2_0 a2_1 1000).bind fun t721 => (if t721 = true then ((spec_l2Fits.f a3_0 a3_1 1000).bind fun t722 => (if t722 = true then (if a0_0 ≥ a1_0 then (some false) else (if a2_0 ≥ a3_0 then (some false) else (some (decide ((wrap64 ((wrap64 (a1_1 - a0_1)) * (wrap64 (a3_0 - a2_0)))) < (wrap64 ((wrap64 (a3_1 - a2_1)) * (wrap64 (a1_0 - a0_0))))))))) else (some false))) else (some false))) else (some false))) = some r := by rw [if_pos rfl] at H; exact H
  clear H
  have H := H1
  clear H1
  replace H := Option.bind_eq_some_iff.mp H
  obtain ⟨t720, A70, H⟩ := H
  (try dsimp only at H)
  have A7 := Aside0.mk A70
  clear A70
  by_cases c8 : t720 = true
  ·subst c8
   have H1 : ((spec_l2Fits.f a2_0 a2_1 1000).bind fun t721 => (if t721 = true then ((spec_l2Fits.f a3_0 a3_1 1000).bind fun t722 => (if t722 = true then (if a0_0 ≥ a1_0 then (some false) else (if a2_0 ≥ a3_0 then (some false) else (some (decide ((wrap64 ((wrap64 (a1_1 - a0_1)) * (wrap64 (a3_0 - a2_0)))) < (wrap64 ((wrap64 (a3_1 - a2_1)) * (wrap64 (a1_0 - a0_0))))))))) else (some false))) else (some false))) = some r := by rw [if_pos rfl] at H; exact H
   clear H
   have H := H1
   clear H1
   replace H := Option.bind_eq_some_iff.mp H
   obtain ⟨t721, A90, H⟩ := H
   (try dsimp only at H)
   have A9 := Aside0.mk A90
   clear A90
   by_cases c10 : t721 = true
   ·subst c10
    have H1 : ((spec_l2Fits.f a3_0 a3_1 1000).bind fun t722 => (if t722 = true then (if a0_0 ≥ a1_0 then (some false) else (if a2_0 ≥ a3_0 then (some false) else (some (decide ((wrap64 ((wrap64 (a1_1 - a0_1)) * (wrap64 (a3_0 - a2_0)))) < (wrap64 ((wrap64 (a3_1 - a2_1)) * (wrap64 (a1_0 - a0_0))))))))) else (some false))) = some r := by rw [if_pos rfl] at H; exact H
    clear H
    have H := H1
    clear H1
    replace H := Option.bind_eq_some_iff.mp H
    obtain ⟨t722, A110, H⟩ := H
    (try dsimp only at H)
    have A11 := Aside0.mk A110
    clear A110
    by_cases c12 : t722 = true
    ·subst c12
     have H1 : (if a0_0 ≥ a1_0 then (some false) else (if a2_0 ≥ a3_0 then (some false) else (some (decide ((wrap64 ((wrap64 (a1_1 - a0_1)) * (wrap64 (a3_0 - a2_0)))) < (wrap64 ((wrap64 (a3_1 - a2_1)) * (wrap64 (a1_0 - a0_0))))))))) = some r := by rw [if_pos rfl] at H; exact H
     clear H
     have H := H1
     clear H1
     by_cases c13 : a0_0 ≥ a1_0
     ·rw [if_pos c13] at H
      have c13b0 : decide (a1_0 ≤ a0_0) = true := decide_eq_true c13
      clear c13
      obtain rfl := Option.some.inj H
      go_enter Try.func53, Try.ntmps53
      go_wp2_with (first | ((with_reducible refine gate_dst (N := 4) rfl ?_); refine bx 4 #[.int .i64 a0_0, .int .i64 a0_1] 64 ?_; intro gb715 hg w14 hbox hb; have BK715 := Aside0.mk hbox; have GE715 := gs HB hg; have GW715 := GE715; replace HB := bs HB hb; clear hb hbox hg) | ((with_reducible refine gate_dst (N := 5) rfl ?_); refine bx 5 #[.int .i64 a1_0, .int .i64 a1_1] 64 ?_; intro gb716 hg w15 hbox hb; have n0_ := Aside0.mk (blk_below (g := gb715) (o := .cells #[.int .i64 a0_0, .int .i64 a0_1] 64 (0, 0)) (bk BK715) hb); have n1_ := bsg HB GE715 hb; have n2_ := Aside0.mk (hbox); have n3_ := Aside0.mk ((by rw [hg]; exact (below_size (bg HB GE715)) : w.heap.size ≤ gb716)); have n4_ := Aside0.mk ((by rw [hg]; exact (below_size (bg HB GE715)) : w.heap.size ≤ gb716)); have n5_ := Aside0.mk ((by rw [hg]; exact Nat.ne_of_lt (blk_lt (g := gb715) (o := .cells #[.int .i64 a0_0, .int .i64 a0_1] 64 (0, 0)) (bk BK715)) : gb715 ≠ gb716)); have n6_ := Aside0.mk ((by rw [hg]; exact Nat.ne_of_gt (blk_lt (g := gb715) (o := .cells #[.int .i64 a0_0, .int .i64 a0_1] 64 (0, 0)) (bk BK715)) : gb716 ≠ gb715)); clear BK715; clear HB; have BK715 := n0_; have HB := n1_; have BK716 := n2_; have GW716 := n3_; have GE716 := n4_; have NB715_716 := n5_; have NB716_715 := n6_; clear n0_ n1_ n2_ n3_ n4_ n5_ n6_; clear hb hbox hg) | ((with_reducible refine gate_dst (N := 6) rfl ?_); refine bx 6 #[.int .i64 a2_0, .int .i64 a2_1] 64 ?_; intro gb717 hg w16 hbox hb; have n0_ := Aside0.mk (blk_below (g := gb715) (o := .cells #[.int .i64 a0_0, .int .i64 a0_1] 64 (0, 0)) (bk BK715) hb); have n1_ := Aside0.mk (blk_below (g := gb716) (o := .cells #[.int .i64 a1_0, .int .i64 a1_1] 64 (0, 0)) (bk BK716) hb); have n2_ := Aside0.mk (below_step (by repeat (first | (with_reducible first | exact HB.out | apply below_alloc | apply pw_below_drewN | apply below_drew1 | refine below_set ?_ GE715.out | refine below_set ?_ GE716.out) | exact HB.out)) hb); have n3_ := Aside0.mk (hbox); have n4_ := Aside0.mk ((by rw [hg]; exact (below_size (by repeat (first | (with_reducible first | exact HB.out | apply below_alloc | apply pw_below_drewN | apply below_drew1 | refine below_set ?_ GE715.out | refine below_set ?_ GE716.out) | exact HB.out))) : w.heap.size ≤ gb717)); have n5_ := Aside0.mk ((by rw [hg]; exact (below_size (by repeat (first | (with_reducible first | exact HB.out | apply below_alloc | apply pw_below_drewN | apply below_drew1 | refine below_set ?_ GE715.out | refine below_set ?_ GE716.out) | exact HB.out))) : w.heap.size ≤ gb717)); have n6_ := Aside0.mk ((by rw [hg]; exact Nat.ne_of_lt (blk_lt (g := gb715) (o := .cells #[.int .i64 a0_0, .int .i64 a0_1] 64 (0, 0)) (bk BK715)) : gb715 ≠ gb717)); have n7_ := Aside0.mk ((by rw [hg]; exact Nat.ne_of_gt (blk_lt (g := gb715) (o := .cells #[.int .i64 a0_0, .int .i64 a0_1] 64 (0, 0)) (bk BK715)) : gb717 ≠ gb715)); have n8_ := Aside0.mk ((by rw [hg]; exact Nat.ne_of_lt (blk_lt (g := gb716) (o := .cells #[.int .i64 a1_0, .int .i64 a1_1] 64 (0, 0)) (bk BK716)) : gb716 ≠ gb717)); have n9_ := Aside0.mk ((by rw [hg]; exact Nat.ne_of_gt (blk_lt (g := gb716) (o := .cells #[.int .i64 a1_0, .int .i64 a1_1] 64 (0, 0)) (bk BK716)) : gb717 ≠ gb716)); clear BK715; clear BK716; clear HB; have BK715 := n0_; have BK716 := n1_; have HB := n2_; have BK717 := n3_; have GW717 := n4_; have GE717 := n5_; have NB715_717 := n6_; have NB717_715 := n7_; have NB716_717 := n8_; have NB717_716 := n9_; clear n0_ n1_ n2_ n3_ n4_ n5_ n6_ n7_ n8_ n9_; clear hb hbox hg) | ((with_reducible refine gate_dst (N := 7) rfl ?_); refine bx 7 #[.int .i64 a3_0, .int .i64 a3_1] 64 ?_; intro gb718 hg w17 hbox hb; have n0_ := Aside0.mk (blk_below (g := gb715) (o := .cells #[.int .i64 a0_0, .int .i64 a0_1] 64 (0, 0)) (bk BK715) hb); have n1_ := Aside0.mk (blk_below (g := gb716) (o := .cells #[.int .i64 a1_0, .int .i64 a1_1] 64 (0, 0)) (bk BK716) hb); have n2_ := Aside0.mk (blk_below (g := gb717) (o := .cells #[.int .i64 a2_0, .int .i64 a2_1] 64 (0, 0)) (bk BK717) hb); have n3_ := Aside0.mk (below_step (by repeat (first | (with_reducible first | exact HB.out | apply below_alloc | apply pw_below_drewN | apply below_drew1 | refine below_set ?_ GE715.out | refine below_set ?_ GE716.out | refine below_set ?_ GE717.out) | exact HB.out)) hb); have n4_ := Aside0.mk (hbox); have n5_ := Aside0.mk ((by rw [hg]; exact (below_size (by repeat (first | (with_reducible first | exact HB.out | apply below_alloc | apply pw_below_drewN | apply below_drew1 | refine below_set ?_ GE715.out | refine below_set ?_ GE716.out | refine below_set ?_ GE717.out) | exact HB.out))) : w.heap.size ≤ gb718)); have n6_ := Aside0.mk ((by rw [hg]; exact (below_size (by repeat (first | (with_reducible first | exact HB.out | apply below_alloc | apply pw_below_drewN | apply below_drew1 | refine below_set ?_ GE715.out | refine below_set ?_ GE716.out | refine below_set ?_ GE717.out) | exact HB.out))) : w.heap.size ≤ gb718)); have n7_ := Aside0.mk ((by rw [hg]; exact Nat.ne_of_lt (blk_lt (g := gb715) (o := .cells #[.int .i64 a0_0, .int .i64 a0_1] 64 (0, 0)) (bk BK715)) : gb715 ≠ gb718)); have n8_ := Aside0.mk ((by rw [hg]; exact Nat.ne_of_gt (blk_lt (g := gb715) (o := .cells #[.int .i64 a0_0, .int .i64 a0_1] 64 (0, 0)) (bk BK715)) : gb718 ≠ gb715)); have n9_ := Aside0.mk ((by rw [hg]; exact Nat.ne_of_lt (blk_lt (g := gb716) (o := .cells #[.int .i64 a1_0, .int .i64 a1_1] 64 (0, 0)) (bk BK716)) : gb716 ≠ gb718)); have n10_ := Aside0.mk ((by rw [hg]; exact Nat.ne_of_gt (blk_lt (g := gb716) (o := .cells #[.int .i64 a1_0, .int .i64 a1_1] 64 (0, 0)) (bk BK716)) : gb718 ≠ gb716)); have n11_ := Aside0.mk ((by rw [hg]; exact Nat.ne_of_lt (blk_lt (g := gb717) (o := .cells #[.int .i64 a2_0, .int .i64 a2_1] 64 (0, 0)) (bk BK717)) : gb717 ≠ gb718)); have n12_ := Aside0.mk ((by rw [hg]; exact Nat.ne_of_gt (blk_lt (g := gb717) (o := .cells #[.int .i64 a2_0, .int .i64 a2_1] 64 (0, 0)) (bk BK717)) : gb718 ≠ gb717)); clear BK715; clear BK716; clear BK717; clear HB; have BK715 := n0_; have BK716 := n1_; have BK717 := n2_; have HB := n3_; have BK718 := n4_; have GW718 := n5_; have GE718 := n6_; have NB715_718 := n7_; have NB718_715 := n8_; have NB716_718 := n9_; have NB718_716 := n10_; have NB717_718 := n11_; have NB718_717 := n12_; clear n0_ n1_ n2_ n3_ n4_ n5_ n6_ n7_ n8_ n9_ n10_ n11_ n12_; clear hb hbox hg; have hnb18 := NB715_716.out; have hnc18 := NB716_715.out; have hnb19 := NB715_717.out; have hnc19 := NB717_715.out; have hnb20 := NB715_718.out; have hnc20 := NB718_715.out; have hcz21_0 := bc BK715 0; have hcz21_1 := bc BK715 1; have hfz21_0 := bf BK715 0; have hfz21_1 := bf BK715 1) | ((with_reducible refine gate_callee (f := 92) rfl ?_); refine gL (some 10) rfl rfl Try.func92 (by kernel_rfl) rfl #[.agg #[.int .i64 a0_0, .int .i64 a0_1], .int .i64 1000] rfl ?_; (with_reducible refine (spec_l2Fits.calls a0_0 a0_1 1000 true _ A5.out).mono ?_); rintro e w22 ⟨rfl, hb⟩; refine ⟨_, rfl, ?_⟩; have n0_ := Aside0.mk (blk_below (g := gb715) (o := .cells #[.int .i64 a0_0, .int .i64 a0_1] 64 (0, 0)) (bk BK715) hb); have n1_ := Aside0.mk (blk_below (g := gb716) (o := .cells #[.int .i64 a1_0, .int .i64 a1_1] 64 (0, 0)) (bk BK716) hb); have n2_ := Aside0.mk (blk_below (g := gb717) (o := .cells #[.int .i64 a2_0, .int .i64 a2_1] 64 (0, 0)) (bk BK717) hb); have n3_ := Aside0.mk (blk_below (g := gb718) (o := .cells #[.int .i64 a3_0, .int .i64 a3_1] 64 (0, 0)) (bk BK718) hb); have n4_ := Aside0.mk (below_step (by repeat (first | (with_reducible first | exact HB.out | apply below_alloc | apply pw_below_drewN | apply below_drew1 | refine below_set ?_ GE715.out | refine below_set ?_ GE716.out | refine below_set ?_ GE717.out | refine below_set ?_ GE718.out) | exact HB.out)) hb); clear BK715; clear BK716; clear BK717; clear BK718; clear HB; have BK715 := n0_; have BK716 := n1_; have BK717 := n2_; have BK718 := n3_; have HB := n4_; clear n0_ n1_ n2_ n3_ n4_; (try clear hb); (try clear hb2); (try clear hk); (try clear hi); have hnb23 := NB716_717.out; have hnc23 := NB717_716.out; have hnb24 := NB716_718.out; have hnc24 := NB718_716.out; have hcz25_0 := bc BK716 0; have hcz25_1 := bc BK716 1; have hfz25_0 := bf BK716 0; have hfz25_1 := bf BK716 1) | (go_at_call 92; (with_reducible refine (spec_l2Fits.calls a1_0 a1_1 1000 true _ A7.out).mono ?_); rintro e w26 ⟨rfl, hb⟩; have n0_ := Aside0.mk (blk_below (g := gb715) (o := .cells #[.int .i64 a0_0, .int .i64 a0_1] 64 (0, 0)) (bk BK715) hb); have n1_ := Aside0.mk (blk_below (g := gb716) (o := .cells #[.int .i64 a1_0, .int .i64 a1_1] 64 (0, 0)) (bk BK716) hb); have n2_ := Aside0.mk (blk_below (g := gb717) (o := .cells #[.int .i64 a2_0, .int .i64 a2_1] 64 (0, 0)) (bk BK717) hb); have n3_ := Aside0.mk (blk_below (g := gb718) (o := .cells #[.int .i64 a3_0, .int .i64 a3_1] 64 (0, 0)) (bk BK718) hb); have n4_ := Aside0.mk (below_step (by repeat (first | (with_reducible first | exact HB.out | apply below_alloc | apply pw_below_drewN | apply below_drew1 | refine below_set ?_ GE715.out | refine below_set ?_ GE716.out | refine below_set ?_ GE717.out | refine below_set ?_ GE718.out) | exact HB.out)) hb); clear BK715; clear BK716; clear BK717; clear BK718; clear HB; have BK715 := n0_; have BK716 := n1_; have BK717 := n2_; have BK718 := n3_; have HB := n4_; clear n0_ n1_ n2_ n3_ n4_; (try clear hb); (try clear hb2); (try clear hk); (try clear hi); have hnb27 := NB717_718.out; have hnc27 := NB718_717.out; have hcz28_0 := bc BK717 0; have hcz28_1 := bc BK717 1; have hfz28_0 := bf BK717 0; have hfz28_1 := bf BK717 1) | (go_at_call 92; (with_reducible refine (spec_l2Fits.calls a2_0 a2_1 1000 true _ A9.out).mono ?_); rintro e w29 ⟨rfl, hb⟩; have n0_ := Aside0.mk (blk_below (g := gb715) (o := .cells #[.int .i64 a0_0, .int .i64 a0_1] 64 (0, 0)) (bk BK715) hb); have n1_ := Aside0.mk (blk_below (g := gb716) (o := .cells #[.int .i64 a1_0, .int .i64 a1_1] 64 (0, 0)) (bk BK716) hb); have n2_ := Aside0.mk (blk_below (g := gb717) (o := .cells #[.int .i64 a2_0, .int .i64 a2_1] 64 (0, 0)) (bk BK717) hb); have n3_ := Aside0.mk (blk_below (g := gb718) (o := .cells #[.int .i64 a3_0, .int .i64 a3_1] 64 (0, 0)) (bk BK718) hb); have n4_ := Aside0.mk (below_step (by repeat (first | (with_reducible first | exact HB.out | apply below_alloc | apply pw_below_drewN | apply below_drew1 | refine below_set ?_ GE715.out | refine below_set ?_ GE716.out | refine below_set ?_ GE717.out | refine below_set ?_ GE718.out) | exact HB.out)) hb); clear BK715; clear BK716; clear BK717; clear BK718; clear HB; have BK715 := n0_; have BK716 := n1_; have BK717 := n2_; have BK718 := n3_; have HB := n4_; clear n0_ n1_ n2_ n3_ n4_; (try clear hb); (try clear hb2); (try clear hk); (try clear hi); have hcz30_0 := bc BK718 0; have hcz30_1 := bc BK718 1; have hfz30_0 := bf BK718 0; have hfz30_1 := bf BK718 1) | (go_at_call 92; (with_reducible refine (spec_l2Fits.calls a3_0 a3_1 1000 true _ A11.out).mono ?_); rintro e w31 ⟨rfl, hb⟩; have n0_ := Aside0.mk (blk_below (g := gb715) (o := .cells #[.int .i64 a0_0, .int .i64 a0_1] 64 (0, 0)) (bk BK715) hb); have n1_ := Aside0.mk (blk_below (g := gb716) (o := .cells #[.int .i64 a1_0, .int .i64 a1_1] 64 (0, 0)) (bk BK716) hb); have n2_ := Aside0.mk (blk_below (g := gb717) (o := .cells #[.int .i64 a2_0, .int .i64 a2_1] 64 (0, 0)) (bk BK717) hb); have n3_ := Aside0.mk (blk_below (g := gb718) (o := .cells #[.int .i64 a3_0, .int .i64 a3_1] 64 (0, 0)) (bk BK718) hb); have n4_ := Aside0.mk (below_step (by repeat (first | (with_reducible first | exact HB.out | apply below_alloc | apply pw_below_drewN | apply below_drew1 | refine below_set ?_ GE715.out | refine below_set ?_ GE716.out | refine below_set ?_ GE717.out | refine below_set ?_ GE718.out) | exact HB.out)) hb); clear BK715; clear BK716; clear BK717; clear BK718; clear HB; have BK715 := n0_; have BK716 := n1_; have BK717 := n2_; have BK718 := n3_; have HB := n4_; clear n0_ n1_ n2_ n3_ n4_; (try clear hb); (try clear hb2); (try clear hk); (try clear hi); have hcz32_0 := bc BK715 0; have hcz32_1 := bc BK715 1; have hfz32_0 := bf BK715 0; have hfz32_1 := bf BK715 1; have hcz33_0 := bc BK716 0; have hcz33_1 := bc BK716 1; have hfz33_0 := bf BK716 0; have hfz33_1 := bf BK716 1))
      go_ret
      exact ⟨by first | rfl | (simp [errW_none, errW_some] <;> rfl) | (simp [*, errW_none, errW_some] <;> rfl), by repeat (first | (with_reducible first | exact HB.out | apply below_alloc | apply pw_below_drewN | apply below_drew1 | refine below_set ?_ GE715.out | refine below_set ?_ GE716.out | refine below_set ?_ GE717.out | refine below_set ?_ GE718.out) | exact HB.out)⟩
     ·rw [if_neg c13] at H
      have c13b0 : decide (a1_0 ≤ a0_0) = false := decide_eq_false c13
      clear c13
      by_cases c34 : a2_0 ≥ a3_0
      ·rw [if_pos c34] at H
       have c34b0 : decide (a3_0 ≤ a2_0) = true := decide_eq_true c34
       clear c34
       obtain rfl := Option.some.inj H
       go_enter Try.func53, Try.ntmps53
       go_wp2_with (first | ((with_reducible refine gate_dst (N := 4) rfl ?_); refine bx 4 #[.int .i64 a0_0, .int .i64 a0_1] 64 ?_; intro gb715 hg w35 hbox hb; have BK715 := Aside0.mk hbox; have GE715 := gs HB hg; have GW715 := GE715; replace HB := bs HB hb; clear hb hbox hg) | ((with_reducible refine gate_dst (N := 5) rfl ?_); refine bx 5 #[.int .i64 a1_0, .int .i64 a1_1] 64 ?_; intro gb716 hg w36 hbox hb; have n0_ := Aside0.mk (blk_below (g := gb715) (o := .cells #[.int .i64 a0_0, .int .i64 a0_1] 64 (0, 0)) (bk BK715) hb); have n1_ := bsg HB GE715 hb; have n2_ := Aside0.mk (hbox); have n3_ := Aside0.mk ((by rw [hg]; exact (below_size (bg HB GE715)) : w.heap.size ≤ gb716)); have n4_ := Aside0.mk ((by rw [hg]; exact (below_size (bg HB GE715)) : w.heap.size ≤ gb716)); have n5_ := Aside0.mk ((by rw [hg]; exact Nat.ne_of_lt (blk_lt (g := gb715) (o := .cells #[.int .i64 a0_0, .int .i64 a0_1] 64 (0, 0)) (bk BK715)) : gb715 ≠ gb716)); have n6_ := Aside0.mk ((by rw [hg]; exact Nat.ne_of_gt (blk_lt (g := gb715) (o := .cells #[.int .i64 a0_0, .int .i64 a0_1] 64 (0, 0)) (bk BK715)) : gb716 ≠ gb715)); clear BK715; clear HB; have BK715 := n0_; have HB := n1_; have BK716 := n2_; have GW716 := n3_; have GE716 := n4_; have NB715_716 := n5_; have NB716_715 := n6_; clear n0_ n1_ n2_ n3_ n4_ n5_ n6_; clear hb hbox hg) | ((with_reducible refine gate_dst (N := 6) rfl ?_); refine bx 6 #[.int .i64 a2_0, .int .i64 a2_1] 64 ?_; intro gb717 hg w37 hbox hb; have n0_ := Aside0.mk (blk_below (g := gb715) (o := .cells #[.int .i64 a0_0, .int .i64 a0_1] 64 (0, 0)) (bk BK715) hb); have n1_ := Aside0.mk (blk_below (g := gb716) (o := .cells #[.int .i64 a1_0, .int .i64 a1_1] 64 (0, 0)) (bk BK716) hb); have n2_ := Aside0.mk (below_step (by repeat (first | (with_reducible first | exact HB.out | apply below_alloc | apply pw_below_drewN | apply below_drew1 | refine below_set ?_ GE715.out | refine below_set ?_ GE716.out) | exact HB.out)) hb); have n3_ := Aside0.mk (hbox); have n4_ := Aside0.mk ((by rw [hg]; exact (below_size (by repeat (first | (with_reducible first | exact HB.out | apply below_alloc | apply pw_below_drewN | apply below_drew1 | refine below_set ?_ GE715.out | refine below_set ?_ GE716.out) | exact HB.out))) : w.heap.size ≤ gb717)); have n5_ := Aside0.mk ((by rw [hg]; exact (below_size (by repeat (first | (with_reducible first | exact HB.out | apply below_alloc | apply pw_below_drewN | apply below_drew1 | refine below_set ?_ GE715.out | refine below_set ?_ GE716.out) | exact HB.out))) : w.heap.size ≤ gb717)); have n6_ := Aside0.mk ((by rw [hg]; exact Nat.ne_of_lt (blk_lt (g := gb715) (o := .cells #[.int .i64 a0_0, .int .i64 a0_1] 64 (0, 0)) (bk BK715)) : gb715 ≠ gb717)); have n7_ := Aside0.mk ((by rw [hg]; exact Nat.ne_of_gt (blk_lt (g := gb715) (o := .cells #[.int .i64 a0_0, .int .i64 a0_1] 64 (0, 0)) (bk BK715)) : gb717 ≠ gb715)); have n8_ := Aside0.mk ((by rw [hg]; exact Nat.ne_of_lt (blk_lt (g := gb716) (o := .cells #[.int .i64 a1_0, .int .i64 a1_1] 64 (0, 0)) (bk BK716)) : gb716 ≠ gb717)); have n9_ := Aside0.mk ((by rw [hg]; exact Nat.ne_of_gt (blk_lt (g := gb716) (o := .cells #[.int .i64 a1_0, .int .i64 a1_1] 64 (0, 0)) (bk BK716)) : gb717 ≠ gb716)); clear BK715; clear BK716; clear HB; have BK715 := n0_; have BK716 := n1_; have HB := n2_; have BK717 := n3_; have GW717 := n4_; have GE717 := n5_; have NB715_717 := n6_; have NB717_715 := n7_; have NB716_717 := n8_; have NB717_716 := n9_; clear n0_ n1_ n2_ n3_ n4_ n5_ n6_ n7_ n8_ n9_; clear hb hbox hg) | ((with_reducible refine gate_dst (N := 7) rfl ?_); refine bx 7 #[.int .i64 a3_0, .int .i64 a3_1] 64 ?_; intro gb718 hg w38 hbox hb; have n0_ := Aside0.mk (blk_below (g := gb715) (o := .cells #[.int .i64 a0_0, .int .i64 a0_1] 64 (0, 0)) (bk BK715) hb); have n1_ := Aside0.mk (blk_below (g := gb716) (o := .cells #[.int .i64 a1_0, .int .i64 a1_1] 64 (0, 0)) (bk BK716) hb); have n2_ := Aside0.mk (blk_below (g := gb717) (o := .cells #[.int .i64 a2_0, .int .i64 a2_1] 64 (0, 0)) (bk BK717) hb); have n3_ := Aside0.mk (below_step (by repeat (first | (with_reducible first | exact HB.out | apply below_alloc | apply pw_below_drewN | apply below_drew1 | refine below_set ?_ GE715.out | refine below_set ?_ GE716.out | refine below_set ?_ GE717.out) | exact HB.out)) hb); have n4_ := Aside0.mk (hbox); have n5_ := Aside0.mk ((by rw [hg]; exact (below_size (by repeat (first | (with_reducible first | exact HB.out | apply below_alloc | apply pw_below_drewN | apply below_drew1 | refine below_set ?_ GE715.out | refine below_set ?_ GE716.out | refine below_set ?_ GE717.out) | exact HB.out))) : w.heap.size ≤ gb718)); have n6_ := Aside0.mk ((by rw [hg]; exact (below_size (by repeat (first | (with_reducible first | exact HB.out | apply below_alloc | apply pw_below_drewN | apply below_drew1 | refine below_set ?_ GE715.out | refine below_set ?_ GE716.out | refine below_set ?_ GE717.out) | exact HB.out))) : w.heap.size ≤ gb718)); have n7_ := Aside0.mk ((by rw [hg]; exact Nat.ne_of_lt (blk_lt (g := gb715) (o := .cells #[.int .i64 a0_0, .int .i64 a0_1] 64 (0, 0)) (bk BK715)) : gb715 ≠ gb718)); have n8_ := Aside0.mk ((by rw [hg]; exact Nat.ne_of_gt (blk_lt (g := gb715) (o := .cells #[.int .i64 a0_0, .int .i64 a0_1] 64 (0, 0)) (bk BK715)) : gb718 ≠ gb715)); have n9_ := Aside0.mk ((by rw [hg]; exact Nat.ne_of_lt (blk_lt (g := gb716) (o := .cells #[.int .i64 a1_0, .int .i64 a1_1] 64 (0, 0)) (bk BK716)) : gb716 ≠ gb718)); have n10_ := Aside0.mk ((by rw [hg]; exact Nat.ne_of_gt (blk_lt (g := gb716) (o := .cells #[.int .i64 a1_0, .int .i64 a1_1] 64 (0, 0)) (bk BK716)) : gb718 ≠ gb716)); have n11_ := Aside0.mk ((by rw [hg]; exact Nat.ne_of_lt (blk_lt (g := gb717) (o := .cells #[.int .i64 a2_0, .int .i64 a2_1] 64 (0, 0)) (bk BK717)) : gb717 ≠ gb718)); have n12_ := Aside0.mk ((by rw [hg]; exact Nat.ne_of_gt (blk_lt (g := gb717) (o := .cells #[.int .i64 a2_0, .int .i64 a2_1] 64 (0, 0)) (bk BK717)) : gb718 ≠ gb717)); clear BK715; clear BK716; clear BK717; clear HB; have BK715 := n0_; have BK716 := n1_; have BK717 := n2_; have HB := n3_; have BK718 := n4_; have GW718 := n5_; have GE718 := n6_; have NB715_718 := n7_; have NB718_715 := n8_; have NB716_718 := n9_; have NB718_716 := n10_; have NB717_718 := n11_; have NB718_717 := n12_; clear n0_ n1_ n2_ n3_ n4_ n5_ n6_ n7_ n8_ n9_ n10_ n11_ n12_; clear hb hbox hg; have hnb39 := NB715_716.out; have hnc39 := NB716_715.out; have hnb40 := NB715_717.out; have hnc40 := NB717_715.out; have hnb41 := NB715_718.out; have hnc41 := NB718_715.out; have hcz42_0 := bc BK715 0; have hcz42_1 := bc BK715 1; have hfz42_0 := bf BK715 0; have hfz42_1 := bf BK715 1) | ((with_reducible refine gate_callee (f := 92) rfl ?_); refine gL (some 10) rfl rfl Try.func92 (by kernel_rfl) rfl #[.agg #[.int .i64 a0_0, .int .i64 a0_1], .int .i64 1000] rfl ?_; (with_reducible refine (spec_l2Fits.calls a0_0 a0_1 1000 true _ A5.out).mono ?_); rintro e w43 ⟨rfl, hb⟩; refine ⟨_, rfl, ?_⟩; have n0_ := Aside0.mk (blk_below (g := gb715) (o := .cells #[.int .i64 a0_0, .int .i64 a0_1] 64 (0, 0)) (bk BK715) hb); have n1_ := Aside0.mk (blk_below (g := gb716) (o := .cells #[.int .i64 a1_0, .int .i64 a1_1] 64 (0, 0)) (bk BK716) hb); have n2_ := Aside0.mk (blk_below (g := gb717) (o := .cells #[.int .i64 a2_0, .int .i64 a2_1] 64 (0, 0)) (bk BK717) hb); have n3_ := Aside0.mk (blk_below (g := gb718) (o := .cells #[.int .i64 a3_0, .int .i64 a3_1] 64 (0, 0)) (bk BK718) hb); have n4_ := Aside0.mk (below_step (by repeat (first | (with_reducible first | exact HB.out | apply below_alloc | apply pw_below_drewN | apply below_drew1 | refine below_set ?_ GE715.out | refine below_set ?_ GE716.out | refine below_set ?_ GE717.out | refine below_set ?_ GE718.out) | exact HB.out)) hb); clear BK715; clear BK716; clear BK717; clear BK718; clear HB; have BK715 := n0_; have BK716 := n1_; have BK717 := n2_; have BK718 := n3_; have HB := n4_; clear n0_ n1_ n2_ n3_ n4_; (try clear hb); (try clear hb2); (try clear hk); (try clear hi); have hnb44 := NB716_717.out; have hnc44 := NB717_716.out; have hnb45 := NB716_718.out; have hnc45 := NB718_716.out; have hcz46_0 := bc BK716 0; have hcz46_1 := bc BK716 1; have hfz46_0 := bf BK716 0; have hfz46_1 := bf BK716 1) | (go_at_call 92; (with_reducible refine (spec_l2Fits.calls a1_0 a1_1 1000 true _ A7.out).mono ?_); rintro e w47 ⟨rfl, hb⟩; have n0_ := Aside0.mk (blk_below (g := gb715) (o := .cells #[.int .i64 a0_0, .int .i64 a0_1] 64 (0, 0)) (bk BK715) hb); have n1_ := Aside0.mk (blk_below (g := gb716) (o := .cells #[.int .i64 a1_0, .int .i64 a1_1] 64 (0, 0)) (bk BK716) hb); have n2_ := Aside0.mk (blk_below (g := gb717) (o := .cells #[.int .i64 a2_0, .int .i64 a2_1] 64 (0, 0)) (bk BK717) hb); have n3_ := Aside0.mk (blk_below (g := gb718) (o := .cells #[.int .i64 a3_0, .int .i64 a3_1] 64 (0, 0)) (bk BK718) hb); have n4_ := Aside0.mk (below_step (by repeat (first | (with_reducible first | exact HB.out | apply below_alloc | apply pw_below_drewN | apply below_drew1 | refine below_set ?_ GE715.out | refine below_set ?_ GE716.out | refine below_set ?_ GE717.out | refine below_set ?_ GE718.out) | exact HB.out)) hb); clear BK715; clear BK716; clear BK717; clear BK718; clear HB; have BK715 := n0_; have BK716 := n1_; have BK717 := n2_; have BK718 := n3_; have HB := n4_; clear n0_ n1_ n2_ n3_ n4_; (try clear hb); (try clear hb2); (try clear hk); (try clear hi); have hnb48 := NB717_718.out; have hnc48 := NB718_717.out; have hcz49_0 := bc BK717 0; have hcz49_1 := bc BK717 1; have hfz49_0 := bf BK717 0; have hfz49_1 := bf BK717 1) | (go_at_call 92; (with_reducible refine (spec_l2Fits.calls a2_0 a2_1 1000 true _ A9.out).mono ?_); rintro e w50 ⟨rfl, hb⟩; have n0_ := Aside0.mk (blk_below (g := gb715) (o := .cells #[.int .i64 a0_0, .int .i64 a0_1] 64 (0, 0)) (bk BK715) hb); have n1_ := Aside0.mk (blk_below (g := gb716) (o := .cells #[.int .i64 a1_0, .int .i64 a1_1] 64 (0, 0)) (bk BK716) hb); have n2_ := Aside0.mk (blk_below (g := gb717) (o := .cells #[.int .i64 a2_0, .int .i64 a2_1] 64 (0, 0)) (bk BK717) hb); have n3_ := Aside0.mk (blk_below (g := gb718) (o := .cells #[.int .i64 a3_0, .int .i64 a3_1] 64 (0, 0)) (bk BK718) hb); have n4_ := Aside0.mk (below_step (by repeat (first | (with_reducible first | exact HB.out | apply below_alloc | apply pw_below_drewN | apply below_drew1 | refine below_set ?_ GE715.out | refine below_set ?_ GE716.out | refine below_set ?_ GE717.out | refine below_set ?_ GE718.out) | exact HB.out)) hb); clear BK715; clear BK716; clear BK717; clear BK718; clear HB; have BK715 := n0_; have BK716 := n1_; have BK717 := n2_; have BK718 := n3_; have HB := n4_; clear n0_ n1_ n2_ n3_ n4_; (try clear hb); (try clear hb2); (try clear hk); (try clear hi); have hcz51_0 := bc BK718 0; have hcz51_1 := bc BK718 1; have hfz51_0 := bf BK718 0; have hfz51_1 := bf BK718 1) | (go_at_call 92; (with_reducible refine (spec_l2Fits.calls a3_0 a3_1 1000 true _ A11.out).mono ?_); rintro e w52 ⟨rfl, hb⟩; have n0_ := Aside0.mk (blk_below (g := gb715) (o := .cells #[.int .i64 a0_0, .int .i64 a0_1] 64 (0, 0)) (bk BK715) hb); have n1_ := Aside0.mk (blk_below (g := gb716) (o := .cells #[.int .i64 a1_0, .int .i64 a1_1] 64 (0, 0)) (bk BK716) hb); have n2_ := Aside0.mk (blk_below (g := gb717) (o := .cells #[.int .i64 a2_0, .int .i64 a2_1] 64 (0, 0)) (bk BK717) hb); have n3_ := Aside0.mk (blk_below (g := gb718) (o := .cells #[.int .i64 a3_0, .int .i64 a3_1] 64 (0, 0)) (bk BK718) hb); have n4_ := Aside0.mk (below_step (by repeat (first | (with_reducible first | exact HB.out | apply below_alloc | apply pw_below_drewN | apply below_drew1 | refine below_set ?_ GE715.out | refine below_set ?_ GE716.out | refine below_set ?_ GE717.out | refine below_set ?_ GE718.out) | exact HB.out)) hb); clear BK715; clear BK716; clear BK717; clear BK718; clear HB; have BK715 := n0_; have BK716 := n1_; have BK717 := n2_; have BK718 := n3_; have HB := n4_; clear n0_ n1_ n2_ n3_ n4_; (try clear hb); (try clear hb2); (try clear hk); (try clear hi); have hcz53_0 := bc BK715 0; have hcz53_1 := bc BK715 1; have hfz53_0 := bf BK715 0; have hfz53_1 := bf BK715 1; have hcz54_0 := bc BK716 0; have hcz54_1 := bc BK716 1; have hfz54_0 := bf BK716 0; have hfz54_1 := bf BK716 1; have hcz55_0 := bc BK717 0; have hcz55_1 := bc BK717 1; have hfz55_0 := bf BK717 0; have hfz55_1 := bf BK717 1; have hcz56_0 := bc BK718 0; have hcz56_1 := bc BK718 1; have hfz56_0 := bf BK718 0; have hfz56_1 := bf BK718 1))
       go_ret
       exact ⟨by first | rfl | (simp [errW_none, errW_some] <;> rfl) | (simp [*, errW_none, errW_some] <;> rfl), by repeat (first | (with_reducible first | exact HB.out | apply below_alloc | apply pw_below_drewN | apply below_drew1 | refine below_set ?_ GE715.out | refine below_set ?_ GE716.out | refine below_set ?_ GE717.out | refine below_set ?_ GE718.out) | exact HB.out)⟩
      ·rw [if_neg c34] at H
       have c34b0 : decide (a3_0 ≤ a2_0) = false := decide_eq_false c34
       clear c34
       obtain rfl := Option.some.inj H
       go_enter Try.func53, Try.ntmps53
       go_wp2_with (first | ((with_reducible refine gate_dst (N := 4) rfl ?_); refine bx 4 #[.int .i64 a0_0, .int .i64 a0_1] 64 ?_; intro gb715 hg w57 hbox hb; have BK715 := Aside0.mk hbox; have GE715 := gs HB hg; have GW715 := GE715; replace HB := bs HB hb; clear hb hbox hg) | ((with_reducible refine gate_dst (N := 5) rfl ?_); refine bx 5 #[.int .i64 a1_0, .int .i64 a1_1] 64 ?_; intro gb716 hg w58 hbox hb; have n0_ := Aside0.mk (blk_below (g := gb715) (o := .cells #[.int .i64 a0_0, .int .i64 a0_1] 64 (0, 0)) (bk BK715) hb); have n1_ := bsg HB GE715 hb; have n2_ := Aside0.mk (hbox); have n3_ := Aside0.mk ((by rw [hg]; exact (below_size (bg HB GE715)) : w.heap.size ≤ gb716)); have n4_ := Aside0.mk ((by rw [hg]; exact (below_size (bg HB GE715)) : w.heap.size ≤ gb716)); have n5_ := Aside0.mk ((by rw [hg]; exact Nat.ne_of_lt (blk_lt (g := gb715) (o := .cells #[.int .i64 a0_0, .int .i64 a0_1] 64 (0, 0)) (bk BK715)) : gb715 ≠ gb716)); have n6_ := Aside0.mk ((by rw [hg]; exact Nat.ne_of_gt (blk_lt (g := gb715) (o := .cells #[.int .i64 a0_0, .int .i64 a0_1] 64 (0, 0)) (bk BK715)) : gb716 ≠ gb715)); clear BK715; clear HB; have BK715 := n0_; have HB := n1_; have BK716 := n2_; have GW716 := n3_; have GE716 := n4_; have NB715_716 := n5_; have NB716_715 := n6_; clear n0_ n1_ n2_ n3_ n4_ n5_ n6_; clear hb hbox hg) | ((with_reducible refine gate_dst (N := 6) rfl ?_); refine bx 6 #[.int .i64 a2_0, .int .i64 a2_1] 64 ?_; intro gb717 hg w59 hbox hb; have n0_ := Aside0.mk (blk_below (g := gb715) (o := .cells #[.int .i64 a0_0, .int .i64 a0_1] 64 (0, 0)) (bk BK715) hb); have n1_ := Aside0.mk (blk_below (g := gb716) (o := .cells #[.int .i64 a1_0, .int .i64 a1_1] 64 (0, 0)) (bk BK716) hb); have n2_ := Aside0.mk (below_step (by repeat (first | (with_reducible first | exact HB.out | apply below_alloc | apply pw_below_drewN | apply below_drew1 | refine below_set ?_ GE715.out | refine below_set ?_ GE716.out) | exact HB.out)) hb); have n3_ := Aside0.mk (hbox); have n4_ := Aside0.mk ((by rw [hg]; exact (below_size (by repeat (first | (with_reducible first | exact HB.out | apply below_alloc | apply pw_below_drewN | apply below_drew1 | refine below_set ?_ GE715.out | refine below_set ?_ GE716.out) | exact HB.out))) : w.heap.size ≤ gb717)); have n5_ := Aside0.mk ((by rw [hg]; exact (below_size (by repeat (first | (with_reducible first | exact HB.out | apply below_alloc | apply pw_below_drewN | apply below_drew1 | refine below_set ?_ GE715.out | refine below_set ?_ GE716.out) | exact HB.out))) : w.heap.size ≤ gb717)); have n6_ := Aside0.mk ((by rw [hg]; exact Nat.ne_of_lt (blk_lt (g := gb715) (o := .cells #[.int .i64 a0_0, .int .i64 a0_1] 64 (0, 0)) (bk BK715)) : gb715 ≠ gb717)); have n7_ := Aside0.mk ((by rw [hg]; exact Nat.ne_of_gt (blk_lt (g := gb715) (o := .cells #[.int .i64 a0_0, .int .i64 a0_1] 64 (0, 0)) (bk BK715)) : gb717 ≠ gb715)); have n8_ := Aside0.mk ((by rw [hg]; exact Nat.ne_of_lt (blk_lt (g := gb716) (o := .cells #[.int .i64 a1_0, .int .i64 a1_1] 64 (0, 0)) (bk BK716)) : gb716 ≠ gb717)); have n9_ := Aside0.mk ((by rw [hg]; exact Nat.ne_of_gt (blk_lt (g := gb716) (o := .cells #[.int .i64 a1_0, .int .i64 a1_1] 64 (0, 0)) (bk BK716)) : gb717 ≠ gb716)); clear BK715; clear BK716; clear HB; have BK715 := n0_; have BK716 := n1_; have HB := n2_; have BK717 := n3_; have GW717 := n4_; have GE717 := n5_; have NB715_717 := n6_; have NB717_715 := n7_; have NB716_717 := n8_; have NB717_716 := n9_; clear n0_ n1_ n2_ n3_ n4_ n5_ n6_ n7_ n8_ n9_; clear hb hbox hg) | ((with_reducible refine gate_dst (N := 7) rfl ?_); refine bx 7 #[.int .i64 a3_0, .int .i64 a3_1] 64 ?_; intro gb718 hg w60 hbox hb; have n0_ := Aside0.mk (blk_below (g := gb715) (o := .cells #[.int .i64 a0_0, .int .i64 a0_1] 64 (0, 0)) (bk BK715) hb); have n1_ := Aside0.mk (blk_below (g := gb716) (o := .cells #[.int .i64 a1_0, .int .i64 a1_1] 64 (0, 0)) (bk BK716) hb); have n2_ := Aside0.mk (blk_below (g := gb717) (o := .cells #[.int .i64 a2_0, .int .i64 a2_1] 64 (0, 0)) (bk BK717) hb); have n3_ := Aside0.mk (below_step (by repeat (first | (with_reducible first | exact HB.out | apply below_alloc | apply pw_below_drewN | apply below_drew1 | refine below_set ?_ GE715.out | refine below_set ?_ GE716.out | refine below_set ?_ GE717.out) | exact HB.out)) hb); have n4_ := Aside0.mk (hbox); have n5_ := Aside0.mk ((by rw [hg]; exact (below_size (by repeat (first | (with_reducible first | exact HB.out | apply below_alloc | apply pw_below_drewN | apply below_drew1 | refine below_set ?_ GE715.out | refine below_set ?_ GE716.out | refine below_set ?_ GE717.out) | exact HB.out))) : w.heap.size ≤ gb718)); have n6_ := Aside0.mk ((by rw [hg]; exact (below_size (by repeat (first | (with_reducible first | exact HB.out | apply below_alloc | apply pw_below_drewN | apply below_drew1 | refine below_set ?_ GE715.out | refine below_set ?_ GE716.out | refine below_set ?_ GE717.out) | exact HB.out))) : w.heap.size ≤ gb718)); have n7_ := Aside0.mk ((by rw [hg]; exact Nat.ne_of_lt (blk_lt (g := gb715) (o := .cells #[.int .i64 a0_0, .int .i64 a0_1] 64 (0, 0)) (bk BK715)) : gb715 ≠ gb718)); have n8_ := Aside0.mk ((by rw [hg]; exact Nat.ne_of_gt (blk_lt (g := gb715) (o := .cells #[.int .i64 a0_0, .int .i64 a0_1] 64 (0, 0)) (bk BK715)) : gb718 ≠ gb715)); have n9_ := Aside0.mk ((by rw [hg]; exact Nat.ne_of_lt (blk_lt (g := gb716) (o := .cells #[.int .i64 a1_0, .int .i64 a1_1] 64 (0, 0)) (bk BK716)) : gb716 ≠ gb718)); have n10_ := Aside0.mk ((by rw [hg]; exact Nat.ne_of_gt (blk_lt (g := gb716) (o := .cells #[.int .i64 a1_0, .int .i64 a1_1] 64 (0, 0)) (bk BK716)) : gb718 ≠ gb716)); have n11_ := Aside0.mk ((by rw [hg]; exact Nat.ne_of_lt (blk_lt (g := gb717) (o := .cells #[.int .i64 a2_0, .int .i64 a2_1] 64 (0, 0)) (bk BK717)) : gb717 ≠ gb718)); have n12_ := Aside0.mk ((by rw [hg]; exact Nat.ne_of_gt (blk_lt (g := gb717) (o := .cells #[.int .i64 a2_0, .int .i64 a2_1] 64 (0, 0)) (bk BK717)) : gb718 ≠ gb717)); clear BK715; clear BK716; clear BK717; clear HB; have BK715 := n0_; have BK716 := n1_; have BK717 := n2_; have HB := n3_; have BK718 := n4_; have GW718 := n5_; have GE718 := n6_; have NB715_718 := n7_; have NB718_715 := n8_; have NB716_718 := n9_; have NB718_716 := n10_; have NB717_718 := n11_; have NB718_717 := n12_; clear n0_ n1_ n2_ n3_ n4_ n5_ n6_ n7_ n8_ n9_ n10_ n11_ n12_; clear hb hbox hg; have hnb61 := NB715_716.out; have hnc61 := NB716_715.out; have hnb62 := NB715_717.out; have hnc62 := NB717_715.out; have hnb63 := NB715_718.out; have hnc63 := NB718_715.out; have hcz64_0 := bc BK715 0; have hcz64_1 := bc BK715 1; have hfz64_0 := bf BK715 0; have hfz64_1 := bf BK715 1) | ((with_reducible refine gate_callee (f := 92) rfl ?_); refine gL (some 10) rfl rfl Try.func92 (by kernel_rfl) rfl #[.agg #[.int .i64 a0_0, .int .i64 a0_1], .int .i64 1000] rfl ?_; (with_reducible refine (spec_l2Fits.calls a0_0 a0_1 1000 true _ A5.out).mono ?_); rintro e w65 ⟨rfl, hb⟩; refine ⟨_, rfl, ?_⟩; have n0_ := Aside0.mk (blk_below (g := gb715) (o := .cells #[.int .i64 a0_0, .int .i64 a0_1] 64 (0, 0)) (bk BK715) hb); have n1_ := Aside0.mk (blk_below (g := gb716) (o := .cells #[.int .i64 a1_0, .int .i64 a1_1] 64 (0, 0)) (bk BK716) hb); have n2_ := Aside0.mk (blk_below (g := gb717) (o := .cells #[.int .i64 a2_0, .int .i64 a2_1] 64 (0, 0)) (bk BK717) hb); have n3_ := Aside0.mk (blk_below (g := gb718) (o := .cells #[.int .i64 a3_0, .int .i64 a3_1] 64 (0, 0)) (bk BK718) hb); have n4_ := Aside0.mk (below_step (by repeat (first | (with_reducible first | exact HB.out | apply below_alloc | apply pw_below_drewN | apply below_drew1 | refine below_set ?_ GE715.out | refine below_set ?_ GE716.out | refine below_set ?_ GE717.out | refine below_set ?_ GE718.out) | exact HB.out)) hb); clear BK715; clear BK716; clear BK717; clear BK718; clear HB; have BK715 := n0_; have BK716 := n1_; have BK717 := n2_; have BK718 := n3_; have HB := n4_; clear n0_ n1_ n2_ n3_ n4_; (try clear hb); (try clear hb2); (try clear hk); (try clear hi); have hnb66 := NB716_717.out; have hnc66 := NB717_716.out; have hnb67 := NB716_718.out; have hnc67 := NB718_716.out; have hcz68_0 := bc BK716 0; have hcz68_1 := bc BK716 1; have hfz68_0 := bf BK716 0; have hfz68_1 := bf BK716 1) | (go_at_call 92; (with_reducible refine (spec_l2Fits.calls a1_0 a1_1 1000 true _ A7.out).mono ?_); rintro e w69 ⟨rfl, hb⟩; have n0_ := Aside0.mk (blk_below (g := gb715) (o := .cells #[.int .i64 a0_0, .int .i64 a0_1] 64 (0, 0)) (bk BK715) hb); have n1_ := Aside0.mk (blk_below (g := gb716) (o := .cells #[.int .i64 a1_0, .int .i64 a1_1] 64 (0, 0)) (bk BK716) hb); have n2_ := Aside0.mk (blk_below (g := gb717) (o := .cells #[.int .i64 a2_0, .int .i64 a2_1] 64 (0, 0)) (bk BK717) hb); have n3_ := Aside0.mk (blk_below (g := gb718) (o := .cells #[.int .i64 a3_0, .int .i64 a3_1] 64 (0, 0)) (bk BK718) hb); have n4_ := Aside0.mk (below_step (by repeat (first | (with_reducible first | exact HB.out | apply below_alloc | apply pw_below_drewN | apply below_drew1 | refine below_set ?_ GE715.out | refine below_set ?_ GE716.out | refine below_set ?_ GE717.out | refine below_set ?_ GE718.out) | exact HB.out)) hb); clear BK715; clear BK716; clear BK717; clear BK718; clear HB; have BK715 := n0_; have BK716 := n1_; have BK717 := n2_; have BK718 := n3_; have HB := n4_; clear n0_ n1_ n2_ n3_ n4_; (try clear hb); (try clear hb2); (try clear hk); (try clear hi); have hnb70 := NB717_718.out; have hnc70 := NB718_717.out; have hcz71_0 := bc BK717 0; have hcz71_1 := bc BK717 1; have hfz71_0 := bf BK717 0; have hfz71_1 := bf BK717 1) | (go_at_call 92; (with_reducible refine (spec_l2Fits.calls a2_0 a2_1 1000 true _ A9.out).mono ?_); rintro e w72 ⟨rfl, hb⟩; have n0_ := Aside0.mk (blk_below (g := gb715) (o := .cells #[.int .i64 a0_0, .int .i64 a0_1] 64 (0, 0)) (bk BK715) hb); have n1_ := Aside0.mk (blk_below (g := gb716) (o := .cells #[.int .i64 a1_0, .int .i64 a1_1] 64 (0, 0)) (bk BK716) hb); have n2_ := Aside0.mk (blk_below (g := gb717) (o := .cells #[.int .i64 a2_0, .int .i64 a2_1] 64 (0, 0)) (bk BK717) hb); have n3_ := Aside0.mk (blk_below (g := gb718) (o := .cells #[.int .i64 a3_0, .int .i64 a3_1] 64 (0, 0)) (bk BK718) hb); have n4_ := Aside0.mk (below_step (by repeat (first | (with_reducible first | exact HB.out | apply below_alloc | apply pw_below_drewN | apply below_drew1 | refine below_set ?_ GE715.out | refine below_set ?_ GE716.out | refine below_set ?_ GE717.out | refine below_set ?_ GE718.out) | exact HB.out)) hb); clear BK715; clear BK716; clear BK717; clear BK718; clear HB; have BK715 := n0_; have BK716 := n1_; have BK717 := n2_; have BK718 := n3_; have HB := n4_; clear n0_ n1_ n2_ n3_ n4_; (try clear hb); (try clear hb2); (try clear hk); (try clear hi); have hcz73_0 := bc BK718 0; have hcz73_1 := bc BK718 1; have hfz73_0 := bf BK718 0; have hfz73_1 := bf BK718 1) | (go_at_call 92; (with_reducible refine (spec_l2Fits.calls a3_0 a3_1 1000 true _ A11.out).mono ?_); rintro e w74 ⟨rfl, hb⟩; have n0_ := Aside0.mk (blk_below (g := gb715) (o := .cells #[.int .i64 a0_0, .int .i64 a0_1] 64 (0, 0)) (bk BK715) hb); have n1_ := Aside0.mk (blk_below (g := gb716) (o := .cells #[.int .i64 a1_0, .int .i64 a1_1] 64 (0, 0)) (bk BK716) hb); have n2_ := Aside0.mk (blk_below (g := gb717) (o := .cells #[.int .i64 a2_0, .int .i64 a2_1] 64 (0, 0)) (bk BK717) hb); have n3_ := Aside0.mk (blk_below (g := gb718) (o := .cells #[.int .i64 a3_0, .int .i64 a3_1] 64 (0, 0)) (bk BK718) hb); have n4_ := Aside0.mk (below_step (by repeat (first | (with_reducible first | exact HB.out | apply below_alloc | apply pw_below_drewN | apply below_drew1 | refine below_set ?_ GE715.out | refine below_set ?_ GE716.out | refine below_set ?_ GE717.out | refine below_set ?_ GE718.out) | exact HB.out)) hb); clear BK715; clear BK716; clear BK717; clear BK718; clear HB; have BK715 := n0_; have BK716 := n1_; have BK717 := n2_; have BK718 := n3_; have HB := n4_; clear n0_ n1_ n2_ n3_ n4_; (try clear hb); (try clear hb2); (try clear hk); (try clear hi); have hcz75_0 := bc BK715 0; have hcz75_1 := bc BK715 1; have hfz75_0 := bf BK715 0; have hfz75_1 := bf BK715 1; have hcz76_0 := bc BK716 0; have hcz76_1 := bc BK716 1; have hfz76_0 := bf BK716 0; have hfz76_1 := bf BK716 1; have hcz77_0 := bc BK717 0; have hcz77_1 := bc BK717 1; have hfz77_0 := bf BK717 0; have hfz77_1 := bf BK717 1; have hcz78_0 := bc BK718 0; have hcz78_1 := bc BK718 1; have hfz78_0 := bf BK718 0; have hfz78_1 := bf BK718 1))
       go_ret
       exact ⟨by first | rfl | (simp [errW_none, errW_some] <;> rfl) | (simp [*, errW_none, errW_some] <;> rfl), by repeat (first | (with_reducible first | exact HB.out | apply below_alloc | apply pw_below_drewN | apply below_drew1 | refine below_set ?_ GE715.out | refine below_set ?_ GE716.out | refine below_set ?_ GE717.out | refine below_set ?_ GE718.out) | exact HB.out)⟩
    ·replace c12 := Bool.eq_false_iff.mpr c12
     subst c12
     have H1 : (some false) = some r := by rw [if_neg (show ¬ (false = true) by decide)] at H; exact H
     clear H
     have H := H1
     clear H1
     obtain rfl := Option.some.inj H
     go_enter Try.func53, Try.ntmps53
     go_wp2_with (first | ((with_reducible refine gate_dst (N := 4) rfl ?_); refine bx 4 #[.int .i64 a0_0, .int .i64 a0_1] 64 ?_; intro gb715 hg w79 hbox hb; have BK715 := Aside0.mk hbox; have GE715 := gs HB hg; have GW715 := GE715; replace HB := bs HB hb; clear hb hbox hg) | ((with_reducible refine gate_dst (N := 5) rfl ?_); refine bx 5 #[.int .i64 a1_0, .int .i64 a1_1] 64 ?_; intro gb716 hg w80 hbox hb; have n0_ := Aside0.mk (blk_below (g := gb715) (o := .cells #[.int .i64 a0_0, .int .i64 a0_1] 64 (0, 0)) (bk BK715) hb); have n1_ := bsg HB GE715 hb; have n2_ := Aside0.mk (hbox); have n3_ := Aside0.mk ((by rw [hg]; exact (below_size (bg HB GE715)) : w.heap.size ≤ gb716)); have n4_ := Aside0.mk ((by rw [hg]; exact (below_size (bg HB GE715)) : w.heap.size ≤ gb716)); have n5_ := Aside0.mk ((by rw [hg]; exact Nat.ne_of_lt (blk_lt (g := gb715) (o := .cells #[.int .i64 a0_0, .int .i64 a0_1] 64 (0, 0)) (bk BK715)) : gb715 ≠ gb716)); have n6_ := Aside0.mk ((by rw [hg]; exact Nat.ne_of_gt (blk_lt (g := gb715) (o := .cells #[.int .i64 a0_0, .int .i64 a0_1] 64 (0, 0)) (bk BK715)) : gb716 ≠ gb715)); clear BK715; clear HB; have BK715 := n0_; have HB := n1_; have BK716 := n2_; have GW716 := n3_; have GE716 := n4_; have NB715_716 := n5_; have NB716_715 := n6_; clear n0_ n1_ n2_ n3_ n4_ n5_ n6_; clear hb hbox hg) | ((with_reducible refine gate_dst (N := 6) rfl ?_); refine bx 6 #[.int .i64 a2_0, .int .i64 a2_1] 64 ?_; intro gb717 hg w81 hbox hb; have n0_ := Aside0.mk (blk_below (g := gb715) (o := .cells #[.int .i64 a0_0, .int .i64 a0_1] 64 (0, 0)) (bk BK715) hb); have n1_ := Aside0.mk (blk_below (g := gb716) (o := .cells #[.int .i64 a1_0, .int .i64 a1_1] 64 (0, 0)) (bk BK716) hb); have n2_ := Aside0.mk (below_step (by repeat (first | (with_reducible first | exact HB.out | apply below_alloc | apply pw_below_drewN | apply below_drew1 | refine below_set ?_ GE715.out | refine below_set ?_ GE716.out) | exact HB.out)) hb); have n3_ := Aside0.mk (hbox); have n4_ := Aside0.mk ((by rw [hg]; exact (below_size (by repeat (first | (with_reducible first | exact HB.out | apply below_alloc | apply pw_below_drewN | apply below_drew1 | refine below_set ?_ GE715.out | refine below_set ?_ GE716.out) | exact HB.out))) : w.heap.size ≤ gb717)); have n5_ := Aside0.mk ((by rw [hg]; exact (below_size (by repeat (first | (with_reducible first | exact HB.out | apply below_alloc | apply pw_below_drewN | apply below_drew1 | refine below_set ?_ GE715.out | refine below_set ?_ GE716.out) | exact HB.out))) : w.heap.size ≤ gb717)); have n6_ := Aside0.mk ((by rw [hg]; exact Nat.ne_of_lt (blk_lt (g := gb715) (o := .cells #[.int .i64 a0_0, .int .i64 a0_1] 64 (0, 0)) (bk BK715)) : gb715 ≠ gb717)); have n7_ := Aside0.mk ((by rw [hg]; exact Nat.ne_of_gt (blk_lt (g := gb715) (o := .cells #[.int .i64 a0_0, .int .i64 a0_1] 64 (0, 0)) (bk BK715)) : gb717 ≠ gb715)); have n8_ := Aside0.mk ((by rw [hg]; exact Nat.ne_of_lt (blk_lt (g := gb716) (o := .cells #[.int .i64 a1_0, .int .i64 a1_1] 64 (0, 0)) (bk BK716)) : gb716 ≠ gb717)); have n9_ := Aside0.mk ((by rw [hg]; exact Nat.ne_of_gt (blk_lt (g := gb716) (o := .cells #[.int .i64 a1_0, .int .i64 a1_1] 64 (0, 0)) (bk BK716)) : gb717 ≠ gb716)); clear BK715; clear BK716; clear HB; have BK715 := n0_; have BK716 := n1_; have HB := n2_; have BK717 := n3_; have GW717 := n4_; have GE717 := n5_; have NB715_717 := n6_; have NB717_715 := n7_; have NB716_717 := n8_; have NB717_716 := n9_; clear n0_ n1_ n2_ n3_ n4_ n5_ n6_ n7_ n8_ n9_; clear hb hbox hg) | ((with_reducible refine gate_dst (N := 7) rfl ?_); refine bx 7 #[.int .i64 a3_0, .int .i64 a3_1] 64 ?_; intro gb718 hg w82 hbox hb; have n0_ := Aside0.mk (blk_below (g := gb715) (o := .cells #[.int .i64 a0_0, .int .i64 a0_1] 64 (0, 0)) (bk BK715) hb); have n1_ := Aside0.mk (blk_below (g := gb716) (o := .cells #[.int .i64 a1_0, .int .i64 a1_1] 64 (0, 0)) (bk BK716) hb); have n2_ := Aside0.mk (blk_below (g := gb717) (o := .cells #[.int .i64 a2_0, .int .i64 a2_1] 64 (0, 0)) (bk BK717) hb); have n3_ := Aside0.mk (below_step (by repeat (first | (with_reducible first | exact HB.out | apply below_alloc | apply pw_below_drewN | apply below_drew1 | refine below_set ?_ GE715.out | refine below_set ?_ GE716.out | refine below_set ?_ GE717.out) | exact HB.out)) hb); have n4_ := Aside0.mk (hbox); have n5_ := Aside0.mk ((by rw [hg]; exact (below_size (by repeat (first | (with_reducible first | exact HB.out | apply below_alloc | apply pw_below_drewN | apply below_drew1 | refine below_set ?_ GE715.out | refine below_set ?_ GE716.out | refine below_set ?_ GE717.out) | exact HB.out))) : w.heap.size ≤ gb718)); have n6_ := Aside0.mk ((by rw [hg]; exact (below_size (by repeat (first | (with_reducible first | exact HB.out | apply below_alloc | apply pw_below_drewN | apply below_drew1 | refine below_set ?_ GE715.out | refine below_set ?_ GE716.out | refine below_set ?_ GE717.out) | exact HB.out))) : w.heap.size ≤ gb718)); have n7_ := Aside0.mk ((by rw [hg]; exact Nat.ne_of_lt (blk_lt (g := gb715) (o := .cells #[.int .i64 a0_0, .int .i64 a0_1] 64 (0, 0)) (bk BK715)) : gb715 ≠ gb718)); have n8_ := Aside0.mk ((by rw [hg]; exact Nat.ne_of_gt (blk_lt (g := gb715) (o := .cells #[.int .i64 a0_0, .int .i64 a0_1] 64 (0, 0)) (bk BK715)) : gb718 ≠ gb715)); have n9_ := Aside0.mk ((by rw [hg]; exact Nat.ne_of_lt (blk_lt (g := gb716) (o := .cells #[.int .i64 a1_0, .int .i64 a1_1] 64 (0, 0)) (bk BK716)) : gb716 ≠ gb718)); have n10_ := Aside0.mk ((by rw [hg]; exact Nat.ne_of_gt (blk_lt (g := gb716) (o := .cells #[.int .i64 a1_0, .int .i64 a1_1] 64 (0, 0)) (bk BK716)) : gb718 ≠ gb716)); have n11_ := Aside0.mk ((by rw [hg]; exact Nat.ne_of_lt (blk_lt (g := gb717) (o := .cells #[.int .i64 a2_0, .int .i64 a2_1] 64 (0, 0)) (bk BK717)) : gb717 ≠ gb718)); have n12_ := Aside0.mk ((by rw [hg]; exact Nat.ne_of_gt (blk_lt (g := gb717) (o := .cells #[.int .i64 a2_0, .int .i64 a2_1] 64 (0, 0)) (bk BK717)) : gb718 ≠ gb717)); clear BK715; clear BK716; clear BK717; clear HB; have BK715 := n0_; have BK716 := n1_; have BK717 := n2_; have HB := n3_; have BK718 := n4_; have GW718 := n5_; have GE718 := n6_; have NB715_718 := n7_; have NB718_715 := n8_; have NB716_718 := n9_; have NB718_716 := n10_; have NB717_718 := n11_; have NB718_717 := n12_; clear n0_ n1_ n2_ n3_ n4_ n5_ n6_ n7_ n8_ n9_ n10_ n11_ n12_; clear hb hbox hg; have hnb83 := NB715_716.out; have hnc83 := NB716_715.out; have hnb84 := NB715_717.out; have hnc84 := NB717_715.out; have hnb85 := NB715_718.out; have hnc85 := NB718_715.out; have hcz86_0 := bc BK715 0; have hcz86_1 := bc BK715 1; have hfz86_0 := bf BK715 0; have hfz86_1 := bf BK715 1) | ((with_reducible refine gate_callee (f := 92) rfl ?_); refine gL (some 10) rfl rfl Try.func92 (by kernel_rfl) rfl #[.agg #[.int .i64 a0_0, .int .i64 a0_1], .int .i64 1000] rfl ?_; (with_reducible refine (spec_l2Fits.calls a0_0 a0_1 1000 true _ A5.out).mono ?_); rintro e w87 ⟨rfl, hb⟩; refine ⟨_, rfl, ?_⟩; have n0_ := Aside0.mk (blk_below (g := gb715) (o := .cells #[.int .i64 a0_0, .int .i64 a0_1] 64 (0, 0)) (bk BK715) hb); have n1_ := Aside0.mk (blk_below (g := gb716) (o := .cells #[.int .i64 a1_0, .int .i64 a1_1] 64 (0, 0)) (bk BK716) hb); have n2_ := Aside0.mk (blk_below (g := gb717) (o := .cells #[.int .i64 a2_0, .int .i64 a2_1] 64 (0, 0)) (bk BK717) hb); have n3_ := Aside0.mk (blk_below (g := gb718) (o := .cells #[.int .i64 a3_0, .int .i64 a3_1] 64 (0, 0)) (bk BK718) hb); have n4_ := Aside0.mk (below_step (by repeat (first | (with_reducible first | exact HB.out | apply below_alloc | apply pw_below_drewN | apply below_drew1 | refine below_set ?_ GE715.out | refine below_set ?_ GE716.out | refine below_set ?_ GE717.out | refine below_set ?_ GE718.out) | exact HB.out)) hb); clear BK715; clear BK716; clear BK717; clear BK718; clear HB; have BK715 := n0_; have BK716 := n1_; have BK717 := n2_; have BK718 := n3_; have HB := n4_; clear n0_ n1_ n2_ n3_ n4_; (try clear hb); (try clear hb2); (try clear hk); (try clear hi); have hnb88 := NB716_717.out; have hnc88 := NB717_716.out; have hnb89 := NB716_718.out; have hnc89 := NB718_716.out; have hcz90_0 := bc BK716 0; have hcz90_1 := bc BK716 1; have hfz90_0 := bf BK716 0; have hfz90_1 := bf BK716 1) | (go_at_call 92; (with_reducible refine (spec_l2Fits.calls a1_0 a1_1 1000 true _ A7.out).mono ?_); rintro e w91 ⟨rfl, hb⟩; have n0_ := Aside0.mk (blk_below (g := gb715) (o := .cells #[.int .i64 a0_0, .int .i64 a0_1] 64 (0, 0)) (bk BK715) hb); have n1_ := Aside0.mk (blk_below (g := gb716) (o := .cells #[.int .i64 a1_0, .int .i64 a1_1] 64 (0, 0)) (bk BK716) hb); have n2_ := Aside0.mk (blk_below (g := gb717) (o := .cells #[.int .i64 a2_0, .int .i64 a2_1] 64 (0, 0)) (bk BK717) hb); have n3_ := Aside0.mk (blk_below (g := gb718) (o := .cells #[.int .i64 a3_0, .int .i64 a3_1] 64 (0, 0)) (bk BK718) hb); have n4_ := Aside0.mk (below_step (by repeat (first | (with_reducible first | exact HB.out | apply below_alloc | apply pw_below_drewN | apply below_drew1 | refine below_set ?_ GE715.out | refine below_set ?_ GE716.out | refine below_set ?_ GE717.out | refine below_set ?_ GE718.out) | exact HB.out)) hb); clear BK715; clear BK716; clear BK717; clear BK718; clear HB; have BK715 := n0_; have BK716 := n1_; have BK717 := n2_; have BK718 := n3_; have HB := n4_; clear n0_ n1_ n2_ n3_ n4_; (try clear hb); (try clear hb2); (try clear hk); (try clear hi); have hnb92 := NB717_718.out; have hnc92 := NB718_717.out; have hcz93_0 := bc BK717 0; have hcz93_1 := bc BK717 1; have hfz93_0 := bf BK717 0; have hfz93_1 := bf BK717 1) | (go_at_call 92; (with_reducible refine (spec_l2Fits.calls a2_0 a2_1 1000 true _ A9.out).mono ?_); rintro e w94 ⟨rfl, hb⟩; have n0_ := Aside0.mk (blk_below (g := gb715) (o := .cells #[.int .i64 a0_0, .int .i64 a0_1] 64 (0, 0)) (bk BK715) hb); have n1_ := Aside0.mk (blk_below (g := gb716) (o := .cells #[.int .i64 a1_0, .int .i64 a1_1] 64 (0, 0)) (bk BK716) hb); have n2_ := Aside0.mk (blk_below (g := gb717) (o := .cells #[.int .i64 a2_0, .int .i64 a2_1] 64 (0, 0)) (bk BK717) hb); have n3_ := Aside0.mk (blk_below (g := gb718) (o := .cells #[.int .i64 a3_0, .int .i64 a3_1] 64 (0, 0)) (bk BK718) hb); have n4_ := Aside0.mk (below_step (by repeat (first | (with_reducible first | exact HB.out | apply below_alloc | apply pw_below_drewN | apply below_drew1 | refine below_set ?_ GE715.out | refine below_set ?_ GE716.out | refine below_set ?_ GE717.out | refine below_set ?_ GE718.out) | exact HB.out)) hb); clear BK715; clear BK716; clear BK717; clear BK718; clear HB; have BK715 := n0_; have BK716 := n1_; have BK717 := n2_; have BK718 := n3_; have HB := n4_; clear n0_ n1_ n2_ n3_ n4_; (try clear hb); (try clear hb2); (try clear hk); (try clear hi); have hcz95_0 := bc BK718 0; have hcz95_1 := bc BK718 1; have hfz95_0 := bf BK718 0; have hfz95_1 := bf BK718 1) | (go_at_call 92; (with_reducible refine (spec_l2Fits.calls a3_0 a3_1 1000 false _ A11.out).mono ?_); rintro e w96 ⟨rfl, hb⟩; have n0_ := Aside0.mk (blk_below (g := gb715) (o := .cells #[.int .i64 a0_0, .int .i64 a0_1] 64 (0, 0)) (bk BK715) hb); have n1_ := Aside0.mk (blk_below (g := gb716) (o := .cells #[.int .i64 a1_0, .int .i64 a1_1] 64 (0, 0)) (bk BK716) hb); have n2_ := Aside0.mk (blk_below (g := gb717) (o := .cells #[.int .i64 a2_0, .int .i64 a2_1] 64 (0, 0)) (bk BK717) hb); have n3_ := Aside0.mk (blk_below (g := gb718) (o := .cells #[.int .i64 a3_0, .int .i64 a3_1] 64 (0, 0)) (bk BK718) hb); have n4_ := Aside0.mk (below_step (by repeat (first | (with_reducible first | exact HB.out | apply below_alloc | apply pw_below_drewN | apply below_drew1 | refine below_set ?_ GE715.out | refine below_set ?_ GE716.out | refine below_set ?_ GE717.out | refine below_set ?_ GE718.out) | exact HB.out)) hb); clear BK715; clear BK716; clear BK717; clear BK718; clear HB; have BK715 := n0_; have BK716 := n1_; have BK717 := n2_; have BK718 := n3_; have HB := n4_; clear n0_ n1_ n2_ n3_ n4_; (try clear hb); (try clear hb2); (try clear hk); (try clear hi)))
     go_ret
     exact ⟨by first | rfl | (simp [errW_none, errW_some] <;> rfl) | (simp [*, errW_none, errW_some] <;> rfl), by repeat (first | (with_reducible first | exact HB.out | apply below_alloc | apply pw_below_drewN | apply below_drew1 | refine below_set ?_ GE715.out | refine below_set ?_ GE716.out | refine below_set ?_ GE717.out | refine below_set ?_ GE718.out) | exact HB.out)⟩
   ·replace c10 := Bool.eq_false_iff.mpr c10
    subst c10
    have H1 : (some false) = some r := by rw [if_neg (show ¬ (false = true) by decide)] at H; exact H
    clear H
    have H := H1
    clear H1
    obtain rfl := Option.some.inj H
    go_enter Try.func53, Try.ntmps53
    go_wp2_with (first | ((with_reducible refine gate_dst (N := 4) rfl ?_); refine bx 4 #[.int .i64 a0_0, .int .i64 a0_1] 64 ?_; intro gb715 hg w97 hbox hb; have BK715 := Aside0.mk hbox; have GE715 := gs HB hg; have GW715 := GE715; replace HB := bs HB hb; clear hb hbox hg) | ((with_reducible refine gate_dst (N := 5) rfl ?_); refine bx 5 #[.int .i64 a1_0, .int .i64 a1_1] 64 ?_; intro gb716 hg w98 hbox hb; have n0_ := Aside0.mk (blk_below (g := gb715) (o := .cells #[.int .i64 a0_0, .int .i64 a0_1] 64 (0, 0)) (bk BK715) hb); have n1_ := bsg HB GE715 hb; have n2_ := Aside0.mk (hbox); have n3_ := Aside0.mk ((by rw [hg]; exact (below_size (bg HB GE715)) : w.heap.size ≤ gb716)); have n4_ := Aside0.mk ((by rw [hg]; exact (below_size (bg HB GE715)) : w.heap.size ≤ gb716)); have n5_ := Aside0.mk ((by rw [hg]; exact Nat.ne_of_lt (blk_lt (g := gb715) (o := .cells #[.int .i64 a0_0, .int .i64 a0_1] 64 (0, 0)) (bk BK715)) : gb715 ≠ gb716)); have n6_ := Aside0.mk ((by rw [hg]; exact Nat.ne_of_gt (blk_lt (g := gb715) (o := .cells #[.int .i64 a0_0, .int .i64 a0_1] 64 (0, 0)) (bk BK715)) : gb716 ≠ gb715)); clear BK715; clear HB; have BK715 := n0_; have HB := n1_; have BK716 := n2_; have GW716 := n3_; have GE716 := n4_; have NB715_716 := n5_; have NB716_715 := n6_; clear n0_ n1_ n2_ n3_ n4_ n5_ n6_; clear hb hbox hg) | ((with_reducible refine gate_dst (N := 6) rfl ?_); refine bx 6 #[.int .i64 a2_0, .int .i64 a2_1] 64 ?_; intro gb717 hg w99 hbox hb; have n0_ := Aside0.mk (blk_below (g := gb715) (o := .cells #[.int .i64 a0_0, .int .i64 a0_1] 64 (0, 0)) (bk BK715) hb); have n1_ := Aside0.mk (blk_below (g := gb716) (o := .cells #[.int .i64 a1_0, .int .i64 a1_1] 64 (0, 0)) (bk BK716) hb); have n2_ := Aside0.mk (below_step (by repeat (first | (with_reducible first | exact HB.out | apply below_alloc | apply pw_below_drewN | apply below_drew1 | refine below_set ?_ GE715.out | refine below_set ?_ GE716.out) | exact HB.out)) hb); have n3_ := Aside0.mk (hbox); have n4_ := Aside0.mk ((by rw [hg]; exact (below_size (by repeat (first | (with_reducible first | exact HB.out | apply below_alloc | apply pw_below_drewN | apply below_drew1 | refine below_set ?_ GE715.out | refine below_set ?_ GE716.out) | exact HB.out))) : w.heap.size ≤ gb717)); have n5_ := Aside0.mk ((by rw [hg]; exact (below_size (by repeat (first | (with_reducible first | exact HB.out | apply below_alloc | apply pw_below_drewN | apply below_drew1 | refine below_set ?_ GE715.out | refine below_set ?_ GE716.out) | exact HB.out))) : w.heap.size ≤ gb717)); have n6_ := Aside0.mk ((by rw [hg]; exact Nat.ne_of_lt (blk_lt (g := gb715) (o := .cells #[.int .i64 a0_0, .int .i64 a0_1] 64 (0, 0)) (bk BK715)) : gb715 ≠ gb717)); have n7_ := Aside0.mk ((by rw [hg]; exact Nat.ne_of_gt (blk_lt (g := gb715) (o := .cells #[.int .i64 a0_0, .int .i64 a0_1] 64 (0, 0)) (bk BK715)) : gb717 ≠ gb715)); have n8_ := Aside0.mk ((by rw [hg]; exact Nat.ne_of_lt (blk_lt (g := gb716) (o := .cells #[.int .i64 a1_0, .int .i64 a1_1] 64 (0, 0)) (bk BK716)) : gb716 ≠ gb717)); have n9_ := Aside0.mk ((by rw [hg]; exact Nat.ne_of_gt (blk_lt (g := gb716) (o := .cells #[.int .i64 a1_0, .int .i64 a1_1] 64 (0, 0)) (bk BK716)) : gb717 ≠ gb716)); clear BK715; clear BK716; clear HB; have BK715 := n0_; have BK716 := n1_; have HB := n2_; have BK717 := n3_; have GW717 := n4_; have GE717 := n5_; have NB715_717 := n6_; have NB717_715 := n7_; have NB716_717 := n8_; have NB717_716 := n9_; clear n0_ n1_ n2_ n3_ n4_ n5_ n6_ n7_ n8_ n9_; clear hb hbox hg) | ((with_reducible refine gate_dst (N := 7) rfl ?_); refine bx 7 #[.int .i64 a3_0, .int .i64 a3_1] 64 ?_; intro gb718 hg w100 hbox hb; have n0_ := Aside0.mk (blk_below (g := gb715) (o := .cells #[.int .i64 a0_0, .int .i64 a0_1] 64 (0, 0)) (bk BK715) hb); have n1_ := Aside0.mk (blk_below (g := gb716) (o := .cells #[.int .i64 a1_0, .int .i64 a1_1] 64 (0, 0)) (bk BK716) hb); have n2_ := Aside0.mk (blk_below (g := gb717) (o := .cells #[.int .i64 a2_0, .int .i64 a2_1] 64 (0, 0)) (bk BK717) hb); have n3_ := Aside0.mk (below_step (by repeat (first | (with_reducible first | exact HB.out | apply below_alloc | apply pw_below_drewN | apply below_drew1 | refine below_set ?_ GE715.out | refine below_set ?_ GE716.out | refine below_set ?_ GE717.out) | exact HB.out)) hb); have n4_ := Aside0.mk (hbox); have n5_ := Aside0.mk ((by rw [hg]; exact (below_size (by repeat (first | (with_reducible first | exact HB.out | apply below_alloc | apply pw_below_drewN | apply below_drew1 | refine below_set ?_ GE715.out | refine below_set ?_ GE716.out | refine below_set ?_ GE717.out) | exact HB.out))) : w.heap.size ≤ gb718)); have n6_ := Aside0.mk ((by rw [hg]; exact (below_size (by repeat (first | (with_reducible first | exact HB.out | apply below_alloc | apply pw_below_drewN | apply below_drew1 | refine below_set ?_ GE715.out | refine below_set ?_ GE716.out | refine below_set ?_ GE717.out) | exact HB.out))) : w.heap.size ≤ gb718)); have n7_ := Aside0.mk ((by rw [hg]; exact Nat.ne_of_lt (blk_lt (g := gb715) (o := .cells #[.int .i64 a0_0, .int .i64 a0_1] 64 (0, 0)) (bk BK715)) : gb715 ≠ gb718)); have n8_ := Aside0.mk ((by rw [hg]; exact Nat.ne_of_gt (blk_lt (g := gb715) (o := .cells #[.int .i64 a0_0, .int .i64 a0_1] 64 (0, 0)) (bk BK715)) : gb718 ≠ gb715)); have n9_ := Aside0.mk ((by rw [hg]; exact Nat.ne_of_lt (blk_lt (g := gb716) (o := .cells #[.int .i64 a1_0, .int .i64 a1_1] 64 (0, 0)) (bk BK716)) : gb716 ≠ gb718)); have n10_ := Aside0.mk ((by rw [hg]; exact Nat.ne_of_gt (blk_lt (g := gb716) (o := .cells #[.int .i64 a1_0, .int .i64 a1_1] 64 (0, 0)) (bk BK716)) : gb718 ≠ gb716)); have n11_ := Aside0.mk ((by rw [hg]; exact Nat.ne_of_lt (blk_lt (g := gb717) (o := .cells #[.int .i64 a2_0, .int .i64 a2_1] 64 (0, 0)) (bk BK717)) : gb717 ≠ gb718)); have n12_ := Aside0.mk ((by rw [hg]; exact Nat.ne_of_gt (blk_lt (g := gb717) (o := .cells #[.int .i64 a2_0, .int .i64 a2_1] 64 (0, 0)) (bk BK717)) : gb718 ≠ gb717)); clear BK715; clear BK716; clear BK717; clear HB; have BK715 := n0_; have BK716 := n1_; have BK717 := n2_; have HB := n3_; have BK718 := n4_; have GW718 := n5_; have GE718 := n6_; have NB715_718 := n7_; have NB718_715 := n8_; have NB716_718 := n9_; have NB718_716 := n10_; have NB717_718 := n11_; have NB718_717 := n12_; clear n0_ n1_ n2_ n3_ n4_ n5_ n6_ n7_ n8_ n9_ n10_ n11_ n12_; clear hb hbox hg; have hnb101 := NB715_716.out; have hnc101 := NB716_715.out; have hnb102 := NB715_717.out; have hnc102 := NB717_715.out; have hnb103 := NB715_718.out; have hnc103 := NB718_715.out; have hcz104_0 := bc BK715 0; have hcz104_1 := bc BK715 1; have hfz104_0 := bf BK715 0; have hfz104_1 := bf BK715 1) | ((with_reducible refine gate_callee (f := 92) rfl ?_); refine gL (some 10) rfl rfl Try.func92 (by kernel_rfl) rfl #[.agg #[.int .i64 a0_0, .int .i64 a0_1], .int .i64 1000] rfl ?_; (with_reducible refine (spec_l2Fits.calls a0_0 a0_1 1000 true _ A5.out).mono ?_); rintro e w105 ⟨rfl, hb⟩; refine ⟨_, rfl, ?_⟩; have n0_ := Aside0.mk (blk_below (g := gb715) (o := .cells #[.int .i64 a0_0, .int .i64 a0_1] 64 (0, 0)) (bk BK715) hb); have n1_ := Aside0.mk (blk_below (g := gb716) (o := .cells #[.int .i64 a1_0, .int .i64 a1_1] 64 (0, 0)) (bk BK716) hb); have n2_ := Aside0.mk (blk_below (g := gb717) (o := .cells #[.int .i64 a2_0, .int .i64 a2_1] 64 (0, 0)) (bk BK717) hb); have n3_ := Aside0.mk (blk_below (g := gb718) (o := .cells #[.int .i64 a3_0, .int .i64 a3_1] 64 (0, 0)) (bk BK718) hb); have n4_ := Aside0.mk (below_step (by repeat (first | (with_reducible first | exact HB.out | apply below_alloc | apply pw_below_drewN | apply below_drew1 | refine below_set ?_ GE715.out | refine below_set ?_ GE716.out | refine below_set ?_ GE717.out | refine below_set ?_ GE718.out) | exact HB.out)) hb); clear BK715; clear BK716; clear BK717; clear BK718; clear HB; have BK715 := n0_; have BK716 := n1_; have BK717 := n2_; have BK718 := n3_; have HB := n4_; clear n0_ n1_ n2_ n3_ n4_; (try clear hb); (try clear hb2); (try clear hk); (try clear hi); have hnb106 := NB716_717.out; have hnc106 := NB717_716.out; have hnb107 := NB716_718.out; have hnc107 := NB718_716.out; have hcz108_0 := bc BK716 0; have hcz108_1 := bc BK716 1; have hfz108_0 := bf BK716 0; have hfz108_1 := bf BK716 1) | (go_at_call 92; (with_reducible refine (spec_l2Fits.calls a1_0 a1_1 1000 true _ A7.out).mono ?_); rintro e w109 ⟨rfl, hb⟩; have n0_ := Aside0.mk (blk_below (g := gb715) (o := .cells #[.int .i64 a0_0, .int .i64 a0_1] 64 (0, 0)) (bk BK715) hb); have n1_ := Aside0.mk (blk_below (g := gb716) (o := .cells #[.int .i64 a1_0, .int .i64 a1_1] 64 (0, 0)) (bk BK716) hb); have n2_ := Aside0.mk (blk_below (g := gb717) (o := .cells #[.int .i64 a2_0, .int .i64 a2_1] 64 (0, 0)) (bk BK717) hb); have n3_ := Aside0.mk (blk_below (g := gb718) (o := .cells #[.int .i64 a3_0, .int .i64 a3_1] 64 (0, 0)) (bk BK718) hb); have n4_ := Aside0.mk (below_step (by repeat (first | (with_reducible first | exact HB.out | apply below_alloc | apply pw_below_drewN | apply below_drew1 | refine below_set ?_ GE715.out | refine below_set ?_ GE716.out | refine below_set ?_ GE717.out | refine below_set ?_ GE718.out) | exact HB.out)) hb); clear BK715; clear BK716; clear BK717; clear BK718; clear HB; have BK715 := n0_; have BK716 := n1_; have BK717 := n2_; have BK718 := n3_; have HB := n4_; clear n0_ n1_ n2_ n3_ n4_; (try clear hb); (try clear hb2); (try clear hk); (try clear hi); have hnb110 := NB717_718.out; have hnc110 := NB718_717.out; have hcz111_0 := bc BK717 0; have hcz111_1 := bc BK717 1; have hfz111_0 := bf BK717 0; have hfz111_1 := bf BK717 1) | (go_at_call 92; (with_reducible refine (spec_l2Fits.calls a2_0 a2_1 1000 false _ A9.out).mono ?_); rintro e w112 ⟨rfl, hb⟩; have n0_ := Aside0.mk (blk_below (g := gb715) (o := .cells #[.int .i64 a0_0, .int .i64 a0_1] 64 (0, 0)) (bk BK715) hb); have n1_ := Aside0.mk (blk_below (g := gb716) (o := .cells #[.int .i64 a1_0, .int .i64 a1_1] 64 (0, 0)) (bk BK716) hb); have n2_ := Aside0.mk (blk_below (g := gb717) (o := .cells #[.int .i64 a2_0, .int .i64 a2_1] 64 (0, 0)) (bk BK717) hb); have n3_ := Aside0.mk (blk_below (g := gb718) (o := .cells #[.int .i64 a3_0, .int .i64 a3_1] 64 (0, 0)) (bk BK718) hb); have n4_ := Aside0.mk (below_step (by repeat (first | (with_reducible first | exact HB.out | apply below_alloc | apply pw_below_drewN | apply below_drew1 | refine below_set ?_ GE715.out | refine below_set ?_ GE716.out | refine below_set ?_ GE717.out | refine below_set ?_ GE718.out) | exact HB.out)) hb); clear BK715; clear BK716; clear BK717; clear BK718; clear HB; have BK715 := n0_; have BK716 := n1_; have BK717 := n2_; have BK718 := n3_; have HB := n4_; clear n0_ n1_ n2_ n3_ n4_; (try clear hb); (try clear hb2); (try clear hk); (try clear hi)))
    go_ret
    exact ⟨by first | rfl | (simp [errW_none, errW_some] <;> rfl) | (simp [*, errW_none, errW_some] <;> rfl), by repeat (first | (with_reducible first | exact HB.out | apply below_alloc | apply pw_below_drewN | apply below_drew1 | refine below_set ?_ GE715.out | refine below_set ?_ GE716.out | refine below_set ?_ GE717.out | refine below_set ?_ GE718.out) | exact HB.out)⟩
  ·replace c8 := Bool.eq_false_iff.mpr c8
   subst c8
   have H1 : (some false) = some r := by rw [if_neg (show ¬ (false = true) by decide)] at H; exact H
   clear H
   have H := H1
   clear H1
   obtain rfl := Option.some.inj H
   go_enter Try.func53, Try.ntmps53
   go_wp2_with (first | ((with_reducible refine gate_dst (N := 4) rfl ?_); refine bx 4 #[.int .i64 a0_0, .int .i64 a0_1] 64 ?_; intro gb715 hg w113 hbox hb; have BK715 := Aside0.mk hbox; have GE715 := gs HB hg; have GW715 := GE715; replace HB := bs HB hb; clear hb hbox hg) | ((with_reducible refine gate_dst (N := 5) rfl ?_); refine bx 5 #[.int .i64 a1_0, .int .i64 a1_1] 64 ?_; intro gb716 hg w114 hbox hb; have n0_ := Aside0.mk (blk_below (g := gb715) (o := .cells #[.int .i64 a0_0, .int .i64 a0_1] 64 (0, 0)) (bk BK715) hb); have n1_ := bsg HB GE715 hb; have n2_ := Aside0.mk (hbox); have n3_ := Aside0.mk ((by rw [hg]; exact (below_size (bg HB GE715)) : w.heap.size ≤ gb716)); have n4_ := Aside0.mk ((by rw [hg]; exact (below_size (bg HB GE715)) : w.heap.size ≤ gb716)); have n5_ := Aside0.mk ((by rw [hg]; exact Nat.ne_of_lt (blk_lt (g := gb715) (o := .cells #[.int .i64 a0_0, .int .i64 a0_1] 64 (0, 0)) (bk BK715)) : gb715 ≠ gb716)); have n6_ := Aside0.mk ((by rw [hg]; exact Nat.ne_of_gt (blk_lt (g := gb715) (o := .cells #[.int .i64 a0_0, .int .i64 a0_1] 64 (0, 0)) (bk BK715)) : gb716 ≠ gb715)); clear BK715; clear HB; have BK715 := n0_; have HB := n1_; have BK716 := n2_; have GW716 := n3_; have GE716 := n4_; have NB715_716 := n5_; have NB716_715 := n6_; clear n0_ n1_ n2_ n3_ n4_ n5_ n6_; clear hb hbox hg) | ((with_reducible refine gate_dst (N := 6) rfl ?_); refine bx 6 #[.int .i64 a2_0, .int .i64 a2_1] 64 ?_; intro gb717 hg w115 hbox hb; have n0_ := Aside0.mk (blk_below (g := gb715) (o := .cells #[.int .i64 a0_0, .int .i64 a0_1] 64 (0, 0)) (bk BK715) hb); have n1_ := Aside0.mk (blk_below (g := gb716) (o := .cells #[.int .i64 a1_0, .int .i64 a1_1] 64 (0, 0)) (bk BK716) hb); have n2_ := Aside0.mk (below_step (by repeat (first | (with_reducible first | exact HB.out | apply below_alloc | apply pw_below_drewN | apply below_drew1 | refine below_set ?_ GE715.out | refine below_set ?_ GE716.out) | exact HB.out)) hb); have n3_ := Aside0.mk (hbox); have n4_ := Aside0.mk ((by rw [hg]; exact (below_size (by repeat (first | (with_reducible first | exact HB.out | apply below_alloc | apply pw_below_drewN | apply below_drew1 | refine below_set ?_ GE715.out | refine below_set ?_ GE716.out) | exact HB.out))) : w.heap.size ≤ gb717)); have n5_ := Aside0.mk ((by rw [hg]; exact (below_size (by repeat (first | (with_reducible first | exact HB.out | apply below_alloc | apply pw_below_drewN | apply below_drew1 | refine below_set ?_ GE715.out | refine below_set ?_ GE716.out) | exact HB.out))) : w.heap.size ≤ gb717)); have n6_ := Aside0.mk ((by rw [hg]; exact Nat.ne_of_lt (blk_lt (g := gb715) (o := .cells #[.int .i64 a0_0, .int .i64 a0_1] 64 (0, 0)) (bk BK715)) : gb715 ≠ gb717)); have n7_ := Aside0.mk ((by rw [hg]; exact Nat.ne_of_gt (blk_lt (g := gb715) (o := .cells #[.int .i64 a0_0, .int .i64 a0_1] 64 (0, 0)) (bk BK715)) : gb717 ≠ gb715)); have n8_ := Aside0.mk ((by rw [hg]; exact Nat.ne_of_lt (blk_lt (g := gb716) (o := .cells #[.int .i64 a1_0, .int .i64 a1_1] 64 (0, 0)) (bk BK716)) : gb716 ≠ gb717)); have n9_ := Aside0.mk ((by rw [hg]; exact Nat.ne_of_gt (blk_lt (g := gb716) (o := .cells #[.int .i64 a1_0, .int .i64 a1_1] 64 (0, 0)) (bk BK716)) : gb717 ≠ gb716)); clear BK715; clear BK716; clear HB; have BK715 := n0_; have BK716 := n1_; have HB := n2_; have BK717 := n3_; have GW717 := n4_; have GE717 := n5_; have NB715_717 := n6_; have NB717_715 := n7_; have NB716_717 := n8_; have NB717_716 := n9_; clear n0_ n1_ n2_ n3_ n4_ n5_ n6_ n7_ n8_ n9_; clear hb hbox hg) | ((with_reducible refine gate_dst (N := 7) rfl ?_); refine bx 7 #[.int .i64 a3_0, .int .i64 a3_1] 64 ?_; intro gb718 hg w116 hbox hb; have n0_ := Aside0.mk (blk_below (g := gb715) (o := .cells #[.int .i64 a0_0, .int .i64 a0_1] 64 (0, 0)) (bk BK715) hb); have n1_ := Aside0.mk (blk_below (g := gb716) (o := .cells #[.int .i64 a1_0, .int .i64 a1_1] 64 (0, 0)) (bk BK716) hb); have n2_ := Aside0.mk (blk_below (g := gb717) (o := .cells #[.int .i64 a2_0, .int .i64 a2_1] 64 (0, 0)) (bk BK717) hb); have n3_ := Aside0.mk (below_step (by repeat (first | (with_reducible first | exact HB.out | apply below_alloc | apply pw_below_drewN | apply below_drew1 | refine below_set ?_ GE715.out | refine below_set ?_ GE716.out | refine below_set ?_ GE717.out) | exact HB.out)) hb); have n4_ := Aside0.mk (hbox); have n5_ := Aside0.mk ((by rw [hg]; exact (below_size (by repeat (first | (with_reducible first | exact HB.out | apply below_alloc | apply pw_below_drewN | apply below_drew1 | refine below_set ?_ GE715.out | refine below_set ?_ GE716.out | refine below_set ?_ GE717.out) | exact HB.out))) : w.heap.size ≤ gb718)); have n6_ := Aside0.mk ((by rw [hg]; exact (below_size (by repeat (first | (with_reducible first | exact HB.out | apply below_alloc | apply pw_below_drewN | apply below_drew1 | refine below_set ?_ GE715.out | refine below_set ?_ GE716.out | refine below_set ?_ GE717.out) | exact HB.out))) : w.heap.size ≤ gb718)); have n7_ := Aside0.mk ((by rw [hg]; exact Nat.ne_of_lt (blk_lt (g := gb715) (o := .cells #[.int .i64 a0_0, .int .i64 a0_1] 64 (0, 0)) (bk BK715)) : gb715 ≠ gb718)); have n8_ := Aside0.mk ((by rw [hg]; exact Nat.ne_of_gt (blk_lt (g := gb715) (o := .cells #[.int .i64 a0_0, .int .i64 a0_1] 64 (0, 0)) (bk BK715)) : gb718 ≠ gb715)); have n9_ := Aside0.mk ((by rw [hg]; exact Nat.ne_of_lt (blk_lt (g := gb716) (o := .cells #[.int .i64 a1_0, .int .i64 a1_1] 64 (0, 0)) (bk BK716)) : gb716 ≠ gb718)); have n10_ := Aside0.mk ((by rw [hg]; exact Nat.ne_of_gt (blk_lt (g := gb716) (o := .cells #[.int .i64 a1_0, .int .i64 a1_1] 64 (0, 0)) (bk BK716)) : gb718 ≠ gb716)); have n11_ := Aside0.mk ((by rw [hg]; exact Nat.ne_of_lt (blk_lt (g := gb717) (o := .cells #[.int .i64 a2_0, .int .i64 a2_1] 64 (0, 0)) (bk BK717)) : gb717 ≠ gb718)); have n12_ := Aside0.mk ((by rw [hg]; exact Nat.ne_of_gt (blk_lt (g := gb717) (o := .cells #[.int .i64 a2_0, .int .i64 a2_1] 64 (0, 0)) (bk BK717)) : gb718 ≠ gb717)); clear BK715; clear BK716; clear BK717; clear HB; have BK715 := n0_; have BK716 := n1_; have BK717 := n2_; have HB := n3_; have BK718 := n4_; have GW718 := n5_; have GE718 := n6_; have NB715_718 := n7_; have NB718_715 := n8_; have NB716_718 := n9_; have NB718_716 := n10_; have NB717_718 := n11_; have NB718_717 := n12_; clear n0_ n1_ n2_ n3_ n4_ n5_ n6_ n7_ n8_ n9_ n10_ n11_ n12_; clear hb hbox hg; have hnb117 := NB715_716.out; have hnc117 := NB716_715.out; have hnb118 := NB715_717.out; have hnc118 := NB717_715.out; have hnb119 := NB715_718.out; have hnc119 := NB718_715.out; have hcz120_0 := bc BK715 0; have hcz120_1 := bc BK715 1; have hfz120_0 := bf BK715 0; have hfz120_1 := bf BK715 1) | ((with_reducible refine gate_callee (f := 92) rfl ?_); refine gL (some 10) rfl rfl Try.func92 (by kernel_rfl) rfl #[.agg #[.int .i64 a0_0, .int .i64 a0_1], .int .i64 1000] rfl ?_; (with_reducible refine (spec_l2Fits.calls a0_0 a0_1 1000 true _ A5.out).mono ?_); rintro e w121 ⟨rfl, hb⟩; refine ⟨_, rfl, ?_⟩; have n0_ := Aside0.mk (blk_below (g := gb715) (o := .cells #[.int .i64 a0_0, .int .i64 a0_1] 64 (0, 0)) (bk BK715) hb); have n1_ := Aside0.mk (blk_below (g := gb716) (o := .cells #[.int .i64 a1_0, .int .i64 a1_1] 64 (0, 0)) (bk BK716) hb); have n2_ := Aside0.mk (blk_below (g := gb717) (o := .cells #[.int .i64 a2_0, .int .i64 a2_1] 64 (0, 0)) (bk BK717) hb); have n3_ := Aside0.mk (blk_below (g := gb718) (o := .cells #[.int .i64 a3_0, .int .i64 a3_1] 64 (0, 0)) (bk BK718) hb); have n4_ := Aside0.mk (below_step (by repeat (first | (with_reducible first | exact HB.out | apply below_alloc | apply pw_below_drewN | apply below_drew1 | refine below_set ?_ GE715.out | refine below_set ?_ GE716.out | refine below_set ?_ GE717.out | refine below_set ?_ GE718.out) | exact HB.out)) hb); clear BK715; clear BK716; clear BK717; clear BK718; clear HB; have BK715 := n0_; have BK716 := n1_; have BK717 := n2_; have BK718 := n3_; have HB := n4_; clear n0_ n1_ n2_ n3_ n4_; (try clear hb); (try clear hb2); (try clear hk); (try clear hi); have hnb122 := NB716_717.out; have hnc122 := NB717_716.out; have hnb123 := NB716_718.out; have hnc123 := NB718_716.out; have hcz124_0 := bc BK716 0; have hcz124_1 := bc BK716 1; have hfz124_0 := bf BK716 0; have hfz124_1 := bf BK716 1) | (go_at_call 92; (with_reducible refine (spec_l2Fits.calls a1_0 a1_1 1000 false _ A7.out).mono ?_); rintro e w125 ⟨rfl, hb⟩; have n0_ := Aside0.mk (blk_below (g := gb715) (o := .cells #[.int .i64 a0_0, .int .i64 a0_1] 64 (0, 0)) (bk BK715) hb); have n1_ := Aside0.mk (blk_below (g := gb716) (o := .cells #[.int .i64 a1_0, .int .i64 a1_1] 64 (0, 0)) (bk BK716) hb); have n2_ := Aside0.mk (blk_below (g := gb717) (o := .cells #[.int .i64 a2_0, .int .i64 a2_1] 64 (0, 0)) (bk BK717) hb); have n3_ := Aside0.mk (blk_below (g := gb718) (o := .cells #[.int .i64 a3_0, .int .i64 a3_1] 64 (0, 0)) (bk BK718) hb); have n4_ := Aside0.mk (below_step (by repeat (first | (with_reducible first | exact HB.out | apply below_alloc | apply pw_below_drewN | apply below_drew1 | refine below_set ?_ GE715.out | refine below_set ?_ GE716.out | refine below_set ?_ GE717.out | refine below_set ?_ GE718.out) | exact HB.out)) hb); clear BK715; clear BK716; clear BK717; clear BK718; clear HB; have BK715 := n0_; have BK716 := n1_; have BK717 := n2_; have BK718 := n3_; have HB := n4_; clear n0_ n1_ n2_ n3_ n4_; (try clear hb); (try clear hb2); (try clear hk); (try clear hi)))
   go_ret
   exact ⟨by first | rfl | (simp [errW_none, errW_some] <;> rfl) | (simp [*, errW_none, errW_some] <;> rfl), by repeat (first | (with_reducible first | exact HB.out | apply below_alloc | apply pw_below_drewN | apply below_drew1 | refine below_set ?_ GE715.out | refine below_set ?_ GE716.out | refine below_set ?_ GE717.out | refine below_set ?_ GE718.out) | exact HB.out)⟩
 ·replace c6 := Bool.eq_false_iff.mpr c6
  subst c6
  have H1 : (some false) = some r := by rw [if_neg (show ¬ (false = true) by decide)] at H; exact H
  clear H
  have H := H1
  clear H1
  obtain rfl := Option.some.inj H
  go_enter Try.func53, Try.ntmps53
  go_wp2_with (first | ((with_reducible refine gate_dst (N := 4) rfl ?_); refine bx 4 #[.int .i64 a0_0, .int .i64 a0_1] 64 ?_; intro gb715 hg w126 hbox hb; have BK715 := Aside0.mk hbox; have GE715 := gs HB hg; have GW715 := GE715; replace HB := bs HB hb; clear hb hbox hg) | ((with_reducible refine gate_dst (N := 5) rfl ?_); refine bx 5 #[.int .i64 a1_0, .int .i64 a1_1] 64 ?_; intro gb716 hg w127 hbox hb; have n0_ := Aside0.mk (blk_below (g := gb715) (o := .cells #[.int .i64 a0_0, .int .i64 a0_1] 64 (0, 0)) (bk BK715) hb); have n1_ := bsg HB GE715 hb; have n2_ := Aside0.mk (hbox); have n3_ := Aside0.mk ((by rw [hg]; exact (below_size (bg HB GE715)) : w.heap.size ≤ gb716)); have n4_ := Aside0.mk ((by rw [hg]; exact (below_size (bg HB GE715)) : w.heap.size ≤ gb716)); have n5_ := Aside0.mk ((by rw [hg]; exact Nat.ne_of_lt (blk_lt (g := gb715) (o := .cells #[.int .i64 a0_0, .int .i64 a0_1] 64 (0, 0)) (bk BK715)) : gb715 ≠ gb716)); have n6_ := Aside0.mk ((by rw [hg]; exact Nat.ne_of_gt (blk_lt (g := gb715) (o := .cells #[.int .i64 a0_0, .int .i64 a0_1] 64 (0, 0)) (bk BK715)) : gb716 ≠ gb715)); clear BK715; clear HB; have BK715 := n0_; have HB := n1_; have BK716 := n2_; have GW716 := n3_; have GE716 := n4_; have NB715_716 := n5_; have NB716_715 := n6_; clear n0_ n1_ n2_ n3_ n4_ n5_ n6_; clear hb hbox hg) | ((with_reducible refine gate_dst (N := 6) rfl ?_); refine bx 6 #[.int .i64 a2_0, .int .i64 a2_1] 64 ?_; intro gb717 hg w128 hbox hb; have n0_ := Aside0.mk (blk_below (g := gb715) (o := .cells #[.int .i64 a0_0, .int .i64 a0_1] 64 (0, 0)) (bk BK715) hb); have n1_ := Aside0.mk (blk_below (g := gb716) (o := .cells #[.int .i64 a1_0, .int .i64 a1_1] 64 (0, 0)) (bk BK716) hb); have n2_ := Aside0.mk (below_step (by repeat (first | (with_reducible first | exact HB.out | apply below_alloc | apply pw_below_drewN | apply below_drew1 | refine below_set ?_ GE715.out | refine below_set ?_ GE716.out) | exact HB.out)) hb); have n3_ := Aside0.mk (hbox); have n4_ := Aside0.mk ((by rw [hg]; exact (below_size (by repeat (first | (with_reducible first | exact HB.out | apply below_alloc | apply pw_below_drewN | apply below_drew1 | refine below_set ?_ GE715.out | refine below_set ?_ GE716.out) | exact HB.out))) : w.heap.size ≤ gb717)); have n5_ := Aside0.mk ((by rw [hg]; exact (below_size (by repeat (first | (with_reducible first | exact HB.out | apply below_alloc | apply pw_below_drewN | apply below_drew1 | refine below_set ?_ GE715.out | refine below_set ?_ GE716.out) | exact HB.out))) : w.heap.size ≤ gb717)); have n6_ := Aside0.mk ((by rw [hg]; exact Nat.ne_of_lt (blk_lt (g := gb715) (o := .cells #[.int .i64 a0_0, .int .i64 a0_1] 64 (0, 0)) (bk BK715)) : gb715 ≠ gb717)); have n7_ := Aside0.mk ((by rw [hg]; exact Nat.ne_of_gt (blk_lt (g := gb715) (o := .cells #[.int .i64 a0_0, .int .i64 a0_1] 64 (0, 0)) (bk BK715)) : gb717 ≠ gb715)); have n8_ := Aside0.mk ((by rw [hg]; exact Nat.ne_of_lt (blk_lt (g := gb716) (o := .cells #[.int .i64 a1_0, .int .i64 a1_1] 64 (0, 0)) (bk BK716)) : gb716 ≠ gb717)); have n9_ := Aside0.mk ((by rw [hg]; exact Nat.ne_of_gt (blk_lt (g := gb716) (o := .cells #[.int .i64 a1_0, .int .i64 a1_1] 64 (0, 0)) (bk BK716)) : gb717 ≠ gb716)); clear BK715; clear BK716; clear HB; have BK715 := n0_; have BK716 := n1_; have HB := n2_; have BK717 := n3_; have GW717 := n4_; have GE717 := n5_; have NB715_717 := n6_; have NB717_715 := n7_; have NB716_717 := n8_; have NB717_716 := n9_; clear n0_ n1_ n2_ n3_ n4_ n5_ n6_ n7_ n8_ n9_; clear hb hbox hg) | ((with_reducible refine gate_dst (N := 7) rfl ?_); refine bx 7 #[.int .i64 a3_0, .int .i64 a3_1] 64 ?_; intro gb718 hg w129 hbox hb; have n0_ := Aside0.mk (blk_below (g := gb715) (o := .cells #[.int .i64 a0_0, .int .i64 a0_1] 64 (0, 0)) (bk BK715) hb); have n1_ := Aside0.mk (blk_below (g := gb716) (o := .cells #[.int .i64 a1_0, .int .i64 a1_1] 64 (0, 0)) (bk BK716) hb); have n2_ := Aside0.mk (blk_below (g := gb717) (o := .cells #[.int .i64 a2_0, .int .i64 a2_1] 64 (0, 0)) (bk BK717) hb); have n3_ := Aside0.mk (below_step (by repeat (first | (with_reducible first | exact HB.out | apply below_alloc | apply pw_below_drewN | apply below_drew1 | refine below_set ?_ GE715.out | refine below_set ?_ GE716.out | refine below_set ?_ GE717.out) | exact HB.out)) hb); have n4_ := Aside0.mk (hbox); have n5_ := Aside0.mk ((by rw [hg]; exact (below_size (by repeat (first | (with_reducible first | exact HB.out | apply below_alloc | apply pw_below_drewN | apply below_drew1 | refine below_set ?_ GE715.out | refine below_set ?_ GE716.out | refine below_set ?_ GE717.out) | exact HB.out))) : w.heap.size ≤ gb718)); have n6_ := Aside0.mk ((by rw [hg]; exact (below_size (by repeat (first | (with_reducible first | exact HB.out | apply below_alloc | apply pw_below_drewN | apply below_drew1 | refine below_set ?_ GE715.out | refine below_set ?_ GE716.out | refine below_set ?_ GE717.out) | exact HB.out))) : w.heap.size ≤ gb718)); have n7_ := Aside0.mk ((by rw [hg]; exact Nat.ne_of_lt (blk_lt (g := gb715) (o := .cells #[.int .i64 a0_0, .int .i64 a0_1] 64 (0, 0)) (bk BK715)) : gb715 ≠ gb718)); have n8_ := Aside0.mk ((by rw [hg]; exact Nat.ne_of_gt (blk_lt (g := gb715) (o := .cells #[.int .i64 a0_0, .int .i64 a0_1] 64 (0, 0)) (bk BK715)) : gb718 ≠ gb715)); have n9_ := Aside0.mk ((by rw [hg]; exact Nat.ne_of_lt (blk_lt (g := gb716) (o := .cells #[.int .i64 a1_0, .int .i64 a1_1] 64 (0, 0)) (bk BK716)) : gb716 ≠ gb718)); have n10_ := Aside0.mk ((by rw [hg]; exact Nat.ne_of_gt (blk_lt (g := gb716) (o := .cells #[.int .i64 a1_0, .int .i64 a1_1] 64 (0, 0)) (bk BK716)) : gb718 ≠ gb716)); have n11_ := Aside0.mk ((by rw [hg]; exact Nat.ne_of_lt (blk_lt (g := gb717) (o := .cells #[.int .i64 a2_0, .int .i64 a2_1] 64 (0, 0)) (bk BK717)) : gb717 ≠ gb718)); have n12_ := Aside0.mk ((by rw [hg]; exact Nat.ne_of_gt (blk_lt (g := gb717) (o := .cells #[.int .i64 a2_0, .int .i64 a2_1] 64 (0, 0)) (bk BK717)) : gb718 ≠ gb717)); clear BK715; clear BK716; clear BK717; clear HB; have BK715 := n0_; have BK716 := n1_; have BK717 := n2_; have HB := n3_; have BK718 := n4_; have GW718 := n5_; have GE718 := n6_; have NB715_718 := n7_; have NB718_715 := n8_; have NB716_718 := n9_; have NB718_716 := n10_; have NB717_718 := n11_; have NB718_717 := n12_; clear n0_ n1_ n2_ n3_ n4_ n5_ n6_ n7_ n8_ n9_ n10_ n11_ n12_; clear hb hbox hg; have hnb130 := NB715_716.out; have hnc130 := NB716_715.out; have hnb131 := NB715_717.out; have hnc131 := NB717_715.out; have hnb132 := NB715_718.out; have hnc132 := NB718_715.out; have hcz133_0 := bc BK715 0; have hcz133_1 := bc BK715 1; have hfz133_0 := bf BK715 0; have hfz133_1 := bf BK715 1) | ((with_reducible refine gate_callee (f := 92) rfl ?_); refine gL (some 10) rfl rfl Try.func92 (by kernel_rfl) rfl #[.agg #[.int .i64 a0_0, .int .i64 a0_1], .int .i64 1000] rfl ?_; (with_reducible refine (spec_l2Fits.calls a0_0 a0_1 1000 false _ A5.out).mono ?_); rintro e w134 ⟨rfl, hb⟩; refine ⟨_, rfl, ?_⟩; have n0_ := Aside0.mk (blk_below (g := gb715) (o := .cells #[.int .i64 a0_0, .int .i64 a0_1] 64 (0, 0)) (bk BK715) hb); have n1_ := Aside0.mk (blk_below (g := gb716) (o := .cells #[.int .i64 a1_0, .int .i64 a1_1] 64 (0, 0)) (bk BK716) hb); have n2_ := Aside0.mk (blk_below (g := gb717) (o := .cells #[.int .i64 a2_0, .int .i64 a2_1] 64 (0, 0)) (bk BK717) hb); have n3_ := Aside0.mk (blk_below (g := gb718) (o := .cells #[.int .i64 a3_0, .int .i64 a3_1] 64 (0, 0)) (bk BK718) hb); have n4_ := Aside0.mk (below_step (by repeat (first | (with_reducible first | exact HB.out | apply below_alloc | apply pw_below_drewN | apply below_drew1 | refine below_set ?_ GE715.out | refine below_set ?_ GE716.out | refine below_set ?_ GE717.out | refine below_set ?_ GE718.out) | exact HB.out)) hb); clear BK715; clear BK716; clear BK717; clear BK718; clear HB; have BK715 := n0_; have BK716 := n1_; have BK717 := n2_; have BK718 := n3_; have HB := n4_; clear n0_ n1_ n2_ n3_ n4_; (try clear hb); (try clear hb2); (try clear hk); (try clear hi)))
  go_ret
  exact ⟨by first | rfl | (simp [errW_none, errW_some] <;> rfl) | (simp [*, errW_none, errW_some] <;> rfl), by repeat (first | (with_reducible first | exact HB.out | apply below_alloc | apply pw_below_drewN | apply below_drew1 | refine below_set ?_ GE715.out | refine below_set ?_ GE716.out | refine below_set ?_ GE717.out | refine below_set ?_ GE718.out) | exact HB.out)⟩

/-! ### spec_l12Start: function 93 -/
def spec_l12Start.l0 : Nat → Int → List Int → Int → Option (List Int)
 | 0, _, _, _ => none
 | k + 1, x0, x3, x4 => if x4 < x0 then (if x3.length < 17592186044416 then (spec_l12Start.l0 k x0 (x3 ++ [x4]) (wrap64 (x4 + 1))) else (none)) else (some x3)
def spec_l12Start.f (k : Nat) (a0 : Int) : Option (List Int) := spec_l12Start.l0 k a0 (([] : List Int)) 0
theorem spec_l12Start.mono_l : ∀ k, (∀ y0 y1 y2, LeO (spec_l12Start.l0 k y0 y1 y2) (spec_l12Start.l0 (k + 1) y0 y1 y2))
 | 0 => fun _ _ _ r h => by simp [spec_l12Start.l0] at h
 | k + 1 => by
  have ih0 := spec_l12Start.mono_l k
  ·intro y0 y1 y2
   unfold spec_l12Start.l0
   repeat' first
   | (with_reducible exact ih0 _ _ _)
   | (with_reducible exact LeO.refl _)
   | (with_reducible exact LeO.none _)
   | (with_reducible refine LeO.ite ?_ ?_)
   | (with_reducible refine LeO.bind ?_ (fun _ => ?_))
   | exact ih0 _ _ _
   | exact LeO.none _
   | refine LeO.ite ?_ ?_
   | refine LeO.bind ?_ (fun _ => ?_)
theorem spec_l12Start.mono : ∀ a0 k, LeO (spec_l12Start.f k a0) (spec_l12Start.f (k + 1) a0) := by
 intro a0 k
 have ih0 := spec_l12Start.mono_l k
 unfold spec_l12Start.f
 repeat' first
   | (with_reducible exact ih0 _ _ _)
   | (with_reducible exact LeO.refl _)
   | (with_reducible exact LeO.none _)
   | (with_reducible refine LeO.ite ?_ ?_)
   | (with_reducible refine LeO.bind ?_ (fun _ => ?_))
   | exact ih0 _ _ _
   | exact LeO.none _
   | refine LeO.ite ?_ ?_
   | refine LeO.bind ?_ (fun _ => ?_)
set_option maxHeartbeats 8000000 in
set_option maxRecDepth 100000 in
theorem spec_l12Start.calls (k : Nat) (a0 : Int) (r : List Int) (w : World) (h : spec_l12Start.f k a0 = some r) :
  Calls Try.prog 93 #[.int .i64 a0] w fun e w' => ∃ v0_ : Value, e = .returned (v0_) ∧ Kd.R (Kd.int .i64) 3 w' w.heap.size (fun _ => True) v0_ r ∧ Below w.heap.size w w' := by
 have HB := Aside0.mk (Below.refl w.heap.size w)
 have H : (spec_l12Start.l0 k a0 (([] : List Int)) 0) = some r := h
 clear h
 obtain ⟨y723, hy723⟩ : ∃ y_ : List Int, y_ = (([] : List Int)) := ⟨_, rfl⟩
 replace H : (spec_l12Start.l0 k a0 y723 0) = some r := by first | (rw [hy723]; with_reducible exact H) | (have H2_ := (Option.bind_some _ _).symm.trans H; rw [hy723]; with_reducible exact H2_) | (have H2_ := (Option.bind_some _ _).symm.trans H; with_reducible exact H2_) | with_reducible exact H | (rw [hy723]; exact H) | exact H
 have Ny723 := Aside0.mk hy723
 clear hy723
 have H' := Aside0.mk H
 clear H
 go_enter Try.func93, Try.ntmps93
 go_wp2_with (first | ((with_reducible refine gate_dst (N := 5) rfl ?_); refine Kd.R_lit (Kd.int .i64) _ 3 ?hg (N := 5) ?hd (xs := ([] : List Int)) (inner := []) (ok := fun _ => True) (okp := fun _ => True) ?hr ?hp (fun _ hk => hk) trivial (Below.refl _ _) (Nat.le_refl _) (by simp) ?_; (case hd => rfl); (case hg => rfl); (case hr => first | (go_simp; done) | (go_simp; rfl)); (case hp => exact (Reps.none _ _)); intro v724 w2 ho3 hb hg_ hnew_; clear hg_ hnew_; (first | rw [← Ny723.out] at ho3 | (simp only [Int.reduceToNat] at ho3; rw [← Ny723.out] at ho3)); have n0_ := Aside0.mk (Kd.R_lower ho3 (below_size (bl HB))); have n1_ := bs HB hb; clear HB; have HO725 := n0_; have HB := n1_; clear n0_ n1_; clear hb ho3))
 go_loopg [3, 4] k (fun kq v3 v4 w' => ∃ (x3_1 : List Int) (x4_1 : Int), v4 = .int .i64 x4_1 ∧ Aside0 (spec_l12Start.l0 kq a0 x3_1 x4_1 = some r) ∧ Aside0 (kq ≤ k) ∧ Aside0 (Kd.R (Kd.int .i64) 3 w' w.heap.size (fun _ => True) v3 x3_1) ∧ Aside0 (Below w.heap.size w w'))
 case atStart => exact ⟨(y723), (0), (by first | rfl | (simp; done) | (simp [*]; done)), H', ⟨Nat.le_refl _⟩, ⟨by (with_reducible repeat (first | apply Kd.R_alloc | apply Kd.R_drewN | apply Kd.R_drew)); exact HO725.out⟩, ⟨(bl HB)⟩⟩
 case round =>
  clear H'
  try clear p2
  obtain ⟨x3_1, x4_1, rfl, HA, HK1, HO_3, HB⟩ := hrel
  cases gk with
  | zero => exact absurd HA.out (by simp [spec_l12Start.l0])
  | succ k1 =>
   have H := HA.out
   clear HA
   simp only [spec_l12Start.l0] at H
   by_cases c4 : x4_1 < a0
   ·rw [if_pos c4] at H
    have c4b0 : decide (x4_1 < a0) = true := decide_eq_true c4
    clear c4
    by_cases c5 : x3_1.length < 17592186044416
    ·rw [if_pos c5] at H
     have LMc5 := Aside0.mk c5
     clear c5
     obtain ⟨y726, hy726⟩ : ∃ y_ : List Int, y_ = (x3_1 ++ [x4_1]) := ⟨_, rfl⟩
     replace H : (spec_l12Start.l0 k1 a0 y726 (wrap64 (x4_1 + 1))) = some r := by first | (rw [hy726]; with_reducible exact H) | (have H2_ := (Option.bind_some _ _).symm.trans H; rw [hy726]; with_reducible exact H2_) | (have H2_ := (Option.bind_some _ _).symm.trans H; with_reducible exact H2_) | with_reducible exact H | (rw [hy726]; exact H) | exact H
     have Ny726 := Aside0.mk hy726
     clear hy726
     have H' := Aside0.mk H
     clear H
     go_wp2_with (first | ((with_reducible refine gate_builtin (b := .append) (xs := #[.tmp 11, .tmp 13]) rfl ?_); at_builtin; refine Kd.R_append (Kd.int .i64) (w0 := w) w.heap.size rfl (.tmp 11) (.tmp 13) 25 3 (.int .i64 0) 8 rfl Try.underlying25 info3 rfl (by decide) (by omega) u3 x3_1 x4_1 [.int .i64 x4_1] (fun _ => True) (fun _ => False) rfl rfl ?aP (fun _ hk => hk.elim) ?aF ?aO ?aB ?aS ?aL ?_; (case aP => exact rfl); (case aB => exact (bl HB)); (case aF => exact (fun _ _ => trivial)); (case aO => exact (rr HO_3)); (case aS => exact (below_size (bl HB))); (case aL => have := LMc5.out; omega); intro v727 w6 ho hb hg hat; rw [← Ny726.out] at ho; have n0_ := Aside0.mk (hb); have n1_ := Aside0.mk (ho); clear HB; clear HO_3; have HB := n0_; have HO728 := n1_; clear n0_ n1_; clear ho hb hg hat))
     go_roundg k1
     case measure => have := HK1.out; omega
     case rel => exact ⟨(y726), (wrap64 (x4_1 + 1)), (by first | rfl | (simp; done) | (simp [*]; done)), H', ⟨by have := HK1.out; omega⟩, ⟨by (with_reducible repeat (first | apply Kd.R_alloc | apply Kd.R_drewN | apply Kd.R_drew)); exact HO728.out⟩, ⟨(bl HB)⟩⟩
    ·rw [if_neg c5] at H
     exact absurd H (by simp)
   ·rw [if_neg c4] at H
    have c4b0 : decide (x4_1 < a0) = false := decide_eq_false c4
    clear c4
    obtain rfl := Option.some.inj H
    go_wp2
    go_ret
    exact ⟨_, by first | rfl | (simp [errW_none, errW_some] <;> rfl) | (simp [*, errW_none, errW_some] <;> rfl), by (with_reducible repeat (first | apply Kd.R_alloc | apply Kd.R_drewN | apply Kd.R_drew)); exact HO_3.out, (bl HB)⟩

/-! ### spec_l12Place: function 94 -/
def spec_l12Place.l0 : Nat → List Int → Int → Int → Option (Int)
 | 0, _, _, _ => none
 | k + 1, x0, x1, x5 => if x5 < (x0.length : Int) then (if 0 ≤ x5 then (if (rd x0 x5) = x1 then (some x5) else (spec_l12Place.l0 k x0 x1 (wrap64 (x5 + 1)))) else (none)) else (some (-1))
def spec_l12Place.f (k : Nat) (l0 : List Int) (a1 : Int) : Option (Int) := spec_l12Place.l0 k l0 a1 0
theorem spec_l12Place.mono_l : ∀ k, (∀ y0 y1 y2, LeO (spec_l12Place.l0 k y0 y1 y2) (spec_l12Place.l0 (k + 1) y0 y1 y2))
 | 0 => fun _ _ _ r h => by simp [spec_l12Place.l0] at h
 | k + 1 => by
  have ih0 := spec_l12Place.mono_l k
  ·intro y0 y1 y2
   unfold spec_l12Place.l0
   repeat' first
   | (with_reducible exact ih0 _ _ _)
   | (with_reducible exact LeO.refl _)
   | (with_reducible exact LeO.none _)
   | (with_reducible refine LeO.ite ?_ ?_)
   | (with_reducible refine LeO.bind ?_ (fun _ => ?_))
   | exact ih0 _ _ _
   | exact LeO.none _
   | refine LeO.ite ?_ ?_
   | refine LeO.bind ?_ (fun _ => ?_)
theorem spec_l12Place.mono : ∀ a0 a1 k, LeO (spec_l12Place.f k a0 a1) (spec_l12Place.f (k + 1) a0 a1) := by
 intro a0 a1 k
 have ih0 := spec_l12Place.mono_l k
 unfold spec_l12Place.f
 repeat' first
   | (with_reducible exact ih0 _ _ _)
   | (with_reducible exact LeO.refl _)
   | (with_reducible exact LeO.none _)
   | (with_reducible refine LeO.ite ?_ ?_)
   | (with_reducible refine LeO.bind ?_ (fun _ => ?_))
   | exact ih0 _ _ _
   | exact LeO.none _
   | refine LeO.ite ?_ ?_
   | refine LeO.bind ?_ (fun _ => ?_)
set_option maxHeartbeats 8000000 in
set_option maxRecDepth 100000 in
theorem spec_l12Place.calls (k : Nat) (A0 : Option Addr) (c0 : Nat) (l0 : List Int) (a1 : Int) (r : Int) (w : World) (hr0 : Kd.C (Kd.int .i64) w A0 l0.length l0) (hc0 : l0.length ≤ c0) (h : spec_l12Place.f k l0 a1 = some r) :
  Calls Try.prog 94 #[.slice A0 l0.length c0, .int .i64 a1] w fun e w' => e = .returned (.int .i64 r) ∧ Drawn0 w w' := by
 have HR0 := Aside0.mk hr0
 have HC0 := Aside0.mk hc0
 clear hr0 hc0
 have H : (spec_l12Place.l0 k l0 a1 0) = some r := h
 clear h
 have H' := Aside0.mk H
 clear H
 go_enter Try.func94, Try.ntmps94
 go_wp2
 go_loopg [5] k (fun kq v5 w' => ∃ (x5_1 : Int), v5 = .int .i64 x5_1 ∧ Aside0 (spec_l12Place.l0 kq l0 a1 x5_1 = some r) ∧ Aside0 (kq ≤ k) ∧ Drawn0 w w')
 case atStart => exact ⟨(0), (by first | rfl | (simp; done) | (simp [*]; done)), H', ⟨Nat.le_refl _⟩, by repeat (first | exact Drawn0.refl _ | apply Drawn0.step)⟩
 case round =>
  clear H'
  try clear p2
  obtain ⟨x5_1, rfl, HA, HK1, ⟨m1, rfl⟩⟩ := hrel
  cases gk with
  | zero => exact absurd HA.out (by simp [spec_l12Place.l0])
  | succ k1 =>
   have H := HA.out
   clear HA
   simp only [spec_l12Place.l0] at H
   by_cases c3 : x5_1 < (l0.length : Int)
   ·rw [if_pos c3] at H
    have c3b0 : decide (x5_1 < (l0.length : Int)) = true := decide_eq_true c3
    clear c3
    by_cases c4 : 0 ≤ x5_1
    ·rw [if_pos c4] at H
     have c4b0 : decide (0 ≤ x5_1) = true := decide_eq_true c4
     clear c4
     by_cases c5 : (rd l0 x5_1) = a1
     ·rw [if_pos c5] at H
      have c5b0 : ((rd l0 x5_1) == a1) = true := beq_iff_eq.mpr c5
      have c5b1 : ((rd l0 x5_1) != a1) = false := bne_eq_false_iff_eq.mpr c5
      clear c5
      obtain rfl := Option.some.inj H
      have p729 : 0 ≤ (x5_1 : Int) := of_decide_eq_true (by first | (with_reducible assumption) | assumption)
      have q729 : x5_1 < (l0.length : Int) := of_decide_eq_true (by first | (with_reducible assumption) | assumption)
      obtain ⟨ad729, e729, hx729_0⟩ := Kd.at_int HR0.out x5_1 p729 q729
      cases e729
      replace p729 := eq_true p729
      replace q729 := eq_true q729
      go_wp2
      go_ret
      exact ⟨by first | rfl | (simp; done) | (simp [*]; done), by repeat (first | exact Drawn0.refl _ | apply Drawn0.step)⟩
     ·rw [if_neg c5] at H
      have c5b0 : ((rd l0 x5_1) == a1) = false := beq_eq_false_iff_ne.mpr c5
      have c5b1 : ((rd l0 x5_1) != a1) = true := bne_iff_ne.mpr c5
      have H' := Aside0.mk H
      clear H
      have p729 : 0 ≤ (x5_1 : Int) := of_decide_eq_true (by first | (with_reducible assumption) | assumption)
      have q729 : x5_1 < (l0.length : Int) := of_decide_eq_true (by first | (with_reducible assumption) | assumption)
      obtain ⟨ad729, e729, hx729_0⟩ := Kd.at_int HR0.out x5_1 p729 q729
      cases e729
      replace p729 := eq_true p729
      replace q729 := eq_true q729
      go_wp2
      go_roundg k1
      case measure => have := HK1.out; omega
      case rel => exact ⟨(wrap64 (x5_1 + 1)), (by first | rfl | (simp; done) | (simp [*]; done)), H', ⟨by have := HK1.out; omega⟩, by repeat (first | exact Drawn0.refl _ | apply Drawn0.step)⟩
    ·rw [if_neg c4] at H
     exact absurd H (by simp)
   ·rw [if_neg c3] at H
    have c3b0 : decide (x5_1 < (l0.length : Int)) = false := decide_eq_false c3
    clear c3
    obtain rfl := Option.some.inj H
    go_wp2
    go_ret
    exact ⟨by first | rfl | (simp; done) | (simp [*]; done), by repeat (first | exact Drawn0.refl _ | apply Drawn0.step)⟩

/-! ### laws_toPoint: function 55 -/
def laws_toPoint.f (a0_0 : Int) (a0_1 : Int) : Option (Int × Int) := some (a0_0, a0_1)
set_option maxHeartbeats 8000000 in
set_option maxRecDepth 100000 in
theorem laws_toPoint.calls (a0_0 : Int) (a0_1 : Int) (r1 : Int) (r2 : Int) (w : World) (h : laws_toPoint.f a0_0 a0_1 = some (r1, r2)) :
  Calls Try.prog 55 #[.agg #[.int .i64 a0_0, .int .i64 a0_1]] w fun e w' => e = .returned (.agg #[.int .i64 r1, .int .i64 r2]) ∧ Below w.heap.size w w' := by
 have hu68 := Try.underlying68
 have hu64 := Try.underlying64
 have HB := Aside0.mk (Below.refl w.heap.size w)
 have H : (some (a0_0, a0_1)) = some (r1, r2) := h
 clear h
 simp only [Option.some.injEq, Prod.mk.injEq] at H
 obtain ⟨rfl, rfl⟩ := H
 go_enter Try.func55, Try.ntmps55
 go_wp2_with (first | ((with_reducible refine gate_dst (N := 1) rfl ?_); refine bx 1 #[.int .i64 a0_0, .int .i64 a0_1] 68 ?_; intro gb775 hg w2 hbox hb; have BK775 := Aside0.mk hbox; have GE775 := gs HB hg; have GW775 := GE775; replace HB := bs HB hb; clear hb hbox hg) | ((with_reducible refine gate_dst (N := 2) rfl ?_); refine bx 2 #[.int .i64 0, .int .i64 0] 64 ?_; intro gb776 hg w3 hbox hb; have n0_ := Aside0.mk (blk_below (g := gb775) (o := .cells #[.int .i64 a0_0, .int .i64 a0_1] 68 (0, 0)) (bk BK775) hb); have n1_ := bsg HB GE775 hb; have n2_ := Aside0.mk (hbox); have n3_ := Aside0.mk ((by rw [hg]; exact (below_size (bg HB GE775)) : w.heap.size ≤ gb776)); have n4_ := Aside0.mk ((by rw [hg]; exact (below_size (bg HB GE775)) : w.heap.size ≤ gb776)); have n5_ := Aside0.mk ((by rw [hg]; exact Nat.ne_of_lt (blk_lt (g := gb775) (o := .cells #[.int .i64 a0_0, .int .i64 a0_1] 68 (0, 0)) (bk BK775)) : gb775 ≠ gb776)); have n6_ := Aside0.mk ((by rw [hg]; exact Nat.ne_of_gt (blk_lt (g := gb775) (o := .cells #[.int .i64 a0_0, .int .i64 a0_1] 68 (0, 0)) (bk BK775)) : gb776 ≠ gb775)); clear BK775; clear HB; have BK775 := n0_; have HB := n1_; have BK776 := n2_; have GW776 := n3_; have GE776 := n4_; have NB775_776 := n5_; have NB776_775 := n6_; clear n0_ n1_ n2_ n3_ n4_ n5_ n6_; clear hb hbox hg) | ((with_reducible refine gate_dst (N := 3) rfl ?_); refine bx 3 #[.int .i64 0, .int .i64 0] 64 ?_; intro gb777 hg w4 hbox hb; have n0_ := Aside0.mk (blk_below (g := gb775) (o := .cells #[.int .i64 a0_0, .int .i64 a0_1] 68 (0, 0)) (bk BK775) hb); have n1_ := Aside0.mk (blk_below (g := gb776) (o := .cells #[.int .i64 0, .int .i64 0] 64 (0, 0)) (bk BK776) hb); have n2_ := Aside0.mk (below_step (by repeat (first | (with_reducible first | exact HB.out | apply below_alloc | apply pw_below_drewN | apply below_drew1 | refine below_set ?_ GE775.out | refine below_set ?_ GE776.out) | exact HB.out)) hb); have n3_ := Aside0.mk (hbox); have n4_ := Aside0.mk ((by rw [hg]; exact (below_size (by repeat (first | (with_reducible first | exact HB.out | apply below_alloc | apply pw_below_drewN | apply below_drew1 | refine below_set ?_ GE775.out | refine below_set ?_ GE776.out) | exact HB.out))) : w.heap.size ≤ gb777)); have n5_ := Aside0.mk ((by rw [hg]; exact (below_size (by repeat (first | (with_reducible first | exact HB.out | apply below_alloc | apply pw_below_drewN | apply below_drew1 | refine below_set ?_ GE775.out | refine below_set ?_ GE776.out) | exact HB.out))) : w.heap.size ≤ gb777)); have n6_ := Aside0.mk ((by rw [hg]; exact Nat.ne_of_lt (blk_lt (g := gb775) (o := .cells #[.int .i64 a0_0, .int .i64 a0_1] 68 (0, 0)) (bk BK775)) : gb775 ≠ gb777)); have n7_ := Aside0.mk ((by rw [hg]; exact Nat.ne_of_gt (blk_lt (g := gb775) (o := .cells #[.int .i64 a0_0, .int .i64 a0_1] 68 (0, 0)) (bk BK775)) : gb777 ≠ gb775)); have n8_ := Aside0.mk ((by rw [hg]; exact Nat.ne_of_lt (blk_lt (g := gb776) (o := .cells #[.int .i64 0, .int .i64 0] 64 (0, 0)) (bk BK776)) : gb776 ≠ gb777)); have n9_ := Aside0.mk ((by rw [hg]; exact Nat.ne_of_gt (blk_lt (g := gb776) (o := .cells #[.int .i64 0, .int .i64 0] 64 (0, 0)) (bk BK776)) : gb777 ≠ gb776)); clear BK775; clear BK776; clear HB; have BK775 := n0_; have BK776 := n1_; have HB := n2_; have BK777 := n3_; have GW777 := n4_; have GE777 := n5_; have NB775_777 := n6_; have NB777_775 := n7_; have NB776_777 := n8_; have NB777_776 := n9_; clear n0_ n1_ n2_ n3_ n4_ n5_ n6_ n7_ n8_ n9_; clear hb hbox hg; have hnb5 := NB775_776.out; have hnc5 := NB776_775.out; have hnb6 := NB775_777.out; have hnc6 := NB777_775.out; have hcz7_0 := bc BK775 0; have hcz7_1 := bc BK775 1; have hfz7_0 := bf BK775 0; have hfz7_1 := bf BK775 1; have hnb8 := NB777_776.out; have hnc8 := NB776_777.out; have hcz9_0 := bc BK777 0; have hcz9_1 := bc BK777 1; have hfz9_0 := bf BK777 0; have hfz9_1 := bf BK777 1; have hcz10_0 := bc BK776 0; have hcz10_1 := bc BK776 1; have hfz10_0 := bf BK776 0; have hfz10_1 := bf BK776 1))
 refine bodyPost_ret (results_cell_row rfl _ _ gb776 64 #[.int .i64 a0_0, .int .i64 a0_1] (0, 0) _ rfl (by (with_reducible repeat (first | refine blk_drewN ?_ _ | refine blk_drew ?_ | refine blk_alloc ?_ _)); refine blk_put (cs := #[.int .i64 a0_0, .int .i64 0]) ?_ 1 _ rfl; (with_reducible repeat (first | refine blk_drewN ?_ _ | refine blk_drew ?_ | refine blk_alloc ?_ _)); refine blk_put (cs := #[.int .i64 0, .int .i64 0]) ?_ 0 _ rfl; (with_reducible repeat (first | refine blk_drewN ?_ _ | refine blk_drew ?_ | refine blk_alloc ?_ _)); refine blk_far ?_ NB776_777.out _; (with_reducible repeat (first | refine blk_drewN ?_ _ | refine blk_drew ?_ | refine blk_alloc ?_ _)); refine blk_far ?_ NB776_777.out _; (with_reducible repeat (first | refine blk_drewN ?_ _ | refine blk_drew ?_ | refine blk_alloc ?_ _)); exact BK776.out) Try.underlying64 rfl (by kernel_rfl)) rfl ?_
 exact ⟨by first | rfl | (simp [errW_none, errW_some] <;> rfl) | (simp [*, errW_none, errW_some] <;> rfl), by repeat (first | (with_reducible first | exact HB.out | apply below_alloc | apply pw_below_drewN | apply below_drew1 | refine below_set ?_ GE775.out | refine below_set ?_ GE776.out | refine below_set ?_ GE777.out) | exact HB.out)⟩

/-! ### laws_toPointS: function 29 -/
def laws_toPointS.l0 : Nat → List (S68) → List (S64) → Int → Option ((List (S64)))
 | 0, _, _, _ => none
 | k + 1, x0, x3, x4 => if x4 < (x0.length : Int) then (if 0 ≤ x4 then ((laws_toPoint.f ((rd_T68 x0 x4).f0) ((rd_T68 x0 x4).f1)).bind fun bt782 => (if x4 < (x3.length : Int) then (laws_toPointS.l0 k x0 (x3.set (x4 : Int).toNat (⟨bt782.1, bt782.2⟩ : S64)) (wrap64 (x4 + 1))) else (none))) else (none)) else (some x3)
def laws_toPointS.f (k : Nat) (l0 : List (S68)) : Option ((List (S64))) := if 0 ≤ (l0.length : Int) then (if ((l0.length : Int) : Int).toNat ≤ 17592186044416 then (laws_toPointS.l0 k l0 (List.replicate ((l0.length : Int) : Int).toNat z64) 0) else (none)) else (none)
theorem laws_toPointS.mono_l : ∀ k, (∀ y0 y1 y2, LeO (laws_toPointS.l0 k y0 y1 y2) (laws_toPointS.l0 (k + 1) y0 y1 y2))
 | 0 => fun _ _ _ r h => by simp [laws_toPointS.l0] at h
 | k + 1 => by
  have ih0 := laws_toPointS.mono_l k
  ·intro y0 y1 y2
   unfold laws_toPointS.l0
   repeat' first
   | (with_reducible exact ih0 _ _ _)
   | (with_reducible exact LeO.refl _)
   | (with_reducible exact LeO.none _)
   | (with_reducible refine LeO.ite ?_ ?_)
   | (with_reducible refine LeO.bind ?_ (fun _ => ?_))
   | exact ih0 _ _ _
   | exact LeO.none _
   | refine LeO.ite ?_ ?_
   | refine LeO.bind ?_ (fun _ => ?_)
theorem laws_toPointS.mono : ∀ a0 k, LeO (laws_toPointS.f k a0) (laws_toPointS.f (k + 1) a0) := by
 intro a0 k
 have ih0 := laws_toPointS.mono_l k
 unfold laws_toPointS.f
 repeat' first
   | (with_reducible exact ih0 _ _ _)
   | (with_reducible exact LeO.refl _)
   | (with_reducible exact LeO.none _)
   | (with_reducible refine LeO.ite ?_ ?_)
   | (with_reducible refine LeO.bind ?_ (fun _ => ?_))
   | exact ih0 _ _ _
   | exact LeO.none _
   | refine LeO.ite ?_ ?_
   | refine LeO.bind ?_ (fun _ => ?_)
set_option maxHeartbeats 8000000 in
set_option maxRecDepth 100000 in
theorem laws_toPointS.calls (k : Nat) (A0 : Option Addr) (c0 : Nat) (l0 : List (S68)) (r : List (S64)) (w : World) (hr0 : Kd.C k68 w A0 l0.length l0) (hc0 : l0.length ≤ c0) (h : laws_toPointS.f k l0 = some r) :
  Calls Try.prog 29 #[.slice A0 l0.length c0] w fun e w' => ∃ v0_ : Value, e = .returned (v0_) ∧ Kd.R k64 64 w' w.heap.size (fun _ => True) v0_ r ∧ Below w.heap.size w w' := by
 have hu68 := Try.underlying68
 have hu64 := Try.underlying64
 have HR0 := Aside0.mk hr0
 have HC0 := Aside0.mk hc0
 clear hr0 hc0
 have HB := Aside0.mk (Below.refl w.heap.size w)
 have H : (if 0 ≤ (l0.length : Int) then (if ((l0.length : Int) : Int).toNat ≤ 17592186044416 then (laws_toPointS.l0 k l0 (List.replicate ((l0.length : Int) : Int).toNat z64) 0) else (none)) else (none)) = some r := h
 clear h
 by_cases c2 : 0 ≤ (l0.length : Int)
 ·rw [if_pos c2] at H
  have c2b0 := eq_true c2
  have c2b1 : decide (0 ≤ (l0.length : Int)) = true := decide_eq_true c2
  clear c2
  by_cases c3 : ((l0.length : Int) : Int).toNat ≤ 17592186044416
  ·rw [if_pos c3] at H
   have c3b0 := eq_true c3
   have c3b1 : decide (((l0.length : Int) : Int).toNat ≤ 17592186044416) = true := decide_eq_true c3
   clear c3
   obtain ⟨y778, hy778⟩ : ∃ y_ : List (S64), y_ = (List.replicate ((l0.length : Int) : Int).toNat z64) := ⟨_, rfl⟩
   replace H : (laws_toPointS.l0 k l0 y778 0) = some r := by first | (rw [hy778]; with_reducible exact H) | (have H2_ := (Option.bind_some _ _).symm.trans H; rw [hy778]; with_reducible exact H2_) | (have H2_ := (Option.bind_some _ _).symm.trans H; with_reducible exact H2_) | with_reducible exact H | (rw [hy778]; exact H) | exact H
   have Ny778 := Aside0.mk hy778
   clear hy778
   have H' := Aside0.mk H
   clear H
   go_enter Try.func29, Try.ntmps29
   go_wp2_with (first | ((with_reducible refine gate_dst (N := 7) rfl ?_); refine Kd.R_make k64 _ 64 rfl (N := 7) rfl 40 _ _ rfl (l0.length : Int) rfl rfl Try.underlying40 (.agg #[(.int .i64 0), (.int .i64 0)]) 16 info64 rfl (by decide) (by omega) z64 (ok := fun _ => True) (okp := fun _ => True) (k64_mkM _ _ _ z64 ) (fun _ hk => hk) trivial (of_decide_eq_true (by first | (with_reducible assumption) | assumption)) (Nat.le_trans (Nat.mul_le_mul_right _ (of_decide_eq_true (by first | (with_reducible assumption) | assumption) : (l0.length : Int).toNat ≤ 17592186044416)) (by omega)) (Below.refl _ _) (Nat.le_refl _) ?_; intro v779 w4 ho5 hb hg_ hnew_; clear hg_ hnew_; (first | rw [← Ny778.out] at ho5 | (simp only [Int.reduceToNat] at ho5; rw [← Ny778.out] at ho5)); have n0_ := Aside0.mk (Kd.R_lower ho5 (below_size (bl HB))); have n1_ := bs HB hb; clear HB; have HO780 := n0_; have HB := n1_; clear n0_ n1_; clear hb ho5))
   go_loopg [4] k (fun kq v4 w' => ∃ (x3_1 : List (S64)) (x4_1 : Int), v4 = .int .i64 x4_1 ∧ Aside0 (laws_toPointS.l0 kq l0 x3_1 x4_1 = some r) ∧ Aside0 (kq ≤ k) ∧ Aside0 (Kd.R k64 64 w' w.heap.size (fun _ => True) v779 x3_1) ∧ Aside0 (Below w.heap.size w w'))
   case atStart => exact ⟨(y778), (0), (by first | rfl | (simp; done) | (simp [*]; done)), H', ⟨Nat.le_refl _⟩, ⟨by (with_reducible repeat (first | apply Kd.R_alloc | apply Kd.R_drewN | apply Kd.R_drew)); exact HO780.out⟩, ⟨(bl HB)⟩⟩
   case round =>
    clear H'
    try clear c2
    try clear c2b0
    try clear c2b1
    try clear p2
    try clear c3
    try clear c3b0
    try clear c3b1
    obtain ⟨x3_1, x4_1, rfl, HA, HK1, HO_3, HB⟩ := hrel
    cases gk with
    | zero => exact absurd HA.out (by simp [laws_toPointS.l0])
    | succ k1 =>
     have H := HA.out
     clear HA
     simp only [laws_toPointS.l0] at H
     by_cases c6 : x4_1 < (l0.length : Int)
     ·rw [if_pos c6] at H
      have c6b0 : decide (x4_1 < (l0.length : Int)) = true := decide_eq_true c6
      clear c6
      by_cases c7 : 0 ≤ x4_1
      ·rw [if_pos c7] at H
       have c7b0 : decide (0 ≤ x4_1) = true := decide_eq_true c7
       clear c7
       replace H := Option.bind_eq_some_iff.mp H
       obtain ⟨⟨t782, t783⟩, A80, H⟩ := H
       (try dsimp only at H)
       have A8 := Aside0.mk A80
       clear A80
       by_cases c9 : x4_1 < (x3_1.length : Int)
       ·rw [if_pos c9] at H
        have c9b0 : decide (x4_1 < (x3_1.length : Int)) = true := decide_eq_true c9
        clear c9
        obtain ⟨y784, hy784⟩ : ∃ y_ : List (S64), y_ = (x3_1.set (x4_1 : Int).toNat (⟨t782, t783⟩ : S64)) := ⟨_, rfl⟩
        replace H : (laws_toPointS.l0 k1 l0 y784 (wrap64 (x4_1 + 1))) = some r := by first | (rw [hy784]; with_reducible exact H) | (have H2_ := (Option.bind_some _ _).symm.trans H; rw [hy784]; with_reducible exact H2_) | (have H2_ := (Option.bind_some _ _).symm.trans H; with_reducible exact H2_) | with_reducible exact H | (rw [hy784]; exact H) | exact H
        have Ny784 := Aside0.mk hy784
        clear hy784
        have H' := Aside0.mk H
        clear H
        have p781 : 0 ≤ (x4_1 : Int) := of_decide_eq_true (by first | (with_reducible assumption) | assumption)
        have q781 : x4_1 < (l0.length : Int) := of_decide_eq_true (by first | (with_reducible assumption) | assumption)
        obtain ⟨ad781, e781, hx781_0, hx781_1⟩ := at_T68 HR0.out x4_1 p781 q781
        cases e781
        replace hx781_0 := (HB.out.cell (World.block_lt_of_cell? w _ hx781_0)).trans hx781_0
        replace hx781_1 := (HB.out.cell (World.block_lt_of_cell? w _ hx781_1)).trans hx781_1
        replace p781 := eq_true p781
        replace q781 := eq_true q781
        go_wp2_with (first | ((with_reducible refine gate_callee (f := 55) rfl ?_); refine gL (some 20) rfl rfl Try.func55 (by kernel_rfl) rfl #[.agg #[.int .i64 ((rd_T68 l0 x4_1).f0), .int .i64 ((rd_T68 l0 x4_1).f1)]] rfl ?_; (with_reducible refine (laws_toPoint.calls ((rd_T68 l0 x4_1).f0) ((rd_T68 l0 x4_1).f1) t782 t783 _ A8.out).mono ?_); rintro e w11 ⟨rfl, hb⟩; refine ⟨_, rfl, ?_⟩; have n0_ := Aside0.mk (Kd.R_below (rr HO_3) hb); have n1_ := bs HB hb; clear HO_3; clear HB; have HO_3 := n0_; have HB := n1_; clear n0_ n1_; (try clear hb); (try clear hb2); (try clear hk); (try clear hi); have p10 : 0 ≤ (x4_1 : Int) := of_decide_eq_true (by first | (with_reducible assumption) | assumption); have q10 : (x4_1 : Int) < ((x3_1.length : Int) : Int) := of_decide_eq_true (by first | (with_reducible assumption) | assumption); obtain ⟨go10, co10, eo10, gb10, gl10, cl10, HG10⟩ := Kd.R_form HO_3.out (by omega); (first | cases eo10 | (injection eo10 with ea_ en_ ec_; (first | subst ea_ | (injection ea_ with ea_; subst ea_)); subst ec_; clear en_)); have GB10 := Aside0.mk gb10; have GG10 := Aside0.mk HG10; clear gb10 gl10 HG10; obtain ⟨ce10, hcl10, hM10, hcc10, hfr10⟩ := Kd.R_elem HO_3.out z64 (x4_1 : Int) p10 q10; obtain rfl := k64_openM hM10; have hx10_0 : w11.cell? ⟨go10, (x4_1 : Int).toNat * 2, none⟩ = some (.int .i64 ((rd_T64 x3_1 x4_1).f0)) := hcc10 0 _ rfl; have hx10_1 : w11.cell? ⟨go10, (x4_1 : Int).toNat * 2 + 1, none⟩ = some (.int .i64 ((rd_T64 x3_1 x4_1).f1)) := hcc10 1 _ rfl; have hf10_0 : w11.frozen? ⟨go10, (x4_1 : Int).toNat * 2, none⟩ = false := hfr10 0; have hf10_1 : w11.frozen? ⟨go10, (x4_1 : Int).toNat * 2 + 1, none⟩ = false := hfr10 1; clear hcl10 hcc10 hfr10; (try clear hM10); replace p10 := eq_true p10; replace q10 := eq_true q10; have HX12 := Aside0.mk (show Kd.R k64 64 w11 w.heap.size (fun _ => True) (.slice (some ⟨go10, 0, none⟩) x3_1.length co10) x3_1 from (rr HO_3)); obtain ⟨ce12, hcl12, hM12, hcc12, hfr12⟩ := Kd.R_elem HX12.out z64 (x4_1 : Int) (of_decide_eq_true (by first | (with_reducible assumption) | assumption)) (by have h_ : (x4_1 : Int) < ((x3_1.length : Int) : Int) := of_decide_eq_true (by first | (with_reducible assumption) | assumption); first | exact h_ | (have e_ := (Kd.R_reads' HO_3.out).1; omega) | simpa using h_); obtain rfl := k64_openM hM12; have HP12 := Kd.R_seg HX12.out (x4_1 : Int) (of_decide_eq_true (by first | (with_reducible assumption) | assumption)) (by have h_ : (x4_1 : Int) < ((x3_1.length : Int) : Int) := of_decide_eq_true (by first | (with_reducible assumption) | assumption); first | exact h_ | (have e_ := (Kd.R_reads' HO_3.out).1; omega) | simpa using h_) (seg := [.int .i64 t782, .int .i64 t783]) (j := 0) hcl12 hcc12 (show 2 ≤ 2 from by decide) (x' := (⟨t782, t783⟩ : S64)) (k64_mkM _ _ _ (⟨t782, t783⟩ : S64) ) (fun _ hk => hk); have hx12_0 := hcc12 0 _ rfl; (try simp only [show (k64).sz = 2 from rfl, Nat.mul_one, Nat.add_zero] at hx12_0); have hf12_0 := hfr12 0; (try simp only [show (k64).sz = 2 from rfl, Nat.mul_one, Nat.add_zero] at hf12_0); have hx12_1 := hcc12 1 _ rfl; (try simp only [show (k64).sz = 2 from rfl, Nat.mul_one, Nat.add_zero] at hx12_1); have hf12_1 := hfr12 1; (try simp only [show (k64).sz = 2 from rfl, Nat.mul_one, Nat.add_zero] at hf12_1); clear hcl12 hcc12 hfr12; (try clear hM12)) | ((with_reducible refine gate_store (t := 64) (p := 21) rfl ?_); refine store_event (t := 64) (p := 21) (v := ?vo_w13) (w1 := ((w11.setCell ⟨go10, (x4_1 : Int).toNat * 2, none⟩ (.int .i64 t782)).setCell ⟨go10, (x4_1 : Int).toNat * 2 + 1, none⟩ (.int .i64 t783))) ?hg ?ho ?hn ?hr ?_; (case ho => rfl); (case hg => rfl); (case hn => rfl); (case hr => first | (go_simp; done) | (go_simp; rfl)); intro w13 hw; have hg : w11.grownBy w13 (some go10) := (by rw [hw]; exact HP12.2); have hp_ : Kd.R k64 64 w13 w.heap.size (fun _ => True) (.slice (some ⟨go10, 0, none⟩) x3_1.length co10) y784 := (by rw [hw, Ny784.out]; exact HP12.1); clear HP12; have n0_ := Aside0.mk (hp_); have n1_ := Aside0.mk ((by rw [hw]; exact below_set (below_set (HB.out) GB10.out) GB10.out : Below w.heap.size w w13)); clear HO_3; clear HB; have HO_3 := n0_; have HB := n1_; clear n0_ n1_; clear hg hw hp_))
        go_roundg k1
        case measure => have := HK1.out; omega
        case rel => exact ⟨(y784), (wrap64 (x4_1 + 1)), (by first | rfl | (simp; done) | (simp [*]; done)), H', ⟨by have := HK1.out; omega⟩, ⟨by (with_reducible repeat (first | apply Kd.R_alloc | apply Kd.R_drewN | apply Kd.R_drew)); exact HO_3.out⟩, ⟨(bl HB)⟩⟩
       ·rw [if_neg c9] at H
        exact absurd H (by simp)
      ·rw [if_neg c7] at H
       exact absurd H (by simp)
     ·rw [if_neg c6] at H
      have c6b0 : decide (x4_1 < (l0.length : Int)) = false := decide_eq_false c6
      clear c6
      obtain rfl := Option.some.inj H
      go_wp2
      go_ret
      exact ⟨_, by first | rfl | (simp [errW_none, errW_some] <;> rfl) | (simp [*, errW_none, errW_some] <;> rfl), by (with_reducible repeat (first | apply Kd.R_alloc | apply Kd.R_drewN | apply Kd.R_drew)); exact HO_3.out, (bl HB)⟩
  ·rw [if_neg c3] at H
   exact absurd H (by simp)
 ·rw [if_neg c2] at H
  exact absurd H (by simp)

/-! ### impl_isFar: function 124 -/
def impl_isFar.f (a0 : Int) (a1 : Int) : Option (Bool) := if a0 < (wrap64 (-a1)) then (some true) else (some (decide (a0 > a1)))
set_option maxHeartbeats 8000000 in
set_option maxRecDepth 100000 in
theorem impl_isFar.calls (a0 : Int) (a1 : Int) (r : Bool) (w : World) (h : impl_isFar.f a0 a1 = some r) :
  Calls Try.prog 124 #[.int .i64 a0, .int .i64 a1] w fun e w' => e = .returned (.bool r) ∧ Drawn0 w w' := by
 have H : (if a0 < (wrap64 (-a1)) then (some true) else (some (decide (a0 > a1)))) = some r := h
 clear h
 by_cases c3 : a0 < (wrap64 (-a1))
 ·rw [if_pos c3] at H
  have c3b0 : decide (a0 < (wrap64 (-a1))) = true := decide_eq_true c3
  clear c3
  obtain rfl := Option.some.inj H
  go_enter Try.func124, Try.ntmps124
  go_wp2
  go_ret
  exact ⟨by first | rfl | (simp; done) | (simp [*]; done), by repeat (first | exact Drawn0.refl _ | apply Drawn0.step)⟩
 ·rw [if_neg c3] at H
  have c3b0 : decide (a0 < (wrap64 (-a1))) = false := decide_eq_false c3
  clear c3
  obtain rfl := Option.some.inj H
  go_enter Try.func124, Try.ntmps124
  go_wp2
  go_ret
  exact ⟨by first | rfl | (simp; done) | (simp [*]; done), by repeat (first | exact Drawn0.refl _ | apply Drawn0.step)⟩

/-! ### cmp_isNaN_int: function 128 -/
def cmp_isNaN_int.f (a0 : Int) : Option (Bool) := some (a0 != a0)
set_option maxHeartbeats 8000000 in
set_option maxRecDepth 100000 in
theorem cmp_isNaN_int.calls (a0 : Int) (r : Bool) (w : World) (h : cmp_isNaN_int.f a0 = some r) :
  Calls Try.prog 128 #[.int .i64 a0] w fun e w' => e = .returned (.bool r) ∧ Drawn0 w w' := by
 have H : (some (a0 != a0)) = some r := h
 clear h
 obtain rfl := Option.some.inj H
 go_enter Try.func128, Try.ntmps128
 go_wp2
 go_ret
 exact ⟨by first | rfl | (simp; done) | (simp [*]; done), by repeat (first | exact Drawn0.refl _ | apply Drawn0.step)⟩

/-! ### cmp_Compare_int: function 103 -/
def cmp_Compare_int.f (a0 : Int) (a1 : Int) : Option (Int) := (cmp_isNaN_int.f a0).bind fun t785 => ((cmp_isNaN_int.f a1).bind fun t786 => (if t785 = true then (if t786 = true then (some 0) else (some (-1))) else (if t786 = true then (some 1) else (if a0 < a1 then (some (-1)) else (if a0 > a1 then (some 1) else (some 0))))))
set_option maxHeartbeats 8000000 in
set_option maxRecDepth 100000 in
theorem cmp_Compare_int.calls (a0 : Int) (a1 : Int) (r : Int) (w : World) (h : cmp_Compare_int.f a0 a1 = some r) :
  Calls Try.prog 103 #[.int .i64 a0, .int .i64 a1] w fun e w' => e = .returned (.int .i64 r) ∧ Drawn0 w w' := by
 have H : ((cmp_isNaN_int.f a0).bind fun t785 => ((cmp_isNaN_int.f a1).bind fun t786 => (if t785 = true then (if t786 = true then (some 0) else (some (-1))) else (if t786 = true then (some 1) else (if a0 < a1 then (some (-1)) else (if a0 > a1 then (some 1) else (some 0))))))) = some r := h
 clear h
 replace H := Option.bind_eq_some_iff.mp H
 obtain ⟨t785, A30, H⟩ := H
 (try dsimp only at H)
 have A3 := Aside0.mk A30
 clear A30
 replace H := Option.bind_eq_some_iff.mp H
 obtain ⟨t786, A40, H⟩ := H
 (try dsimp only at H)
 have A4 := Aside0.mk A40
 clear A40
 by_cases c5 : t785 = true
 ·subst c5
  have H1 : (if t786 = true then (some 0) else (some (-1))) = some r := by rw [if_pos rfl] at H; exact H
  clear H
  have H := H1
  clear H1
  by_cases c6 : t786 = true
  ·subst c6
   have H1 : (some 0) = some r := by rw [if_pos rfl] at H; exact H
   clear H
   have H := H1
   clear H1
   obtain rfl := Option.some.inj H
   go_enter Try.func103, Try.ntmps103
   go_wp2_with (first | ((with_reducible refine gate_callee (f := 128) rfl ?_); refine gL (some 8) rfl rfl Try.func128 (by kernel_rfl) rfl #[.int .i64 a0] rfl ?_; (with_reducible refine (cmp_isNaN_int.calls a0 true _ A3.out).mono ?_); rintro e w' ⟨rfl, ⟨nd, rfl⟩⟩; refine ⟨_, rfl, ?_⟩) | ((with_reducible refine gate_callee (f := 128) rfl ?_); refine gL (some 10) rfl rfl Try.func128 (by kernel_rfl) rfl #[.int .i64 a1] rfl ?_; (with_reducible refine (cmp_isNaN_int.calls a1 true _ A4.out).mono ?_); rintro e w' ⟨rfl, ⟨nd, rfl⟩⟩; refine ⟨_, rfl, ?_⟩))
   go_ret
   exact ⟨by first | rfl | (simp; done) | (simp [*]; done), by repeat (first | exact Drawn0.refl _ | apply Drawn0.step)⟩
  ·replace c6 := Bool.eq_false_iff.mpr c6
   subst c6
   have H1 : (some (-1)) = some r := by rw [if_neg (show ¬ (false = true) by decide)] at H; exact H
   clear H
   have H := H1
   clear H1
   obtain rfl := Option.some.inj H
   go_enter Try.func103, Try.ntmps103
   go_wp2_with (first | ((with_reducible refine gate_callee (f := 128) rfl ?_); refine gL (some 8) rfl rfl Try.func128 (by kernel_rfl) rfl #[.int .i64 a0] rfl ?_; (with_reducible refine (cmp_isNaN_int.calls a0 true _ A3.out).mono ?_); rintro e w' ⟨rfl, ⟨nd, rfl⟩⟩; refine ⟨_, rfl, ?_⟩) | ((with_reducible refine gate_callee (f := 128) rfl ?_); refine gL (some 10) rfl rfl Try.func128 (by kernel_rfl) rfl #[.int .i64 a1] rfl ?_; (with_reducible refine (cmp_isNaN_int.calls a1 false _ A4.out).mono ?_); rintro e w' ⟨rfl, ⟨nd, rfl⟩⟩; refine ⟨_, rfl, ?_⟩))
   go_ret
   exact ⟨by first | rfl | (simp; done) | (simp [*]; done), by repeat (first | exact Drawn0.refl _ | apply Drawn0.step)⟩
 ·replace c5 := Bool.eq_false_iff.mpr c5
  subst c5
  have H1 : (if t786 = true then (some 1) else (if a0 < a1 then (some (-1)) else (if a0 > a1 then (some 1) else (some 0)))) = some r := by rw [if_neg (show ¬ (false = true) by decide)] at H; exact H
  clear H
  have H := H1
  clear H1
  by_cases c7 : t786 = true
  ·subst c7
   have H1 : (some 1) = some r := by rw [if_pos rfl] at H; exact H
   clear H
   have H := H1
   clear H1
   obtain rfl := Option.some.inj H
   go_enter Try.func103, Try.ntmps103
   go_wp2_with (first | ((with_reducible refine gate_callee (f := 128) rfl ?_); refine gL (some 8) rfl rfl Try.func128 (by kernel_rfl) rfl #[.int .i64 a0] rfl ?_; (with_reducible refine (cmp_isNaN_int.calls a0 false _ A3.out).mono ?_); rintro e w' ⟨rfl, ⟨nd, rfl⟩⟩; refine ⟨_, rfl, ?_⟩) | ((with_reducible refine gate_callee (f := 128) rfl ?_); refine gL (some 10) rfl rfl Try.func128 (by kernel_rfl) rfl #[.int .i64 a1] rfl ?_; (with_reducible refine (cmp_isNaN_int.calls a1 true _ A4.out).mono ?_); rintro e w' ⟨rfl, ⟨nd, rfl⟩⟩; refine ⟨_, rfl, ?_⟩))
   go_ret
   exact ⟨by first | rfl | (simp; done) | (simp [*]; done), by repeat (first | exact Drawn0.refl _ | apply Drawn0.step)⟩
  ·replace c7 := Bool.eq_false_iff.mpr c7
   subst c7
   have H1 : (if a0 < a1 then (some (-1)) else (if a0 > a1 then (some 1) else (some 0))) = some r := by rw [if_neg (show ¬ (false = true) by decide)] at H; exact H
   clear H
   have H := H1
   clear H1
   by_cases c8 : a0 < a1
   ·rw [if_pos c8] at H
    have c8b0 : decide (a0 < a1) = true := decide_eq_true c8
    clear c8
    obtain rfl := Option.some.inj H
    go_enter Try.func103, Try.ntmps103
    go_wp2_with (first | ((with_reducible refine gate_callee (f := 128) rfl ?_); refine gL (some 8) rfl rfl Try.func128 (by kernel_rfl) rfl #[.int .i64 a0] rfl ?_; (with_reducible refine (cmp_isNaN_int.calls a0 false _ A3.out).mono ?_); rintro e w' ⟨rfl, ⟨nd, rfl⟩⟩; refine ⟨_, rfl, ?_⟩) | ((with_reducible refine gate_callee (f := 128) rfl ?_); refine gL (some 10) rfl rfl Try.func128 (by kernel_rfl) rfl #[.int .i64 a1] rfl ?_; (with_reducible refine (cmp_isNaN_int.calls a1 false _ A4.out).mono ?_); rintro e w' ⟨rfl, ⟨nd, rfl⟩⟩; refine ⟨_, rfl, ?_⟩))
    go_ret
    exact ⟨by first | rfl | (simp; done) | (simp [*]; done), by repeat (first | exact Drawn0.refl _ | apply Drawn0.step)⟩
   ·rw [if_neg c8] at H
    have c8b0 : decide (a0 < a1) = false := decide_eq_false c8
    clear c8
    by_cases c9 : a0 > a1
    ·rw [if_pos c9] at H
     have c9b0 : decide (a1 < a0) = true := decide_eq_true c9
     clear c9
     obtain rfl := Option.some.inj H
     go_enter Try.func103, Try.ntmps103
     go_wp2_with (first | ((with_reducible refine gate_callee (f := 128) rfl ?_); refine gL (some 8) rfl rfl Try.func128 (by kernel_rfl) rfl #[.int .i64 a0] rfl ?_; (with_reducible refine (cmp_isNaN_int.calls a0 false _ A3.out).mono ?_); rintro e w' ⟨rfl, ⟨nd, rfl⟩⟩; refine ⟨_, rfl, ?_⟩) | ((with_reducible refine gate_callee (f := 128) rfl ?_); refine gL (some 10) rfl rfl Try.func128 (by kernel_rfl) rfl #[.int .i64 a1] rfl ?_; (with_reducible refine (cmp_isNaN_int.calls a1 false _ A4.out).mono ?_); rintro e w' ⟨rfl, ⟨nd, rfl⟩⟩; refine ⟨_, rfl, ?_⟩))
     go_ret
     exact ⟨by first | rfl | (simp; done) | (simp [*]; done), by repeat (first | exact Drawn0.refl _ | apply Drawn0.step)⟩
    ·rw [if_neg c9] at H
     have c9b0 : decide (a1 < a0) = false := decide_eq_false c9
     clear c9
     obtain rfl := Option.some.inj H
     go_enter Try.func103, Try.ntmps103
     go_wp2_with (first | ((with_reducible refine gate_callee (f := 128) rfl ?_); refine gL (some 8) rfl rfl Try.func128 (by kernel_rfl) rfl #[.int .i64 a0] rfl ?_; (with_reducible refine (cmp_isNaN_int.calls a0 false _ A3.out).mono ?_); rintro e w' ⟨rfl, ⟨nd, rfl⟩⟩; refine ⟨_, rfl, ?_⟩) | ((with_reducible refine gate_callee (f := 128) rfl ?_); refine gL (some 10) rfl rfl Try.func128 (by kernel_rfl) rfl #[.int .i64 a1] rfl ?_; (with_reducible refine (cmp_isNaN_int.calls a1 false _ A4.out).mono ?_); rintro e w' ⟨rfl, ⟨nd, rfl⟩⟩; refine ⟨_, rfl, ?_⟩))
     go_ret
     exact ⟨by first | rfl | (simp; done) | (simp [*]; done), by repeat (first | exact Drawn0.refl _ | apply Drawn0.step)⟩

/-! ### impl_signOf: function 125 -/
def impl_signOf.f (a0 : Int) : Option (Int) := (cmp_Compare_int.f a0 0).bind fun t787 => (some t787)
set_option maxHeartbeats 8000000 in
set_option maxRecDepth 100000 in
theorem impl_signOf.calls (a0 : Int) (r : Int) (w : World) (h : impl_signOf.f a0 = some r) :
  Calls Try.prog 125 #[.int .i64 a0] w fun e w' => e = .returned (.int .i64 r) ∧ Drawn0 w w' := by
 have H : ((cmp_Compare_int.f a0 0).bind fun t787 => (some t787)) = some r := h
 clear h
 replace H := Option.bind_eq_some_iff.mp H
 obtain ⟨t787, A20, H⟩ := H
 (try dsimp only at H)
 have A2 := Aside0.mk A20
 clear A20
 obtain rfl := Option.some.inj H
 go_enter Try.func125, Try.ntmps125
 go_wp2_with (first | ((with_reducible refine gate_callee (f := 103) rfl ?_); refine gL (some 4) rfl rfl Try.func103 (by kernel_rfl) rfl #[.int .i64 a0, .int .i64 0] rfl ?_; (with_reducible refine (cmp_Compare_int.calls a0 0 t787 _ A2.out).mono ?_); rintro e w' ⟨rfl, ⟨nd, rfl⟩⟩; refine ⟨_, rfl, ?_⟩))
 go_ret
 exact ⟨by first | rfl | (simp; done) | (simp [*]; done), by repeat (first | exact Drawn0.refl _ | apply Drawn0.step)⟩

/-! ### impl_area: function 126 -/
def impl_area.f (a0_0 : Int) (a0_1 : Int) (a1_0 : Int) (a1_1 : Int) (a2_0 : Int) (a2_1 : Int) : Option (Int) := some (wrap64 ((wrap64 ((wrap64 (a1_0 - a0_0)) * (wrap64 (a2_1 - a0_1)))) - (wrap64 ((wrap64 (a1_1 - a0_1)) * (wrap64 (a2_0 - a0_0))))))
set_option maxHeartbeats 8000000 in
set_option maxRecDepth 100000 in
theorem impl_area.calls (a0_0 : Int) (a0_1 : Int) (a1_0 : Int) (a1_1 : Int) (a2_0 : Int) (a2_1 : Int) (r : Int) (w : World) (h : impl_area.f a0_0 a0_1 a1_0 a1_1 a2_0 a2_1 = some r) :
  Calls Try.prog 126 #[.agg #[.int .i64 a0_0, .int .i64 a0_1], .agg #[.int .i64 a1_0, .int .i64 a1_1], .agg #[.int .i64 a2_0, .int .i64 a2_1]] w fun e w' => e = .returned (.int .i64 r) ∧ Below w.heap.size w w' := by
 have hu64 := Try.underlying64
 have HB := Aside0.mk (Below.refl w.heap.size w)
 have H : (some (wrap64 ((wrap64 ((wrap64 (a1_0 - a0_0)) * (wrap64 (a2_1 - a0_1)))) - (wrap64 ((wrap64 (a1_1 - a0_1)) * (wrap64 (a2_0 - a0_0))))))) = some r := h
 clear h
 obtain rfl := Option.some.inj H
 go_enter Try.func126, Try.ntmps126
 go_wp2_with (first | ((with_reducible refine gate_dst (N := 3) rfl ?_); refine bx 3 #[.int .i64 a0_0, .int .i64 a0_1] 64 ?_; intro gb788 hg w4 hbox hb; have BK788 := Aside0.mk hbox; have GE788 := gs HB hg; have GW788 := GE788; replace HB := bs HB hb; clear hb hbox hg) | ((with_reducible refine gate_dst (N := 4) rfl ?_); refine bx 4 #[.int .i64 a1_0, .int .i64 a1_1] 64 ?_; intro gb789 hg w5 hbox hb; have n0_ := Aside0.mk (blk_below (g := gb788) (o := .cells #[.int .i64 a0_0, .int .i64 a0_1] 64 (0, 0)) (bk BK788) hb); have n1_ := bsg HB GE788 hb; have n2_ := Aside0.mk (hbox); have n3_ := Aside0.mk ((by rw [hg]; exact (below_size (bg HB GE788)) : w.heap.size ≤ gb789)); have n4_ := Aside0.mk ((by rw [hg]; exact (below_size (bg HB GE788)) : w.heap.size ≤ gb789)); have n5_ := Aside0.mk ((by rw [hg]; exact Nat.ne_of_lt (blk_lt (g := gb788) (o := .cells #[.int .i64 a0_0, .int .i64 a0_1] 64 (0, 0)) (bk BK788)) : gb788 ≠ gb789)); have n6_ := Aside0.mk ((by rw [hg]; exact Nat.ne_of_gt (blk_lt (g := gb788) (o := .cells #[.int .i64 a0_0, .int .i64 a0_1] 64 (0, 0)) (bk BK788)) : gb789 ≠ gb788)); clear BK788; clear HB; have BK788 := n0_; have HB := n1_; have BK789 := n2_; have GW789 := n3_; have GE789 := n4_; have NB788_789 := n5_; have NB789_788 := n6_; clear n0_ n1_ n2_ n3_ n4_ n5_ n6_; clear hb hbox hg) | ((with_reducible refine gate_dst (N := 5) rfl ?_); refine bx 5 #[.int .i64 a2_0, .int .i64 a2_1] 64 ?_; intro gb790 hg w6 hbox hb; have n0_ := Aside0.mk (blk_below (g := gb788) (o := .cells #[.int .i64 a0_0, .int .i64 a0_1] 64 (0, 0)) (bk BK788) hb); have n1_ := Aside0.mk (blk_below (g := gb789) (o := .cells #[.int .i64 a1_0, .int .i64 a1_1] 64 (0, 0)) (bk BK789) hb); have n2_ := Aside0.mk (below_step (by repeat (first | (with_reducible first | exact HB.out | apply below_alloc | apply pw_below_drewN | apply below_drew1 | refine below_set ?_ GE788.out | refine below_set ?_ GE789.out) | exact HB.out)) hb); have n3_ := Aside0.mk (hbox); have n4_ := Aside0.mk ((by rw [hg]; exact (below_size (by repeat (first | (with_reducible first | exact HB.out | apply below_alloc | apply pw_below_drewN | apply below_drew1 | refine below_set ?_ GE788.out | refine below_set ?_ GE789.out) | exact HB.out))) : w.heap.size ≤ gb790)); have n5_ := Aside0.mk ((by rw [hg]; exact (below_size (by repeat (first | (with_reducible first | exact HB.out | apply below_alloc | apply pw_below_drewN | apply below_drew1 | refine below_set ?_ GE788.out | refine below_set ?_ GE789.out) | exact HB.out))) : w.heap.size ≤ gb790)); have n6_ := Aside0.mk ((by rw [hg]; exact Nat.ne_of_lt (blk_lt (g := gb788) (o := .cells #[.int .i64 a0_0, .int .i64 a0_1] 64 (0, 0)) (bk BK788)) : gb788 ≠ gb790)); have n7_ := Aside0.mk ((by rw [hg]; exact Nat.ne_of_gt (blk_lt (g := gb788) (o := .cells #[.int .i64 a0_0, .int .i64 a0_1] 64 (0, 0)) (bk BK788)) : gb790 ≠ gb788)); have n8_ := Aside0.mk ((by rw [hg]; exact Nat.ne_of_lt (blk_lt (g := gb789) (o := .cells #[.int .i64 a1_0, .int .i64 a1_1] 64 (0, 0)) (bk BK789)) : gb789 ≠ gb790)); have n9_ := Aside0.mk ((by rw [hg]; exact Nat.ne_of_gt (blk_lt (g := gb789) (o := .cells #[.int .i64 a1_0, .int .i64 a1_1] 64 (0, 0)) (bk BK789)) : gb790 ≠ gb789)); clear BK788; clear BK789; clear HB; have BK788 := n0_; have BK789 := n1_; have HB := n2_; have BK790 := n3_; have GW790 := n4_; have GE790 := n5_; have NB788_790 := n6_; have NB790_788 := n7_; have NB789_790 := n8_; have NB790_789 := n9_; clear n0_ n1_ n2_ n3_ n4_ n5_ n6_ n7_ n8_ n9_; clear hb hbox hg; have hnb7 := NB789_788.out; have hnc7 := NB788_789.out; have hnb8 := NB789_790.out; have hnc8 := NB790_789.out; have hcz9_0 := bc BK789 0; have hcz9_1 := bc BK789 1; have hfz9_0 := bf BK789 0; have hfz9_1 := bf BK789 1; have hnb10 := NB788_790.out; have hnc10 := NB790_788.out; have hcz11_0 := bc BK788 0; have hcz11_1 := bc BK788 1; have hfz11_0 := bf BK788 0; have hfz11_1 := bf BK788 1; have hcz12_0 := bc BK790 0; have hcz12_1 := bc BK790 1; have hfz12_0 := bf BK790 0; have hfz12_1 := bf BK790 1))
 go_ret
 exact ⟨by first | rfl | (simp [errW_none, errW_some] <;> rfl) | (simp [*, errW_none, errW_some] <;> rfl), by repeat (first | (with_reducible first | exact HB.out | apply below_alloc | apply pw_below_drewN | apply below_drew1 | refine below_set ?_ GE788.out | refine below_set ?_ GE789.out | refine below_set ?_ GE790.out) | exact HB.out)⟩

/-! ### impl_slopes: function 61 -/
def impl_slopes.f (a0_0 : Int) (a0_1 : Int) (a1_0 : Int) (a1_1 : Int) (a2_0 : Int) (a2_1 : Int) (a3_0 : Int) (a3_1 : Int) : Option (Int) := (cmp_Compare_int.f (wrap64 ((wrap64 (a1_1 - a0_1)) * (wrap64 (a3_0 - a2_0)))) (wrap64 ((wrap64 (a3_1 - a2_1)) * (wrap64 (a1_0 - a0_0))))).bind fun t805 => (some t805)
set_option maxHeartbeats 8000000 in
set_option maxRecDepth 100000 in
theorem impl_slopes.calls (a0_0 : Int) (a0_1 : Int) (a1_0 : Int) (a1_1 : Int) (a2_0 : Int) (a2_1 : Int) (a3_0 : Int) (a3_1 : Int) (r : Int) (w : World) (h : impl_slopes.f a0_0 a0_1 a1_0 a1_1 a2_0 a2_1 a3_0 a3_1 = some r) :
  Calls Try.prog 61 #[.agg #[.int .i64 a0_0, .int .i64 a0_1], .agg #[.int .i64 a1_0, .int .i64 a1_1], .agg #[.int .i64 a2_0, .int .i64 a2_1], .agg #[.int .i64 a3_0, .int .i64 a3_1]] w fun e w' => e = .returned (.int .i64 r) ∧ Below w.heap.size w w' := by
 have hu64 := Try.underlying64
 have HB := Aside0.mk (Below.refl w.heap.size w)
 have H : ((cmp_Compare_int.f (wrap64 ((wrap64 (a1_1 - a0_1)) * (wrap64 (a3_0 - a2_0)))) (wrap64 ((wrap64 (a3_1 - a2_1)) * (wrap64 (a1_0 - a0_0))))).bind fun t805 => (some t805)) = some r := h
 clear h
 replace H := Option.bind_eq_some_iff.mp H
 obtain ⟨t805, A50, H⟩ := H
 (try dsimp only at H)
 have A5 := Aside0.mk A50
 clear A50
 obtain rfl := Option.some.inj H
 go_enter Try.func61, Try.ntmps61
 go_wp2_with (first | ((with_reducible refine gate_dst (N := 4) rfl ?_); refine bx 4 #[.int .i64 a0_0, .int .i64 a0_1] 64 ?_; intro gb801 hg w6 hbox hb; have BK801 := Aside0.mk hbox; have GE801 := gs HB hg; have GW801 := GE801; replace HB := bs HB hb; clear hb hbox hg) | ((with_reducible refine gate_dst (N := 5) rfl ?_); refine bx 5 #[.int .i64 a1_0, .int .i64 a1_1] 64 ?_; intro gb802 hg w7 hbox hb; have n0_ := Aside0.mk (blk_below (g := gb801) (o := .cells #[.int .i64 a0_0, .int .i64 a0_1] 64 (0, 0)) (bk BK801) hb); have n1_ := bsg HB GE801 hb; have n2_ := Aside0.mk (hbox); have n3_ := Aside0.mk ((by rw [hg]; exact (below_size (bg HB GE801)) : w.heap.size ≤ gb802)); have n4_ := Aside0.mk ((by rw [hg]; exact (below_size (bg HB GE801)) : w.heap.size ≤ gb802)); have n5_ := Aside0.mk ((by rw [hg]; exact Nat.ne_of_lt (blk_lt (g := gb801) (o := .cells #[.int .i64 a0_0, .int .i64 a0_1] 64 (0, 0)) (bk BK801)) : gb801 ≠ gb802)); have n6_ := Aside0.mk ((by rw [hg]; exact Nat.ne_of_gt (blk_lt (g := gb801) (o := .cells #[.int .i64 a0_0, .int .i64 a0_1] 64 (0, 0)) (bk BK801)) : gb802 ≠ gb801)); clear BK801; clear HB; have BK801 := n0_; have HB := n1_; have BK802 := n2_; have GW802 := n3_; have GE802 := n4_; have NB801_802 := n5_; have NB802_801 := n6_; clear n0_ n1_ n2_ n3_ n4_ n5_ n6_; clear hb hbox hg) | ((with_reducible refine gate_dst (N := 6) rfl ?_); refine bx 6 #[.int .i64 a2_0, .int .i64 a2_1] 64 ?_; intro gb803 hg w8 hbox hb; have n0_ := Aside0.mk (blk_below (g := gb801) (o := .cells #[.int .i64 a0_0, .int .i64 a0_1] 64 (0, 0)) (bk BK801) hb); have n1_ := Aside0.mk (blk_below (g := gb802) (o := .cells #[.int .i64 a1_0, .int .i64 a1_1] 64 (0, 0)) (bk BK802) hb); have n2_ := Aside0.mk (below_step (by repeat (first | (with_reducible first | exact HB.out | apply below_alloc | apply pw_below_drewN | apply below_drew1 | refine below_set ?_ GE801.out | refine below_set ?_ GE802.out) | exact HB.out)) hb); have n3_ := Aside0.mk (hbox); have n4_ := Aside0.mk ((by rw [hg]; exact (below_size (by repeat (first | (with_reducible first | exact HB.out | apply below_alloc | apply pw_below_drewN | apply below_drew1 | refine below_set ?_ GE801.out | refine below_set ?_ GE802.out) | exact HB.out))) : w.heap.size ≤ gb803)); have n5_ := Aside0.mk ((by rw [hg]; exact (below_size (by repeat (first | (with_reducible first | exact HB.out | apply below_alloc | apply pw_below_drewN | apply below_drew1 | refine below_set ?_ GE801.out | refine below_set ?_ GE802.out) | exact HB.out))) : w.heap.size ≤ gb803)); have n6_ := Aside0.mk ((by rw [hg]; exact Nat.ne_of_lt (blk_lt (g := gb801) (o := .cells #[.int .i64 a0_0, .int .i64 a0_1] 64 (0, 0)) (bk BK801)) : gb801 ≠ gb803)); have n7_ := Aside0.mk ((by rw [hg]; exact Nat.ne_of_gt (blk_lt (g := gb801) (o := .cells #[.int .i64 a0_0, .int .i64 a0_1] 64 (0, 0)) (bk BK801)) : gb803 ≠ gb801)); have n8_ := Aside0.mk ((by rw [hg]; exact Nat.ne_of_lt (blk_lt (g := gb802) (o := .cells #[.int .i64 a1_0, .int .i64 a1_1] 64 (0, 0)) (bk BK802)) : gb802 ≠ gb803)); have n9_ := Aside0.mk ((by rw [hg]; exact Nat.ne_of_gt (blk_lt (g := gb802) (o := .cells #[.int .i64 a1_0, .int .i64 a1_1] 64 (0, 0)) (bk BK802)) : gb803 ≠ gb802)); clear BK801; clear BK802; clear HB; have BK801 := n0_; have BK802 := n1_; have HB := n2_; have BK803 := n3_; have GW803 := n4_; have GE803 := n5_; have NB801_803 := n6_; have NB803_801 := n7_; have NB802_803 := n8_; have NB803_802 := n9_; clear n0_ n1_ n2_ n3_ n4_ n5_ n6_ n7_ n8_ n9_; clear hb hbox hg) | ((with_reducible refine gate_dst (N := 7) rfl ?_); refine bx 7 #[.int .i64 a3_0, .int .i64 a3_1] 64 ?_; intro gb804 hg w9 hbox hb; have n0_ := Aside0.mk (blk_below (g := gb801) (o := .cells #[.int .i64 a0_0, .int .i64 a0_1] 64 (0, 0)) (bk BK801) hb); have n1_ := Aside0.mk (blk_below (g := gb802) (o := .cells #[.int .i64 a1_0, .int .i64 a1_1] 64 (0, 0)) (bk BK802) hb); have n2_ := Aside0.mk (blk_below (g := gb803) (o := .cells #[.int .i64 a2_0, .int .i64 a2_1] 64 (0, 0)) (bk BK803) hb); have n3_ := Aside0.mk (below_step (by repeat (first | (with_reducible first | exact HB.out | apply below_alloc | apply pw_below_drewN | apply below_drew1 | refine below_set ?_ GE801.out | refine below_set ?_ GE802.out | refine below_set ?_ GE803.out) | exact HB.out)) hb); have n4_ := Aside0.mk (hbox); have n5_ := Aside0.mk ((by rw [hg]; exact (below_size (by repeat (first | (with_reducible first | exact HB.out | apply below_alloc | apply pw_below_drewN | apply below_drew1 | refine below_set ?_ GE801.out | refine below_set ?_ GE802.out | refine below_set ?_ GE803.out) | exact HB.out))) : w.heap.size ≤ gb804)); have n6_ := Aside0.mk ((by rw [hg]; exact (below_size (by repeat (first | (with_reducible first | exact HB.out | apply below_alloc | apply pw_below_drewN | apply below_drew1 | refine below_set ?_ GE801.out | refine below_set ?_ GE802.out | refine below_set ?_ GE803.out) | exact HB.out))) : w.heap.size ≤ gb804)); have n7_ := Aside0.mk ((by rw [hg]; exact Nat.ne_of_lt (blk_lt (g := gb801) (o := .cells #[.int .i64 a0_0, .int .i64 a0_1] 64 (0, 0)) (bk BK801)) : gb801 ≠ gb804)); have n8_ := Aside0.mk ((by rw [hg]; exact Nat.ne_of_gt (blk_lt (g := gb801) (o := .cells #[.int .i64 a0_0, .int .i64 a0_1] 64 (0, 0)) (bk BK801)) : gb804 ≠ gb801)); have n9_ := Aside0.mk ((by rw [hg]; exact Nat.ne_of_lt (blk_lt (g := gb802) (o := .cells #[.int .i64 a1_0, .int .i64 a1_1] 64 (0, 0)) (bk BK802)) : gb802 ≠ gb804)); have n10_ := Aside0.mk ((by rw [hg]; exact Nat.ne_of_gt (blk_lt (g := gb802) (o := .cells #[.int .i64 a1_0, .int .i64 a1_1] 64 (0, 0)) (bk BK802)) : gb804 ≠ gb802)); have n11_ := Aside0.mk ((by rw [hg]; exact Nat.ne_of_lt (blk_lt (g := gb803) (o := .cells #[.int .i64 a2_0, .int .i64 a2_1] 64 (0, 0)) (bk BK803)) : gb803 ≠ gb804)); have n12_ := Aside0.mk ((by rw [hg]; exact Nat.ne_of_gt (blk_lt (g := gb803) (o := .cells #[.int .i64 a2_0, .int .i64 a2_1] 64 (0, 0)) (bk BK803)) : gb804 ≠ gb803)); clear BK801; clear BK802; clear BK803; clear HB; have BK801 := n0_; have BK802 := n1_; have BK803 := n2_; have HB := n3_; have BK804 := n4_; have GW804 := n5_; have GE804 := n6_; have NB801_804 := n7_; have NB804_801 := n8_; have NB802_804 := n9_; have NB804_802 := n10_; have NB803_804 := n11_; have NB804_803 := n12_; clear n0_ n1_ n2_ n3_ n4_ n5_ n6_ n7_ n8_ n9_ n10_ n11_ n12_; clear hb hbox hg; have hnb10 := NB802_801.out; have hnc10 := NB801_802.out; have hnb11 := NB802_803.out; have hnc11 := NB803_802.out; have hnb12 := NB802_804.out; have hnc12 := NB804_802.out; have hcz13_0 := bc BK802 0; have hcz13_1 := bc BK802 1; have hfz13_0 := bf BK802 0; have hfz13_1 := bf BK802 1; have hnb14 := NB801_803.out; have hnc14 := NB803_801.out; have hnb15 := NB801_804.out; have hnc15 := NB804_801.out; have hcz16_0 := bc BK801 0; have hcz16_1 := bc BK801 1; have hfz16_0 := bf BK801 0; have hfz16_1 := bf BK801 1; have hnb17 := NB804_803.out; have hnc17 := NB803_804.out; have hcz18_0 := bc BK804 0; have hcz18_1 := bc BK804 1; have hfz18_0 := bf BK804 0; have hfz18_1 := bf BK804 1; have hcz19_0 := bc BK803 0; have hcz19_1 := bc BK803 1; have hfz19_0 := bf BK803 0; have hfz19_1 := bf BK803 1) | ((with_reducible refine gate_callee (f := 103) rfl ?_); refine gL (some 31) rfl rfl Try.func103 (by kernel_rfl) rfl #[.int .i64 (wrap64 ((wrap64 (a1_1 - a0_1)) * (wrap64 (a3_0 - a2_0)))), .int .i64 (wrap64 ((wrap64 (a3_1 - a2_1)) * (wrap64 (a1_0 - a0_0))))] rfl ?_; (with_reducible refine (cmp_Compare_int.calls (wrap64 ((wrap64 (a1_1 - a0_1)) * (wrap64 (a3_0 - a2_0)))) (wrap64 ((wrap64 (a3_1 - a2_1)) * (wrap64 (a1_0 - a0_0)))) t805 _ A5.out).mono ?_); rintro e w' ⟨rfl, ⟨nd, rfl⟩⟩; refine ⟨_, rfl, ?_⟩))
 go_ret
 exact ⟨by first | rfl | (simp [errW_none, errW_some] <;> rfl) | (simp [*, errW_none, errW_some] <;> rfl), by repeat (first | (with_reducible first | exact HB.out | apply below_alloc | apply pw_below_drewN | apply below_drew1 | refine below_set ?_ GE801.out | refine below_set ?_ GE802.out | refine below_set ?_ GE803.out | refine below_set ?_ GE804.out) | exact HB.out)⟩

/-! ### impl_isWires: function 105 -/
def impl_isWires.f (a0 : Int) : Option (Bool) := if a0 ≥ 3 then (some (decide (a0 ≤ 6))) else (some false)
set_option maxHeartbeats 8000000 in
set_option maxRecDepth 100000 in
theorem impl_isWires.calls (a0 : Int) (r : Bool) (w : World) (h : impl_isWires.f a0 = some r) :
  Calls Try.prog 105 #[.int .i64 a0] w fun e w' => e = .returned (.bool r) ∧ Drawn0 w w' := by
 have H : (if a0 ≥ 3 then (some (decide (a0 ≤ 6))) else (some false)) = some r := h
 clear h
 by_cases c2 : a0 ≥ 3
 ·rw [if_pos c2] at H
  have c2b0 : decide (3 ≤ a0) = true := decide_eq_true c2
  clear c2
  obtain rfl := Option.some.inj H
  go_enter Try.func105, Try.ntmps105
  go_wp2
  go_ret
  exact ⟨by first | rfl | (simp; done) | (simp [*]; done), by repeat (first | exact Drawn0.refl _ | apply Drawn0.step)⟩
 ·rw [if_neg c2] at H
  have c2b0 : decide (3 ≤ a0) = false := decide_eq_false c2
  clear c2
  obtain rfl := Option.some.inj H
  go_enter Try.func105, Try.ntmps105
  go_wp2
  go_ret
  exact ⟨by first | rfl | (simp; done) | (simp [*]; done), by repeat (first | exact Drawn0.refl _ | apply Drawn0.step)⟩

/-! ### impl_upTo: function 106 -/
def impl_upTo.l0 : Nat → Int → List Int → Int → Option (List Int)
 | 0, _, _, _ => none
 | k + 1, x0, x3, x4 => if x4 < x0 then (if x3.length < 17592186044416 then (impl_upTo.l0 k x0 (x3 ++ [x4]) (wrap64 (x4 + 1))) else (none)) else (some x3)
def impl_upTo.f (k : Nat) (a0 : Int) : Option (List Int) := impl_upTo.l0 k a0 ([] : List Int) 0
theorem impl_upTo.mono_l : ∀ k, (∀ y0 y1 y2, LeO (impl_upTo.l0 k y0 y1 y2) (impl_upTo.l0 (k + 1) y0 y1 y2))
 | 0 => fun _ _ _ r h => by simp [impl_upTo.l0] at h
 | k + 1 => by
  have ih0 := impl_upTo.mono_l k
  ·intro y0 y1 y2
   unfold impl_upTo.l0
   repeat' first
   | (with_reducible exact ih0 _ _ _)
   | (with_reducible exact LeO.refl _)
   | (with_reducible exact LeO.none _)
   | (with_reducible refine LeO.ite ?_ ?_)
   | (with_reducible refine LeO.bind ?_ (fun _ => ?_))
   | exact ih0 _ _ _
   | exact LeO.none _
   | refine LeO.ite ?_ ?_
   | refine LeO.bind ?_ (fun _ => ?_)
theorem impl_upTo.mono : ∀ a0 k, LeO (impl_upTo.f k a0) (impl_upTo.f (k + 1) a0) := by
 intro a0 k
 have ih0 := impl_upTo.mono_l k
 unfold impl_upTo.f
 repeat' first
   | (with_reducible exact ih0 _ _ _)
   | (with_reducible exact LeO.refl _)
   | (with_reducible exact LeO.none _)
   | (with_reducible refine LeO.ite ?_ ?_)
   | (with_reducible refine LeO.bind ?_ (fun _ => ?_))
   | exact ih0 _ _ _
   | exact LeO.none _
   | refine LeO.ite ?_ ?_
   | refine LeO.bind ?_ (fun _ => ?_)
set_option maxHeartbeats 8000000 in
set_option maxRecDepth 100000 in
theorem impl_upTo.calls (k : Nat) (a0 : Int) (r : List Int) (w : World) (h : impl_upTo.f k a0 = some r) :
  Calls Try.prog 106 #[.int .i64 a0] w fun e w' => ∃ v0_ : Value, e = .returned (v0_) ∧ Kd.R (Kd.int .i64) 3 w' w.heap.size (fun _ => True) v0_ r ∧ Below w.heap.size w w' := by
 have HB := Aside0.mk (Below.refl w.heap.size w)
 have H : (impl_upTo.l0 k a0 ([] : List Int) 0) = some r := h
 clear h
 have H' := Aside0.mk H
 clear H
 go_enter Try.func106, Try.ntmps106
 go_wp2
 go_loopg [3, 4] k (fun kq v3 v4 w' => ∃ (x3_1 : List Int) (x4_1 : Int), v4 = .int .i64 x4_1 ∧ Aside0 (impl_upTo.l0 kq a0 x3_1 x4_1 = some r) ∧ Aside0 (kq ≤ k) ∧ Aside0 (Kd.R (Kd.int .i64) 3 w' w.heap.size (fun _ => True) v3 x3_1) ∧ Aside0 (Below w.heap.size w w'))
 case atStart => exact ⟨(([] : List Int)), (0), (by first | rfl | (simp; done) | (simp [*]; done)), H', ⟨Nat.le_refl _⟩, ⟨by first | exact Kd.R_nil _ _ _ _ _ | exact Kd.N_nil _ _ _ _ _ | exact Kd.V_nil _ _ _ _ _ | exact Kd.Q_nil _ _ _ _ _ | exact Kd.S_nil _ _ _ _ _⟩, ⟨(bl HB)⟩⟩
 case round =>
  clear H'
  try clear c1
  obtain ⟨x3_1, x4_1, rfl, HA, HK1, HO_3, HB⟩ := hrel
  cases gk with
  | zero => exact absurd HA.out (by simp [impl_upTo.l0])
  | succ k1 =>
   have H := HA.out
   clear HA
   simp only [impl_upTo.l0] at H
   by_cases c2 : x4_1 < a0
   ·rw [if_pos c2] at H
    have c2b0 : decide (x4_1 < a0) = true := decide_eq_true c2
    clear c2
    by_cases c3 : x3_1.length < 17592186044416
    ·rw [if_pos c3] at H
     have LMc3 := Aside0.mk c3
     clear c3
     obtain ⟨y806, hy806⟩ : ∃ y_ : List Int, y_ = (x3_1 ++ [x4_1]) := ⟨_, rfl⟩
     replace H : (impl_upTo.l0 k1 a0 y806 (wrap64 (x4_1 + 1))) = some r := by first | (rw [hy806]; with_reducible exact H) | (have H2_ := (Option.bind_some _ _).symm.trans H; rw [hy806]; with_reducible exact H2_) | (have H2_ := (Option.bind_some _ _).symm.trans H; with_reducible exact H2_) | with_reducible exact H | (rw [hy806]; exact H) | exact H
     have Ny806 := Aside0.mk hy806
     clear hy806
     have H' := Aside0.mk H
     clear H
     go_wp2_with (first | ((with_reducible refine gate_builtin (b := .append) (xs := #[.tmp 10, .tmp 12]) rfl ?_); at_builtin; refine Kd.R_append (Kd.int .i64) (w0 := w) w.heap.size rfl (.tmp 10) (.tmp 12) 25 3 (.int .i64 0) 8 rfl Try.underlying25 info3 rfl (by decide) (by omega) u3 x3_1 x4_1 [.int .i64 x4_1] (fun _ => True) (fun _ => False) rfl rfl ?aP (fun _ hk => hk.elim) ?aF ?aO ?aB ?aS ?aL ?_; (case aP => exact rfl); (case aB => exact (bl HB)); (case aF => exact (fun _ _ => trivial)); (case aO => exact (rr HO_3)); (case aS => exact (below_size (bl HB))); (case aL => have := LMc3.out; omega); intro v807 w4 ho hb hg hat; rw [← Ny806.out] at ho; have n0_ := Aside0.mk (hb); have n1_ := Aside0.mk (ho); clear HB; clear HO_3; have HB := n0_; have HO808 := n1_; clear n0_ n1_; clear ho hb hg hat))
     go_roundg k1
     case measure => have := HK1.out; omega
     case rel => exact ⟨(y806), (wrap64 (x4_1 + 1)), (by first | rfl | (simp; done) | (simp [*]; done)), H', ⟨by have := HK1.out; omega⟩, ⟨by (with_reducible repeat (first | apply Kd.R_alloc | apply Kd.R_drewN | apply Kd.R_drew)); exact HO808.out⟩, ⟨(bl HB)⟩⟩
    ·rw [if_neg c3] at H
     exact absurd H (by simp)
   ·rw [if_neg c2] at H
    have c2b0 : decide (x4_1 < a0) = false := decide_eq_false c2
    clear c2
    obtain rfl := Option.some.inj H
    go_wp2
    go_ret
    exact ⟨_, by first | rfl | (simp [errW_none, errW_some] <;> rfl) | (simp [*, errW_none, errW_some] <;> rfl), by (with_reducible repeat (first | apply Kd.R_alloc | apply Kd.R_drewN | apply Kd.R_drew)); exact HO_3.out, (bl HB)⟩

end Go.Proofs.Ytiimkifkakdalaa.P
