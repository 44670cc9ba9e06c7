-- Printed by a program of this session (wip/tools/myprint.py, over the kit's print.py); not trusted: Lean checks it.
import Derived.Test.YtjjfjdejhddcnaaP0
import Derived.Test.YtjjfjdejhddcnaaP15
import Derived.Test.YtjjfjdejhddcnaaP55
import Derived.Test.YtjjfjdejhddcnaaP57
namespace Go.Proofs.Ytjjfjdejhddcnaa.P
open Go.RowKit Go.Proofs.YtjjfjdejhddcnaaW.PrintWords Go.Proofs.YtjjfjdejhddcnaaW.PrintLast Go.Proofs.YtjjfjdejhddcnaaW.PrintMore
attribute [local go_sem] max2_int min2_int max_two min_two max_three min_three max_four min_four   -- for this text's walks alone
set_option linter.unusedVariables false
set_option linter.unusedSimpArgs false

/-! ### spec_IsTriangulation: function 23 -/
def spec_IsTriangulation.f (k : Nat) (a0_0 : Int) (a0_1 : ByteArray) (a1 : Int) : Option (Bool) := (spec_l10Fits.f k a0_0 a0_1).bind fun t406 => (if t406 = true then ((spec_AllEdges.f a0_0).bind fun t407 => ((spec_l1In.f a1 0 t407).bind fun t408 => (if t408 = true then ((spec_l10Pairs.f k a0_0 a0_1).bind fun t409 => ((spec_l10Full.f k t409 a1).bind fun t412 => (some t412))) else (some false)))) else (some false))
theorem spec_IsTriangulation.mono : ∀ a0 a1 a2 k, LeO (spec_IsTriangulation.f k a0 a1 a2) (spec_IsTriangulation.f (k + 1) a0 a1 a2) := by
 intro a0 a1 a2 k
 unfold spec_IsTriangulation.f
 repeat' first
   | (with_reducible exact spec_l10Fits.mono _ _ _)
   | (with_reducible exact spec_l10Full.mono _ _ _)
   | (with_reducible exact spec_l10Pairs.mono _ _ _)
   | (with_reducible exact LeO.refl _)
   | (with_reducible exact LeO.none _)
   | (with_reducible refine LeO.ite ?_ ?_)
   | (with_reducible refine LeO.bind ?_ (fun _ => ?_))
   | exact spec_l10Fits.mono _ _ _
   | exact spec_l10Full.mono _ _ _
   | exact spec_l10Pairs.mono _ _ _
   | exact LeO.none _
   | refine LeO.ite ?_ ?_
   | refine LeO.bind ?_ (fun _ => ?_)
set_option maxHeartbeats 8000000 in
set_option maxRecDepth 100000 in
theorem spec_IsTriangulation.calls (k : Nat) (a0_0 : Int) (a0_1 : ByteArray) (a1 : Int) (r : Bool) (w : World) (h : spec_IsTriangulation.f k a0_0 a0_1 a1 = some r) :
  Calls Try.prog 23 #[.agg #[.int .i64 a0_0, .string a0_1], .int .i64 a1] w fun e w' => e = .returned (.bool r) ∧ Below w.heap.size w w' := by
 have hu26 := Try.underlying26
 have HB := Aside0.mk (Below.refl w.heap.size w)
 have H : ((spec_l10Fits.f k a0_0 a0_1).bind fun t406 => (if t406 = true then ((spec_AllEdges.f a0_0).bind fun t407 => ((spec_l1In.f a1 0 t407).bind fun t408 => (if t408 = true then ((spec_l10Pairs.f k a0_0 a0_1).bind fun t409 => ((spec_l10Full.f k t409 a1).bind fun t412 => (some t412))) else (some false)))) else (some false))) = some r := h
 clear h
 replace H := Option.bind_eq_some_iff.mp H
 obtain ⟨t406, A30, H⟩ := H
 (try dsimp only at H)
 have A3 := Aside0.mk A30
 clear A30
 by_cases c4 : t406 = true
 ·subst c4
  have H1 : ((spec_AllEdges.f a0_0).bind fun t407 => ((spec_l1In.f a1 0 t407).bind fun t408 => (if t408 = true then ((spec_l10Pairs.f k a0_0 a0_1).bind fun t409 => ((spec_l10Full.f k t409 a1).bind fun t412 => (some t412))) else (some false)))) = some r := by rw [if_pos rfl] at H; exact H
  clear H
  have H := H1
  clear H1
  replace H := Option.bind_eq_some_iff.mp H
  obtain ⟨t407, A50, H⟩ := H
  (try dsimp only at H)
  have A5 := Aside0.mk A50
  clear A50
  replace H := Option.bind_eq_some_iff.mp H
  obtain ⟨t408, A60, H⟩ := H
  (try dsimp only at H)
  have A6 := Aside0.mk A60
  clear A60
  by_cases c7 : t408 = true
  ·subst c7
   have H1 : ((spec_l10Pairs.f k a0_0 a0_1).bind fun t409 => ((spec_l10Full.f k t409 a1).bind fun t412 => (some t412))) = some r := by rw [if_pos rfl] at H; exact H
   clear H
   have H := H1
   clear H1
   replace H := Option.bind_eq_some_iff.mp H
   obtain ⟨t409, A80, H⟩ := H
   (try dsimp only at H)
   have A8 := Aside0.mk A80
   clear A80
   replace H := Option.bind_eq_some_iff.mp H
   obtain ⟨t412, A90, H⟩ := H
   (try dsimp only at H)
   have A9 := Aside0.mk A90
   clear A90
   obtain rfl := Option.some.inj H
   go_enter Try.func23, Try.ntmps23
   go_wp2_with (first | ((with_reducible refine gate_dst (N := 2) rfl ?_); refine bx 2 #[.int .i64 a0_0, .string a0_1] 26 ?_; intro gb405 hg w10 hbox hb; have BK405 := Aside0.mk hbox; have GE405 := gs HB hg; have GW405 := GE405; replace HB := bs HB hb; clear hb hbox hg; have hcz11_0 := bc BK405 0; have hcz11_1 := bc BK405 1; have hfz11_0 := bf BK405 0; have hfz11_1 := bf BK405 1) | ((with_reducible refine gate_callee (f := 55) rfl ?_); refine gL (some 6) rfl rfl Try.func55 (by kernel_rfl) rfl #[.agg #[.int .i64 a0_0, .string a0_1]] rfl ?_; (with_reducible refine (spec_l10Fits.calls k a0_0 a0_1 true _ A3.out).mono ?_); rintro e w12 ⟨rfl, hb⟩; refine ⟨_, rfl, ?_⟩; have n0_ := Aside0.mk (blk_below (g := gb405) (o := .cells #[.int .i64 a0_0, .string a0_1] 26 (0, 0)) (bk BK405) hb); have n1_ := bsg HB GE405 hb; clear BK405; clear HB; have BK405 := n0_; have HB := n1_; clear n0_ n1_; (try clear hb); (try clear hb2); (try clear hk); (try clear hi); have hcz13_0 := bc BK405 0; have hcz13_1 := bc BK405 1; have hfz13_0 := bf BK405 0; have hfz13_1 := bf BK405 1) | (go_at_call 57; (with_reducible refine (spec_AllEdges.calls a0_0 t407 _ A5.out).mono ?_); rintro e w' ⟨rfl, ⟨nd, rfl⟩⟩) | (go_at_call 56; (with_reducible refine (spec_l1In.calls a1 0 t407 true _ A6.out).mono ?_); rintro e w' ⟨rfl, ⟨nd, rfl⟩⟩) | (go_at_call 59; (with_reducible refine (spec_l10Pairs.calls k a0_0 a0_1 t409 _ A8.out).mono ?_); rintro e w14 ⟨v410, rfl, ho0, hb⟩; have n0_ := Aside0.mk (Kd.R_lower ho0 (below_size (bg HB GE405))); have n1_ := Aside0.mk (blk_below (g := gb405) (o := .cells #[.int .i64 a0_0, .string a0_1] 26 (0, 0)) (bk BK405) hb); have n2_ := bsg HB GE405 hb; clear BK405; clear HB; have HO411 := n0_; have BK405 := n1_; have HB := n2_; clear n0_ n1_ n2_; (try clear hb); (try clear hb2); (try clear hk); (try clear hi); (try clear ho0); obtain ⟨Ao15, co15, eo15⟩ := Kd.R_slice HO411.out; subst eo15) | (go_at_call 58; (with_reducible refine (spec_l10Full.calls k _ _ t409 a1 t412 _ ?side1 ?side2 A9.out).mono ?_); (case side1 => repeat (first | exact (Kd.R_reads' HO411.out).2.2 | (with_reducible refine Kd.C_alloc ?_ _) | (with_reducible refine Kd.C_drewN ?_ _) | (with_reducible refine Kd.C_drew ?_))); (case side2 => exact (Kd.R_reads' HO411.out).2.1); rintro e w' ⟨rfl, ⟨nd, rfl⟩⟩))
   go_ret
   exact ⟨by first | rfl | (simp [errW_none, errW_some] <;> rfl) | (simp [*, errW_none, errW_some] <;> rfl), (bg HB GE405)⟩
  ·replace c7 := Bool.eq_false_iff.mpr c7
   subst c7
   have H1 : (some false) = some r := by rw [if_neg (show ¬ (false = true) by decide)] at H; exact H
   clear H
   have H := H1
   clear H1
   obtain rfl := Option.some.inj H
   go_enter Try.func23, Try.ntmps23
   go_wp2_with (first | ((with_reducible refine gate_dst (N := 2) rfl ?_); refine bx 2 #[.int .i64 a0_0, .string a0_1] 26 ?_; intro gb405 hg w16 hbox hb; have BK405 := Aside0.mk hbox; have GE405 := gs HB hg; have GW405 := GE405; replace HB := bs HB hb; clear hb hbox hg; have hcz17_0 := bc BK405 0; have hcz17_1 := bc BK405 1; have hfz17_0 := bf BK405 0; have hfz17_1 := bf BK405 1) | ((with_reducible refine gate_callee (f := 55) rfl ?_); refine gL (some 6) rfl rfl Try.func55 (by kernel_rfl) rfl #[.agg #[.int .i64 a0_0, .string a0_1]] rfl ?_; (with_reducible refine (spec_l10Fits.calls k a0_0 a0_1 true _ A3.out).mono ?_); rintro e w18 ⟨rfl, hb⟩; refine ⟨_, rfl, ?_⟩; have n0_ := Aside0.mk (blk_below (g := gb405) (o := .cells #[.int .i64 a0_0, .string a0_1] 26 (0, 0)) (bk BK405) hb); have n1_ := bsg HB GE405 hb; clear BK405; clear HB; have BK405 := n0_; have HB := n1_; clear n0_ n1_; (try clear hb); (try clear hb2); (try clear hk); (try clear hi); have hcz19_0 := bc BK405 0; have hcz19_1 := bc BK405 1; have hfz19_0 := bf BK405 0; have hfz19_1 := bf BK405 1) | (go_at_call 57; (with_reducible refine (spec_AllEdges.calls a0_0 t407 _ A5.out).mono ?_); rintro e w' ⟨rfl, ⟨nd, rfl⟩⟩) | (go_at_call 56; (with_reducible refine (spec_l1In.calls a1 0 t407 false _ A6.out).mono ?_); rintro e w' ⟨rfl, ⟨nd, rfl⟩⟩))
   go_ret
   exact ⟨by first | rfl | (simp [errW_none, errW_some] <;> rfl) | (simp [*, errW_none, errW_some] <;> rfl), (bg HB GE405)⟩
 ·replace c4 := Bool.eq_false_iff.mpr c4
  subst c4
  have H1 : (some false) = some r := by rw [if_neg (show ¬ (false = true) by decide)] at H; exact H
  clear H
  have H := H1
  clear H1
  obtain rfl := Option.some.inj H
  go_enter Try.func23, Try.ntmps23
  go_wp2_with (first | ((with_reducible refine gate_dst (N := 2) rfl ?_); refine bx 2 #[.int .i64 a0_0, .string a0_1] 26 ?_; intro gb405 hg w20 hbox hb; have BK405 := Aside0.mk hbox; have GE405 := gs HB hg; have GW405 := GE405; replace HB := bs HB hb; clear hb hbox hg; have hcz21_0 := bc BK405 0; have hcz21_1 := bc BK405 1; have hfz21_0 := bf BK405 0; have hfz21_1 := bf BK405 1) | ((with_reducible refine gate_callee (f := 55) rfl ?_); refine gL (some 6) rfl rfl Try.func55 (by kernel_rfl) rfl #[.agg #[.int .i64 a0_0, .string a0_1]] rfl ?_; (with_reducible refine (spec_l10Fits.calls k a0_0 a0_1 false _ A3.out).mono ?_); rintro e w22 ⟨rfl, hb⟩; refine ⟨_, rfl, ?_⟩; have n0_ := Aside0.mk (blk_below (g := gb405) (o := .cells #[.int .i64 a0_0, .string a0_1] 26 (0, 0)) (bk BK405) hb); have n1_ := bsg HB GE405 hb; clear BK405; clear HB; have BK405 := n0_; have HB := n1_; clear n0_ n1_; (try clear hb); (try clear hb2); (try clear hk); (try clear hi)))
  go_ret
  exact ⟨by first | rfl | (simp [errW_none, errW_some] <;> rfl) | (simp [*, errW_none, errW_some] <;> rfl), (bg HB GE405)⟩

end Go.Proofs.Ytjjfjdejhddcnaa.P
