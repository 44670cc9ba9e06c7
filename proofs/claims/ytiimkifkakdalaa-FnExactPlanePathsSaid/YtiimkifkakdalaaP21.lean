-- Printed by a program of this session (wip/tools/myprint.py, over the kit's print.py); not trusted: Lean checks it.
import Derived.Test.YtiimkifkakdalaaP0
import Derived.Test.YtiimkifkakdalaaP108
import Derived.Test.YtiimkifkakdalaaP65
namespace Go.Proofs.Ytiimkifkakdalaa.P
open Go.RowKit Go.Proofs.YtiimkifkakdalaaW.PrintWords Go.Proofs.YtiimkifkakdalaaW.PrintLast Go.Proofs.YtiimkifkakdalaaW.PrintMore
attribute [local go_sem] max2_int min2_int max_two min_two max_three min_three max_four min_four   -- for this text's walks alone
set_option linter.unusedVariables false
set_option linter.unusedSimpArgs false

/-! ### spec_PlanePaths: function 21 -/
def spec_PlanePaths.f (k : Nat) (a0_0 : Int) (a0_1 : ByteArray) : Option (List Int) := (spec_l10Fits.f k a0_0 a0_1).bind fun t491 => (if t491 = true then ((spec_l11Sets.f k a0_0 a0_1 (wrap64 (a0_0 - 1)) 1 2 true).bind fun t492 => (some t492)) else (some (([] : List Int))))
theorem spec_PlanePaths.mono : ∀ a0 a1 k, LeO (spec_PlanePaths.f k a0 a1) (spec_PlanePaths.f (k + 1) a0 a1) := by
 intro a0 a1 k
 unfold spec_PlanePaths.f
 repeat' first
   | (with_reducible exact spec_l10Fits.mono _ _ _)
   | (with_reducible exact spec_l11Sets.mono _ _ _ _ _ _ _)
   | (with_reducible exact LeO.refl _)
   | (with_reducible exact LeO.none _)
   | (with_reducible refine LeO.ite ?_ ?_)
   | (with_reducible refine LeO.bind ?_ (fun _ => ?_))
   | exact spec_l10Fits.mono _ _ _
   | exact spec_l11Sets.mono _ _ _ _ _ _ _
   | exact LeO.none _
   | refine LeO.ite ?_ ?_
   | refine LeO.bind ?_ (fun _ => ?_)
set_option maxHeartbeats 8000000 in
set_option maxRecDepth 100000 in
theorem spec_PlanePaths.calls (k : Nat) (a0_0 : Int) (a0_1 : ByteArray) (r : List Int) (w : World) (h : spec_PlanePaths.f k a0_0 a0_1 = some r) :
  Calls Try.prog 21 #[.agg #[.int .i64 a0_0, .string a0_1]] w fun e w' => ∃ v0_ : Value, e = .returned (v0_) ∧ Kd.R (Kd.int .i64) 3 w' w.heap.size (fun _ => True) v0_ r ∧ Below w.heap.size w w' := by
 have hu27 := Try.underlying27
 have HB := Aside0.mk (Below.refl w.heap.size w)
 have H : ((spec_l10Fits.f k a0_0 a0_1).bind fun t491 => (if t491 = true then ((spec_l11Sets.f k a0_0 a0_1 (wrap64 (a0_0 - 1)) 1 2 true).bind fun t492 => (some t492)) else (some (([] : List Int))))) = some r := h
 clear h
 replace H := Option.bind_eq_some_iff.mp H
 obtain ⟨t491, A20, H⟩ := H
 (try dsimp only at H)
 have A2 := Aside0.mk A20
 clear A20
 by_cases c3 : t491 = true
 ·subst c3
  have H1 : ((spec_l11Sets.f k a0_0 a0_1 (wrap64 (a0_0 - 1)) 1 2 true).bind fun t492 => (some t492)) = some r := by rw [if_pos rfl] at H; exact H
  clear H
  have H := H1
  clear H1
  replace H := Option.bind_eq_some_iff.mp H
  obtain ⟨t492, A40, H⟩ := H
  (try dsimp only at H)
  have A4 := Aside0.mk A40
  clear A40
  obtain rfl := Option.some.inj H
  go_enter Try.func21, Try.ntmps21
  go_wp2_with (first | ((with_reducible refine gate_dst (N := 1) rfl ?_); refine bx 1 #[.int .i64 a0_0, .string a0_1] 27 ?_; intro gb490 hg w5 hbox hb; have BK490 := Aside0.mk hbox; have GE490 := gs HB hg; have GW490 := GE490; replace HB := bs HB hb; clear hb hbox hg; have hcz6_0 := bc BK490 0; have hcz6_1 := bc BK490 1; have hfz6_0 := bf BK490 0; have hfz6_1 := bf BK490 1) | ((with_reducible refine gate_callee (f := 33) rfl ?_); refine gL (some 4) rfl rfl Try.func33 (by kernel_rfl) rfl #[.agg #[.int .i64 a0_0, .string a0_1]] rfl ?_; (with_reducible refine (spec_l10Fits.calls k a0_0 a0_1 true _ A2.out).mono ?_); rintro e w7 ⟨rfl, hb⟩; refine ⟨_, rfl, ?_⟩; have n0_ := Aside0.mk (blk_below (g := gb490) (o := .cells #[.int .i64 a0_0, .string a0_1] 27 (0, 0)) (bk BK490) hb); have n1_ := bsg HB GE490 hb; clear BK490; clear HB; have BK490 := n0_; have HB := n1_; clear n0_ n1_; (try clear hb); (try clear hb2); (try clear hk); (try clear hi); have hcz8_0 := bc BK490 0; have hcz8_1 := bc BK490 1; have hfz8_0 := bf BK490 0; have hfz8_1 := bf BK490 1) | ((with_reducible refine gate_callee (f := 34) rfl ?_); refine gL (some 11) rfl rfl Try.func34 (by kernel_rfl) rfl #[.agg #[.int .i64 a0_0, .string a0_1], .int .i64 (wrap64 (a0_0 - 1)), .int .i64 1, .int .i64 2, .bool true] rfl ?_; (with_reducible refine (spec_l11Sets.calls k a0_0 a0_1 (wrap64 (a0_0 - 1)) 1 2 true t492 _ A4.out).mono ?_); rintro e w9 ⟨v493, rfl, ho0, hb⟩; refine ⟨_, rfl, ?_⟩; have n0_ := Aside0.mk (Kd.R_lower ho0 (below_size (bg HB GE490))); have n1_ := Aside0.mk (blk_below (g := gb490) (o := .cells #[.int .i64 a0_0, .string a0_1] 27 (0, 0)) (bk BK490) hb); have n2_ := bsg HB GE490 hb; clear BK490; clear HB; have HO494 := n0_; have BK490 := n1_; have HB := n2_; clear n0_ n1_ n2_; (try clear hb); (try clear hb2); (try clear hk); (try clear hi); (try clear ho0)))
  go_ret
  exact ⟨_, by first | rfl | (simp [errW_none, errW_some] <;> rfl) | (simp [*, errW_none, errW_some] <;> rfl), by (with_reducible repeat (first | apply Kd.R_alloc | apply Kd.R_drewN | apply Kd.R_drew)); exact HO494.out, (bg HB GE490)⟩
 ·replace c3 := Bool.eq_false_iff.mpr c3
  subst c3
  have H1 : (some (([] : List Int))) = some r := by rw [if_neg (show ¬ (false = true) by decide)] at H; exact H
  clear H
  have H := H1
  clear H1
  obtain ⟨y495, hy495⟩ : ∃ y_ : List Int, y_ = (([] : List Int)) := ⟨_, rfl⟩
  replace H : (some y495) = some r := by first | (rw [hy495]; with_reducible exact H) | (have H2_ := (Option.bind_some _ _).symm.trans H; rw [hy495]; with_reducible exact H2_) | (have H2_ := (Option.bind_some _ _).symm.trans H; with_reducible exact H2_) | with_reducible exact H | (rw [hy495]; exact H) | exact H
  have Ny495 := Aside0.mk hy495
  clear hy495
  obtain rfl := Option.some.inj H
  go_enter Try.func21, Try.ntmps21
  go_wp2_with (first | ((with_reducible refine gate_dst (N := 1) rfl ?_); refine bx 1 #[.int .i64 a0_0, .string a0_1] 27 ?_; intro gb490 hg w10 hbox hb; have BK490 := Aside0.mk hbox; have GE490 := gs HB hg; have GW490 := GE490; replace HB := bs HB hb; clear hb hbox hg; have hcz11_0 := bc BK490 0; have hcz11_1 := bc BK490 1; have hfz11_0 := bf BK490 0; have hfz11_1 := bf BK490 1) | ((with_reducible refine gate_callee (f := 33) rfl ?_); refine gL (some 4) rfl rfl Try.func33 (by kernel_rfl) rfl #[.agg #[.int .i64 a0_0, .string a0_1]] rfl ?_; (with_reducible refine (spec_l10Fits.calls k a0_0 a0_1 false _ A2.out).mono ?_); rintro e w12 ⟨rfl, hb⟩; refine ⟨_, rfl, ?_⟩; have n0_ := Aside0.mk (blk_below (g := gb490) (o := .cells #[.int .i64 a0_0, .string a0_1] 27 (0, 0)) (bk BK490) hb); have n1_ := bsg HB GE490 hb; clear BK490; clear HB; have BK490 := n0_; have HB := n1_; clear n0_ n1_; (try clear hb); (try clear hb2); (try clear hk); (try clear hi)) | ((with_reducible refine gate_dst (N := 6) rfl ?_); refine Kd.R_lit (Kd.int .i64) _ 3 ?hg (N := 6) ?hd (xs := ([] : List Int)) (inner := []) (ok := fun _ => True) (okp := fun _ => True) ?hr ?hp (fun _ hk => hk) trivial (Below.refl _ _) (Nat.le_refl _) (by simp) ?_; (case hd => rfl); (case hg => rfl); (case hr => first | (go_simp; done) | (go_simp; rfl)); (case hp => exact (Reps.none _ _)); intro v496 w13 ho14 hb hg_ hnew_; clear hg_ hnew_; (first | rw [← Ny495.out] at ho14 | (simp only [Int.reduceToNat] at ho14; rw [← Ny495.out] at ho14)); have n0_ := Aside0.mk (Kd.R_lower ho14 (below_size (bg HB GE490))); have n1_ := Aside0.mk (blk_below (g := gb490) (o := .cells #[.int .i64 a0_0, .string a0_1] 27 (0, 0)) (bk BK490) hb); have n2_ := bsg HB GE490 hb; clear BK490; clear HB; have HO497 := n0_; have BK490 := n1_; have HB := n2_; clear n0_ n1_ n2_; clear hb ho14))
  go_ret
  exact ⟨_, by first | rfl | (simp [errW_none, errW_some] <;> rfl) | (simp [*, errW_none, errW_some] <;> rfl), by (with_reducible repeat (first | apply Kd.R_alloc | apply Kd.R_drewN | apply Kd.R_drew)); exact HO497.out, (bg HB GE490)⟩

end Go.Proofs.Ytiimkifkakdalaa.P
