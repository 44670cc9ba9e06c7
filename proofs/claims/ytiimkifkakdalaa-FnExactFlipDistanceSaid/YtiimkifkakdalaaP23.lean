-- Printed by a program of this session (wip/tools/myprint.py, over the kit's print.py); not trusted: Lean checks it.
import Derived.Test.YtiimkifkakdalaaP0
import Derived.Test.YtiimkifkakdalaaP108
import Derived.Test.YtiimkifkakdalaaP77
namespace Go.Proofs.Ytiimkifkakdalaa.P
open Go.RowKit Go.Proofs.YtiimkifkakdalaaW.PrintWords Go.Proofs.YtiimkifkakdalaaW.PrintLast Go.Proofs.YtiimkifkakdalaaW.PrintMore
attribute [local go_sem] max2_int min2_int max_two min_two max_three min_three max_four min_four   -- for this text's walks alone
set_option linter.unusedVariables false
set_option linter.unusedSimpArgs false

/-! ### spec_FlipsFrom: function 23 -/
def spec_FlipsFrom.f (k : Nat) (a0_0 : Int) (a0_1 : ByteArray) (a1 : Int) : Option (List Int) := (spec_IsTriangulation.f k a0_0 a0_1 a1).bind fun t583 => (if t583 = true then ((spec_l10Pairs.f k a0_0 a0_1).bind fun t584 => ((spec_l10Flips.f k t584 a1).bind fun t587 => (some t587))) else (some (([] : List Int))))
theorem spec_FlipsFrom.mono : ∀ a0 a1 a2 k, LeO (spec_FlipsFrom.f k a0 a1 a2) (spec_FlipsFrom.f (k + 1) a0 a1 a2) := by
 intro a0 a1 a2 k
 unfold spec_FlipsFrom.f
 repeat' first
   | (with_reducible exact spec_IsTriangulation.mono _ _ _ _)
   | (with_reducible exact spec_l10Flips.mono _ _ _)
   | (with_reducible exact spec_l10Pairs.mono _ _ _)
   | (with_reducible exact LeO.refl _)
   | (with_reducible exact LeO.none _)
   | (with_reducible refine LeO.ite ?_ ?_)
   | (with_reducible refine LeO.bind ?_ (fun _ => ?_))
   | exact spec_IsTriangulation.mono _ _ _ _
   | exact spec_l10Flips.mono _ _ _
   | exact spec_l10Pairs.mono _ _ _
   | exact LeO.none _
   | refine LeO.ite ?_ ?_
   | refine LeO.bind ?_ (fun _ => ?_)
set_option maxHeartbeats 8000000 in
set_option maxRecDepth 100000 in
theorem spec_FlipsFrom.calls (k : Nat) (a0_0 : Int) (a0_1 : ByteArray) (a1 : Int) (r : List Int) (w : World) (h : spec_FlipsFrom.f k a0_0 a0_1 a1 = some r) :
  Calls Try.prog 23 #[.agg #[.int .i64 a0_0, .string a0_1], .int .i64 a1] w fun e w' => ∃ v0_ : Value, e = .returned (v0_) ∧ Kd.R (Kd.int .i64) 3 w' w.heap.size (fun _ => True) v0_ r ∧ Below w.heap.size w w' := by
 have hu27 := Try.underlying27
 have HB := Aside0.mk (Below.refl w.heap.size w)
 have H : ((spec_IsTriangulation.f k a0_0 a0_1 a1).bind fun t583 => (if t583 = true then ((spec_l10Pairs.f k a0_0 a0_1).bind fun t584 => ((spec_l10Flips.f k t584 a1).bind fun t587 => (some t587))) else (some (([] : List Int))))) = some r := h
 clear h
 replace H := Option.bind_eq_some_iff.mp H
 obtain ⟨t583, A30, H⟩ := H
 (try dsimp only at H)
 have A3 := Aside0.mk A30
 clear A30
 by_cases c4 : t583 = true
 ·subst c4
  have H1 : ((spec_l10Pairs.f k a0_0 a0_1).bind fun t584 => ((spec_l10Flips.f k t584 a1).bind fun t587 => (some t587))) = some r := by rw [if_pos rfl] at H; exact H
  clear H
  have H := H1
  clear H1
  replace H := Option.bind_eq_some_iff.mp H
  obtain ⟨t584, A50, H⟩ := H
  (try dsimp only at H)
  have A5 := Aside0.mk A50
  clear A50
  replace H := Option.bind_eq_some_iff.mp H
  obtain ⟨t587, A60, H⟩ := H
  (try dsimp only at H)
  have A6 := Aside0.mk A60
  clear A60
  obtain rfl := Option.some.inj H
  go_enter Try.func23, Try.ntmps23
  go_wp2_with (first | ((with_reducible refine gate_dst (N := 2) rfl ?_); refine bx 2 #[.int .i64 a0_0, .string a0_1] 27 ?_; intro gb582 hg w7 hbox hb; have BK582 := Aside0.mk hbox; have GE582 := gs HB hg; have GW582 := GE582; replace HB := bs HB hb; clear hb hbox hg; have hcz8_0 := bc BK582 0; have hcz8_1 := bc BK582 1; have hfz8_0 := bf BK582 0; have hfz8_1 := bf BK582 1) | ((with_reducible refine gate_callee (f := 46) rfl ?_); refine gL (some 7) rfl rfl Try.func46 (by kernel_rfl) rfl #[.agg #[.int .i64 a0_0, .string a0_1], .int .i64 a1] rfl ?_; (with_reducible refine (spec_IsTriangulation.calls k a0_0 a0_1 a1 true _ A3.out).mono ?_); rintro e w9 ⟨rfl, hb⟩; refine ⟨_, rfl, ?_⟩; have n0_ := Aside0.mk (blk_below (g := gb582) (o := .cells #[.int .i64 a0_0, .string a0_1] 27 (0, 0)) (bk BK582) hb); have n1_ := bsg HB GE582 hb; clear BK582; clear HB; have BK582 := n0_; have HB := n1_; clear n0_ n1_; (try clear hb); (try clear hb2); (try clear hk); (try clear hi); have hcz10_0 := bc BK582 0; have hcz10_1 := bc BK582 1; have hfz10_0 := bf BK582 0; have hfz10_1 := bf BK582 1) | ((with_reducible refine gate_callee (f := 48) rfl ?_); refine gL (some 11) rfl rfl Try.func48 (by kernel_rfl) rfl #[.agg #[.int .i64 a0_0, .string a0_1]] rfl ?_; (with_reducible refine (spec_l10Pairs.calls k a0_0 a0_1 t584 _ A5.out).mono ?_); rintro e w11 ⟨v585, rfl, ho0, hb⟩; refine ⟨_, rfl, ?_⟩; have n0_ := Aside0.mk (Kd.R_lower ho0 (below_size (bg HB GE582))); have n1_ := Aside0.mk (blk_below (g := gb582) (o := .cells #[.int .i64 a0_0, .string a0_1] 27 (0, 0)) (bk BK582) hb); have n2_ := bsg HB GE582 hb; clear BK582; clear HB; have HO586 := n0_; have BK582 := n1_; have HB := n2_; clear n0_ n1_ n2_; (try clear hb); (try clear hb2); (try clear hk); (try clear hi); (try clear ho0); obtain ⟨Ao12, co12, eo12⟩ := Kd.R_slice HO586.out; subst eo12) | ((with_reducible refine gate_callee (f := 47) rfl ?_); refine gL (some 13) rfl rfl Try.func47 (by kernel_rfl) rfl #[.slice Ao12 t584.length co12, .int .i64 a1] rfl ?_; (with_reducible refine (spec_l10Flips.calls k _ _ t584 a1 t587 _ ?side1 ?side2 A6.out).mono ?_); (case side1 => repeat (first | exact (Kd.R_reads' HO586.out).2.2 | (with_reducible refine Kd.C_alloc ?_ _) | (with_reducible refine Kd.C_drewN ?_ _) | (with_reducible refine Kd.C_drew ?_))); (case side2 => exact (Kd.R_reads' HO586.out).2.1); rintro e w13 ⟨v588, rfl, ho0, hb⟩; refine ⟨_, rfl, ?_⟩; have n0_ := Aside0.mk (Kd.R_elder' (rr HO586) (Kd.R_base ho0) hb); have n1_ := Aside0.mk (Kd.R_lower (Kd.R_new' ho0 (Kd.R_lt (rr HO586))) (below_size (bg HB GE582))); have n2_ := Aside0.mk (blk_below (g := gb582) (o := .cells #[.int .i64 a0_0, .string a0_1] 27 (0, 0)) (bk BK582) hb); have n3_ := bsg HB GE582 hb; clear HO586; clear BK582; clear HB; have HO586 := n0_; have HO589 := n1_; have BK582 := n2_; have HB := n3_; clear n0_ n1_ n2_ n3_; (try clear hb); (try clear hb2); (try clear hk); (try clear hi); (try clear ho0)))
  go_ret
  exact ⟨_, by first | rfl | (simp [errW_none, errW_some] <;> rfl) | (simp [*, errW_none, errW_some] <;> rfl), by (with_reducible repeat (first | apply Kd.R_alloc | apply Kd.R_drewN | apply Kd.R_drew)); exact Kd.R_mono HO589.out (fun _ hk => trivial), (bg HB GE582)⟩
 ·replace c4 := Bool.eq_false_iff.mpr c4
  subst c4
  have H1 : (some (([] : List Int))) = some r := by rw [if_neg (show ¬ (false = true) by decide)] at H; exact H
  clear H
  have H := H1
  clear H1
  obtain ⟨y590, hy590⟩ : ∃ y_ : List Int, y_ = (([] : List Int)) := ⟨_, rfl⟩
  replace H : (some y590) = some r := by first | (rw [hy590]; with_reducible exact H) | (have H2_ := (Option.bind_some _ _).symm.trans H; rw [hy590]; with_reducible exact H2_) | (have H2_ := (Option.bind_some _ _).symm.trans H; with_reducible exact H2_) | with_reducible exact H | (rw [hy590]; exact H) | exact H
  have Ny590 := Aside0.mk hy590
  clear hy590
  obtain rfl := Option.some.inj H
  go_enter Try.func23, Try.ntmps23
  go_wp2_with (first | ((with_reducible refine gate_dst (N := 2) rfl ?_); refine bx 2 #[.int .i64 a0_0, .string a0_1] 27 ?_; intro gb582 hg w14 hbox hb; have BK582 := Aside0.mk hbox; have GE582 := gs HB hg; have GW582 := GE582; replace HB := bs HB hb; clear hb hbox hg; have hcz15_0 := bc BK582 0; have hcz15_1 := bc BK582 1; have hfz15_0 := bf BK582 0; have hfz15_1 := bf BK582 1) | ((with_reducible refine gate_callee (f := 46) rfl ?_); refine gL (some 7) rfl rfl Try.func46 (by kernel_rfl) rfl #[.agg #[.int .i64 a0_0, .string a0_1], .int .i64 a1] rfl ?_; (with_reducible refine (spec_IsTriangulation.calls k a0_0 a0_1 a1 false _ A3.out).mono ?_); rintro e w16 ⟨rfl, hb⟩; refine ⟨_, rfl, ?_⟩; have n0_ := Aside0.mk (blk_below (g := gb582) (o := .cells #[.int .i64 a0_0, .string a0_1] 27 (0, 0)) (bk BK582) hb); have n1_ := bsg HB GE582 hb; clear BK582; clear HB; have BK582 := n0_; have HB := n1_; clear n0_ n1_; (try clear hb); (try clear hb2); (try clear hk); (try clear hi)) | ((with_reducible refine gate_dst (N := 9) rfl ?_); refine Kd.R_lit (Kd.int .i64) _ 3 ?hg (N := 9) ?hd (xs := ([] : List Int)) (inner := []) (ok := fun _ => True) (okp := fun _ => True) ?hr ?hp (fun _ hk => hk) trivial (Below.refl _ _) (Nat.le_refl _) (by simp) ?_; (case hd => rfl); (case hg => rfl); (case hr => first | (go_simp; done) | (go_simp; rfl)); (case hp => exact (Reps.none _ _)); intro v591 w17 ho18 hb hg_ hnew_; clear hg_ hnew_; (first | rw [← Ny590.out] at ho18 | (simp only [Int.reduceToNat] at ho18; rw [← Ny590.out] at ho18)); have n0_ := Aside0.mk (Kd.R_lower ho18 (below_size (bg HB GE582))); have n1_ := Aside0.mk (blk_below (g := gb582) (o := .cells #[.int .i64 a0_0, .string a0_1] 27 (0, 0)) (bk BK582) hb); have n2_ := bsg HB GE582 hb; clear BK582; clear HB; have HO592 := n0_; have BK582 := n1_; have HB := n2_; clear n0_ n1_ n2_; clear hb ho18))
  go_ret
  exact ⟨_, by first | rfl | (simp [errW_none, errW_some] <;> rfl) | (simp [*, errW_none, errW_some] <;> rfl), by (with_reducible repeat (first | apply Kd.R_alloc | apply Kd.R_drewN | apply Kd.R_drew)); exact HO592.out, (bg HB GE582)⟩

end Go.Proofs.Ytiimkifkakdalaa.P
