-- Printed by a program of this session (wip/tools/myprint.py, over the kit's print.py); not trusted: Lean checks it.
import Derived.Test.YtiimkifkakdalaaP0
import Derived.Test.YtiimkifkakdalaaP65
namespace Go.Proofs.Ytiimkifkakdalaa.P
open Go.RowKit Go.Proofs.YtiimkifkakdalaaW.PrintWords Go.Proofs.YtiimkifkakdalaaW.PrintLast Go.Proofs.YtiimkifkakdalaaW.PrintMore
attribute [local go_sem] max2_int min2_int max_two min_two max_three min_three max_four min_four   -- for this text's walks alone
set_option linter.unusedVariables false
set_option linter.unusedSimpArgs false

/-! ### spec_PlaneMatchings: function 17 -/
def spec_PlaneMatchings.f (k : Nat) (a0_0 : Int) (a0_1 : ByteArray) : Option (List Int) := if (Int.tmod a0_0 2) = 0 then ((spec_l11Sets.f k a0_0 a0_1 (wrap64 (Int.tdiv a0_0 2)) 1 1 false).bind fun t422 => (some t422)) else (some (([] : List Int)))
theorem spec_PlaneMatchings.mono : ∀ a0 a1 k, LeO (spec_PlaneMatchings.f k a0 a1) (spec_PlaneMatchings.f (k + 1) a0 a1) := by
 intro a0 a1 k
 unfold spec_PlaneMatchings.f
 repeat' first
   | (with_reducible exact spec_l11Sets.mono _ _ _ _ _ _ _)
   | (with_reducible exact LeO.refl _)
   | (with_reducible exact LeO.none _)
   | (with_reducible refine LeO.ite ?_ ?_)
   | (with_reducible refine LeO.bind ?_ (fun _ => ?_))
   | exact spec_l11Sets.mono _ _ _ _ _ _ _
   | exact LeO.none _
   | refine LeO.ite ?_ ?_
   | refine LeO.bind ?_ (fun _ => ?_)
set_option maxHeartbeats 8000000 in
set_option maxRecDepth 100000 in
theorem spec_PlaneMatchings.calls (k : Nat) (a0_0 : Int) (a0_1 : ByteArray) (r : List Int) (w : World) (h : spec_PlaneMatchings.f k a0_0 a0_1 = some r) :
  Calls Try.prog 17 #[.agg #[.int .i64 a0_0, .string a0_1]] w fun e w' => ∃ v0_ : Value, e = .returned (v0_) ∧ Kd.R (Kd.int .i64) 3 w' w.heap.size (fun _ => True) v0_ r ∧ Below w.heap.size w w' := by
 have hu27 := Try.underlying27
 have HB := Aside0.mk (Below.refl w.heap.size w)
 have H : (if (Int.tmod a0_0 2) = 0 then ((spec_l11Sets.f k a0_0 a0_1 (wrap64 (Int.tdiv a0_0 2)) 1 1 false).bind fun t422 => (some t422)) else (some (([] : List Int)))) = some r := h
 clear h
 by_cases c2 : (Int.tmod a0_0 2) = 0
 ·rw [if_pos c2] at H
  have c2b0 : ((Int.tmod a0_0 2) == 0) = true := beq_iff_eq.mpr c2
  have c2b1 : ((Int.tmod a0_0 2) != 0) = false := bne_eq_false_iff_eq.mpr c2
  clear c2
  replace H := Option.bind_eq_some_iff.mp H
  obtain ⟨t422, A30, H⟩ := H
  (try dsimp only at H)
  have A3 := Aside0.mk A30
  clear A30
  obtain rfl := Option.some.inj H
  go_enter Try.func17, Try.ntmps17
  go_wp2_with (first | ((with_reducible refine gate_dst (N := 1) rfl ?_); refine bx 1 #[.int .i64 a0_0, .string a0_1] 27 ?_; intro gb421 hg w4 hbox hb; have BK421 := Aside0.mk hbox; have GE421 := gs HB hg; have GW421 := GE421; replace HB := bs HB hb; clear hb hbox hg; have hcz5_0 := bc BK421 0; have hcz5_1 := bc BK421 1; have hfz5_0 := bf BK421 0; have hfz5_1 := bf BK421 1) | ((with_reducible refine gate_callee (f := 34) rfl ?_); refine gL (some 12) rfl rfl Try.func34 (by kernel_rfl) rfl #[.agg #[.int .i64 a0_0, .string a0_1], .int .i64 (wrap64 (Int.tdiv a0_0 2)), .int .i64 1, .int .i64 1, .bool false] rfl ?_; (with_reducible refine (spec_l11Sets.calls k a0_0 a0_1 (wrap64 (Int.tdiv a0_0 2)) 1 1 false t422 _ A3.out).mono ?_); rintro e w6 ⟨v423, rfl, ho0, hb⟩; refine ⟨_, rfl, ?_⟩; have n0_ := Aside0.mk (Kd.R_lower ho0 (below_size (bg HB GE421))); have n1_ := Aside0.mk (blk_below (g := gb421) (o := .cells #[.int .i64 a0_0, .string a0_1] 27 (0, 0)) (bk BK421) hb); have n2_ := bsg HB GE421 hb; clear BK421; clear HB; have HO424 := n0_; have BK421 := n1_; have HB := n2_; clear n0_ n1_ n2_; (try clear hb); (try clear hb2); (try clear hk); (try clear hi); (try clear ho0)))
  go_ret
  exact ⟨_, by first | rfl | (simp [errW_none, errW_some] <;> rfl) | (simp [*, errW_none, errW_some] <;> rfl), by (with_reducible repeat (first | apply Kd.R_alloc | apply Kd.R_drewN | apply Kd.R_drew)); exact HO424.out, (bg HB GE421)⟩
 ·rw [if_neg c2] at H
  have c2b0 : ((Int.tmod a0_0 2) == 0) = false := beq_eq_false_iff_ne.mpr c2
  have c2b1 : ((Int.tmod a0_0 2) != 0) = true := bne_iff_ne.mpr c2
  obtain ⟨y425, hy425⟩ : ∃ y_ : List Int, y_ = (([] : List Int)) := ⟨_, rfl⟩
  replace H : (some y425) = some r := by first | (rw [hy425]; with_reducible exact H) | (have H2_ := (Option.bind_some _ _).symm.trans H; rw [hy425]; with_reducible exact H2_) | (have H2_ := (Option.bind_some _ _).symm.trans H; with_reducible exact H2_) | with_reducible exact H | (rw [hy425]; exact H) | exact H
  have Ny425 := Aside0.mk hy425
  clear hy425
  obtain rfl := Option.some.inj H
  go_enter Try.func17, Try.ntmps17
  go_wp2_with (first | ((with_reducible refine gate_dst (N := 1) rfl ?_); refine bx 1 #[.int .i64 a0_0, .string a0_1] 27 ?_; intro gb421 hg w7 hbox hb; have BK421 := Aside0.mk hbox; have GE421 := gs HB hg; have GW421 := GE421; replace HB := bs HB hb; clear hb hbox hg; have hcz8_0 := bc BK421 0; have hcz8_1 := bc BK421 1; have hfz8_0 := bf BK421 0; have hfz8_1 := bf BK421 1) | ((with_reducible refine gate_dst (N := 7) rfl ?_); refine Kd.R_lit (Kd.int .i64) _ 3 ?hg (N := 7) ?hd (xs := ([] : List Int)) (inner := []) (ok := fun _ => True) (okp := fun _ => True) ?hr ?hp (fun _ hk => hk) trivial (Below.refl _ _) (Nat.le_refl _) (by simp) ?_; (case hd => rfl); (case hg => rfl); (case hr => first | (go_simp; done) | (go_simp; rfl)); (case hp => exact (Reps.none _ _)); intro v426 w9 ho10 hb hg_ hnew_; clear hg_ hnew_; (first | rw [← Ny425.out] at ho10 | (simp only [Int.reduceToNat] at ho10; rw [← Ny425.out] at ho10)); have n0_ := Aside0.mk (Kd.R_lower ho10 (below_size (bg HB GE421))); have n1_ := Aside0.mk (blk_below (g := gb421) (o := .cells #[.int .i64 a0_0, .string a0_1] 27 (0, 0)) (bk BK421) hb); have n2_ := bsg HB GE421 hb; clear BK421; clear HB; have HO427 := n0_; have BK421 := n1_; have HB := n2_; clear n0_ n1_ n2_; clear hb ho10))
  go_ret
  exact ⟨_, by first | rfl | (simp [errW_none, errW_some] <;> rfl) | (simp [*, errW_none, errW_some] <;> rfl), by (with_reducible repeat (first | apply Kd.R_alloc | apply Kd.R_drewN | apply Kd.R_drew)); exact HO427.out, (bg HB GE421)⟩

end Go.Proofs.Ytiimkifkakdalaa.P
