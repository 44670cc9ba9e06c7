-- Printed by a program of this session (wip/tools/myprint.py, over the kit's print.py); not trusted: Lean checks it.
import Derived.Test.YtiimkifkakdalaaP0
import Derived.Test.YtiimkifkakdalaaOPlP
import Derived.Test.YtiimkifkakdalaaP10
import Derived.Test.YtiimkifkakdalaaP108
import Derived.Test.YtiimkifkakdalaaP14
import Derived.Test.YtiimkifkakdalaaP21
namespace Go.Proofs.Ytiimkifkakdalaa.P
open Go.RowKit Go.Proofs.YtiimkifkakdalaaW.PrintWords Go.Proofs.YtiimkifkakdalaaW.PrintLast Go.Proofs.YtiimkifkakdalaaW.PrintMore
attribute [local go_sem] max2_int min2_int max_two min_two max_three min_three max_four min_four   -- for this text's walks alone
set_option linter.unusedVariables false
set_option linter.unusedSimpArgs false

/-! ### laws_FnExactPlanePaths: function 6 -/
def laws_FnExactPlanePaths.f (k : Nat) (a0_0 : Int) (a0_1 : ByteArray) : Option (Bool) := (laws_szSigns.f a0_0 a0_1 1048576).bind fun t499 => (if t499 < 0 then (some true) else ((laws_toSigns.f a0_0 a0_1).bind fun bt500 => ((spec_PlanePaths.f k bt500.1 bt500.2).bind fun t502 => ((laws_toSigns.f a0_0 a0_1).bind fun bt505 => ((impl_PlanePaths.f k bt505.1 bt505.2).bind fun t507 => ((laws_eqIntS.f k t507 t502).bind fun t510 => (if t510 = true then ((laws_markIntS.f k t507 1).bind fun bt511 => ((laws_heldIntS.f k bt511.2 1).bind fun t513 => (if t513 < 0 then (some false) else (if t513 = bt511.1 then ((laws_toSigns.f a0_0 a0_1).bind fun bt514 => ((impl_PlanePaths.f k bt514.1 bt514.2).bind fun t516 => ((laws_eqIntS.f k t516 t502).bind fun t519 => (if t519 = true then ((laws_heldIntS.f k bt511.2 1).bind fun t520 => (if t520 < 0 then (some false) else (if t520 = bt511.1 then (some true) else (some false)))) else (some false))))) else (some false))))) else (some false))))))))
theorem laws_FnExactPlanePaths.mono : ∀ a0 a1 k, LeO (laws_FnExactPlanePaths.f k a0 a1) (laws_FnExactPlanePaths.f (k + 1) a0 a1) := by
 intro a0 a1 k
 unfold laws_FnExactPlanePaths.f
 repeat' first
   | (with_reducible exact impl_PlanePaths.mono _ _ _)
   | (with_reducible exact laws_eqIntS.mono _ _ _)
   | (with_reducible exact laws_heldIntS.mono _ _ _)
   | (with_reducible exact laws_markIntS.mono _ _ _)
   | (with_reducible exact spec_PlanePaths.mono _ _ _)
   | (with_reducible exact LeO.refl _)
   | (with_reducible exact LeO.none _)
   | (with_reducible refine LeO.ite ?_ ?_)
   | (with_reducible refine LeO.bind ?_ (fun _ => ?_))
   | exact impl_PlanePaths.mono _ _ _
   | exact laws_eqIntS.mono _ _ _
   | exact laws_heldIntS.mono _ _ _
   | exact laws_markIntS.mono _ _ _
   | exact spec_PlanePaths.mono _ _ _
   | exact LeO.none _
   | refine LeO.ite ?_ ?_
   | refine LeO.bind ?_ (fun _ => ?_)
set_option maxHeartbeats 8000000 in
set_option maxRecDepth 100000 in
theorem laws_FnExactPlanePaths.calls (k : Nat) (a0_0 : Int) (a0_1 : ByteArray) (w : World) (h : laws_FnExactPlanePaths.f k a0_0 a0_1 = some true) :
  Calls Try.prog 6 #[.agg #[.int .i64 a0_0, .string a0_1]] w fun e w' => e = .returned (.bool true) ∧ Below w.heap.size w w' := by
 have hu23 := Try.underlying23
 have HB := Aside0.mk (Below.refl w.heap.size w)
 have H : ((laws_szSigns.f a0_0 a0_1 1048576).bind fun t499 => (if t499 < 0 then (some true) else ((laws_toSigns.f a0_0 a0_1).bind fun bt500 => ((spec_PlanePaths.f k bt500.1 bt500.2).bind fun t502 => ((laws_toSigns.f a0_0 a0_1).bind fun bt505 => ((impl_PlanePaths.f k bt505.1 bt505.2).bind fun t507 => ((laws_eqIntS.f k t507 t502).bind fun t510 => (if t510 = true then ((laws_markIntS.f k t507 1).bind fun bt511 => ((laws_heldIntS.f k bt511.2 1).bind fun t513 => (if t513 < 0 then (some false) else (if t513 = bt511.1 then ((laws_toSigns.f a0_0 a0_1).bind fun bt514 => ((impl_PlanePaths.f k bt514.1 bt514.2).bind fun t516 => ((laws_eqIntS.f k t516 t502).bind fun t519 => (if t519 = true then ((laws_heldIntS.f k bt511.2 1).bind fun t520 => (if t520 < 0 then (some false) else (if t520 = bt511.1 then (some true) else (some false)))) else (some false))))) else (some false))))) else (some false))))))))) = some true := h
 clear h
 replace H := Option.bind_eq_some_iff.mp H
 obtain ⟨t499, A20, H⟩ := H
 (try dsimp only at H)
 have A2 := Aside0.mk A20
 clear A20
 by_cases c3 : t499 < 0
 ·rw [if_pos c3] at H
  have c3b0 : decide (t499 < 0) = true := decide_eq_true c3
  clear c3
  clear H
  go_enter Try.func6, Try.ntmps6
  go_wp2_with (first | ((with_reducible refine gate_dst (N := 1) rfl ?_); refine bx 1 #[.int .i64 a0_0, .string a0_1] 23 ?_; intro gb498 hg w4 hbox hb; have BK498 := Aside0.mk hbox; have GE498 := gs HB hg; have GW498 := GE498; replace HB := bs HB hb; clear hb hbox hg; have hcz5_0 := bc BK498 0; have hcz5_1 := bc BK498 1; have hfz5_0 := bf BK498 0; have hfz5_1 := bf BK498 1) | ((with_reducible refine gate_callee (f := 10) rfl ?_); refine gL (some 11) rfl rfl Try.func10 (by kernel_rfl) rfl #[.agg #[.int .i64 a0_0, .string a0_1], .int .i64 1048576] rfl ?_; (with_reducible refine (laws_szSigns.calls a0_0 a0_1 1048576 t499 _ A2.out).mono ?_); rintro e w6 ⟨rfl, hb⟩; refine ⟨_, rfl, ?_⟩; have n0_ := Aside0.mk (blk_below (g := gb498) (o := .cells #[.int .i64 a0_0, .string a0_1] 23 (0, 0)) (bk BK498) hb); have n1_ := bsg HB GE498 hb; clear BK498; clear HB; have BK498 := n0_; have HB := n1_; clear n0_ n1_; (try clear hb); (try clear hb2); (try clear hk); (try clear hi)))
  go_ret
  exact ⟨by first | rfl | (simp [errW_none, errW_some] <;> rfl) | (simp [*, errW_none, errW_some] <;> rfl), (bg HB GE498)⟩
 ·rw [if_neg c3] at H
  have c3b0 : decide (t499 < 0) = false := decide_eq_false c3
  clear c3
  replace H := Option.bind_eq_some_iff.mp H
  obtain ⟨⟨t500, t501⟩, A70, H⟩ := H
  (try dsimp only at H)
  have A7 := Aside0.mk A70
  clear A70
  replace H := Option.bind_eq_some_iff.mp H
  obtain ⟨t502, A80, H⟩ := H
  (try dsimp only at H)
  have A8 := Aside0.mk A80
  clear A80
  replace H := Option.bind_eq_some_iff.mp H
  obtain ⟨⟨t505, t506⟩, A90, H⟩ := H
  (try dsimp only at H)
  have A9 := Aside0.mk A90
  clear A90
  replace H := Option.bind_eq_some_iff.mp H
  obtain ⟨t507, A100, H⟩ := H
  (try dsimp only at H)
  have A10 := Aside0.mk A100
  clear A100
  replace H := Option.bind_eq_some_iff.mp H
  obtain ⟨t510, A110, H⟩ := H
  (try dsimp only at H)
  have A11 := Aside0.mk A110
  clear A110
  by_cases c12 : t510 = true
  ·subst c12
   have H1 : ((laws_markIntS.f k t507 1).bind fun bt511 => ((laws_heldIntS.f k bt511.2 1).bind fun t513 => (if t513 < 0 then (some false) else (if t513 = bt511.1 then ((laws_toSigns.f a0_0 a0_1).bind fun bt514 => ((impl_PlanePaths.f k bt514.1 bt514.2).bind fun t516 => ((laws_eqIntS.f k t516 t502).bind fun t519 => (if t519 = true then ((laws_heldIntS.f k bt511.2 1).bind fun t520 => (if t520 < 0 then (some false) else (if t520 = bt511.1 then (some true) else (some false)))) else (some false))))) else (some false))))) = some true := by rw [if_pos rfl] at H; exact H
   clear H
   have H := H1
   clear H1
   replace H := Option.bind_eq_some_iff.mp H
   obtain ⟨⟨t511, t512⟩, A130, H⟩ := H
   (try dsimp only at H)
   have A13 := Aside0.mk A130
   clear A130
   replace H := Option.bind_eq_some_iff.mp H
   obtain ⟨t513, A140, H⟩ := H
   (try dsimp only at H)
   have A14 := Aside0.mk A140
   clear A140
   by_cases c15 : t513 < 0
   ·rw [if_pos c15] at H
    have c15b0 : decide (t513 < 0) = true := decide_eq_true c15
    clear c15
    exact absurd H (by simp)
   ·rw [if_neg c15] at H
    have c15b0 : decide (t513 < 0) = false := decide_eq_false c15
    clear c15
    by_cases c28 : t513 = t511
    ·rw [if_pos c28] at H
     have c28b0 : (t513 == t511) = true := beq_iff_eq.mpr c28
     have c28b1 : (t513 != t511) = false := bne_eq_false_iff_eq.mpr c28
     clear c28
     replace H := Option.bind_eq_some_iff.mp H
     obtain ⟨⟨t514, t515⟩, A290, H⟩ := H
     (try dsimp only at H)
     have A29 := Aside0.mk A290
     clear A290
     replace H := Option.bind_eq_some_iff.mp H
     obtain ⟨t516, A300, H⟩ := H
     (try dsimp only at H)
     have A30 := Aside0.mk A300
     clear A300
     replace H := Option.bind_eq_some_iff.mp H
     obtain ⟨t519, A310, H⟩ := H
     (try dsimp only at H)
     have A31 := Aside0.mk A310
     clear A310
     by_cases c32 : t519 = true
     ·subst c32
      have H1 : ((laws_heldIntS.f k t512 1).bind fun t520 => (if t520 < 0 then (some false) else (if t520 = t511 then (some true) else (some false)))) = some true := by rw [if_pos rfl] at H; exact H
      clear H
      have H := H1
      clear H1
      replace H := Option.bind_eq_some_iff.mp H
      obtain ⟨t520, A330, H⟩ := H
      (try dsimp only at H)
      have A33 := Aside0.mk A330
      clear A330
      by_cases c34 : t520 < 0
      ·rw [if_pos c34] at H
       have c34b0 : decide (t520 < 0) = true := decide_eq_true c34
       clear c34
       exact absurd H (by simp)
      ·rw [if_neg c34] at H
       have c34b0 : decide (t520 < 0) = false := decide_eq_false c34
       clear c34
       by_cases c51 : t520 = t511
       ·rw [if_pos c51] at H
        have c51b0 : (t520 == t511) = true := beq_iff_eq.mpr c51
        have c51b1 : (t520 != t511) = false := bne_eq_false_iff_eq.mpr c51
        clear c51
        clear H
        go_enter Try.func6, Try.ntmps6
        go_wp2_with (first | ((with_reducible refine gate_dst (N := 1) rfl ?_); refine bx 1 #[.int .i64 a0_0, .string a0_1] 23 ?_; intro gb498 hg w52 hbox hb; have BK498 := Aside0.mk hbox; have GE498 := gs HB hg; have GW498 := GE498; replace HB := bs HB hb; clear hb hbox hg; have hcz53_0 := bc BK498 0; have hcz53_1 := bc BK498 1; have hfz53_0 := bf BK498 0; have hfz53_1 := bf BK498 1) | ((with_reducible refine gate_callee (f := 10) rfl ?_); refine gL (some 11) rfl rfl Try.func10 (by kernel_rfl) rfl #[.agg #[.int .i64 a0_0, .string a0_1], .int .i64 1048576] rfl ?_; (with_reducible refine (laws_szSigns.calls a0_0 a0_1 1048576 t499 _ A2.out).mono ?_); rintro e w54 ⟨rfl, hb⟩; refine ⟨_, rfl, ?_⟩; have n0_ := Aside0.mk (blk_below (g := gb498) (o := .cells #[.int .i64 a0_0, .string a0_1] 23 (0, 0)) (bk BK498) hb); have n1_ := bsg HB GE498 hb; clear BK498; clear HB; have BK498 := n0_; have HB := n1_; clear n0_ n1_; (try clear hb); (try clear hb2); (try clear hk); (try clear hi); have hcz55_0 := bc BK498 0; have hcz55_1 := bc BK498 1; have hfz55_0 := bf BK498 0; have hfz55_1 := bf BK498 1) | ((with_reducible refine gate_callee (f := 12) rfl ?_); refine gL (some 15) rfl rfl Try.func12 (by kernel_rfl) rfl #[.agg #[.int .i64 a0_0, .string a0_1]] rfl ?_; (with_reducible refine (laws_toSigns.calls a0_0 a0_1 t500 t501 _ A7.out).mono ?_); rintro e w56 ⟨rfl, hb⟩; refine ⟨_, rfl, ?_⟩; have n0_ := Aside0.mk (blk_below (g := gb498) (o := .cells #[.int .i64 a0_0, .string a0_1] 23 (0, 0)) (bk BK498) hb); have n1_ := bsg HB GE498 hb; clear BK498; clear HB; have BK498 := n0_; have HB := n1_; clear n0_ n1_; (try clear hb); (try clear hb2); (try clear hk); (try clear hi)) | ((with_reducible refine gate_callee (f := 21) rfl ?_); refine gL (some 16) rfl rfl Try.func21 (by kernel_rfl) rfl #[.agg #[.int .i64 t500, .string t501]] rfl ?_; (with_reducible refine (spec_PlanePaths.calls k t500 t501 t502 _ A8.out).mono ?_); rintro e w57 ⟨v503, rfl, ho0, hb⟩; refine ⟨_, rfl, ?_⟩; have n0_ := Aside0.mk (Kd.R_lower ho0 (below_size (bg HB GE498))); have n1_ := Aside0.mk (blk_below (g := gb498) (o := .cells #[.int .i64 a0_0, .string a0_1] 23 (0, 0)) (bk BK498) hb); have n2_ := bsg HB GE498 hb; clear BK498; clear HB; have HO504 := n0_; have BK498 := n1_; have HB := n2_; clear n0_ n1_ n2_; (try clear hb); (try clear hb2); (try clear hk); (try clear hi); (try clear ho0); have hcz58_0 := bc BK498 0; have hcz58_1 := bc BK498 1; have hfz58_0 := bf BK498 0; have hfz58_1 := bf BK498 1) | ((with_reducible refine gate_callee (f := 12) rfl ?_); refine gL (some 18) rfl rfl Try.func12 (by kernel_rfl) rfl #[.agg #[.int .i64 a0_0, .string a0_1]] rfl ?_; (with_reducible refine (laws_toSigns.calls a0_0 a0_1 t505 t506 _ A9.out).mono ?_); rintro e w59 ⟨rfl, hb⟩; refine ⟨_, rfl, ?_⟩; have n0_ := Aside0.mk (Kd.R_below (rr HO504) hb); have n1_ := Aside0.mk (blk_below (g := gb498) (o := .cells #[.int .i64 a0_0, .string a0_1] 23 (0, 0)) (bk BK498) hb); have n2_ := bsg HB GE498 hb; clear HO504; clear BK498; clear HB; have HO504 := n0_; have BK498 := n1_; have HB := n2_; clear n0_ n1_ n2_; (try clear hb); (try clear hb2); (try clear hk); (try clear hi)) | ((with_reducible refine gate_callee (f := 22) rfl ?_); refine gL (some 19) rfl rfl Try.func22 (by kernel_rfl) rfl #[.agg #[.int .i64 t505, .string t506]] rfl ?_; (with_reducible refine (impl_PlanePaths.calls k t505 t506 t507 _ A10.out).mono ?_); rintro e w60 ⟨v508, rfl, ho0, hb⟩; refine ⟨_, rfl, ?_⟩; have n0_ := Aside0.mk (Kd.R_elder' (rr HO504) (Kd.R_base ho0) hb); have n1_ := Aside0.mk (Kd.R_lower (Kd.R_new' ho0 (Kd.R_lt (rr HO504))) (below_size (bg HB GE498))); have n2_ := Aside0.mk (blk_below (g := gb498) (o := .cells #[.int .i64 a0_0, .string a0_1] 23 (0, 0)) (bk BK498) hb); have n3_ := bsg HB GE498 hb; clear HO504; clear BK498; clear HB; have HO504 := n0_; have HO509 := n1_; have BK498 := n2_; have HB := n3_; clear n0_ n1_ n2_ n3_; (try clear hb); (try clear hb2); (try clear hk); (try clear hi); (try clear ho0); obtain ⟨Ao61, co61, eo61⟩ := Kd.R_slice HO509.out; subst eo61; obtain ⟨Ao62, co62, eo62⟩ := Kd.R_slice HO504.out; subst eo62) | ((with_reducible refine gate_callee (f := 14) rfl ?_); refine gL (some 22) rfl rfl Try.func14 (by kernel_rfl) rfl #[.slice Ao61 t507.length co61, .slice Ao62 t502.length co62] rfl ?_; (with_reducible refine (laws_eqIntS.calls k _ _ t507 _ _ t502 true _ ?side1 ?side2 ?side3 ?side4 A11.out).mono ?_); (case side1 => repeat (first | exact (Kd.R_reads' HO509.out).2.2 | (with_reducible refine Kd.C_alloc ?_ _) | (with_reducible refine Kd.C_drewN ?_ _) | (with_reducible refine Kd.C_drew ?_))); (case side2 => exact (Kd.R_reads' HO509.out).2.1); (case side3 => repeat (first | exact (Kd.R_reads' HO504.out).2.2 | (with_reducible refine Kd.C_alloc ?_ _) | (with_reducible refine Kd.C_drewN ?_ _) | (with_reducible refine Kd.C_drew ?_))); (case side4 => exact (Kd.R_reads' HO504.out).2.1); rintro e w' ⟨rfl, ⟨nd, rfl⟩⟩; refine ⟨_, rfl, ?_⟩) | ((with_reducible refine gate_callee (f := 15) rfl ?_); refine gL (some 26) rfl rfl Try.func15 (by kernel_rfl) rfl #[.slice Ao61 t507.length co61, .int .i64 1] rfl ?_; (with_reducible refine (laws_markIntS.calls k (fun k_ => some k_ = (.slice Ao61 t507.length co61 : Value).ownBlock) (.slice Ao61 t507.length co61) t507 1 t511 t512 w _ ?side1 ?side2 A13.out).mono ?_); (case side1 => repeat (first | (with_reducible first | exact HB.out | apply below_alloc | apply pw_below_drewN | apply below_drew1 | refine below_set ?_ GE498.out) | exact HB.out)); (case side2 => exact Kd.R_tight rfl HO509.out); rintro e w63 ⟨rfl, hy0, hb, hkp⟩; refine ⟨_, rfl, ?_⟩; have n0_ := Aside0.mk (blk_kept (bk BK498) hkp (fun hs_ => (fun e_ => (Kd.R_ne HO509.out BK498.out (by decide)) e_) hs_)); have n1_ := Aside0.mk (Kd.R_mono (ok' := fun k_ => some k_ ≠ (.slice Ao61 t507.length co61 : Value).ownBlock) (Kd.R_keptB (HO504.out) hkp (fun k_ hk_ hs_ => (hk_.2) hs_)) (fun k_ hk_ => hk_.1.2)); have n2_ := Aside0.mk (Kd.R_reok rfl hy0 (fun k_ e_ => HO509.out.1 k_ e_)); have n3_ := Aside0.mk (hb); clear BK498; clear HO504; clear HO509; clear HB; have BK498 := n0_; have HO504 := n1_; have HO509 := n2_; have HB := n3_; clear n0_ n1_ n2_ n3_; (try clear hb); (try clear hkp); (try clear hy0)) | ((with_reducible refine gate_callee (f := 16) rfl ?_); refine goesL_ (some 29) rfl rfl Try.func16 (by kernel_rfl) rfl #[.slice Ao61 t512.length co61, .int .i64 1] rfl (by (try simp only [List.map_toArray, List.map_cons, List.map_nil]); first | done | (rw [show t512.length = t507.length from (Kd.R_reads' HO509.out).1.symm] <;> rfl) | rfl | (simp only [List.length_drop, List.length_take]; rfl)) ?_; (with_reducible refine (laws_heldIntS.calls k _ _ t512 1 t513 _ ?side1 ?side2 A14.out).mono ?_); (case side1 => repeat (first | exact (Kd.R_reads' HO509.out).2.2 | (with_reducible refine Kd.C_alloc ?_ _) | (with_reducible refine Kd.C_drewN ?_ _) | (with_reducible refine Kd.C_drew ?_))); (case side2 => rw [show t512.length = t507.length from (Kd.R_reads' HO509.out).1.symm]; exact (Kd.R_reads' HO509.out).2.1); rintro e w' ⟨rfl, ⟨nd, rfl⟩⟩; refine ⟨_, rfl, ?_⟩; have hcz64_0 := bc BK498 0; have hcz64_1 := bc BK498 1; have hfz64_0 := bf BK498 0; have hfz64_1 := bf BK498 1) | ((with_reducible refine gate_callee (f := 12) rfl ?_); refine gL (some 36) rfl rfl Try.func12 (by kernel_rfl) rfl #[.agg #[.int .i64 a0_0, .string a0_1]] rfl ?_; (with_reducible refine (laws_toSigns.calls a0_0 a0_1 t514 t515 _ A29.out).mono ?_); rintro e w65 ⟨rfl, hb⟩; refine ⟨_, rfl, ?_⟩; have n0_ := Aside0.mk (Kd.R_below (rr HO504) hb); have n1_ := Aside0.mk (Kd.R_below (rr HO509) hb); have n2_ := Aside0.mk (blk_below (g := gb498) (o := .cells #[.int .i64 a0_0, .string a0_1] 23 (0, 0)) (bk BK498) hb); have n3_ := bsg HB GE498 hb; clear HO504; clear HO509; clear BK498; clear HB; have HO504 := n0_; have HO509 := n1_; have BK498 := n2_; have HB := n3_; clear n0_ n1_ n2_ n3_; (try clear hb); (try clear hb2); (try clear hk); (try clear hi)) | ((with_reducible refine gate_callee (f := 22) rfl ?_); refine gL (some 37) rfl rfl Try.func22 (by kernel_rfl) rfl #[.agg #[.int .i64 t514, .string t515]] rfl ?_; (with_reducible refine (impl_PlanePaths.calls k t514 t515 t516 _ A30.out).mono ?_); rintro e w66 ⟨v517, rfl, ho0, hb⟩; refine ⟨_, rfl, ?_⟩; have n0_ := Aside0.mk (Kd.R_elder' (rr HO504) (Kd.R_base ho0) hb); have n1_ := Aside0.mk (Kd.R_elder' (rr HO509) (Kd.R_base ho0) hb); have n2_ := Aside0.mk (Kd.R_lower (Kd.R_new' (Kd.R_new' ho0 (Kd.R_lt (rr HO504))) (Kd.R_lt (rr HO509))) (below_size (bg HB GE498))); have n3_ := Aside0.mk (blk_below (g := gb498) (o := .cells #[.int .i64 a0_0, .string a0_1] 23 (0, 0)) (bk BK498) hb); have n4_ := bsg HB GE498 hb; clear HO504; clear HO509; clear BK498; clear HB; have HO504 := n0_; have HO509 := n1_; have HO518 := n2_; have BK498 := n3_; have HB := n4_; clear n0_ n1_ n2_ n3_ n4_; (try clear hb); (try clear hb2); (try clear hk); (try clear hi); (try clear ho0); obtain ⟨Ao67, co67, eo67⟩ := Kd.R_slice HO518.out; subst eo67) | ((with_reducible refine gate_callee (f := 14) rfl ?_); refine gL (some 40) rfl rfl Try.func14 (by kernel_rfl) rfl #[.slice Ao67 t516.length co67, .slice Ao62 t502.length co62] rfl ?_; (with_reducible refine (laws_eqIntS.calls k _ _ t516 _ _ t502 true _ ?side1 ?side2 ?side3 ?side4 A31.out).mono ?_); (case side1 => repeat (first | exact (Kd.R_reads' HO518.out).2.2 | (with_reducible refine Kd.C_alloc ?_ _) | (with_reducible refine Kd.C_drewN ?_ _) | (with_reducible refine Kd.C_drew ?_))); (case side2 => exact (Kd.R_reads' HO518.out).2.1); (case side3 => repeat (first | exact (Kd.R_reads' HO504.out).2.2 | (with_reducible refine Kd.C_alloc ?_ _) | (with_reducible refine Kd.C_drewN ?_ _) | (with_reducible refine Kd.C_drew ?_))); (case side4 => exact (Kd.R_reads' HO504.out).2.1); rintro e w' ⟨rfl, ⟨nd, rfl⟩⟩; refine ⟨_, rfl, ?_⟩) | ((with_reducible refine gate_callee (f := 16) rfl ?_); refine goesL_ (some 44) rfl rfl Try.func16 (by kernel_rfl) rfl #[.slice Ao61 t512.length co61, .int .i64 1] rfl (by (try simp only [List.map_toArray, List.map_cons, List.map_nil]); first | done | (rw [show t512.length = t507.length from (Kd.R_reads' HO509.out).1.symm] <;> rfl) | rfl | (simp only [List.length_drop, List.length_take]; rfl)) ?_; (with_reducible refine (laws_heldIntS.calls k _ _ t512 1 t520 _ ?side1 ?side2 A33.out).mono ?_); (case side1 => repeat (first | exact (Kd.R_reads' HO509.out).2.2 | (with_reducible refine Kd.C_alloc ?_ _) | (with_reducible refine Kd.C_drewN ?_ _) | (with_reducible refine Kd.C_drew ?_))); (case side2 => rw [show t512.length = t507.length from (Kd.R_reads' HO509.out).1.symm]; exact (Kd.R_reads' HO509.out).2.1); rintro e w' ⟨rfl, ⟨nd, rfl⟩⟩; refine ⟨_, rfl, ?_⟩))
        go_ret
        exact ⟨by first | rfl | (simp [errW_none, errW_some] <;> rfl) | (simp [*, errW_none, errW_some] <;> rfl), (bg HB GE498)⟩
       ·rw [if_neg c51] at H
        have c51b0 : (t520 == t511) = false := beq_eq_false_iff_ne.mpr c51
        have c51b1 : (t520 != t511) = true := bne_iff_ne.mpr c51
        exact absurd H (by simp)
     ·replace c32 := Bool.eq_false_iff.mpr c32
      subst c32
      have H1 : (some false) = some true := by rw [if_neg (show ¬ (false = true) by decide)] at H; exact H
      clear H
      have H := H1
      clear H1
      exact absurd H (by simp)
    ·rw [if_neg c28] at H
     have c28b0 : (t513 == t511) = false := beq_eq_false_iff_ne.mpr c28
     have c28b1 : (t513 != t511) = true := bne_iff_ne.mpr c28
     exact absurd H (by simp)
  ·replace c12 := Bool.eq_false_iff.mpr c12
   subst c12
   have H1 : (some false) = some true := by rw [if_neg (show ¬ (false = true) by decide)] at H; exact H
   clear H
   have H := H1
   clear H1
   exact absurd H (by simp)

/-- THE ONE PURE STATEMENT of laws_FnExactPlanePaths: yours. -/
def laws_FnExactPlanePaths.Pure : Prop := ∀ (a0_0 : Int) (a0_1 : ByteArray), (Lit.int .i64 a0_0).wf = true → a0_1.size ≤ 140737488351232 → ∃ k, laws_FnExactPlanePaths.f k a0_0 a0_1 = some true
theorem laws_FnExactPlanePaths.walk (P : laws_FnExactPlanePaths.Pure) (a0_0 : Int) (a0_1 : ByteArray) (w : World) (w0_0 : (Lit.int .i64 a0_0).wf = true) (w0_1 : a0_1.size ≤ 140737488351232) :
  Calls Try.prog 6 #[.agg #[.int .i64 a0_0, .string a0_1]] w fun e w' => e = .returned (.bool true) ∧ Below w.heap.size w w' := by
 obtain ⟨k, h⟩ := P a0_0 a0_1 w0_0 w0_1
 refine (laws_FnExactPlanePaths.calls k a0_0 a0_1 w h).mono ?_
 rintro e w' ⟨rfl, hd⟩
 exact ⟨rfl, hd⟩

end Go.Proofs.Ytiimkifkakdalaa.P
