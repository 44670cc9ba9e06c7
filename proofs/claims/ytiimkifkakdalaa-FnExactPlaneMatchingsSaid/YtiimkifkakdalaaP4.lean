-- Printed by a program of this session (wip/tools/myprint.py, over the kit's print.py); not trusted: Lean checks it.
import Derived.Test.YtiimkifkakdalaaP0
import Derived.Test.YtiimkifkakdalaaOPlM
import Derived.Test.YtiimkifkakdalaaP10
import Derived.Test.YtiimkifkakdalaaP108
import Derived.Test.YtiimkifkakdalaaP14
import Derived.Test.YtiimkifkakdalaaP17
namespace Go.Proofs.Ytiimkifkakdalaa.P
open Go.RowKit Go.Proofs.YtiimkifkakdalaaW.PrintWords Go.Proofs.YtiimkifkakdalaaW.PrintLast Go.Proofs.YtiimkifkakdalaaW.PrintMore
attribute [local go_sem] max2_int min2_int max_two min_two max_three min_three max_four min_four   -- for this text's walks alone
set_option linter.unusedVariables false
set_option linter.unusedSimpArgs false

/-! ### laws_FnExactPlaneMatchings: function 4 -/
def laws_FnExactPlaneMatchings.f (k : Nat) (a0_0 : Int) (a0_1 : ByteArray) : Option (Bool) := (laws_szSigns.f a0_0 a0_1 1048576).bind fun t441 => (if t441 < 0 then (some true) else ((laws_toSigns.f a0_0 a0_1).bind fun bt442 => ((spec_PlaneMatchings.f k bt442.1 bt442.2).bind fun t444 => ((laws_toSigns.f a0_0 a0_1).bind fun bt447 => ((impl_PlaneMatchings.f k bt447.1 bt447.2).bind fun t449 => ((laws_eqIntS.f k t449 t444).bind fun t452 => (if t452 = true then ((laws_markIntS.f k t449 1).bind fun bt453 => ((laws_heldIntS.f k bt453.2 1).bind fun t455 => (if t455 < 0 then (some false) else (if t455 = bt453.1 then ((laws_toSigns.f a0_0 a0_1).bind fun bt456 => ((impl_PlaneMatchings.f k bt456.1 bt456.2).bind fun t458 => ((laws_eqIntS.f k t458 t444).bind fun t461 => (if t461 = true then ((laws_heldIntS.f k bt453.2 1).bind fun t462 => (if t462 < 0 then (some false) else (if t462 = bt453.1 then (some true) else (some false)))) else (some false))))) else (some false))))) else (some false))))))))
theorem laws_FnExactPlaneMatchings.mono : ∀ a0 a1 k, LeO (laws_FnExactPlaneMatchings.f k a0 a1) (laws_FnExactPlaneMatchings.f (k + 1) a0 a1) := by
 intro a0 a1 k
 unfold laws_FnExactPlaneMatchings.f
 repeat' first
   | (with_reducible exact impl_PlaneMatchings.mono _ _ _)
   | (with_reducible exact laws_eqIntS.mono _ _ _)
   | (with_reducible exact laws_heldIntS.mono _ _ _)
   | (with_reducible exact laws_markIntS.mono _ _ _)
   | (with_reducible exact spec_PlaneMatchings.mono _ _ _)
   | (with_reducible exact LeO.refl _)
   | (with_reducible exact LeO.none _)
   | (with_reducible refine LeO.ite ?_ ?_)
   | (with_reducible refine LeO.bind ?_ (fun _ => ?_))
   | exact impl_PlaneMatchings.mono _ _ _
   | exact laws_eqIntS.mono _ _ _
   | exact laws_heldIntS.mono _ _ _
   | exact laws_markIntS.mono _ _ _
   | exact spec_PlaneMatchings.mono _ _ _
   | exact LeO.none _
   | refine LeO.ite ?_ ?_
   | refine LeO.bind ?_ (fun _ => ?_)
set_option maxHeartbeats 8000000 in
set_option maxRecDepth 100000 in
theorem laws_FnExactPlaneMatchings.calls (k : Nat) (a0_0 : Int) (a0_1 : ByteArray) (w : World) (h : laws_FnExactPlaneMatchings.f k a0_0 a0_1 = some true) :
  Calls Try.prog 4 #[.agg #[.int .i64 a0_0, .string a0_1]] w fun e w' => e = .returned (.bool true) ∧ Below w.heap.size w w' := by
 have hu23 := Try.underlying23
 have HB := Aside0.mk (Below.refl w.heap.size w)
 have H : ((laws_szSigns.f a0_0 a0_1 1048576).bind fun t441 => (if t441 < 0 then (some true) else ((laws_toSigns.f a0_0 a0_1).bind fun bt442 => ((spec_PlaneMatchings.f k bt442.1 bt442.2).bind fun t444 => ((laws_toSigns.f a0_0 a0_1).bind fun bt447 => ((impl_PlaneMatchings.f k bt447.1 bt447.2).bind fun t449 => ((laws_eqIntS.f k t449 t444).bind fun t452 => (if t452 = true then ((laws_markIntS.f k t449 1).bind fun bt453 => ((laws_heldIntS.f k bt453.2 1).bind fun t455 => (if t455 < 0 then (some false) else (if t455 = bt453.1 then ((laws_toSigns.f a0_0 a0_1).bind fun bt456 => ((impl_PlaneMatchings.f k bt456.1 bt456.2).bind fun t458 => ((laws_eqIntS.f k t458 t444).bind fun t461 => (if t461 = true then ((laws_heldIntS.f k bt453.2 1).bind fun t462 => (if t462 < 0 then (some false) else (if t462 = bt453.1 then (some true) else (some false)))) else (some false))))) else (some false))))) else (some false))))))))) = some true := h
 clear h
 replace H := Option.bind_eq_some_iff.mp H
 obtain ⟨t441, A20, H⟩ := H
 (try dsimp only at H)
 have A2 := Aside0.mk A20
 clear A20
 by_cases c3 : t441 < 0
 ·rw [if_pos c3] at H
  have c3b0 : decide (t441 < 0) = true := decide_eq_true c3
  clear c3
  clear H
  go_enter Try.func4, Try.ntmps4
  go_wp2_with (first | ((with_reducible refine gate_dst (N := 1) rfl ?_); refine bx 1 #[.int .i64 a0_0, .string a0_1] 23 ?_; intro gb440 hg w4 hbox hb; have BK440 := Aside0.mk hbox; have GE440 := gs HB hg; have GW440 := GE440; replace HB := bs HB hb; clear hb hbox hg; have hcz5_0 := bc BK440 0; have hcz5_1 := bc BK440 1; have hfz5_0 := bf BK440 0; have hfz5_1 := bf BK440 1) | ((with_reducible refine gate_callee (f := 10) rfl ?_); refine gL (some 11) rfl rfl Try.func10 (by kernel_rfl) rfl #[.agg #[.int .i64 a0_0, .string a0_1], .int .i64 1048576] rfl ?_; (with_reducible refine (laws_szSigns.calls a0_0 a0_1 1048576 t441 _ A2.out).mono ?_); rintro e w6 ⟨rfl, hb⟩; refine ⟨_, rfl, ?_⟩; have n0_ := Aside0.mk (blk_below (g := gb440) (o := .cells #[.int .i64 a0_0, .string a0_1] 23 (0, 0)) (bk BK440) hb); have n1_ := bsg HB GE440 hb; clear BK440; clear HB; have BK440 := n0_; have HB := n1_; clear n0_ n1_; (try clear hb); (try clear hb2); (try clear hk); (try clear hi)))
  go_ret
  exact ⟨by first | rfl | (simp [errW_none, errW_some] <;> rfl) | (simp [*, errW_none, errW_some] <;> rfl), (bg HB GE440)⟩
 ·rw [if_neg c3] at H
  have c3b0 : decide (t441 < 0) = false := decide_eq_false c3
  clear c3
  replace H := Option.bind_eq_some_iff.mp H
  obtain ⟨⟨t442, t443⟩, A70, H⟩ := H
  (try dsimp only at H)
  have A7 := Aside0.mk A70
  clear A70
  replace H := Option.bind_eq_some_iff.mp H
  obtain ⟨t444, A80, H⟩ := H
  (try dsimp only at H)
  have A8 := Aside0.mk A80
  clear A80
  replace H := Option.bind_eq_some_iff.mp H
  obtain ⟨⟨t447, t448⟩, A90, H⟩ := H
  (try dsimp only at H)
  have A9 := Aside0.mk A90
  clear A90
  replace H := Option.bind_eq_some_iff.mp H
  obtain ⟨t449, A100, H⟩ := H
  (try dsimp only at H)
  have A10 := Aside0.mk A100
  clear A100
  replace H := Option.bind_eq_some_iff.mp H
  obtain ⟨t452, A110, H⟩ := H
  (try dsimp only at H)
  have A11 := Aside0.mk A110
  clear A110
  by_cases c12 : t452 = true
  ·subst c12
   have H1 : ((laws_markIntS.f k t449 1).bind fun bt453 => ((laws_heldIntS.f k bt453.2 1).bind fun t455 => (if t455 < 0 then (some false) else (if t455 = bt453.1 then ((laws_toSigns.f a0_0 a0_1).bind fun bt456 => ((impl_PlaneMatchings.f k bt456.1 bt456.2).bind fun t458 => ((laws_eqIntS.f k t458 t444).bind fun t461 => (if t461 = true then ((laws_heldIntS.f k bt453.2 1).bind fun t462 => (if t462 < 0 then (some false) else (if t462 = bt453.1 then (some true) else (some false)))) else (some false))))) else (some false))))) = some true := by rw [if_pos rfl] at H; exact H
   clear H
   have H := H1
   clear H1
   replace H := Option.bind_eq_some_iff.mp H
   obtain ⟨⟨t453, t454⟩, A130, H⟩ := H
   (try dsimp only at H)
   have A13 := Aside0.mk A130
   clear A130
   replace H := Option.bind_eq_some_iff.mp H
   obtain ⟨t455, A140, H⟩ := H
   (try dsimp only at H)
   have A14 := Aside0.mk A140
   clear A140
   by_cases c15 : t455 < 0
   ·rw [if_pos c15] at H
    have c15b0 : decide (t455 < 0) = true := decide_eq_true c15
    clear c15
    exact absurd H (by simp)
   ·rw [if_neg c15] at H
    have c15b0 : decide (t455 < 0) = false := decide_eq_false c15
    clear c15
    by_cases c28 : t455 = t453
    ·rw [if_pos c28] at H
     have c28b0 : (t455 == t453) = true := beq_iff_eq.mpr c28
     have c28b1 : (t455 != t453) = false := bne_eq_false_iff_eq.mpr c28
     clear c28
     replace H := Option.bind_eq_some_iff.mp H
     obtain ⟨⟨t456, t457⟩, A290, H⟩ := H
     (try dsimp only at H)
     have A29 := Aside0.mk A290
     clear A290
     replace H := Option.bind_eq_some_iff.mp H
     obtain ⟨t458, A300, H⟩ := H
     (try dsimp only at H)
     have A30 := Aside0.mk A300
     clear A300
     replace H := Option.bind_eq_some_iff.mp H
     obtain ⟨t461, A310, H⟩ := H
     (try dsimp only at H)
     have A31 := Aside0.mk A310
     clear A310
     by_cases c32 : t461 = true
     ·subst c32
      have H1 : ((laws_heldIntS.f k t454 1).bind fun t462 => (if t462 < 0 then (some false) else (if t462 = t453 then (some true) else (some false)))) = some true := by rw [if_pos rfl] at H; exact H
      clear H
      have H := H1
      clear H1
      replace H := Option.bind_eq_some_iff.mp H
      obtain ⟨t462, A330, H⟩ := H
      (try dsimp only at H)
      have A33 := Aside0.mk A330
      clear A330
      by_cases c34 : t462 < 0
      ·rw [if_pos c34] at H
       have c34b0 : decide (t462 < 0) = true := decide_eq_true c34
       clear c34
       exact absurd H (by simp)
      ·rw [if_neg c34] at H
       have c34b0 : decide (t462 < 0) = false := decide_eq_false c34
       clear c34
       by_cases c51 : t462 = t453
       ·rw [if_pos c51] at H
        have c51b0 : (t462 == t453) = true := beq_iff_eq.mpr c51
        have c51b1 : (t462 != t453) = false := bne_eq_false_iff_eq.mpr c51
        clear c51
        clear H
        go_enter Try.func4, Try.ntmps4
        go_wp2_with (first | ((with_reducible refine gate_dst (N := 1) rfl ?_); refine bx 1 #[.int .i64 a0_0, .string a0_1] 23 ?_; intro gb440 hg w52 hbox hb; have BK440 := Aside0.mk hbox; have GE440 := gs HB hg; have GW440 := GE440; replace HB := bs HB hb; clear hb hbox hg; have hcz53_0 := bc BK440 0; have hcz53_1 := bc BK440 1; have hfz53_0 := bf BK440 0; have hfz53_1 := bf BK440 1) | ((with_reducible refine gate_callee (f := 10) rfl ?_); refine gL (some 11) rfl rfl Try.func10 (by kernel_rfl) rfl #[.agg #[.int .i64 a0_0, .string a0_1], .int .i64 1048576] rfl ?_; (with_reducible refine (laws_szSigns.calls a0_0 a0_1 1048576 t441 _ A2.out).mono ?_); rintro e w54 ⟨rfl, hb⟩; refine ⟨_, rfl, ?_⟩; have n0_ := Aside0.mk (blk_below (g := gb440) (o := .cells #[.int .i64 a0_0, .string a0_1] 23 (0, 0)) (bk BK440) hb); have n1_ := bsg HB GE440 hb; clear BK440; clear HB; have BK440 := n0_; have HB := n1_; clear n0_ n1_; (try clear hb); (try clear hb2); (try clear hk); (try clear hi); have hcz55_0 := bc BK440 0; have hcz55_1 := bc BK440 1; have hfz55_0 := bf BK440 0; have hfz55_1 := bf BK440 1) | ((with_reducible refine gate_callee (f := 12) rfl ?_); refine gL (some 15) rfl rfl Try.func12 (by kernel_rfl) rfl #[.agg #[.int .i64 a0_0, .string a0_1]] rfl ?_; (with_reducible refine (laws_toSigns.calls a0_0 a0_1 t442 t443 _ A7.out).mono ?_); rintro e w56 ⟨rfl, hb⟩; refine ⟨_, rfl, ?_⟩; have n0_ := Aside0.mk (blk_below (g := gb440) (o := .cells #[.int .i64 a0_0, .string a0_1] 23 (0, 0)) (bk BK440) hb); have n1_ := bsg HB GE440 hb; clear BK440; clear HB; have BK440 := n0_; have HB := n1_; clear n0_ n1_; (try clear hb); (try clear hb2); (try clear hk); (try clear hi)) | ((with_reducible refine gate_callee (f := 17) rfl ?_); refine gL (some 16) rfl rfl Try.func17 (by kernel_rfl) rfl #[.agg #[.int .i64 t442, .string t443]] rfl ?_; (with_reducible refine (spec_PlaneMatchings.calls k t442 t443 t444 _ A8.out).mono ?_); rintro e w57 ⟨v445, rfl, ho0, hb⟩; refine ⟨_, rfl, ?_⟩; have n0_ := Aside0.mk (Kd.R_lower ho0 (below_size (bg HB GE440))); have n1_ := Aside0.mk (blk_below (g := gb440) (o := .cells #[.int .i64 a0_0, .string a0_1] 23 (0, 0)) (bk BK440) hb); have n2_ := bsg HB GE440 hb; clear BK440; clear HB; have HO446 := n0_; have BK440 := n1_; have HB := n2_; clear n0_ n1_ n2_; (try clear hb); (try clear hb2); (try clear hk); (try clear hi); (try clear ho0); have hcz58_0 := bc BK440 0; have hcz58_1 := bc BK440 1; have hfz58_0 := bf BK440 0; have hfz58_1 := bf BK440 1) | ((with_reducible refine gate_callee (f := 12) rfl ?_); refine gL (some 18) rfl rfl Try.func12 (by kernel_rfl) rfl #[.agg #[.int .i64 a0_0, .string a0_1]] rfl ?_; (with_reducible refine (laws_toSigns.calls a0_0 a0_1 t447 t448 _ A9.out).mono ?_); rintro e w59 ⟨rfl, hb⟩; refine ⟨_, rfl, ?_⟩; have n0_ := Aside0.mk (Kd.R_below (rr HO446) hb); have n1_ := Aside0.mk (blk_below (g := gb440) (o := .cells #[.int .i64 a0_0, .string a0_1] 23 (0, 0)) (bk BK440) hb); have n2_ := bsg HB GE440 hb; clear HO446; clear BK440; clear HB; have HO446 := n0_; have BK440 := n1_; have HB := n2_; clear n0_ n1_ n2_; (try clear hb); (try clear hb2); (try clear hk); (try clear hi)) | ((with_reducible refine gate_callee (f := 18) rfl ?_); refine gL (some 19) rfl rfl Try.func18 (by kernel_rfl) rfl #[.agg #[.int .i64 t447, .string t448]] rfl ?_; (with_reducible refine (impl_PlaneMatchings.calls k t447 t448 t449 _ A10.out).mono ?_); rintro e w60 ⟨v450, rfl, ho0, hb⟩; refine ⟨_, rfl, ?_⟩; have n0_ := Aside0.mk (Kd.R_elder' (rr HO446) (Kd.R_base ho0) hb); have n1_ := Aside0.mk (Kd.R_lower (Kd.R_new' ho0 (Kd.R_lt (rr HO446))) (below_size (bg HB GE440))); have n2_ := Aside0.mk (blk_below (g := gb440) (o := .cells #[.int .i64 a0_0, .string a0_1] 23 (0, 0)) (bk BK440) hb); have n3_ := bsg HB GE440 hb; clear HO446; clear BK440; clear HB; have HO446 := n0_; have HO451 := n1_; have BK440 := n2_; have HB := n3_; clear n0_ n1_ n2_ n3_; (try clear hb); (try clear hb2); (try clear hk); (try clear hi); (try clear ho0); obtain ⟨Ao61, co61, eo61⟩ := Kd.R_slice HO451.out; subst eo61; obtain ⟨Ao62, co62, eo62⟩ := Kd.R_slice HO446.out; subst eo62) | ((with_reducible refine gate_callee (f := 14) rfl ?_); refine gL (some 22) rfl rfl Try.func14 (by kernel_rfl) rfl #[.slice Ao61 t449.length co61, .slice Ao62 t444.length co62] rfl ?_; (with_reducible refine (laws_eqIntS.calls k _ _ t449 _ _ t444 true _ ?side1 ?side2 ?side3 ?side4 A11.out).mono ?_); (case side1 => repeat (first | exact (Kd.R_reads' HO451.out).2.2 | (with_reducible refine Kd.C_alloc ?_ _) | (with_reducible refine Kd.C_drewN ?_ _) | (with_reducible refine Kd.C_drew ?_))); (case side2 => exact (Kd.R_reads' HO451.out).2.1); (case side3 => repeat (first | exact (Kd.R_reads' HO446.out).2.2 | (with_reducible refine Kd.C_alloc ?_ _) | (with_reducible refine Kd.C_drewN ?_ _) | (with_reducible refine Kd.C_drew ?_))); (case side4 => exact (Kd.R_reads' HO446.out).2.1); rintro e w' ⟨rfl, ⟨nd, rfl⟩⟩; refine ⟨_, rfl, ?_⟩) | ((with_reducible refine gate_callee (f := 15) rfl ?_); refine gL (some 26) rfl rfl Try.func15 (by kernel_rfl) rfl #[.slice Ao61 t449.length co61, .int .i64 1] rfl ?_; (with_reducible refine (laws_markIntS.calls k (fun k_ => some k_ = (.slice Ao61 t449.length co61 : Value).ownBlock) (.slice Ao61 t449.length co61) t449 1 t453 t454 w _ ?side1 ?side2 A13.out).mono ?_); (case side1 => repeat (first | (with_reducible first | exact HB.out | apply below_alloc | apply pw_below_drewN | apply below_drew1 | refine below_set ?_ GE440.out) | exact HB.out)); (case side2 => exact Kd.R_tight rfl HO451.out); rintro e w63 ⟨rfl, hy0, hb, hkp⟩; refine ⟨_, rfl, ?_⟩; have n0_ := Aside0.mk (blk_kept (bk BK440) hkp (fun hs_ => (fun e_ => (Kd.R_ne HO451.out BK440.out (by decide)) e_) hs_)); have n1_ := Aside0.mk (Kd.R_mono (ok' := fun k_ => some k_ ≠ (.slice Ao61 t449.length co61 : Value).ownBlock) (Kd.R_keptB (HO446.out) hkp (fun k_ hk_ hs_ => (hk_.2) hs_)) (fun k_ hk_ => hk_.1.2)); have n2_ := Aside0.mk (Kd.R_reok rfl hy0 (fun k_ e_ => HO451.out.1 k_ e_)); have n3_ := Aside0.mk (hb); clear BK440; clear HO446; clear HO451; clear HB; have BK440 := n0_; have HO446 := n1_; have HO451 := n2_; have HB := n3_; clear n0_ n1_ n2_ n3_; (try clear hb); (try clear hkp); (try clear hy0)) | ((with_reducible refine gate_callee (f := 16) rfl ?_); refine goesL_ (some 29) rfl rfl Try.func16 (by kernel_rfl) rfl #[.slice Ao61 t454.length co61, .int .i64 1] rfl (by (try simp only [List.map_toArray, List.map_cons, List.map_nil]); first | done | (rw [show t454.length = t449.length from (Kd.R_reads' HO451.out).1.symm] <;> rfl) | rfl | (simp only [List.length_drop, List.length_take]; rfl)) ?_; (with_reducible refine (laws_heldIntS.calls k _ _ t454 1 t455 _ ?side1 ?side2 A14.out).mono ?_); (case side1 => repeat (first | exact (Kd.R_reads' HO451.out).2.2 | (with_reducible refine Kd.C_alloc ?_ _) | (with_reducible refine Kd.C_drewN ?_ _) | (with_reducible refine Kd.C_drew ?_))); (case side2 => rw [show t454.length = t449.length from (Kd.R_reads' HO451.out).1.symm]; exact (Kd.R_reads' HO451.out).2.1); rintro e w' ⟨rfl, ⟨nd, rfl⟩⟩; refine ⟨_, rfl, ?_⟩; have hcz64_0 := bc BK440 0; have hcz64_1 := bc BK440 1; have hfz64_0 := bf BK440 0; have hfz64_1 := bf BK440 1) | ((with_reducible refine gate_callee (f := 12) rfl ?_); refine gL (some 36) rfl rfl Try.func12 (by kernel_rfl) rfl #[.agg #[.int .i64 a0_0, .string a0_1]] rfl ?_; (with_reducible refine (laws_toSigns.calls a0_0 a0_1 t456 t457 _ A29.out).mono ?_); rintro e w65 ⟨rfl, hb⟩; refine ⟨_, rfl, ?_⟩; have n0_ := Aside0.mk (Kd.R_below (rr HO446) hb); have n1_ := Aside0.mk (Kd.R_below (rr HO451) hb); have n2_ := Aside0.mk (blk_below (g := gb440) (o := .cells #[.int .i64 a0_0, .string a0_1] 23 (0, 0)) (bk BK440) hb); have n3_ := bsg HB GE440 hb; clear HO446; clear HO451; clear BK440; clear HB; have HO446 := n0_; have HO451 := n1_; have BK440 := n2_; have HB := n3_; clear n0_ n1_ n2_ n3_; (try clear hb); (try clear hb2); (try clear hk); (try clear hi)) | ((with_reducible refine gate_callee (f := 18) rfl ?_); refine gL (some 37) rfl rfl Try.func18 (by kernel_rfl) rfl #[.agg #[.int .i64 t456, .string t457]] rfl ?_; (with_reducible refine (impl_PlaneMatchings.calls k t456 t457 t458 _ A30.out).mono ?_); rintro e w66 ⟨v459, rfl, ho0, hb⟩; refine ⟨_, rfl, ?_⟩; have n0_ := Aside0.mk (Kd.R_elder' (rr HO446) (Kd.R_base ho0) hb); have n1_ := Aside0.mk (Kd.R_elder' (rr HO451) (Kd.R_base ho0) hb); have n2_ := Aside0.mk (Kd.R_lower (Kd.R_new' (Kd.R_new' ho0 (Kd.R_lt (rr HO446))) (Kd.R_lt (rr HO451))) (below_size (bg HB GE440))); have n3_ := Aside0.mk (blk_below (g := gb440) (o := .cells #[.int .i64 a0_0, .string a0_1] 23 (0, 0)) (bk BK440) hb); have n4_ := bsg HB GE440 hb; clear HO446; clear HO451; clear BK440; clear HB; have HO446 := n0_; have HO451 := n1_; have HO460 := n2_; have BK440 := n3_; have HB := n4_; clear n0_ n1_ n2_ n3_ n4_; (try clear hb); (try clear hb2); (try clear hk); (try clear hi); (try clear ho0); obtain ⟨Ao67, co67, eo67⟩ := Kd.R_slice HO460.out; subst eo67) | ((with_reducible refine gate_callee (f := 14) rfl ?_); refine gL (some 40) rfl rfl Try.func14 (by kernel_rfl) rfl #[.slice Ao67 t458.length co67, .slice Ao62 t444.length co62] rfl ?_; (with_reducible refine (laws_eqIntS.calls k _ _ t458 _ _ t444 true _ ?side1 ?side2 ?side3 ?side4 A31.out).mono ?_); (case side1 => repeat (first | exact (Kd.R_reads' HO460.out).2.2 | (with_reducible refine Kd.C_alloc ?_ _) | (with_reducible refine Kd.C_drewN ?_ _) | (with_reducible refine Kd.C_drew ?_))); (case side2 => exact (Kd.R_reads' HO460.out).2.1); (case side3 => repeat (first | exact (Kd.R_reads' HO446.out).2.2 | (with_reducible refine Kd.C_alloc ?_ _) | (with_reducible refine Kd.C_drewN ?_ _) | (with_reducible refine Kd.C_drew ?_))); (case side4 => exact (Kd.R_reads' HO446.out).2.1); rintro e w' ⟨rfl, ⟨nd, rfl⟩⟩; refine ⟨_, rfl, ?_⟩) | ((with_reducible refine gate_callee (f := 16) rfl ?_); refine goesL_ (some 44) rfl rfl Try.func16 (by kernel_rfl) rfl #[.slice Ao61 t454.length co61, .int .i64 1] rfl (by (try simp only [List.map_toArray, List.map_cons, List.map_nil]); first | done | (rw [show t454.length = t449.length from (Kd.R_reads' HO451.out).1.symm] <;> rfl) | rfl | (simp only [List.length_drop, List.length_take]; rfl)) ?_; (with_reducible refine (laws_heldIntS.calls k _ _ t454 1 t462 _ ?side1 ?side2 A33.out).mono ?_); (case side1 => repeat (first | exact (Kd.R_reads' HO451.out).2.2 | (with_reducible refine Kd.C_alloc ?_ _) | (with_reducible refine Kd.C_drewN ?_ _) | (with_reducible refine Kd.C_drew ?_))); (case side2 => rw [show t454.length = t449.length from (Kd.R_reads' HO451.out).1.symm]; exact (Kd.R_reads' HO451.out).2.1); rintro e w' ⟨rfl, ⟨nd, rfl⟩⟩; refine ⟨_, rfl, ?_⟩))
        go_ret
        exact ⟨by first | rfl | (simp [errW_none, errW_some] <;> rfl) | (simp [*, errW_none, errW_some] <;> rfl), (bg HB GE440)⟩
       ·rw [if_neg c51] at H
        have c51b0 : (t462 == t453) = false := beq_eq_false_iff_ne.mpr c51
        have c51b1 : (t462 != t453) = true := bne_iff_ne.mpr c51
        exact absurd H (by simp)
     ·replace c32 := Bool.eq_false_iff.mpr c32
      subst c32
      have H1 : (some false) = some true := by rw [if_neg (show ¬ (false = true) by decide)] at H; exact H
      clear H
      have H := H1
      clear H1
      exact absurd H (by simp)
    ·rw [if_neg c28] at H
     have c28b0 : (t455 == t453) = false := beq_eq_false_iff_ne.mpr c28
     have c28b1 : (t455 != t453) = true := bne_iff_ne.mpr c28
     exact absurd H (by simp)
  ·replace c12 := Bool.eq_false_iff.mpr c12
   subst c12
   have H1 : (some false) = some true := by rw [if_neg (show ¬ (false = true) by decide)] at H; exact H
   clear H
   have H := H1
   clear H1
   exact absurd H (by simp)

/-- THE ONE PURE STATEMENT of laws_FnExactPlaneMatchings: yours. -/
def laws_FnExactPlaneMatchings.Pure : Prop := ∀ (a0_0 : Int) (a0_1 : ByteArray), (Lit.int .i64 a0_0).wf = true → a0_1.size ≤ 140737488351232 → ∃ k, laws_FnExactPlaneMatchings.f k a0_0 a0_1 = some true
theorem laws_FnExactPlaneMatchings.walk (P : laws_FnExactPlaneMatchings.Pure) (a0_0 : Int) (a0_1 : ByteArray) (w : World) (w0_0 : (Lit.int .i64 a0_0).wf = true) (w0_1 : a0_1.size ≤ 140737488351232) :
  Calls Try.prog 4 #[.agg #[.int .i64 a0_0, .string a0_1]] w fun e w' => e = .returned (.bool true) ∧ Below w.heap.size w w' := by
 obtain ⟨k, h⟩ := P a0_0 a0_1 w0_0 w0_1
 refine (laws_FnExactPlaneMatchings.calls k a0_0 a0_1 w h).mono ?_
 rintro e w' ⟨rfl, hd⟩
 exact ⟨rfl, hd⟩

end Go.Proofs.Ytiimkifkakdalaa.P
