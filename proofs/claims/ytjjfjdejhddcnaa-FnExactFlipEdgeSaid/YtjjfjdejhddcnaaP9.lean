-- Printed by a program of this session (wip/tools/myprint.py, over the kit's print.py); not trusted: Lean checks it.
import Derived.Test.YtjjfjdejhddcnaaP0
import Derived.Test.YtjjfjdejhddcnaaOTri
import Derived.Test.YtjjfjdejhddcnaaP105
import Derived.Test.YtjjfjdejhddcnaaP15
import Derived.Test.YtjjfjdejhddcnaaP66
namespace Go.Proofs.Ytjjfjdejhddcnaa.P
open Go.RowKit Go.Proofs.YtjjfjdejhddcnaaW.PrintWords Go.Proofs.YtjjfjdejhddcnaaW.PrintLast Go.Proofs.YtjjfjdejhddcnaaW.PrintMore
attribute [local go_sem] max2_int min2_int max_two min_two max_three min_three max_four min_four   -- for this text's walks alone
set_option linter.unusedVariables false
set_option linter.unusedSimpArgs false

/-! ### laws_FnExactFlipEdge: function 9 -/
def laws_FnExactFlipEdge.f (k : Nat) (a0_0 : Int) (a0_1 : ByteArray) (a1 : Int) (a2 : Int) : Option (Bool) := (laws_szSigns.f a0_0 a0_1 1048576).bind fun t482 => (if t482 < 0 then (some true) else ((laws_toSigns.f a0_0 a0_1).bind fun bt483 => ((spec_FlipEdge.f k bt483.1 bt483.2 a1 a2).bind fun bt485 => ((laws_toSigns.f a0_0 a0_1).bind fun bt487 => ((impl_FlipEdge.f k bt487.1 bt487.2 a1 a2).bind fun bt489 => (if bt489.1 = bt485.1 then (if (bt489.2 != bt485.2) = true then (some false) else (some true)) else (some false)))))))
theorem laws_FnExactFlipEdge.mono : ∀ a0 a1 a2 a3 k, LeO (laws_FnExactFlipEdge.f k a0 a1 a2 a3) (laws_FnExactFlipEdge.f (k + 1) a0 a1 a2 a3) := by
 intro a0 a1 a2 a3 k
 unfold laws_FnExactFlipEdge.f
 repeat' first
   | (with_reducible exact impl_FlipEdge.mono _ _ _ _ _)
   | (with_reducible exact spec_FlipEdge.mono _ _ _ _ _)
   | (with_reducible exact LeO.refl _)
   | (with_reducible exact LeO.none _)
   | (with_reducible refine LeO.ite ?_ ?_)
   | (with_reducible refine LeO.bind ?_ (fun _ => ?_))
   | exact impl_FlipEdge.mono _ _ _ _ _
   | exact spec_FlipEdge.mono _ _ _ _ _
   | exact LeO.none _
   | refine LeO.ite ?_ ?_
   | refine LeO.bind ?_ (fun _ => ?_)
set_option maxHeartbeats 8000000 in
set_option maxRecDepth 100000 in
theorem laws_FnExactFlipEdge.calls (k : Nat) (a0_0 : Int) (a0_1 : ByteArray) (a1 : Int) (a2 : Int) (r : Bool) (w : World) (h : laws_FnExactFlipEdge.f k a0_0 a0_1 a1 a2 = some r) :
  Calls Try.prog 9 #[.agg #[.int .i64 a0_0, .string a0_1], .int .i64 a1, .int .i64 a2] w fun e w' => e = .returned (.bool r) ∧ Below w.heap.size w w' := by
 have hu23 := Try.underlying23
 have HB := Aside0.mk (Below.refl w.heap.size w)
 have H : ((laws_szSigns.f a0_0 a0_1 1048576).bind fun t482 => (if t482 < 0 then (some true) else ((laws_toSigns.f a0_0 a0_1).bind fun bt483 => ((spec_FlipEdge.f k bt483.1 bt483.2 a1 a2).bind fun bt485 => ((laws_toSigns.f a0_0 a0_1).bind fun bt487 => ((impl_FlipEdge.f k bt487.1 bt487.2 a1 a2).bind fun bt489 => (if bt489.1 = bt485.1 then (if (bt489.2 != bt485.2) = true then (some false) else (some true)) else (some false)))))))) = some r := h
 clear h
 replace H := Option.bind_eq_some_iff.mp H
 obtain ⟨t482, A40, H⟩ := H
 (try dsimp only at H)
 have A4 := Aside0.mk A40
 clear A40
 by_cases c5 : t482 < 0
 ·rw [if_pos c5] at H
  have c5b0 : decide (t482 < 0) = true := decide_eq_true c5
  clear c5
  obtain rfl := Option.some.inj H
  go_enter Try.func9, Try.ntmps9
  go_wp2_with (first | ((with_reducible refine gate_dst (N := 3) rfl ?_); refine bx 3 #[.int .i64 a0_0, .string a0_1] 23 ?_; intro gb481 hg w6 hbox hb; have BK481 := Aside0.mk hbox; have GE481 := gs HB hg; have GW481 := GE481; replace HB := bs HB hb; clear hb hbox hg; have hcz7_0 := bc BK481 0; have hcz7_1 := bc BK481 1; have hfz7_0 := bf BK481 0; have hfz7_1 := bf BK481 1) | ((with_reducible refine gate_callee (f := 15) rfl ?_); refine gL (some 14) rfl rfl Try.func15 (by kernel_rfl) rfl #[.agg #[.int .i64 a0_0, .string a0_1], .int .i64 1048576] rfl ?_; (with_reducible refine (laws_szSigns.calls a0_0 a0_1 1048576 t482 _ A4.out).mono ?_); rintro e w8 ⟨rfl, hb⟩; refine ⟨_, rfl, ?_⟩; have n0_ := Aside0.mk (blk_below (g := gb481) (o := .cells #[.int .i64 a0_0, .string a0_1] 23 (0, 0)) (bk BK481) hb); have n1_ := bsg HB GE481 hb; clear BK481; clear HB; have BK481 := n0_; have HB := n1_; clear n0_ n1_; (try clear hb); (try clear hb2); (try clear hk); (try clear hi)))
  go_ret
  exact ⟨by first | rfl | (simp [errW_none, errW_some] <;> rfl) | (simp [*, errW_none, errW_some] <;> rfl), (bg HB GE481)⟩
 ·rw [if_neg c5] at H
  have c5b0 : decide (t482 < 0) = false := decide_eq_false c5
  clear c5
  replace H := Option.bind_eq_some_iff.mp H
  obtain ⟨⟨t483, t484⟩, A90, H⟩ := H
  (try dsimp only at H)
  have A9 := Aside0.mk A90
  clear A90
  replace H := Option.bind_eq_some_iff.mp H
  obtain ⟨⟨t485, t486⟩, A100, H⟩ := H
  (try dsimp only at H)
  have A10 := Aside0.mk A100
  clear A100
  replace H := Option.bind_eq_some_iff.mp H
  obtain ⟨⟨t487, t488⟩, A110, H⟩ := H
  (try dsimp only at H)
  have A11 := Aside0.mk A110
  clear A110
  replace H := Option.bind_eq_some_iff.mp H
  obtain ⟨⟨t489, t490⟩, A120, H⟩ := H
  (try dsimp only at H)
  have A12 := Aside0.mk A120
  clear A120
  by_cases c13 : t489 = t485
  ·rw [if_pos c13] at H
   have c13b0 : (t489 == t485) = true := beq_iff_eq.mpr c13
   have c13b1 : (t489 != t485) = false := bne_eq_false_iff_eq.mpr c13
   clear c13
   by_cases c14 : (t490 != t486) = true
   ·rw [if_pos c14] at H
    have c14b0 : (t490 != t486) = true := c14
    (try (have c14b1 : decide (t490 = t486) = false := by simpa using c14))
    (try (have c14b2 : (t490 == t486) = false := by simpa using c14))
    (try (have c14b3 : ¬ (t490 = t486) := by simpa using c14))
    clear c14
    obtain rfl := Option.some.inj H
    go_enter Try.func9, Try.ntmps9
    go_wp2_with (first | ((with_reducible refine gate_dst (N := 3) rfl ?_); refine bx 3 #[.int .i64 a0_0, .string a0_1] 23 ?_; intro gb481 hg w15 hbox hb; have BK481 := Aside0.mk hbox; have GE481 := gs HB hg; have GW481 := GE481; replace HB := bs HB hb; clear hb hbox hg; have hcz16_0 := bc BK481 0; have hcz16_1 := bc BK481 1; have hfz16_0 := bf BK481 0; have hfz16_1 := bf BK481 1) | ((with_reducible refine gate_callee (f := 15) rfl ?_); refine gL (some 14) rfl rfl Try.func15 (by kernel_rfl) rfl #[.agg #[.int .i64 a0_0, .string a0_1], .int .i64 1048576] rfl ?_; (with_reducible refine (laws_szSigns.calls a0_0 a0_1 1048576 t482 _ A4.out).mono ?_); rintro e w17 ⟨rfl, hb⟩; refine ⟨_, rfl, ?_⟩; have n0_ := Aside0.mk (blk_below (g := gb481) (o := .cells #[.int .i64 a0_0, .string a0_1] 23 (0, 0)) (bk BK481) hb); have n1_ := bsg HB GE481 hb; clear BK481; clear HB; have BK481 := n0_; have HB := n1_; clear n0_ n1_; (try clear hb); (try clear hb2); (try clear hk); (try clear hi); have hcz18_0 := bc BK481 0; have hcz18_1 := bc BK481 1; have hfz18_0 := bf BK481 0; have hfz18_1 := bf BK481 1) | ((with_reducible refine gate_callee (f := 17) rfl ?_); refine gL (some 19) rfl rfl Try.func17 (by kernel_rfl) rfl #[.agg #[.int .i64 a0_0, .string a0_1]] rfl ?_; (with_reducible refine (laws_toSigns.calls a0_0 a0_1 t483 t484 _ A9.out).mono ?_); rintro e w19 ⟨rfl, hb⟩; refine ⟨_, rfl, ?_⟩; have n0_ := Aside0.mk (blk_below (g := gb481) (o := .cells #[.int .i64 a0_0, .string a0_1] 23 (0, 0)) (bk BK481) hb); have n1_ := bsg HB GE481 hb; clear BK481; clear HB; have BK481 := n0_; have HB := n1_; clear n0_ n1_; (try clear hb); (try clear hb2); (try clear hk); (try clear hi)) | ((with_reducible refine gate_callee (f := 29) rfl ?_); refine gL (some 22) rfl rfl Try.func29 (by kernel_rfl) rfl #[.agg #[.int .i64 t483, .string t484], .int .i64 a1, .int .i64 a2] rfl ?_; (with_reducible refine (spec_FlipEdge.calls k t483 t484 a1 a2 t485 t486 _ A10.out).mono ?_); rintro e w20 ⟨rfl, hb⟩; refine ⟨_, rfl, ?_⟩; have n0_ := Aside0.mk (blk_below (g := gb481) (o := .cells #[.int .i64 a0_0, .string a0_1] 23 (0, 0)) (bk BK481) hb); have n1_ := bsg HB GE481 hb; clear BK481; clear HB; have BK481 := n0_; have HB := n1_; clear n0_ n1_; (try clear hb); (try clear hb2); (try clear hk); (try clear hi); have hcz21_0 := bc BK481 0; have hcz21_1 := bc BK481 1; have hfz21_0 := bf BK481 0; have hfz21_1 := bf BK481 1) | ((with_reducible refine gate_callee (f := 17) rfl ?_); refine gL (some 27) rfl rfl Try.func17 (by kernel_rfl) rfl #[.agg #[.int .i64 a0_0, .string a0_1]] rfl ?_; (with_reducible refine (laws_toSigns.calls a0_0 a0_1 t487 t488 _ A11.out).mono ?_); rintro e w22 ⟨rfl, hb⟩; refine ⟨_, rfl, ?_⟩; have n0_ := Aside0.mk (blk_below (g := gb481) (o := .cells #[.int .i64 a0_0, .string a0_1] 23 (0, 0)) (bk BK481) hb); have n1_ := bsg HB GE481 hb; clear BK481; clear HB; have BK481 := n0_; have HB := n1_; clear n0_ n1_; (try clear hb); (try clear hb2); (try clear hk); (try clear hi)) | ((with_reducible refine gate_callee (f := 30) rfl ?_); refine gL (some 30) rfl rfl Try.func30 (by kernel_rfl) rfl #[.agg #[.int .i64 t487, .string t488], .int .i64 a1, .int .i64 a2] rfl ?_; (with_reducible refine (impl_FlipEdge.calls k t487 t488 a1 a2 t489 t490 _ A12.out).mono ?_); rintro e w23 ⟨rfl, hb⟩; refine ⟨_, rfl, ?_⟩; have n0_ := Aside0.mk (blk_below (g := gb481) (o := .cells #[.int .i64 a0_0, .string a0_1] 23 (0, 0)) (bk BK481) hb); have n1_ := bsg HB GE481 hb; clear BK481; clear HB; have BK481 := n0_; have HB := n1_; clear n0_ n1_; (try clear hb); (try clear hb2); (try clear hk); (try clear hi)))
    go_ret
    exact ⟨by first | rfl | (simp [errW_none, errW_some] <;> rfl) | (simp [*, errW_none, errW_some] <;> rfl), (bg HB GE481)⟩
   ·rw [if_neg c14] at H
    have c14b0 : (t490 != t486) = false := by simpa using c14
    (try (have c14b1 : decide (t490 = t486) = true := by simpa using c14))
    (try (have c14b2 : (t490 == t486) = true := by simpa using c14))
    clear c14
    obtain rfl := Option.some.inj H
    go_enter Try.func9, Try.ntmps9
    go_wp2_with (first | ((with_reducible refine gate_dst (N := 3) rfl ?_); refine bx 3 #[.int .i64 a0_0, .string a0_1] 23 ?_; intro gb481 hg w24 hbox hb; have BK481 := Aside0.mk hbox; have GE481 := gs HB hg; have GW481 := GE481; replace HB := bs HB hb; clear hb hbox hg; have hcz25_0 := bc BK481 0; have hcz25_1 := bc BK481 1; have hfz25_0 := bf BK481 0; have hfz25_1 := bf BK481 1) | ((with_reducible refine gate_callee (f := 15) rfl ?_); refine gL (some 14) rfl rfl Try.func15 (by kernel_rfl) rfl #[.agg #[.int .i64 a0_0, .string a0_1], .int .i64 1048576] rfl ?_; (with_reducible refine (laws_szSigns.calls a0_0 a0_1 1048576 t482 _ A4.out).mono ?_); rintro e w26 ⟨rfl, hb⟩; refine ⟨_, rfl, ?_⟩; have n0_ := Aside0.mk (blk_below (g := gb481) (o := .cells #[.int .i64 a0_0, .string a0_1] 23 (0, 0)) (bk BK481) hb); have n1_ := bsg HB GE481 hb; clear BK481; clear HB; have BK481 := n0_; have HB := n1_; clear n0_ n1_; (try clear hb); (try clear hb2); (try clear hk); (try clear hi); have hcz27_0 := bc BK481 0; have hcz27_1 := bc BK481 1; have hfz27_0 := bf BK481 0; have hfz27_1 := bf BK481 1) | ((with_reducible refine gate_callee (f := 17) rfl ?_); refine gL (some 19) rfl rfl Try.func17 (by kernel_rfl) rfl #[.agg #[.int .i64 a0_0, .string a0_1]] rfl ?_; (with_reducible refine (laws_toSigns.calls a0_0 a0_1 t483 t484 _ A9.out).mono ?_); rintro e w28 ⟨rfl, hb⟩; refine ⟨_, rfl, ?_⟩; have n0_ := Aside0.mk (blk_below (g := gb481) (o := .cells #[.int .i64 a0_0, .string a0_1] 23 (0, 0)) (bk BK481) hb); have n1_ := bsg HB GE481 hb; clear BK481; clear HB; have BK481 := n0_; have HB := n1_; clear n0_ n1_; (try clear hb); (try clear hb2); (try clear hk); (try clear hi)) | ((with_reducible refine gate_callee (f := 29) rfl ?_); refine gL (some 22) rfl rfl Try.func29 (by kernel_rfl) rfl #[.agg #[.int .i64 t483, .string t484], .int .i64 a1, .int .i64 a2] rfl ?_; (with_reducible refine (spec_FlipEdge.calls k t483 t484 a1 a2 t485 t486 _ A10.out).mono ?_); rintro e w29 ⟨rfl, hb⟩; refine ⟨_, rfl, ?_⟩; have n0_ := Aside0.mk (blk_below (g := gb481) (o := .cells #[.int .i64 a0_0, .string a0_1] 23 (0, 0)) (bk BK481) hb); have n1_ := bsg HB GE481 hb; clear BK481; clear HB; have BK481 := n0_; have HB := n1_; clear n0_ n1_; (try clear hb); (try clear hb2); (try clear hk); (try clear hi); have hcz30_0 := bc BK481 0; have hcz30_1 := bc BK481 1; have hfz30_0 := bf BK481 0; have hfz30_1 := bf BK481 1) | ((with_reducible refine gate_callee (f := 17) rfl ?_); refine gL (some 27) rfl rfl Try.func17 (by kernel_rfl) rfl #[.agg #[.int .i64 a0_0, .string a0_1]] rfl ?_; (with_reducible refine (laws_toSigns.calls a0_0 a0_1 t487 t488 _ A11.out).mono ?_); rintro e w31 ⟨rfl, hb⟩; refine ⟨_, rfl, ?_⟩; have n0_ := Aside0.mk (blk_below (g := gb481) (o := .cells #[.int .i64 a0_0, .string a0_1] 23 (0, 0)) (bk BK481) hb); have n1_ := bsg HB GE481 hb; clear BK481; clear HB; have BK481 := n0_; have HB := n1_; clear n0_ n1_; (try clear hb); (try clear hb2); (try clear hk); (try clear hi)) | ((with_reducible refine gate_callee (f := 30) rfl ?_); refine gL (some 30) rfl rfl Try.func30 (by kernel_rfl) rfl #[.agg #[.int .i64 t487, .string t488], .int .i64 a1, .int .i64 a2] rfl ?_; (with_reducible refine (impl_FlipEdge.calls k t487 t488 a1 a2 t489 t490 _ A12.out).mono ?_); rintro e w32 ⟨rfl, hb⟩; refine ⟨_, rfl, ?_⟩; have n0_ := Aside0.mk (blk_below (g := gb481) (o := .cells #[.int .i64 a0_0, .string a0_1] 23 (0, 0)) (bk BK481) hb); have n1_ := bsg HB GE481 hb; clear BK481; clear HB; have BK481 := n0_; have HB := n1_; clear n0_ n1_; (try clear hb); (try clear hb2); (try clear hk); (try clear hi)))
    go_ret
    exact ⟨by first | rfl | (simp [errW_none, errW_some] <;> rfl) | (simp [*, errW_none, errW_some] <;> rfl), (bg HB GE481)⟩
  ·rw [if_neg c13] at H
   have c13b0 : (t489 == t485) = false := beq_eq_false_iff_ne.mpr c13
   have c13b1 : (t489 != t485) = true := bne_iff_ne.mpr c13
   obtain rfl := Option.some.inj H
   go_enter Try.func9, Try.ntmps9
   go_wp2_with (first | ((with_reducible refine gate_dst (N := 3) rfl ?_); refine bx 3 #[.int .i64 a0_0, .string a0_1] 23 ?_; intro gb481 hg w33 hbox hb; have BK481 := Aside0.mk hbox; have GE481 := gs HB hg; have GW481 := GE481; replace HB := bs HB hb; clear hb hbox hg; have hcz34_0 := bc BK481 0; have hcz34_1 := bc BK481 1; have hfz34_0 := bf BK481 0; have hfz34_1 := bf BK481 1) | ((with_reducible refine gate_callee (f := 15) rfl ?_); refine gL (some 14) rfl rfl Try.func15 (by kernel_rfl) rfl #[.agg #[.int .i64 a0_0, .string a0_1], .int .i64 1048576] rfl ?_; (with_reducible refine (laws_szSigns.calls a0_0 a0_1 1048576 t482 _ A4.out).mono ?_); rintro e w35 ⟨rfl, hb⟩; refine ⟨_, rfl, ?_⟩; have n0_ := Aside0.mk (blk_below (g := gb481) (o := .cells #[.int .i64 a0_0, .string a0_1] 23 (0, 0)) (bk BK481) hb); have n1_ := bsg HB GE481 hb; clear BK481; clear HB; have BK481 := n0_; have HB := n1_; clear n0_ n1_; (try clear hb); (try clear hb2); (try clear hk); (try clear hi); have hcz36_0 := bc BK481 0; have hcz36_1 := bc BK481 1; have hfz36_0 := bf BK481 0; have hfz36_1 := bf BK481 1) | ((with_reducible refine gate_callee (f := 17) rfl ?_); refine gL (some 19) rfl rfl Try.func17 (by kernel_rfl) rfl #[.agg #[.int .i64 a0_0, .string a0_1]] rfl ?_; (with_reducible refine (laws_toSigns.calls a0_0 a0_1 t483 t484 _ A9.out).mono ?_); rintro e w37 ⟨rfl, hb⟩; refine ⟨_, rfl, ?_⟩; have n0_ := Aside0.mk (blk_below (g := gb481) (o := .cells #[.int .i64 a0_0, .string a0_1] 23 (0, 0)) (bk BK481) hb); have n1_ := bsg HB GE481 hb; clear BK481; clear HB; have BK481 := n0_; have HB := n1_; clear n0_ n1_; (try clear hb); (try clear hb2); (try clear hk); (try clear hi)) | ((with_reducible refine gate_callee (f := 29) rfl ?_); refine gL (some 22) rfl rfl Try.func29 (by kernel_rfl) rfl #[.agg #[.int .i64 t483, .string t484], .int .i64 a1, .int .i64 a2] rfl ?_; (with_reducible refine (spec_FlipEdge.calls k t483 t484 a1 a2 t485 t486 _ A10.out).mono ?_); rintro e w38 ⟨rfl, hb⟩; refine ⟨_, rfl, ?_⟩; have n0_ := Aside0.mk (blk_below (g := gb481) (o := .cells #[.int .i64 a0_0, .string a0_1] 23 (0, 0)) (bk BK481) hb); have n1_ := bsg HB GE481 hb; clear BK481; clear HB; have BK481 := n0_; have HB := n1_; clear n0_ n1_; (try clear hb); (try clear hb2); (try clear hk); (try clear hi); have hcz39_0 := bc BK481 0; have hcz39_1 := bc BK481 1; have hfz39_0 := bf BK481 0; have hfz39_1 := bf BK481 1) | ((with_reducible refine gate_callee (f := 17) rfl ?_); refine gL (some 27) rfl rfl Try.func17 (by kernel_rfl) rfl #[.agg #[.int .i64 a0_0, .string a0_1]] rfl ?_; (with_reducible refine (laws_toSigns.calls a0_0 a0_1 t487 t488 _ A11.out).mono ?_); rintro e w40 ⟨rfl, hb⟩; refine ⟨_, rfl, ?_⟩; have n0_ := Aside0.mk (blk_below (g := gb481) (o := .cells #[.int .i64 a0_0, .string a0_1] 23 (0, 0)) (bk BK481) hb); have n1_ := bsg HB GE481 hb; clear BK481; clear HB; have BK481 := n0_; have HB := n1_; clear n0_ n1_; (try clear hb); (try clear hb2); (try clear hk); (try clear hi)) | ((with_reducible refine gate_callee (f := 30) rfl ?_); refine gL (some 30) rfl rfl Try.func30 (by kernel_rfl) rfl #[.agg #[.int .i64 t487, .string t488], .int .i64 a1, .int .i64 a2] rfl ?_; (with_reducible refine (impl_FlipEdge.calls k t487 t488 a1 a2 t489 t490 _ A12.out).mono ?_); rintro e w41 ⟨rfl, hb⟩; refine ⟨_, rfl, ?_⟩; have n0_ := Aside0.mk (blk_below (g := gb481) (o := .cells #[.int .i64 a0_0, .string a0_1] 23 (0, 0)) (bk BK481) hb); have n1_ := bsg HB GE481 hb; clear BK481; clear HB; have BK481 := n0_; have HB := n1_; clear n0_ n1_; (try clear hb); (try clear hb2); (try clear hk); (try clear hi)))
   go_ret
   exact ⟨by first | rfl | (simp [errW_none, errW_some] <;> rfl) | (simp [*, errW_none, errW_some] <;> rfl), (bg HB GE481)⟩

/-- THE ONE PURE STATEMENT of laws_FnExactFlipEdge: yours. -/
def laws_FnExactFlipEdge.Pure : Prop := ∀ (a0_0 : Int) (a0_1 : ByteArray) (a1 : Int) (a2 : Int), (Lit.int .i64 a0_0).wf = true → a0_1.size ≤ 140737488351232 → (Lit.int .i64 a1).wf = true → (Lit.int .i64 a2).wf = true → ∃ k, laws_FnExactFlipEdge.f k a0_0 a0_1 a1 a2 = some true
theorem laws_FnExactFlipEdge.walk (P : laws_FnExactFlipEdge.Pure) (a0_0 : Int) (a0_1 : ByteArray) (a1 : Int) (a2 : Int) (w : World) (w0_0 : (Lit.int .i64 a0_0).wf = true) (w0_1 : a0_1.size ≤ 140737488351232) (w1 : (Lit.int .i64 a1).wf = true) (w2 : (Lit.int .i64 a2).wf = true) :
  Calls Try.prog 9 #[.agg #[.int .i64 a0_0, .string a0_1], .int .i64 a1, .int .i64 a2] w fun e w' => e = .returned (.bool true) ∧ Below w.heap.size w w' := by
 obtain ⟨k, h⟩ := P a0_0 a0_1 a1 a2 w0_0 w0_1 w1 w2
 refine (laws_FnExactFlipEdge.calls k a0_0 a0_1 a1 a2 true w h).mono ?_
 rintro e w' ⟨rfl, hd⟩
 exact ⟨rfl, hd⟩

end Go.Proofs.Ytjjfjdejhddcnaa.P
