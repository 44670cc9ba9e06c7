-- Printed by a program of this session (wip/tools/myprint.py, over the kit's print.py); not trusted: Lean checks it.
import Derived.Test.YtjjfjdejhddcnaaP0
import Derived.Test.YtjjfjdejhddcnaaOTri
import Derived.Test.YtjjfjdejhddcnaaP105
import Derived.Test.YtjjfjdejhddcnaaP15
import Derived.Test.YtjjfjdejhddcnaaP23
namespace Go.Proofs.Ytjjfjdejhddcnaa.P
open Go.RowKit Go.Proofs.YtjjfjdejhddcnaaW.PrintWords Go.Proofs.YtjjfjdejhddcnaaW.PrintLast Go.Proofs.YtjjfjdejhddcnaaW.PrintMore
attribute [local go_sem] max2_int min2_int max_two min_two max_three min_three max_four min_four   -- for this text's walks alone
set_option linter.unusedVariables false
set_option linter.unusedSimpArgs false

/-! ### laws_FnExactIsTriangulation: function 6 -/
def laws_FnExactIsTriangulation.f (k : Nat) (a0_0 : Int) (a0_1 : ByteArray) (a1 : Int) : Option (Bool) := (laws_szSigns.f a0_0 a0_1 1048576).bind fun t414 => (if t414 < 0 then (some true) else ((laws_toSigns.f a0_0 a0_1).bind fun bt415 => ((spec_IsTriangulation.f k bt415.1 bt415.2 a1).bind fun t417 => ((laws_toSigns.f a0_0 a0_1).bind fun bt418 => ((impl_IsTriangulation.f k bt418.1 bt418.2 a1).bind fun t420 => (if (t420 != t417) = true then (some false) else (some true)))))))
theorem laws_FnExactIsTriangulation.mono : ∀ a0 a1 a2 k, LeO (laws_FnExactIsTriangulation.f k a0 a1 a2) (laws_FnExactIsTriangulation.f (k + 1) a0 a1 a2) := by
 intro a0 a1 a2 k
 unfold laws_FnExactIsTriangulation.f
 repeat' first
   | (with_reducible exact impl_IsTriangulation.mono _ _ _ _)
   | (with_reducible exact spec_IsTriangulation.mono _ _ _ _)
   | (with_reducible exact LeO.refl _)
   | (with_reducible exact LeO.none _)
   | (with_reducible refine LeO.ite ?_ ?_)
   | (with_reducible refine LeO.bind ?_ (fun _ => ?_))
   | exact impl_IsTriangulation.mono _ _ _ _
   | exact spec_IsTriangulation.mono _ _ _ _
   | exact LeO.none _
   | refine LeO.ite ?_ ?_
   | refine LeO.bind ?_ (fun _ => ?_)
set_option maxHeartbeats 8000000 in
set_option maxRecDepth 100000 in
theorem laws_FnExactIsTriangulation.calls (k : Nat) (a0_0 : Int) (a0_1 : ByteArray) (a1 : Int) (r : Bool) (w : World) (h : laws_FnExactIsTriangulation.f k a0_0 a0_1 a1 = some r) :
  Calls Try.prog 6 #[.agg #[.int .i64 a0_0, .string a0_1], .int .i64 a1] w fun e w' => e = .returned (.bool r) ∧ Below w.heap.size w w' := by
 have hu23 := Try.underlying23
 have HB := Aside0.mk (Below.refl w.heap.size w)
 have H : ((laws_szSigns.f a0_0 a0_1 1048576).bind fun t414 => (if t414 < 0 then (some true) else ((laws_toSigns.f a0_0 a0_1).bind fun bt415 => ((spec_IsTriangulation.f k bt415.1 bt415.2 a1).bind fun t417 => ((laws_toSigns.f a0_0 a0_1).bind fun bt418 => ((impl_IsTriangulation.f k bt418.1 bt418.2 a1).bind fun t420 => (if (t420 != t417) = true then (some false) else (some true)))))))) = some r := h
 clear h
 replace H := Option.bind_eq_some_iff.mp H
 obtain ⟨t414, A30, H⟩ := H
 (try dsimp only at H)
 have A3 := Aside0.mk A30
 clear A30
 by_cases c4 : t414 < 0
 ·rw [if_pos c4] at H
  have c4b0 : decide (t414 < 0) = true := decide_eq_true c4
  clear c4
  obtain rfl := Option.some.inj H
  go_enter Try.func6, Try.ntmps6
  go_wp2_with (first | ((with_reducible refine gate_dst (N := 2) rfl ?_); refine bx 2 #[.int .i64 a0_0, .string a0_1] 23 ?_; intro gb413 hg w5 hbox hb; have BK413 := Aside0.mk hbox; have GE413 := gs HB hg; have GW413 := GE413; replace HB := bs HB hb; clear hb hbox hg; have hcz6_0 := bc BK413 0; have hcz6_1 := bc BK413 1; have hfz6_0 := bf BK413 0; have hfz6_1 := bf BK413 1) | ((with_reducible refine gate_callee (f := 15) rfl ?_); refine gL (some 10) rfl rfl Try.func15 (by kernel_rfl) rfl #[.agg #[.int .i64 a0_0, .string a0_1], .int .i64 1048576] rfl ?_; (with_reducible refine (laws_szSigns.calls a0_0 a0_1 1048576 t414 _ A3.out).mono ?_); rintro e w7 ⟨rfl, hb⟩; refine ⟨_, rfl, ?_⟩; have n0_ := Aside0.mk (blk_below (g := gb413) (o := .cells #[.int .i64 a0_0, .string a0_1] 23 (0, 0)) (bk BK413) hb); have n1_ := bsg HB GE413 hb; clear BK413; clear HB; have BK413 := n0_; have HB := n1_; clear n0_ n1_; (try clear hb); (try clear hb2); (try clear hk); (try clear hi)))
  go_ret
  exact ⟨by first | rfl | (simp [errW_none, errW_some] <;> rfl) | (simp [*, errW_none, errW_some] <;> rfl), (bg HB GE413)⟩
 ·rw [if_neg c4] at H
  have c4b0 : decide (t414 < 0) = false := decide_eq_false c4
  clear c4
  replace H := Option.bind_eq_some_iff.mp H
  obtain ⟨⟨t415, t416⟩, A80, H⟩ := H
  (try dsimp only at H)
  have A8 := Aside0.mk A80
  clear A80
  replace H := Option.bind_eq_some_iff.mp H
  obtain ⟨t417, A90, H⟩ := H
  (try dsimp only at H)
  have A9 := Aside0.mk A90
  clear A90
  replace H := Option.bind_eq_some_iff.mp H
  obtain ⟨⟨t418, t419⟩, A100, H⟩ := H
  (try dsimp only at H)
  have A10 := Aside0.mk A100
  clear A100
  replace H := Option.bind_eq_some_iff.mp H
  obtain ⟨t420, A110, H⟩ := H
  (try dsimp only at H)
  have A11 := Aside0.mk A110
  clear A110
  by_cases c12 : (t420 != t417) = true
  ·rw [if_pos c12] at H
   have c12b0 : (t420 != t417) = true := c12
   (try (have c12b1 : decide (t420 = t417) = false := by simpa using c12))
   (try (have c12b2 : (t420 == t417) = false := by simpa using c12))
   (try (have c12b3 : ¬ (t420 = t417) := by simpa using c12))
   clear c12
   obtain rfl := Option.some.inj H
   go_enter Try.func6, Try.ntmps6
   go_wp2_with (first | ((with_reducible refine gate_dst (N := 2) rfl ?_); refine bx 2 #[.int .i64 a0_0, .string a0_1] 23 ?_; intro gb413 hg w13 hbox hb; have BK413 := Aside0.mk hbox; have GE413 := gs HB hg; have GW413 := GE413; replace HB := bs HB hb; clear hb hbox hg; have hcz14_0 := bc BK413 0; have hcz14_1 := bc BK413 1; have hfz14_0 := bf BK413 0; have hfz14_1 := bf BK413 1) | ((with_reducible refine gate_callee (f := 15) rfl ?_); refine gL (some 10) rfl rfl Try.func15 (by kernel_rfl) rfl #[.agg #[.int .i64 a0_0, .string a0_1], .int .i64 1048576] rfl ?_; (with_reducible refine (laws_szSigns.calls a0_0 a0_1 1048576 t414 _ A3.out).mono ?_); rintro e w15 ⟨rfl, hb⟩; refine ⟨_, rfl, ?_⟩; have n0_ := Aside0.mk (blk_below (g := gb413) (o := .cells #[.int .i64 a0_0, .string a0_1] 23 (0, 0)) (bk BK413) hb); have n1_ := bsg HB GE413 hb; clear BK413; clear HB; have BK413 := n0_; have HB := n1_; clear n0_ n1_; (try clear hb); (try clear hb2); (try clear hk); (try clear hi); have hcz16_0 := bc BK413 0; have hcz16_1 := bc BK413 1; have hfz16_0 := bf BK413 0; have hfz16_1 := bf BK413 1) | ((with_reducible refine gate_callee (f := 17) rfl ?_); refine gL (some 14) rfl rfl Try.func17 (by kernel_rfl) rfl #[.agg #[.int .i64 a0_0, .string a0_1]] rfl ?_; (with_reducible refine (laws_toSigns.calls a0_0 a0_1 t415 t416 _ A8.out).mono ?_); rintro e w17 ⟨rfl, hb⟩; refine ⟨_, rfl, ?_⟩; have n0_ := Aside0.mk (blk_below (g := gb413) (o := .cells #[.int .i64 a0_0, .string a0_1] 23 (0, 0)) (bk BK413) hb); have n1_ := bsg HB GE413 hb; clear BK413; clear HB; have BK413 := n0_; have HB := n1_; clear n0_ n1_; (try clear hb); (try clear hb2); (try clear hk); (try clear hi)) | ((with_reducible refine gate_callee (f := 23) rfl ?_); refine gL (some 16) rfl rfl Try.func23 (by kernel_rfl) rfl #[.agg #[.int .i64 t415, .string t416], .int .i64 a1] rfl ?_; (with_reducible refine (spec_IsTriangulation.calls k t415 t416 a1 t417 _ A9.out).mono ?_); rintro e w18 ⟨rfl, hb⟩; refine ⟨_, rfl, ?_⟩; have n0_ := Aside0.mk (blk_below (g := gb413) (o := .cells #[.int .i64 a0_0, .string a0_1] 23 (0, 0)) (bk BK413) hb); have n1_ := bsg HB GE413 hb; clear BK413; clear HB; have BK413 := n0_; have HB := n1_; clear n0_ n1_; (try clear hb); (try clear hb2); (try clear hk); (try clear hi); have hcz19_0 := bc BK413 0; have hcz19_1 := bc BK413 1; have hfz19_0 := bf BK413 0; have hfz19_1 := bf BK413 1) | ((with_reducible refine gate_callee (f := 17) rfl ?_); refine gL (some 18) rfl rfl Try.func17 (by kernel_rfl) rfl #[.agg #[.int .i64 a0_0, .string a0_1]] rfl ?_; (with_reducible refine (laws_toSigns.calls a0_0 a0_1 t418 t419 _ A10.out).mono ?_); rintro e w20 ⟨rfl, hb⟩; refine ⟨_, rfl, ?_⟩; have n0_ := Aside0.mk (blk_below (g := gb413) (o := .cells #[.int .i64 a0_0, .string a0_1] 23 (0, 0)) (bk BK413) hb); have n1_ := bsg HB GE413 hb; clear BK413; clear HB; have BK413 := n0_; have HB := n1_; clear n0_ n1_; (try clear hb); (try clear hb2); (try clear hk); (try clear hi)) | ((with_reducible refine gate_callee (f := 24) rfl ?_); refine gL (some 20) rfl rfl Try.func24 (by kernel_rfl) rfl #[.agg #[.int .i64 t418, .string t419], .int .i64 a1] rfl ?_; (with_reducible refine (impl_IsTriangulation.calls k t418 t419 a1 t420 _ A11.out).mono ?_); rintro e w21 ⟨rfl, hb⟩; refine ⟨_, rfl, ?_⟩; have n0_ := Aside0.mk (blk_below (g := gb413) (o := .cells #[.int .i64 a0_0, .string a0_1] 23 (0, 0)) (bk BK413) hb); have n1_ := bsg HB GE413 hb; clear BK413; clear HB; have BK413 := n0_; have HB := n1_; clear n0_ n1_; (try clear hb); (try clear hb2); (try clear hk); (try clear hi)))
   go_ret
   exact ⟨by first | rfl | (simp [errW_none, errW_some] <;> rfl) | (simp [*, errW_none, errW_some] <;> rfl), (bg HB GE413)⟩
  ·rw [if_neg c12] at H
   have c12b0 : (t420 != t417) = false := by simpa using c12
   (try (have c12b1 : decide (t420 = t417) = true := by simpa using c12))
   (try (have c12b2 : (t420 == t417) = true := by simpa using c12))
   clear c12
   obtain rfl := Option.some.inj H
   go_enter Try.func6, Try.ntmps6
   go_wp2_with (first | ((with_reducible refine gate_dst (N := 2) rfl ?_); refine bx 2 #[.int .i64 a0_0, .string a0_1] 23 ?_; intro gb413 hg w22 hbox hb; have BK413 := Aside0.mk hbox; have GE413 := gs HB hg; have GW413 := GE413; replace HB := bs HB hb; clear hb hbox hg; have hcz23_0 := bc BK413 0; have hcz23_1 := bc BK413 1; have hfz23_0 := bf BK413 0; have hfz23_1 := bf BK413 1) | ((with_reducible refine gate_callee (f := 15) rfl ?_); refine gL (some 10) rfl rfl Try.func15 (by kernel_rfl) rfl #[.agg #[.int .i64 a0_0, .string a0_1], .int .i64 1048576] rfl ?_; (with_reducible refine (laws_szSigns.calls a0_0 a0_1 1048576 t414 _ A3.out).mono ?_); rintro e w24 ⟨rfl, hb⟩; refine ⟨_, rfl, ?_⟩; have n0_ := Aside0.mk (blk_below (g := gb413) (o := .cells #[.int .i64 a0_0, .string a0_1] 23 (0, 0)) (bk BK413) hb); have n1_ := bsg HB GE413 hb; clear BK413; clear HB; have BK413 := n0_; have HB := n1_; clear n0_ n1_; (try clear hb); (try clear hb2); (try clear hk); (try clear hi); have hcz25_0 := bc BK413 0; have hcz25_1 := bc BK413 1; have hfz25_0 := bf BK413 0; have hfz25_1 := bf BK413 1) | ((with_reducible refine gate_callee (f := 17) rfl ?_); refine gL (some 14) rfl rfl Try.func17 (by kernel_rfl) rfl #[.agg #[.int .i64 a0_0, .string a0_1]] rfl ?_; (with_reducible refine (laws_toSigns.calls a0_0 a0_1 t415 t416 _ A8.out).mono ?_); rintro e w26 ⟨rfl, hb⟩; refine ⟨_, rfl, ?_⟩; have n0_ := Aside0.mk (blk_below (g := gb413) (o := .cells #[.int .i64 a0_0, .string a0_1] 23 (0, 0)) (bk BK413) hb); have n1_ := bsg HB GE413 hb; clear BK413; clear HB; have BK413 := n0_; have HB := n1_; clear n0_ n1_; (try clear hb); (try clear hb2); (try clear hk); (try clear hi)) | ((with_reducible refine gate_callee (f := 23) rfl ?_); refine gL (some 16) rfl rfl Try.func23 (by kernel_rfl) rfl #[.agg #[.int .i64 t415, .string t416], .int .i64 a1] rfl ?_; (with_reducible refine (spec_IsTriangulation.calls k t415 t416 a1 t417 _ A9.out).mono ?_); rintro e w27 ⟨rfl, hb⟩; refine ⟨_, rfl, ?_⟩; have n0_ := Aside0.mk (blk_below (g := gb413) (o := .cells #[.int .i64 a0_0, .string a0_1] 23 (0, 0)) (bk BK413) hb); have n1_ := bsg HB GE413 hb; clear BK413; clear HB; have BK413 := n0_; have HB := n1_; clear n0_ n1_; (try clear hb); (try clear hb2); (try clear hk); (try clear hi); have hcz28_0 := bc BK413 0; have hcz28_1 := bc BK413 1; have hfz28_0 := bf BK413 0; have hfz28_1 := bf BK413 1) | ((with_reducible refine gate_callee (f := 17) rfl ?_); refine gL (some 18) rfl rfl Try.func17 (by kernel_rfl) rfl #[.agg #[.int .i64 a0_0, .string a0_1]] rfl ?_; (with_reducible refine (laws_toSigns.calls a0_0 a0_1 t418 t419 _ A10.out).mono ?_); rintro e w29 ⟨rfl, hb⟩; refine ⟨_, rfl, ?_⟩; have n0_ := Aside0.mk (blk_below (g := gb413) (o := .cells #[.int .i64 a0_0, .string a0_1] 23 (0, 0)) (bk BK413) hb); have n1_ := bsg HB GE413 hb; clear BK413; clear HB; have BK413 := n0_; have HB := n1_; clear n0_ n1_; (try clear hb); (try clear hb2); (try clear hk); (try clear hi)) | ((with_reducible refine gate_callee (f := 24) rfl ?_); refine gL (some 20) rfl rfl Try.func24 (by kernel_rfl) rfl #[.agg #[.int .i64 t418, .string t419], .int .i64 a1] rfl ?_; (with_reducible refine (impl_IsTriangulation.calls k t418 t419 a1 t420 _ A11.out).mono ?_); rintro e w30 ⟨rfl, hb⟩; refine ⟨_, rfl, ?_⟩; have n0_ := Aside0.mk (blk_below (g := gb413) (o := .cells #[.int .i64 a0_0, .string a0_1] 23 (0, 0)) (bk BK413) hb); have n1_ := bsg HB GE413 hb; clear BK413; clear HB; have BK413 := n0_; have HB := n1_; clear n0_ n1_; (try clear hb); (try clear hb2); (try clear hk); (try clear hi)))
   go_ret
   exact ⟨by first | rfl | (simp [errW_none, errW_some] <;> rfl) | (simp [*, errW_none, errW_some] <;> rfl), (bg HB GE413)⟩

/-- THE ONE PURE STATEMENT of laws_FnExactIsTriangulation: yours. -/
def laws_FnExactIsTriangulation.Pure : Prop := ∀ (a0_0 : Int) (a0_1 : ByteArray) (a1 : Int), (Lit.int .i64 a0_0).wf = true → a0_1.size ≤ 140737488351232 → (Lit.int .i64 a1).wf = true → ∃ k, laws_FnExactIsTriangulation.f k a0_0 a0_1 a1 = some true
theorem laws_FnExactIsTriangulation.walk (P : laws_FnExactIsTriangulation.Pure) (a0_0 : Int) (a0_1 : ByteArray) (a1 : Int) (w : World) (w0_0 : (Lit.int .i64 a0_0).wf = true) (w0_1 : a0_1.size ≤ 140737488351232) (w1 : (Lit.int .i64 a1).wf = true) :
  Calls Try.prog 6 #[.agg #[.int .i64 a0_0, .string a0_1], .int .i64 a1] w fun e w' => e = .returned (.bool true) ∧ Below w.heap.size w w' := by
 obtain ⟨k, h⟩ := P a0_0 a0_1 a1 w0_0 w0_1 w1
 refine (laws_FnExactIsTriangulation.calls k a0_0 a0_1 a1 true w h).mono ?_
 rintro e w' ⟨rfl, hd⟩
 exact ⟨rfl, hd⟩

end Go.Proofs.Ytjjfjdejhddcnaa.P
