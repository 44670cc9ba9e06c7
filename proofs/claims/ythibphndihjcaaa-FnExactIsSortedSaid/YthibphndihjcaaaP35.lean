-- Printed by a program of this session (wip/tools/myprint.py, over the kit's print.py); not trusted: Lean checks it.
import Derived.Test.YthibphndihjcaaaP0
import Derived.Test.YthibphndihjcaaaOWsg
import Derived.Test.YthibphndihjcaaaP34
import Derived.Test.YthibphndihjcaaaP38
namespace Go.Proofs.Ythibphndihjcaaa.P
open Go.RowKit Go.Proofs.YthibphndihjcaaaW.PrintWords Go.Proofs.YthibphndihjcaaaW.PrintLast Go.Proofs.YthibphndihjcaaaW.PrintMore
attribute [local go_sem] max2_int min2_int max_two min_two max_three min_three max_four min_four   -- for this text's walks alone
set_option linter.unusedVariables false
set_option linter.unusedSimpArgs false

/-! ### spec_IsSorted: function 35 -/
def spec_IsSorted.f (k : Nat) (a0_0 : Int) (a0_1 : ByteArray) : Option (Bool) := (spec_WiringOfSigns.f k a0_0 a0_1).bind fun bt458 => (some bt458.2)
theorem spec_IsSorted.mono : ∀ a0 a1 k, LeO (spec_IsSorted.f k a0 a1) (spec_IsSorted.f (k + 1) a0 a1) := by
 intro a0 a1 k
 unfold spec_IsSorted.f
 repeat' first
   | (with_reducible exact spec_WiringOfSigns.mono _ _ _)
   | (with_reducible exact LeO.refl _)
   | (with_reducible exact LeO.none _)
   | (with_reducible refine LeO.ite ?_ ?_)
   | (with_reducible refine LeO.bind ?_ (fun _ => ?_))
   | exact spec_WiringOfSigns.mono _ _ _
   | exact LeO.none _
   | refine LeO.ite ?_ ?_
   | refine LeO.bind ?_ (fun _ => ?_)
set_option maxHeartbeats 8000000 in
set_option maxRecDepth 100000 in
theorem spec_IsSorted.calls (k : Nat) (a0_0 : Int) (a0_1 : ByteArray) (r : Bool) (w : World) (h : spec_IsSorted.f k a0_0 a0_1 = some r) :
  Calls Try.prog 35 #[.agg #[.int .i64 a0_0, .string a0_1]] w fun e w' => e = .returned (.bool r) ∧ Below w.heap.size w w' := by
 have hu28 := Try.underlying28
 have HB := Aside0.mk (Below.refl w.heap.size w)
 have H : ((spec_WiringOfSigns.f k a0_0 a0_1).bind fun bt458 => (some bt458.2)) = some r := h
 clear h
 replace H := Option.bind_eq_some_iff.mp H
 obtain ⟨⟨t458, t461⟩, A20, H⟩ := H
 (try dsimp only at H)
 have A2 := Aside0.mk A20
 clear A20
 obtain rfl := Option.some.inj H
 go_enter Try.func35, Try.ntmps35
 go_wp2_with (first | ((with_reducible refine gate_dst (N := 1) rfl ?_); refine bx 1 #[.int .i64 a0_0, .string a0_1] 28 ?_; intro gb457 hg w3 hbox hb; have BK457 := Aside0.mk hbox; have GE457 := gs HB hg; have GW457 := GE457; replace HB := bs HB hb; clear hb hbox hg; have hcz4_0 := bc BK457 0; have hcz4_1 := bc BK457 1; have hfz4_0 := bf BK457 0; have hfz4_1 := bf BK457 1) | ((with_reducible refine gate_callee (f := 38) rfl ?_); refine gL (some 7) rfl rfl Try.func38 (by kernel_rfl) rfl #[.agg #[.int .i64 a0_0, .string a0_1]] rfl ?_; (with_reducible refine (spec_WiringOfSigns.calls k a0_0 a0_1 t458 t461 _ A2.out).mono ?_); rintro e w5 ⟨v459, rfl, ho0, hb⟩; refine ⟨_, rfl, ?_⟩; have n0_ := Aside0.mk (Kd.R_lower ho0 (below_size (bg HB GE457))); have n1_ := Aside0.mk (blk_below (g := gb457) (o := .cells #[.int .i64 a0_0, .string a0_1] 28 (0, 0)) (bk BK457) hb); have n2_ := bsg HB GE457 hb; clear BK457; clear HB; have HO460 := n0_; have BK457 := n1_; have HB := n2_; clear n0_ n1_ n2_; (try clear hb); (try clear hb2); (try clear hk); (try clear hi); (try clear ho0)))
 go_ret
 exact ⟨by first | rfl | (simp [errW_none, errW_some] <;> rfl) | (simp [*, errW_none, errW_some] <;> rfl), (bg HB GE457)⟩

/-! ### laws_FnExactIsSorted: function 9 -/
def laws_FnExactIsSorted.f (k : Nat) (a0_0 : Int) (a0_1 : ByteArray) : Option (Bool) := (laws_szSigns.f a0_0 a0_1 1048576).bind fun t478 => (if t478 < 0 then (some true) else ((laws_toSigns.f a0_0 a0_1).bind fun bt479 => ((spec_IsSorted.f k bt479.1 bt479.2).bind fun t481 => ((laws_toSigns.f a0_0 a0_1).bind fun bt482 => ((impl_IsSorted.f k bt482.1 bt482.2).bind fun t484 => (if (t484 != t481) = true then (some false) else (some true)))))))
theorem laws_FnExactIsSorted.mono : ∀ a0 a1 k, LeO (laws_FnExactIsSorted.f k a0 a1) (laws_FnExactIsSorted.f (k + 1) a0 a1) := by
 intro a0 a1 k
 unfold laws_FnExactIsSorted.f
 repeat' first
   | (with_reducible exact impl_IsSorted.mono _ _ _)
   | (with_reducible exact spec_IsSorted.mono _ _ _)
   | (with_reducible exact LeO.refl _)
   | (with_reducible exact LeO.none _)
   | (with_reducible refine LeO.ite ?_ ?_)
   | (with_reducible refine LeO.bind ?_ (fun _ => ?_))
   | exact impl_IsSorted.mono _ _ _
   | exact spec_IsSorted.mono _ _ _
   | exact LeO.none _
   | refine LeO.ite ?_ ?_
   | refine LeO.bind ?_ (fun _ => ?_)
set_option maxHeartbeats 8000000 in
set_option maxRecDepth 100000 in
theorem laws_FnExactIsSorted.calls (k : Nat) (a0_0 : Int) (a0_1 : ByteArray) (r : Bool) (w : World) (h : laws_FnExactIsSorted.f k a0_0 a0_1 = some r) :
  Calls Try.prog 9 #[.agg #[.int .i64 a0_0, .string a0_1]] w fun e w' => e = .returned (.bool r) ∧ Below w.heap.size w w' := by
 have hu41 := Try.underlying41
 have HB := Aside0.mk (Below.refl w.heap.size w)
 have H : ((laws_szSigns.f a0_0 a0_1 1048576).bind fun t478 => (if t478 < 0 then (some true) else ((laws_toSigns.f a0_0 a0_1).bind fun bt479 => ((spec_IsSorted.f k bt479.1 bt479.2).bind fun t481 => ((laws_toSigns.f a0_0 a0_1).bind fun bt482 => ((impl_IsSorted.f k bt482.1 bt482.2).bind fun t484 => (if (t484 != t481) = true then (some false) else (some true)))))))) = some r := h
 clear h
 replace H := Option.bind_eq_some_iff.mp H
 obtain ⟨t478, A20, H⟩ := H
 (try dsimp only at H)
 have A2 := Aside0.mk A20
 clear A20
 by_cases c3 : t478 < 0
 ·rw [if_pos c3] at H
  have c3b0 : decide (t478 < 0) = true := decide_eq_true c3
  clear c3
  obtain rfl := Option.some.inj H
  go_enter Try.func9, Try.ntmps9
  go_wp2_with (first | ((with_reducible refine gate_dst (N := 1) rfl ?_); refine bx 1 #[.int .i64 a0_0, .string a0_1] 41 ?_; intro gb477 hg w4 hbox hb; have BK477 := Aside0.mk hbox; have GE477 := gs HB hg; have GW477 := GE477; replace HB := bs HB hb; clear hb hbox hg; have hcz5_0 := bc BK477 0; have hcz5_1 := bc BK477 1; have hfz5_0 := bf BK477 0; have hfz5_1 := bf BK477 1) | ((with_reducible refine gate_callee (f := 34) rfl ?_); refine gL (some 8) rfl rfl Try.func34 (by kernel_rfl) rfl #[.agg #[.int .i64 a0_0, .string a0_1], .int .i64 1048576] rfl ?_; (with_reducible refine (laws_szSigns.calls a0_0 a0_1 1048576 t478 _ A2.out).mono ?_); rintro e w6 ⟨rfl, hb⟩; refine ⟨_, rfl, ?_⟩; have n0_ := Aside0.mk (blk_below (g := gb477) (o := .cells #[.int .i64 a0_0, .string a0_1] 41 (0, 0)) (bk BK477) hb); have n1_ := bsg HB GE477 hb; clear BK477; clear HB; have BK477 := n0_; have HB := n1_; clear n0_ n1_; (try clear hb); (try clear hb2); (try clear hk); (try clear hi)))
  go_ret
  exact ⟨by first | rfl | (simp [errW_none, errW_some] <;> rfl) | (simp [*, errW_none, errW_some] <;> rfl), (bg HB GE477)⟩
 ·rw [if_neg c3] at H
  have c3b0 : decide (t478 < 0) = false := decide_eq_false c3
  clear c3
  replace H := Option.bind_eq_some_iff.mp H
  obtain ⟨⟨t479, t480⟩, A70, H⟩ := H
  (try dsimp only at H)
  have A7 := Aside0.mk A70
  clear A70
  replace H := Option.bind_eq_some_iff.mp H
  obtain ⟨t481, A80, H⟩ := H
  (try dsimp only at H)
  have A8 := Aside0.mk A80
  clear A80
  replace H := Option.bind_eq_some_iff.mp H
  obtain ⟨⟨t482, t483⟩, A90, H⟩ := H
  (try dsimp only at H)
  have A9 := Aside0.mk A90
  clear A90
  replace H := Option.bind_eq_some_iff.mp H
  obtain ⟨t484, A100, H⟩ := H
  (try dsimp only at H)
  have A10 := Aside0.mk A100
  clear A100
  by_cases c11 : (t484 != t481) = true
  ·rw [if_pos c11] at H
   have c11b0 : (t484 != t481) = true := c11
   (try (have c11b1 : decide (t484 = t481) = false := by simpa using c11))
   (try (have c11b2 : (t484 == t481) = false := by simpa using c11))
   (try (have c11b3 : ¬ (t484 = t481) := by simpa using c11))
   clear c11
   obtain rfl := Option.some.inj H
   go_enter Try.func9, Try.ntmps9
   go_wp2_with (first | ((with_reducible refine gate_dst (N := 1) rfl ?_); refine bx 1 #[.int .i64 a0_0, .string a0_1] 41 ?_; intro gb477 hg w12 hbox hb; have BK477 := Aside0.mk hbox; have GE477 := gs HB hg; have GW477 := GE477; replace HB := bs HB hb; clear hb hbox hg; have hcz13_0 := bc BK477 0; have hcz13_1 := bc BK477 1; have hfz13_0 := bf BK477 0; have hfz13_1 := bf BK477 1) | ((with_reducible refine gate_callee (f := 34) rfl ?_); refine gL (some 8) rfl rfl Try.func34 (by kernel_rfl) rfl #[.agg #[.int .i64 a0_0, .string a0_1], .int .i64 1048576] rfl ?_; (with_reducible refine (laws_szSigns.calls a0_0 a0_1 1048576 t478 _ A2.out).mono ?_); rintro e w14 ⟨rfl, hb⟩; refine ⟨_, rfl, ?_⟩; have n0_ := Aside0.mk (blk_below (g := gb477) (o := .cells #[.int .i64 a0_0, .string a0_1] 41 (0, 0)) (bk BK477) hb); have n1_ := bsg HB GE477 hb; clear BK477; clear HB; have BK477 := n0_; have HB := n1_; clear n0_ n1_; (try clear hb); (try clear hb2); (try clear hk); (try clear hi); have hcz15_0 := bc BK477 0; have hcz15_1 := bc BK477 1; have hfz15_0 := bf BK477 0; have hfz15_1 := bf BK477 1) | ((with_reducible refine gate_callee (f := 36) rfl ?_); refine gL (some 12) rfl rfl Try.func36 (by kernel_rfl) rfl #[.agg #[.int .i64 a0_0, .string a0_1]] rfl ?_; (with_reducible refine (laws_toSigns.calls a0_0 a0_1 t479 t480 _ A7.out).mono ?_); rintro e w16 ⟨rfl, hb⟩; refine ⟨_, rfl, ?_⟩; have n0_ := Aside0.mk (blk_below (g := gb477) (o := .cells #[.int .i64 a0_0, .string a0_1] 41 (0, 0)) (bk BK477) hb); have n1_ := bsg HB GE477 hb; clear BK477; clear HB; have BK477 := n0_; have HB := n1_; clear n0_ n1_; (try clear hb); (try clear hb2); (try clear hk); (try clear hi)) | ((with_reducible refine gate_callee (f := 35) rfl ?_); refine gL (some 13) rfl rfl Try.func35 (by kernel_rfl) rfl #[.agg #[.int .i64 t479, .string t480]] rfl ?_; (with_reducible refine (spec_IsSorted.calls k t479 t480 t481 _ A8.out).mono ?_); rintro e w17 ⟨rfl, hb⟩; refine ⟨_, rfl, ?_⟩; have n0_ := Aside0.mk (blk_below (g := gb477) (o := .cells #[.int .i64 a0_0, .string a0_1] 41 (0, 0)) (bk BK477) hb); have n1_ := bsg HB GE477 hb; clear BK477; clear HB; have BK477 := n0_; have HB := n1_; clear n0_ n1_; (try clear hb); (try clear hb2); (try clear hk); (try clear hi); have hcz18_0 := bc BK477 0; have hcz18_1 := bc BK477 1; have hfz18_0 := bf BK477 0; have hfz18_1 := bf BK477 1) | ((with_reducible refine gate_callee (f := 36) rfl ?_); refine gL (some 15) rfl rfl Try.func36 (by kernel_rfl) rfl #[.agg #[.int .i64 a0_0, .string a0_1]] rfl ?_; (with_reducible refine (laws_toSigns.calls a0_0 a0_1 t482 t483 _ A9.out).mono ?_); rintro e w19 ⟨rfl, hb⟩; refine ⟨_, rfl, ?_⟩; have n0_ := Aside0.mk (blk_below (g := gb477) (o := .cells #[.int .i64 a0_0, .string a0_1] 41 (0, 0)) (bk BK477) hb); have n1_ := bsg HB GE477 hb; clear BK477; clear HB; have BK477 := n0_; have HB := n1_; clear n0_ n1_; (try clear hb); (try clear hb2); (try clear hk); (try clear hi)) | ((with_reducible refine gate_callee (f := 37) rfl ?_); refine gL (some 16) rfl rfl Try.func37 (by kernel_rfl) rfl #[.agg #[.int .i64 t482, .string t483]] rfl ?_; (with_reducible refine (impl_IsSorted.calls k t482 t483 t484 _ A10.out).mono ?_); rintro e w20 ⟨rfl, hb⟩; refine ⟨_, rfl, ?_⟩; have n0_ := Aside0.mk (blk_below (g := gb477) (o := .cells #[.int .i64 a0_0, .string a0_1] 41 (0, 0)) (bk BK477) hb); have n1_ := bsg HB GE477 hb; clear BK477; clear HB; have BK477 := n0_; have HB := n1_; clear n0_ n1_; (try clear hb); (try clear hb2); (try clear hk); (try clear hi)))
   go_ret
   exact ⟨by first | rfl | (simp [errW_none, errW_some] <;> rfl) | (simp [*, errW_none, errW_some] <;> rfl), (bg HB GE477)⟩
  ·rw [if_neg c11] at H
   have c11b0 : (t484 != t481) = false := by simpa using c11
   (try (have c11b1 : decide (t484 = t481) = true := by simpa using c11))
   (try (have c11b2 : (t484 == t481) = true := by simpa using c11))
   clear c11
   obtain rfl := Option.some.inj H
   go_enter Try.func9, Try.ntmps9
   go_wp2_with (first | ((with_reducible refine gate_dst (N := 1) rfl ?_); refine bx 1 #[.int .i64 a0_0, .string a0_1] 41 ?_; intro gb477 hg w21 hbox hb; have BK477 := Aside0.mk hbox; have GE477 := gs HB hg; have GW477 := GE477; replace HB := bs HB hb; clear hb hbox hg; have hcz22_0 := bc BK477 0; have hcz22_1 := bc BK477 1; have hfz22_0 := bf BK477 0; have hfz22_1 := bf BK477 1) | ((with_reducible refine gate_callee (f := 34) rfl ?_); refine gL (some 8) rfl rfl Try.func34 (by kernel_rfl) rfl #[.agg #[.int .i64 a0_0, .string a0_1], .int .i64 1048576] rfl ?_; (with_reducible refine (laws_szSigns.calls a0_0 a0_1 1048576 t478 _ A2.out).mono ?_); rintro e w23 ⟨rfl, hb⟩; refine ⟨_, rfl, ?_⟩; have n0_ := Aside0.mk (blk_below (g := gb477) (o := .cells #[.int .i64 a0_0, .string a0_1] 41 (0, 0)) (bk BK477) hb); have n1_ := bsg HB GE477 hb; clear BK477; clear HB; have BK477 := n0_; have HB := n1_; clear n0_ n1_; (try clear hb); (try clear hb2); (try clear hk); (try clear hi); have hcz24_0 := bc BK477 0; have hcz24_1 := bc BK477 1; have hfz24_0 := bf BK477 0; have hfz24_1 := bf BK477 1) | ((with_reducible refine gate_callee (f := 36) rfl ?_); refine gL (some 12) rfl rfl Try.func36 (by kernel_rfl) rfl #[.agg #[.int .i64 a0_0, .string a0_1]] rfl ?_; (with_reducible refine (laws_toSigns.calls a0_0 a0_1 t479 t480 _ A7.out).mono ?_); rintro e w25 ⟨rfl, hb⟩; refine ⟨_, rfl, ?_⟩; have n0_ := Aside0.mk (blk_below (g := gb477) (o := .cells #[.int .i64 a0_0, .string a0_1] 41 (0, 0)) (bk BK477) hb); have n1_ := bsg HB GE477 hb; clear BK477; clear HB; have BK477 := n0_; have HB := n1_; clear n0_ n1_; (try clear hb); (try clear hb2); (try clear hk); (try clear hi)) | ((with_reducible refine gate_callee (f := 35) rfl ?_); refine gL (some 13) rfl rfl Try.func35 (by kernel_rfl) rfl #[.agg #[.int .i64 t479, .string t480]] rfl ?_; (with_reducible refine (spec_IsSorted.calls k t479 t480 t481 _ A8.out).mono ?_); rintro e w26 ⟨rfl, hb⟩; refine ⟨_, rfl, ?_⟩; have n0_ := Aside0.mk (blk_below (g := gb477) (o := .cells #[.int .i64 a0_0, .string a0_1] 41 (0, 0)) (bk BK477) hb); have n1_ := bsg HB GE477 hb; clear BK477; clear HB; have BK477 := n0_; have HB := n1_; clear n0_ n1_; (try clear hb); (try clear hb2); (try clear hk); (try clear hi); have hcz27_0 := bc BK477 0; have hcz27_1 := bc BK477 1; have hfz27_0 := bf BK477 0; have hfz27_1 := bf BK477 1) | ((with_reducible refine gate_callee (f := 36) rfl ?_); refine gL (some 15) rfl rfl Try.func36 (by kernel_rfl) rfl #[.agg #[.int .i64 a0_0, .string a0_1]] rfl ?_; (with_reducible refine (laws_toSigns.calls a0_0 a0_1 t482 t483 _ A9.out).mono ?_); rintro e w28 ⟨rfl, hb⟩; refine ⟨_, rfl, ?_⟩; have n0_ := Aside0.mk (blk_below (g := gb477) (o := .cells #[.int .i64 a0_0, .string a0_1] 41 (0, 0)) (bk BK477) hb); have n1_ := bsg HB GE477 hb; clear BK477; clear HB; have BK477 := n0_; have HB := n1_; clear n0_ n1_; (try clear hb); (try clear hb2); (try clear hk); (try clear hi)) | ((with_reducible refine gate_callee (f := 37) rfl ?_); refine gL (some 16) rfl rfl Try.func37 (by kernel_rfl) rfl #[.agg #[.int .i64 t482, .string t483]] rfl ?_; (with_reducible refine (impl_IsSorted.calls k t482 t483 t484 _ A10.out).mono ?_); rintro e w29 ⟨rfl, hb⟩; refine ⟨_, rfl, ?_⟩; have n0_ := Aside0.mk (blk_below (g := gb477) (o := .cells #[.int .i64 a0_0, .string a0_1] 41 (0, 0)) (bk BK477) hb); have n1_ := bsg HB GE477 hb; clear BK477; clear HB; have BK477 := n0_; have HB := n1_; clear n0_ n1_; (try clear hb); (try clear hb2); (try clear hk); (try clear hi)))
   go_ret
   exact ⟨by first | rfl | (simp [errW_none, errW_some] <;> rfl) | (simp [*, errW_none, errW_some] <;> rfl), (bg HB GE477)⟩

/-- THE ONE PURE STATEMENT of laws_FnExactIsSorted: yours. -/
def laws_FnExactIsSorted.Pure : Prop := ∀ (a0_0 : Int) (a0_1 : ByteArray), (Lit.int .i64 a0_0).wf = true → a0_1.size ≤ 140737488351232 → ∃ k, laws_FnExactIsSorted.f k a0_0 a0_1 = some true
theorem laws_FnExactIsSorted.walk (P : laws_FnExactIsSorted.Pure) (a0_0 : Int) (a0_1 : ByteArray) (w : World) (w0_0 : (Lit.int .i64 a0_0).wf = true) (w0_1 : a0_1.size ≤ 140737488351232) :
  Calls Try.prog 9 #[.agg #[.int .i64 a0_0, .string a0_1]] w fun e w' => e = .returned (.bool true) ∧ Below w.heap.size w w' := by
 obtain ⟨k, h⟩ := P a0_0 a0_1 w0_0 w0_1
 refine (laws_FnExactIsSorted.calls k a0_0 a0_1 true w h).mono ?_
 rintro e w' ⟨rfl, hd⟩
 exact ⟨rfl, hd⟩

end Go.Proofs.Ythibphndihjcaaa.P
