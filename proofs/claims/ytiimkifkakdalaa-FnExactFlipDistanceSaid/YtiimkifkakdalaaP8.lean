-- Printed by a program of this session (wip/tools/myprint.py, over the kit's print.py); not trusted: Lean checks it.
import Derived.Test.YtiimkifkakdalaaP0
import Derived.Test.YtiimkifkakdalaaOFlipD
import Derived.Test.YtiimkifkakdalaaP10
import Derived.Test.YtiimkifkakdalaaP108
import Derived.Test.YtiimkifkakdalaaP25
namespace Go.Proofs.Ytiimkifkakdalaa.P
open Go.RowKit Go.Proofs.YtiimkifkakdalaaW.PrintWords Go.Proofs.YtiimkifkakdalaaW.PrintLast Go.Proofs.YtiimkifkakdalaaW.PrintMore
attribute [local go_sem] max2_int min2_int max_two min_two max_three min_three max_four min_four   -- for this text's walks alone
set_option linter.unusedVariables false
set_option linter.unusedSimpArgs false

/-! ### laws_FnExactFlipDistance: function 8 -/
def laws_FnExactFlipDistance.f (k : Nat) (a0_0 : Int) (a0_1 : ByteArray) (a1 : Int) (a2 : Int) : Option (Bool) := (laws_szSigns.f a0_0 a0_1 1048576).bind fun t646 => (if t646 < 0 then (some true) else ((laws_toSigns.f a0_0 a0_1).bind fun bt647 => ((spec_FlipDistance.f k bt647.1 bt647.2 a1 a2).bind fun t649 => ((laws_toSigns.f a0_0 a0_1).bind fun bt650 => ((impl_FlipDistance.f k bt650.1 bt650.2 a1 a2).bind fun t652 => (if t652 = t649 then (some true) else (some false)))))))
theorem laws_FnExactFlipDistance.mono : ∀ a0 a1 a2 a3 k, LeO (laws_FnExactFlipDistance.f k a0 a1 a2 a3) (laws_FnExactFlipDistance.f (k + 1) a0 a1 a2 a3) := by
 intro a0 a1 a2 a3 k
 unfold laws_FnExactFlipDistance.f
 repeat' first
   | (with_reducible exact impl_FlipDistance.mono _ _ _ _ _)
   | (with_reducible exact spec_FlipDistance.mono _ _ _ _ _)
   | (with_reducible exact LeO.refl _)
   | (with_reducible exact LeO.none _)
   | (with_reducible refine LeO.ite ?_ ?_)
   | (with_reducible refine LeO.bind ?_ (fun _ => ?_))
   | exact impl_FlipDistance.mono _ _ _ _ _
   | exact spec_FlipDistance.mono _ _ _ _ _
   | exact LeO.none _
   | refine LeO.ite ?_ ?_
   | refine LeO.bind ?_ (fun _ => ?_)
set_option maxHeartbeats 8000000 in
set_option maxRecDepth 100000 in
theorem laws_FnExactFlipDistance.calls (k : Nat) (a0_0 : Int) (a0_1 : ByteArray) (a1 : Int) (a2 : Int) (r : Bool) (w : World) (h : laws_FnExactFlipDistance.f k a0_0 a0_1 a1 a2 = some r) :
  Calls Try.prog 8 #[.agg #[.int .i64 a0_0, .string a0_1], .int .i64 a1, .int .i64 a2] w fun e w' => e = .returned (.bool r) ∧ Below w.heap.size w w' := by
 have hu23 := Try.underlying23
 have HB := Aside0.mk (Below.refl w.heap.size w)
 have H : ((laws_szSigns.f a0_0 a0_1 1048576).bind fun t646 => (if t646 < 0 then (some true) else ((laws_toSigns.f a0_0 a0_1).bind fun bt647 => ((spec_FlipDistance.f k bt647.1 bt647.2 a1 a2).bind fun t649 => ((laws_toSigns.f a0_0 a0_1).bind fun bt650 => ((impl_FlipDistance.f k bt650.1 bt650.2 a1 a2).bind fun t652 => (if t652 = t649 then (some true) else (some false)))))))) = some r := h
 clear h
 replace H := Option.bind_eq_some_iff.mp H
 obtain ⟨t646, A40, H⟩ := H
 (try dsimp only at H)
 have A4 := Aside0.mk A40
 clear A40
 by_cases c5 : t646 < 0
 ·rw [if_pos c5] at H
  have c5b0 : decide (t646 < 0) = true := decide_eq_true c5
  clear c5
  obtain rfl := Option.some.inj H
  go_enter Try.func8, Try.ntmps8
  go_wp2_with (first | ((with_reducible refine gate_dst (N := 3) rfl ?_); refine bx 3 #[.int .i64 a0_0, .string a0_1] 23 ?_; intro gb645 hg w6 hbox hb; have BK645 := Aside0.mk hbox; have GE645 := gs HB hg; have GW645 := GE645; replace HB := bs HB hb; clear hb hbox hg; have hcz7_0 := bc BK645 0; have hcz7_1 := bc BK645 1; have hfz7_0 := bf BK645 0; have hfz7_1 := bf BK645 1) | ((with_reducible refine gate_callee (f := 10) rfl ?_); refine gL (some 12) rfl rfl Try.func10 (by kernel_rfl) rfl #[.agg #[.int .i64 a0_0, .string a0_1], .int .i64 1048576] rfl ?_; (with_reducible refine (laws_szSigns.calls a0_0 a0_1 1048576 t646 _ A4.out).mono ?_); rintro e w8 ⟨rfl, hb⟩; refine ⟨_, rfl, ?_⟩; have n0_ := Aside0.mk (blk_below (g := gb645) (o := .cells #[.int .i64 a0_0, .string a0_1] 23 (0, 0)) (bk BK645) hb); have n1_ := bsg HB GE645 hb; clear BK645; clear HB; have BK645 := n0_; have HB := n1_; clear n0_ n1_; (try clear hb); (try clear hb2); (try clear hk); (try clear hi)))
  go_ret
  exact ⟨by first | rfl | (simp [errW_none, errW_some] <;> rfl) | (simp [*, errW_none, errW_some] <;> rfl), (bg HB GE645)⟩
 ·rw [if_neg c5] at H
  have c5b0 : decide (t646 < 0) = false := decide_eq_false c5
  clear c5
  replace H := Option.bind_eq_some_iff.mp H
  obtain ⟨⟨t647, t648⟩, A90, H⟩ := H
  (try dsimp only at H)
  have A9 := Aside0.mk A90
  clear A90
  replace H := Option.bind_eq_some_iff.mp H
  obtain ⟨t649, A100, H⟩ := H
  (try dsimp only at H)
  have A10 := Aside0.mk A100
  clear A100
  replace H := Option.bind_eq_some_iff.mp H
  obtain ⟨⟨t650, t651⟩, A110, H⟩ := H
  (try dsimp only at H)
  have A11 := Aside0.mk A110
  clear A110
  replace H := Option.bind_eq_some_iff.mp H
  obtain ⟨t652, A120, H⟩ := H
  (try dsimp only at H)
  have A12 := Aside0.mk A120
  clear A120
  by_cases c13 : t652 = t649
  ·rw [if_pos c13] at H
   have c13b0 : (t652 == t649) = true := beq_iff_eq.mpr c13
   have c13b1 : (t652 != t649) = false := bne_eq_false_iff_eq.mpr c13
   clear c13
   obtain rfl := Option.some.inj H
   go_enter Try.func8, Try.ntmps8
   go_wp2_with (first | ((with_reducible refine gate_dst (N := 3) rfl ?_); refine bx 3 #[.int .i64 a0_0, .string a0_1] 23 ?_; intro gb645 hg w14 hbox hb; have BK645 := Aside0.mk hbox; have GE645 := gs HB hg; have GW645 := GE645; replace HB := bs HB hb; clear hb hbox hg; have hcz15_0 := bc BK645 0; have hcz15_1 := bc BK645 1; have hfz15_0 := bf BK645 0; have hfz15_1 := bf BK645 1) | ((with_reducible refine gate_callee (f := 10) rfl ?_); refine gL (some 12) rfl rfl Try.func10 (by kernel_rfl) rfl #[.agg #[.int .i64 a0_0, .string a0_1], .int .i64 1048576] rfl ?_; (with_reducible refine (laws_szSigns.calls a0_0 a0_1 1048576 t646 _ A4.out).mono ?_); rintro e w16 ⟨rfl, hb⟩; refine ⟨_, rfl, ?_⟩; have n0_ := Aside0.mk (blk_below (g := gb645) (o := .cells #[.int .i64 a0_0, .string a0_1] 23 (0, 0)) (bk BK645) hb); have n1_ := bsg HB GE645 hb; clear BK645; clear HB; have BK645 := n0_; have HB := n1_; clear n0_ n1_; (try clear hb); (try clear hb2); (try clear hk); (try clear hi); have hcz17_0 := bc BK645 0; have hcz17_1 := bc BK645 1; have hfz17_0 := bf BK645 0; have hfz17_1 := bf BK645 1) | ((with_reducible refine gate_callee (f := 12) rfl ?_); refine gL (some 16) rfl rfl Try.func12 (by kernel_rfl) rfl #[.agg #[.int .i64 a0_0, .string a0_1]] rfl ?_; (with_reducible refine (laws_toSigns.calls a0_0 a0_1 t647 t648 _ A9.out).mono ?_); rintro e w18 ⟨rfl, hb⟩; refine ⟨_, rfl, ?_⟩; have n0_ := Aside0.mk (blk_below (g := gb645) (o := .cells #[.int .i64 a0_0, .string a0_1] 23 (0, 0)) (bk BK645) hb); have n1_ := bsg HB GE645 hb; clear BK645; clear HB; have BK645 := n0_; have HB := n1_; clear n0_ n1_; (try clear hb); (try clear hb2); (try clear hk); (try clear hi)) | ((with_reducible refine gate_callee (f := 25) rfl ?_); refine gL (some 19) rfl rfl Try.func25 (by kernel_rfl) rfl #[.agg #[.int .i64 t647, .string t648], .int .i64 a1, .int .i64 a2] rfl ?_; (with_reducible refine (spec_FlipDistance.calls k t647 t648 a1 a2 t649 _ A10.out).mono ?_); rintro e w19 ⟨rfl, hb⟩; refine ⟨_, rfl, ?_⟩; have n0_ := Aside0.mk (blk_below (g := gb645) (o := .cells #[.int .i64 a0_0, .string a0_1] 23 (0, 0)) (bk BK645) hb); have n1_ := bsg HB GE645 hb; clear BK645; clear HB; have BK645 := n0_; have HB := n1_; clear n0_ n1_; (try clear hb); (try clear hb2); (try clear hk); (try clear hi); have hcz20_0 := bc BK645 0; have hcz20_1 := bc BK645 1; have hfz20_0 := bf BK645 0; have hfz20_1 := bf BK645 1) | ((with_reducible refine gate_callee (f := 12) rfl ?_); refine gL (some 21) rfl rfl Try.func12 (by kernel_rfl) rfl #[.agg #[.int .i64 a0_0, .string a0_1]] rfl ?_; (with_reducible refine (laws_toSigns.calls a0_0 a0_1 t650 t651 _ A11.out).mono ?_); rintro e w21 ⟨rfl, hb⟩; refine ⟨_, rfl, ?_⟩; have n0_ := Aside0.mk (blk_below (g := gb645) (o := .cells #[.int .i64 a0_0, .string a0_1] 23 (0, 0)) (bk BK645) hb); have n1_ := bsg HB GE645 hb; clear BK645; clear HB; have BK645 := n0_; have HB := n1_; clear n0_ n1_; (try clear hb); (try clear hb2); (try clear hk); (try clear hi)) | ((with_reducible refine gate_callee (f := 26) rfl ?_); refine gL (some 24) rfl rfl Try.func26 (by kernel_rfl) rfl #[.agg #[.int .i64 t650, .string t651], .int .i64 a1, .int .i64 a2] rfl ?_; (with_reducible refine (impl_FlipDistance.calls k t650 t651 a1 a2 t652 _ A12.out).mono ?_); rintro e w22 ⟨rfl, hb⟩; refine ⟨_, rfl, ?_⟩; have n0_ := Aside0.mk (blk_below (g := gb645) (o := .cells #[.int .i64 a0_0, .string a0_1] 23 (0, 0)) (bk BK645) hb); have n1_ := bsg HB GE645 hb; clear BK645; clear HB; have BK645 := n0_; have HB := n1_; clear n0_ n1_; (try clear hb); (try clear hb2); (try clear hk); (try clear hi)))
   go_ret
   exact ⟨by first | rfl | (simp [errW_none, errW_some] <;> rfl) | (simp [*, errW_none, errW_some] <;> rfl), (bg HB GE645)⟩
  ·rw [if_neg c13] at H
   have c13b0 : (t652 == t649) = false := beq_eq_false_iff_ne.mpr c13
   have c13b1 : (t652 != t649) = true := bne_iff_ne.mpr c13
   obtain rfl := Option.some.inj H
   go_enter Try.func8, Try.ntmps8
   go_wp2_with (first | ((with_reducible refine gate_dst (N := 3) rfl ?_); refine bx 3 #[.int .i64 a0_0, .string a0_1] 23 ?_; intro gb645 hg w23 hbox hb; have BK645 := Aside0.mk hbox; have GE645 := gs HB hg; have GW645 := GE645; replace HB := bs HB hb; clear hb hbox hg; have hcz24_0 := bc BK645 0; have hcz24_1 := bc BK645 1; have hfz24_0 := bf BK645 0; have hfz24_1 := bf BK645 1) | ((with_reducible refine gate_callee (f := 10) rfl ?_); refine gL (some 12) rfl rfl Try.func10 (by kernel_rfl) rfl #[.agg #[.int .i64 a0_0, .string a0_1], .int .i64 1048576] rfl ?_; (with_reducible refine (laws_szSigns.calls a0_0 a0_1 1048576 t646 _ A4.out).mono ?_); rintro e w25 ⟨rfl, hb⟩; refine ⟨_, rfl, ?_⟩; have n0_ := Aside0.mk (blk_below (g := gb645) (o := .cells #[.int .i64 a0_0, .string a0_1] 23 (0, 0)) (bk BK645) hb); have n1_ := bsg HB GE645 hb; clear BK645; clear HB; have BK645 := n0_; have HB := n1_; clear n0_ n1_; (try clear hb); (try clear hb2); (try clear hk); (try clear hi); have hcz26_0 := bc BK645 0; have hcz26_1 := bc BK645 1; have hfz26_0 := bf BK645 0; have hfz26_1 := bf BK645 1) | ((with_reducible refine gate_callee (f := 12) rfl ?_); refine gL (some 16) rfl rfl Try.func12 (by kernel_rfl) rfl #[.agg #[.int .i64 a0_0, .string a0_1]] rfl ?_; (with_reducible refine (laws_toSigns.calls a0_0 a0_1 t647 t648 _ A9.out).mono ?_); rintro e w27 ⟨rfl, hb⟩; refine ⟨_, rfl, ?_⟩; have n0_ := Aside0.mk (blk_below (g := gb645) (o := .cells #[.int .i64 a0_0, .string a0_1] 23 (0, 0)) (bk BK645) hb); have n1_ := bsg HB GE645 hb; clear BK645; clear HB; have BK645 := n0_; have HB := n1_; clear n0_ n1_; (try clear hb); (try clear hb2); (try clear hk); (try clear hi)) | ((with_reducible refine gate_callee (f := 25) rfl ?_); refine gL (some 19) rfl rfl Try.func25 (by kernel_rfl) rfl #[.agg #[.int .i64 t647, .string t648], .int .i64 a1, .int .i64 a2] rfl ?_; (with_reducible refine (spec_FlipDistance.calls k t647 t648 a1 a2 t649 _ A10.out).mono ?_); rintro e w28 ⟨rfl, hb⟩; refine ⟨_, rfl, ?_⟩; have n0_ := Aside0.mk (blk_below (g := gb645) (o := .cells #[.int .i64 a0_0, .string a0_1] 23 (0, 0)) (bk BK645) hb); have n1_ := bsg HB GE645 hb; clear BK645; clear HB; have BK645 := n0_; have HB := n1_; clear n0_ n1_; (try clear hb); (try clear hb2); (try clear hk); (try clear hi); have hcz29_0 := bc BK645 0; have hcz29_1 := bc BK645 1; have hfz29_0 := bf BK645 0; have hfz29_1 := bf BK645 1) | ((with_reducible refine gate_callee (f := 12) rfl ?_); refine gL (some 21) rfl rfl Try.func12 (by kernel_rfl) rfl #[.agg #[.int .i64 a0_0, .string a0_1]] rfl ?_; (with_reducible refine (laws_toSigns.calls a0_0 a0_1 t650 t651 _ A11.out).mono ?_); rintro e w30 ⟨rfl, hb⟩; refine ⟨_, rfl, ?_⟩; have n0_ := Aside0.mk (blk_below (g := gb645) (o := .cells #[.int .i64 a0_0, .string a0_1] 23 (0, 0)) (bk BK645) hb); have n1_ := bsg HB GE645 hb; clear BK645; clear HB; have BK645 := n0_; have HB := n1_; clear n0_ n1_; (try clear hb); (try clear hb2); (try clear hk); (try clear hi)) | ((with_reducible refine gate_callee (f := 26) rfl ?_); refine gL (some 24) rfl rfl Try.func26 (by kernel_rfl) rfl #[.agg #[.int .i64 t650, .string t651], .int .i64 a1, .int .i64 a2] rfl ?_; (with_reducible refine (impl_FlipDistance.calls k t650 t651 a1 a2 t652 _ A12.out).mono ?_); rintro e w31 ⟨rfl, hb⟩; refine ⟨_, rfl, ?_⟩; have n0_ := Aside0.mk (blk_below (g := gb645) (o := .cells #[.int .i64 a0_0, .string a0_1] 23 (0, 0)) (bk BK645) hb); have n1_ := bsg HB GE645 hb; clear BK645; clear HB; have BK645 := n0_; have HB := n1_; clear n0_ n1_; (try clear hb); (try clear hb2); (try clear hk); (try clear hi)))
   go_ret
   exact ⟨by first | rfl | (simp [errW_none, errW_some] <;> rfl) | (simp [*, errW_none, errW_some] <;> rfl), (bg HB GE645)⟩

/-- THE ONE PURE STATEMENT of laws_FnExactFlipDistance: yours. -/
def laws_FnExactFlipDistance.Pure : Prop := ∀ (a0_0 : Int) (a0_1 : ByteArray) (a1 : Int) (a2 : Int), (Lit.int .i64 a0_0).wf = true → a0_1.size ≤ 140737488351232 → (Lit.int .i64 a1).wf = true → (Lit.int .i64 a2).wf = true → ∃ k, laws_FnExactFlipDistance.f k a0_0 a0_1 a1 a2 = some true
theorem laws_FnExactFlipDistance.walk (P : laws_FnExactFlipDistance.Pure) (a0_0 : Int) (a0_1 : ByteArray) (a1 : Int) (a2 : Int) (w : World) (w0_0 : (Lit.int .i64 a0_0).wf = true) (w0_1 : a0_1.size ≤ 140737488351232) (w1 : (Lit.int .i64 a1).wf = true) (w2 : (Lit.int .i64 a2).wf = true) :
  Calls Try.prog 8 #[.agg #[.int .i64 a0_0, .string a0_1], .int .i64 a1, .int .i64 a2] w fun e w' => e = .returned (.bool true) ∧ Below w.heap.size w w' := by
 obtain ⟨k, h⟩ := P a0_0 a0_1 a1 a2 w0_0 w0_1 w1 w2
 refine (laws_FnExactFlipDistance.calls k a0_0 a0_1 a1 a2 true w h).mono ?_
 rintro e w' ⟨rfl, hd⟩
 exact ⟨rfl, hd⟩

end Go.Proofs.Ytiimkifkakdalaa.P
