-- Printed by a program of this session (wip/tools/myprint.py, over the kit's print.py); not trusted: Lean checks it.
import Derived.Test.YtjjfjdejhddcnaaP0
import Derived.Test.YtjjfjdejhddcnaaOEmpty
import Derived.Test.YtjjfjdejhddcnaaP105
import Derived.Test.YtjjfjdejhddcnaaP15
import Derived.Test.YtjjfjdejhddcnaaP38
namespace Go.Proofs.Ytjjfjdejhddcnaa.P
open Go.RowKit Go.Proofs.YtjjfjdejhddcnaaW.PrintWords Go.Proofs.YtjjfjdejhddcnaaW.PrintLast Go.Proofs.YtjjfjdejhddcnaaW.PrintMore
attribute [local go_sem] max2_int min2_int max_two min_two max_three min_three max_four min_four   -- for this text's walks alone
set_option linter.unusedVariables false
set_option linter.unusedSimpArgs false

/-! ### laws_FnExactEvenSum: function 12 -/
def laws_FnExactEvenSum.f (k : Nat) (a0_0 : Int) (a0_1 : ByteArray) : Option (Bool) := (laws_szSigns.f a0_0 a0_1 1048576).bind fun t650 => (if t650 < 0 then (some true) else ((laws_toSigns.f a0_0 a0_1).bind fun bt651 => ((spec_EvenSum.f k bt651.1 bt651.2).bind fun t653 => ((laws_toSigns.f a0_0 a0_1).bind fun bt654 => ((impl_EvenSum.f k bt654.1 bt654.2).bind fun t656 => (if t656 = t653 then (some true) else (some false)))))))
theorem laws_FnExactEvenSum.mono : ∀ a0 a1 k, LeO (laws_FnExactEvenSum.f k a0 a1) (laws_FnExactEvenSum.f (k + 1) a0 a1) := by
 intro a0 a1 k
 unfold laws_FnExactEvenSum.f
 repeat' first
   | (with_reducible exact impl_EvenSum.mono _ _ _)
   | (with_reducible exact spec_EvenSum.mono _ _ _)
   | (with_reducible exact LeO.refl _)
   | (with_reducible exact LeO.none _)
   | (with_reducible refine LeO.ite ?_ ?_)
   | (with_reducible refine LeO.bind ?_ (fun _ => ?_))
   | exact impl_EvenSum.mono _ _ _
   | exact spec_EvenSum.mono _ _ _
   | exact LeO.none _
   | refine LeO.ite ?_ ?_
   | refine LeO.bind ?_ (fun _ => ?_)
set_option maxHeartbeats 8000000 in
set_option maxRecDepth 100000 in
theorem laws_FnExactEvenSum.calls (k : Nat) (a0_0 : Int) (a0_1 : ByteArray) (r : Bool) (w : World) (h : laws_FnExactEvenSum.f k a0_0 a0_1 = some r) :
  Calls Try.prog 12 #[.agg #[.int .i64 a0_0, .string a0_1]] w fun e w' => e = .returned (.bool r) ∧ Below w.heap.size w w' := by
 have hu23 := Try.underlying23
 have HB := Aside0.mk (Below.refl w.heap.size w)
 have H : ((laws_szSigns.f a0_0 a0_1 1048576).bind fun t650 => (if t650 < 0 then (some true) else ((laws_toSigns.f a0_0 a0_1).bind fun bt651 => ((spec_EvenSum.f k bt651.1 bt651.2).bind fun t653 => ((laws_toSigns.f a0_0 a0_1).bind fun bt654 => ((impl_EvenSum.f k bt654.1 bt654.2).bind fun t656 => (if t656 = t653 then (some true) else (some false)))))))) = some r := h
 clear h
 replace H := Option.bind_eq_some_iff.mp H
 obtain ⟨t650, A20, H⟩ := H
 (try dsimp only at H)
 have A2 := Aside0.mk A20
 clear A20
 by_cases c3 : t650 < 0
 ·rw [if_pos c3] at H
  have c3b0 : decide (t650 < 0) = true := decide_eq_true c3
  clear c3
  obtain rfl := Option.some.inj H
  go_enter Try.func12, Try.ntmps12
  go_wp2_with (first | ((with_reducible refine gate_dst (N := 1) rfl ?_); refine bx 1 #[.int .i64 a0_0, .string a0_1] 23 ?_; intro gb649 hg w4 hbox hb; have BK649 := Aside0.mk hbox; have GE649 := gs HB hg; have GW649 := GE649; replace HB := bs HB hb; clear hb hbox hg; have hcz5_0 := bc BK649 0; have hcz5_1 := bc BK649 1; have hfz5_0 := bf BK649 0; have hfz5_1 := bf BK649 1) | ((with_reducible refine gate_callee (f := 15) rfl ?_); refine gL (some 8) rfl rfl Try.func15 (by kernel_rfl) rfl #[.agg #[.int .i64 a0_0, .string a0_1], .int .i64 1048576] rfl ?_; (with_reducible refine (laws_szSigns.calls a0_0 a0_1 1048576 t650 _ A2.out).mono ?_); rintro e w6 ⟨rfl, hb⟩; refine ⟨_, rfl, ?_⟩; have n0_ := Aside0.mk (blk_below (g := gb649) (o := .cells #[.int .i64 a0_0, .string a0_1] 23 (0, 0)) (bk BK649) hb); have n1_ := bsg HB GE649 hb; clear BK649; clear HB; have BK649 := n0_; have HB := n1_; clear n0_ n1_; (try clear hb); (try clear hb2); (try clear hk); (try clear hi)))
  go_ret
  exact ⟨by first | rfl | (simp [errW_none, errW_some] <;> rfl) | (simp [*, errW_none, errW_some] <;> rfl), (bg HB GE649)⟩
 ·rw [if_neg c3] at H
  have c3b0 : decide (t650 < 0) = false := decide_eq_false c3
  clear c3
  replace H := Option.bind_eq_some_iff.mp H
  obtain ⟨⟨t651, t652⟩, A70, H⟩ := H
  (try dsimp only at H)
  have A7 := Aside0.mk A70
  clear A70
  replace H := Option.bind_eq_some_iff.mp H
  obtain ⟨t653, A80, H⟩ := H
  (try dsimp only at H)
  have A8 := Aside0.mk A80
  clear A80
  replace H := Option.bind_eq_some_iff.mp H
  obtain ⟨⟨t654, t655⟩, A90, H⟩ := H
  (try dsimp only at H)
  have A9 := Aside0.mk A90
  clear A90
  replace H := Option.bind_eq_some_iff.mp H
  obtain ⟨t656, A100, H⟩ := H
  (try dsimp only at H)
  have A10 := Aside0.mk A100
  clear A100
  by_cases c11 : t656 = t653
  ·rw [if_pos c11] at H
   have c11b0 : (t656 == t653) = true := beq_iff_eq.mpr c11
   have c11b1 : (t656 != t653) = false := bne_eq_false_iff_eq.mpr c11
   clear c11
   obtain rfl := Option.some.inj H
   go_enter Try.func12, Try.ntmps12
   go_wp2_with (first | ((with_reducible refine gate_dst (N := 1) rfl ?_); refine bx 1 #[.int .i64 a0_0, .string a0_1] 23 ?_; intro gb649 hg w12 hbox hb; have BK649 := Aside0.mk hbox; have GE649 := gs HB hg; have GW649 := GE649; replace HB := bs HB hb; clear hb hbox hg; have hcz13_0 := bc BK649 0; have hcz13_1 := bc BK649 1; have hfz13_0 := bf BK649 0; have hfz13_1 := bf BK649 1) | ((with_reducible refine gate_callee (f := 15) rfl ?_); refine gL (some 8) rfl rfl Try.func15 (by kernel_rfl) rfl #[.agg #[.int .i64 a0_0, .string a0_1], .int .i64 1048576] rfl ?_; (with_reducible refine (laws_szSigns.calls a0_0 a0_1 1048576 t650 _ A2.out).mono ?_); rintro e w14 ⟨rfl, hb⟩; refine ⟨_, rfl, ?_⟩; have n0_ := Aside0.mk (blk_below (g := gb649) (o := .cells #[.int .i64 a0_0, .string a0_1] 23 (0, 0)) (bk BK649) hb); have n1_ := bsg HB GE649 hb; clear BK649; clear HB; have BK649 := n0_; have HB := n1_; clear n0_ n1_; (try clear hb); (try clear hb2); (try clear hk); (try clear hi); have hcz15_0 := bc BK649 0; have hcz15_1 := bc BK649 1; have hfz15_0 := bf BK649 0; have hfz15_1 := bf BK649 1) | ((with_reducible refine gate_callee (f := 17) rfl ?_); refine gL (some 12) rfl rfl Try.func17 (by kernel_rfl) rfl #[.agg #[.int .i64 a0_0, .string a0_1]] rfl ?_; (with_reducible refine (laws_toSigns.calls a0_0 a0_1 t651 t652 _ A7.out).mono ?_); rintro e w16 ⟨rfl, hb⟩; refine ⟨_, rfl, ?_⟩; have n0_ := Aside0.mk (blk_below (g := gb649) (o := .cells #[.int .i64 a0_0, .string a0_1] 23 (0, 0)) (bk BK649) hb); have n1_ := bsg HB GE649 hb; clear BK649; clear HB; have BK649 := n0_; have HB := n1_; clear n0_ n1_; (try clear hb); (try clear hb2); (try clear hk); (try clear hi)) | ((with_reducible refine gate_callee (f := 38) rfl ?_); refine gL (some 13) rfl rfl Try.func38 (by kernel_rfl) rfl #[.agg #[.int .i64 t651, .string t652]] rfl ?_; (with_reducible refine (spec_EvenSum.calls k t651 t652 t653 _ A8.out).mono ?_); rintro e w17 ⟨rfl, hb⟩; refine ⟨_, rfl, ?_⟩; have n0_ := Aside0.mk (blk_below (g := gb649) (o := .cells #[.int .i64 a0_0, .string a0_1] 23 (0, 0)) (bk BK649) hb); have n1_ := bsg HB GE649 hb; clear BK649; clear HB; have BK649 := n0_; have HB := n1_; clear n0_ n1_; (try clear hb); (try clear hb2); (try clear hk); (try clear hi); have hcz18_0 := bc BK649 0; have hcz18_1 := bc BK649 1; have hfz18_0 := bf BK649 0; have hfz18_1 := bf BK649 1) | ((with_reducible refine gate_callee (f := 17) rfl ?_); refine gL (some 15) rfl rfl Try.func17 (by kernel_rfl) rfl #[.agg #[.int .i64 a0_0, .string a0_1]] rfl ?_; (with_reducible refine (laws_toSigns.calls a0_0 a0_1 t654 t655 _ A9.out).mono ?_); rintro e w19 ⟨rfl, hb⟩; refine ⟨_, rfl, ?_⟩; have n0_ := Aside0.mk (blk_below (g := gb649) (o := .cells #[.int .i64 a0_0, .string a0_1] 23 (0, 0)) (bk BK649) hb); have n1_ := bsg HB GE649 hb; clear BK649; clear HB; have BK649 := n0_; have HB := n1_; clear n0_ n1_; (try clear hb); (try clear hb2); (try clear hk); (try clear hi)) | ((with_reducible refine gate_callee (f := 39) rfl ?_); refine gL (some 16) rfl rfl Try.func39 (by kernel_rfl) rfl #[.agg #[.int .i64 t654, .string t655]] rfl ?_; (with_reducible refine (impl_EvenSum.calls k t654 t655 t656 _ A10.out).mono ?_); rintro e w20 ⟨rfl, hb⟩; refine ⟨_, rfl, ?_⟩; have n0_ := Aside0.mk (blk_below (g := gb649) (o := .cells #[.int .i64 a0_0, .string a0_1] 23 (0, 0)) (bk BK649) hb); have n1_ := bsg HB GE649 hb; clear BK649; clear HB; have BK649 := n0_; have HB := n1_; clear n0_ n1_; (try clear hb); (try clear hb2); (try clear hk); (try clear hi)))
   go_ret
   exact ⟨by first | rfl | (simp [errW_none, errW_some] <;> rfl) | (simp [*, errW_none, errW_some] <;> rfl), (bg HB GE649)⟩
  ·rw [if_neg c11] at H
   have c11b0 : (t656 == t653) = false := beq_eq_false_iff_ne.mpr c11
   have c11b1 : (t656 != t653) = true := bne_iff_ne.mpr c11
   obtain rfl := Option.some.inj H
   go_enter Try.func12, Try.ntmps12
   go_wp2_with (first | ((with_reducible refine gate_dst (N := 1) rfl ?_); refine bx 1 #[.int .i64 a0_0, .string a0_1] 23 ?_; intro gb649 hg w21 hbox hb; have BK649 := Aside0.mk hbox; have GE649 := gs HB hg; have GW649 := GE649; replace HB := bs HB hb; clear hb hbox hg; have hcz22_0 := bc BK649 0; have hcz22_1 := bc BK649 1; have hfz22_0 := bf BK649 0; have hfz22_1 := bf BK649 1) | ((with_reducible refine gate_callee (f := 15) rfl ?_); refine gL (some 8) rfl rfl Try.func15 (by kernel_rfl) rfl #[.agg #[.int .i64 a0_0, .string a0_1], .int .i64 1048576] rfl ?_; (with_reducible refine (laws_szSigns.calls a0_0 a0_1 1048576 t650 _ A2.out).mono ?_); rintro e w23 ⟨rfl, hb⟩; refine ⟨_, rfl, ?_⟩; have n0_ := Aside0.mk (blk_below (g := gb649) (o := .cells #[.int .i64 a0_0, .string a0_1] 23 (0, 0)) (bk BK649) hb); have n1_ := bsg HB GE649 hb; clear BK649; clear HB; have BK649 := n0_; have HB := n1_; clear n0_ n1_; (try clear hb); (try clear hb2); (try clear hk); (try clear hi); have hcz24_0 := bc BK649 0; have hcz24_1 := bc BK649 1; have hfz24_0 := bf BK649 0; have hfz24_1 := bf BK649 1) | ((with_reducible refine gate_callee (f := 17) rfl ?_); refine gL (some 12) rfl rfl Try.func17 (by kernel_rfl) rfl #[.agg #[.int .i64 a0_0, .string a0_1]] rfl ?_; (with_reducible refine (laws_toSigns.calls a0_0 a0_1 t651 t652 _ A7.out).mono ?_); rintro e w25 ⟨rfl, hb⟩; refine ⟨_, rfl, ?_⟩; have n0_ := Aside0.mk (blk_below (g := gb649) (o := .cells #[.int .i64 a0_0, .string a0_1] 23 (0, 0)) (bk BK649) hb); have n1_ := bsg HB GE649 hb; clear BK649; clear HB; have BK649 := n0_; have HB := n1_; clear n0_ n1_; (try clear hb); (try clear hb2); (try clear hk); (try clear hi)) | ((with_reducible refine gate_callee (f := 38) rfl ?_); refine gL (some 13) rfl rfl Try.func38 (by kernel_rfl) rfl #[.agg #[.int .i64 t651, .string t652]] rfl ?_; (with_reducible refine (spec_EvenSum.calls k t651 t652 t653 _ A8.out).mono ?_); rintro e w26 ⟨rfl, hb⟩; refine ⟨_, rfl, ?_⟩; have n0_ := Aside0.mk (blk_below (g := gb649) (o := .cells #[.int .i64 a0_0, .string a0_1] 23 (0, 0)) (bk BK649) hb); have n1_ := bsg HB GE649 hb; clear BK649; clear HB; have BK649 := n0_; have HB := n1_; clear n0_ n1_; (try clear hb); (try clear hb2); (try clear hk); (try clear hi); have hcz27_0 := bc BK649 0; have hcz27_1 := bc BK649 1; have hfz27_0 := bf BK649 0; have hfz27_1 := bf BK649 1) | ((with_reducible refine gate_callee (f := 17) rfl ?_); refine gL (some 15) rfl rfl Try.func17 (by kernel_rfl) rfl #[.agg #[.int .i64 a0_0, .string a0_1]] rfl ?_; (with_reducible refine (laws_toSigns.calls a0_0 a0_1 t654 t655 _ A9.out).mono ?_); rintro e w28 ⟨rfl, hb⟩; refine ⟨_, rfl, ?_⟩; have n0_ := Aside0.mk (blk_below (g := gb649) (o := .cells #[.int .i64 a0_0, .string a0_1] 23 (0, 0)) (bk BK649) hb); have n1_ := bsg HB GE649 hb; clear BK649; clear HB; have BK649 := n0_; have HB := n1_; clear n0_ n1_; (try clear hb); (try clear hb2); (try clear hk); (try clear hi)) | ((with_reducible refine gate_callee (f := 39) rfl ?_); refine gL (some 16) rfl rfl Try.func39 (by kernel_rfl) rfl #[.agg #[.int .i64 t654, .string t655]] rfl ?_; (with_reducible refine (impl_EvenSum.calls k t654 t655 t656 _ A10.out).mono ?_); rintro e w29 ⟨rfl, hb⟩; refine ⟨_, rfl, ?_⟩; have n0_ := Aside0.mk (blk_below (g := gb649) (o := .cells #[.int .i64 a0_0, .string a0_1] 23 (0, 0)) (bk BK649) hb); have n1_ := bsg HB GE649 hb; clear BK649; clear HB; have BK649 := n0_; have HB := n1_; clear n0_ n1_; (try clear hb); (try clear hb2); (try clear hk); (try clear hi)))
   go_ret
   exact ⟨by first | rfl | (simp [errW_none, errW_some] <;> rfl) | (simp [*, errW_none, errW_some] <;> rfl), (bg HB GE649)⟩

/-- THE ONE PURE STATEMENT of laws_FnExactEvenSum: yours. -/
def laws_FnExactEvenSum.Pure : Prop := ∀ (a0_0 : Int) (a0_1 : ByteArray), (Lit.int .i64 a0_0).wf = true → a0_1.size ≤ 140737488351232 → ∃ k, laws_FnExactEvenSum.f k a0_0 a0_1 = some true
theorem laws_FnExactEvenSum.walk (P : laws_FnExactEvenSum.Pure) (a0_0 : Int) (a0_1 : ByteArray) (w : World) (w0_0 : (Lit.int .i64 a0_0).wf = true) (w0_1 : a0_1.size ≤ 140737488351232) :
  Calls Try.prog 12 #[.agg #[.int .i64 a0_0, .string a0_1]] w fun e w' => e = .returned (.bool true) ∧ Below w.heap.size w w' := by
 obtain ⟨k, h⟩ := P a0_0 a0_1 w0_0 w0_1
 refine (laws_FnExactEvenSum.calls k a0_0 a0_1 true w h).mono ?_
 rintro e w' ⟨rfl, hd⟩
 exact ⟨rfl, hd⟩

end Go.Proofs.Ytjjfjdejhddcnaa.P
