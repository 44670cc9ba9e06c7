-- Printed by a program of this session (wip/tools/myprint.py, over the kit's print.py); not trusted: Lean checks it.
import Derived.Test.YtjjfjdejhddcnaaP0
import Derived.Test.YtjjfjdejhddcnaaP92
namespace Go.Proofs.Ytjjfjdejhddcnaa.P
open Go.RowKit Go.Proofs.YtjjfjdejhddcnaaW.PrintWords Go.Proofs.YtjjfjdejhddcnaaW.PrintLast Go.Proofs.YtjjfjdejhddcnaaW.PrintMore
attribute [local go_sem] max2_int min2_int max_two min_two max_three min_three max_four min_four   -- for this text's walks alone
set_option linter.unusedVariables false
set_option linter.unusedSimpArgs false

/-! ### spec_ConvexSets: function 31 -/
def spec_ConvexSets.f (k : Nat) (a0_0 : Int) (a0_1 : ByteArray) (a1 : Int) : Option (List Int) := (spec_l8Sets.f k a0_0 a0_1 a1 false).bind fun t532 => (some t532)
theorem spec_ConvexSets.mono : ∀ a0 a1 a2 k, LeO (spec_ConvexSets.f k a0 a1 a2) (spec_ConvexSets.f (k + 1) a0 a1 a2) := by
 intro a0 a1 a2 k
 unfold spec_ConvexSets.f
 repeat' first
   | (with_reducible exact spec_l8Sets.mono _ _ _ _ _)
   | (with_reducible exact LeO.refl _)
   | (with_reducible exact LeO.none _)
   | (with_reducible refine LeO.ite ?_ ?_)
   | (with_reducible refine LeO.bind ?_ (fun _ => ?_))
   | exact spec_l8Sets.mono _ _ _ _ _
   | exact LeO.none _
   | refine LeO.ite ?_ ?_
   | refine LeO.bind ?_ (fun _ => ?_)
set_option maxHeartbeats 8000000 in
set_option maxRecDepth 100000 in
theorem spec_ConvexSets.calls (k : Nat) (a0_0 : Int) (a0_1 : ByteArray) (a1 : Int) (r : List Int) (w : World) (h : spec_ConvexSets.f k a0_0 a0_1 a1 = some r) :
  Calls Try.prog 31 #[.agg #[.int .i64 a0_0, .string a0_1], .int .i64 a1] w fun e w' => ∃ v0_ : Value, e = .returned (v0_) ∧ Kd.R (Kd.int .i64) 3 w' w.heap.size (fun _ => True) v0_ r ∧ Below w.heap.size w w' := by
 have hu26 := Try.underlying26
 have HB := Aside0.mk (Below.refl w.heap.size w)
 have H : ((spec_l8Sets.f k a0_0 a0_1 a1 false).bind fun t532 => (some t532)) = some r := h
 clear h
 replace H := Option.bind_eq_some_iff.mp H
 obtain ⟨t532, A30, H⟩ := H
 (try dsimp only at H)
 have A3 := Aside0.mk A30
 clear A30
 obtain rfl := Option.some.inj H
 go_enter Try.func31, Try.ntmps31
 go_wp2_with (first | ((with_reducible refine gate_dst (N := 2) rfl ?_); refine bx 2 #[.int .i64 a0_0, .string a0_1] 26 ?_; intro gb531 hg w4 hbox hb; have BK531 := Aside0.mk hbox; have GE531 := gs HB hg; have GW531 := GE531; replace HB := bs HB hb; clear hb hbox hg; have hcz5_0 := bc BK531 0; have hcz5_1 := bc BK531 1; have hfz5_0 := bf BK531 0; have hfz5_1 := bf BK531 1) | ((with_reducible refine gate_callee (f := 68) rfl ?_); refine gL (some 7) rfl rfl Try.func68 (by kernel_rfl) rfl #[.agg #[.int .i64 a0_0, .string a0_1], .int .i64 a1, .bool false] rfl ?_; (with_reducible refine (spec_l8Sets.calls k a0_0 a0_1 a1 false t532 _ A3.out).mono ?_); rintro e w6 ⟨v533, rfl, ho0, hb⟩; refine ⟨_, rfl, ?_⟩; have n0_ := Aside0.mk (Kd.R_lower ho0 (below_size (bg HB GE531))); have n1_ := Aside0.mk (blk_below (g := gb531) (o := .cells #[.int .i64 a0_0, .string a0_1] 26 (0, 0)) (bk BK531) hb); have n2_ := bsg HB GE531 hb; clear BK531; clear HB; have HO534 := n0_; have BK531 := n1_; have HB := n2_; clear n0_ n1_ n2_; (try clear hb); (try clear hb2); (try clear hk); (try clear hi); (try clear ho0)))
 go_ret
 exact ⟨_, by first | rfl | (simp [errW_none, errW_some] <;> rfl) | (simp [*, errW_none, errW_some] <;> rfl), by (with_reducible repeat (first | apply Kd.R_alloc | apply Kd.R_drewN | apply Kd.R_drew)); exact HO534.out, (bg HB GE531)⟩

end Go.Proofs.Ytjjfjdejhddcnaa.P
