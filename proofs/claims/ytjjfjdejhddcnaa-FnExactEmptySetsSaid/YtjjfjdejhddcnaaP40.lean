-- Printed by a program of this session (wip/tools/myprint.py, over the kit's print.py); not trusted: Lean checks it.
import Derived.Test.YtjjfjdejhddcnaaP0
import Derived.Test.YtjjfjdejhddcnaaP92
namespace Go.Proofs.Ytjjfjdejhddcnaa.P
open Go.RowKit Go.Proofs.YtjjfjdejhddcnaaW.PrintWords Go.Proofs.YtjjfjdejhddcnaaW.PrintLast Go.Proofs.YtjjfjdejhddcnaaW.PrintMore
attribute [local go_sem] max2_int min2_int max_two min_two max_three min_three max_four min_four   -- for this text's walks alone
set_option linter.unusedVariables false
set_option linter.unusedSimpArgs false

/-! ### spec_EmptySets: function 40 -/
def spec_EmptySets.f (k : Nat) (a0_0 : Int) (a0_1 : ByteArray) (a1 : Int) : Option (List Int) := (spec_l8Sets.f k a0_0 a0_1 a1 true).bind fun t658 => (some t658)
theorem spec_EmptySets.mono : ∀ a0 a1 a2 k, LeO (spec_EmptySets.f k a0 a1 a2) (spec_EmptySets.f (k + 1) a0 a1 a2) := by
 intro a0 a1 a2 k
 unfold spec_EmptySets.f
 repeat' first
   | (with_reducible exact spec_l8Sets.mono _ _ _ _ _)
   | (with_reducible exact LeO.refl _)
   | (with_reducible exact LeO.none _)
   | (with_reducible refine LeO.ite ?_ ?_)
   | (with_reducible refine LeO.bind ?_ (fun _ => ?_))
   | exact spec_l8Sets.mono _ _ _ _ _
   | exact LeO.none _
   | refine LeO.ite ?_ ?_
   | refine LeO.bind ?_ (fun _ => ?_)
set_option maxHeartbeats 8000000 in
set_option maxRecDepth 100000 in
theorem spec_EmptySets.calls (k : Nat) (a0_0 : Int) (a0_1 : ByteArray) (a1 : Int) (r : List Int) (w : World) (h : spec_EmptySets.f k a0_0 a0_1 a1 = some r) :
  Calls Try.prog 40 #[.agg #[.int .i64 a0_0, .string a0_1], .int .i64 a1] w fun e w' => ∃ v0_ : Value, e = .returned (v0_) ∧ Kd.R (Kd.int .i64) 3 w' w.heap.size (fun _ => True) v0_ r ∧ Below w.heap.size w w' := by
 have hu26 := Try.underlying26
 have HB := Aside0.mk (Below.refl w.heap.size w)
 have H : ((spec_l8Sets.f k a0_0 a0_1 a1 true).bind fun t658 => (some t658)) = some r := h
 clear h
 replace H := Option.bind_eq_some_iff.mp H
 obtain ⟨t658, A30, H⟩ := H
 (try dsimp only at H)
 have A3 := Aside0.mk A30
 clear A30
 obtain rfl := Option.some.inj H
 go_enter Try.func40, Try.ntmps40
 go_wp2_with (first | ((with_reducible refine gate_dst (N := 2) rfl ?_); refine bx 2 #[.int .i64 a0_0, .string a0_1] 26 ?_; intro gb657 hg w4 hbox hb; have BK657 := Aside0.mk hbox; have GE657 := gs HB hg; have GW657 := GE657; replace HB := bs HB hb; clear hb hbox hg; have hcz5_0 := bc BK657 0; have hcz5_1 := bc BK657 1; have hfz5_0 := bf BK657 0; have hfz5_1 := bf BK657 1) | ((with_reducible refine gate_callee (f := 68) rfl ?_); refine gL (some 7) rfl rfl Try.func68 (by kernel_rfl) rfl #[.agg #[.int .i64 a0_0, .string a0_1], .int .i64 a1, .bool true] rfl ?_; (with_reducible refine (spec_l8Sets.calls k a0_0 a0_1 a1 true t658 _ A3.out).mono ?_); rintro e w6 ⟨v659, rfl, ho0, hb⟩; refine ⟨_, rfl, ?_⟩; have n0_ := Aside0.mk (Kd.R_lower ho0 (below_size (bg HB GE657))); have n1_ := Aside0.mk (blk_below (g := gb657) (o := .cells #[.int .i64 a0_0, .string a0_1] 26 (0, 0)) (bk BK657) hb); have n2_ := bsg HB GE657 hb; clear BK657; clear HB; have HO660 := n0_; have BK657 := n1_; have HB := n2_; clear n0_ n1_ n2_; (try clear hb); (try clear hb2); (try clear hk); (try clear hi); (try clear ho0)))
 go_ret
 exact ⟨_, by first | rfl | (simp [errW_none, errW_some] <;> rfl) | (simp [*, errW_none, errW_some] <;> rfl), by (with_reducible repeat (first | apply Kd.R_alloc | apply Kd.R_drewN | apply Kd.R_drew)); exact HO660.out, (bg HB GE657)⟩

end Go.Proofs.Ytjjfjdejhddcnaa.P
