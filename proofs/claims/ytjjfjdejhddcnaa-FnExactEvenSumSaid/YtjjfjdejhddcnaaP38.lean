-- Printed by a program of this session (wip/tools/myprint.py, over the kit's print.py); not trusted: Lean checks it.
import Derived.Test.YtjjfjdejhddcnaaP0
import Derived.Test.YtjjfjdejhddcnaaP105
import Derived.Test.YtjjfjdejhddcnaaP92
namespace Go.Proofs.Ytjjfjdejhddcnaa.P
open Go.RowKit Go.Proofs.YtjjfjdejhddcnaaW.PrintWords Go.Proofs.YtjjfjdejhddcnaaW.PrintLast Go.Proofs.YtjjfjdejhddcnaaW.PrintMore
attribute [local go_sem] max2_int min2_int max_two min_two max_three min_three max_four min_four   -- for this text's walks alone
set_option linter.unusedVariables false
set_option linter.unusedSimpArgs false

/-! ### spec_EvenSum: function 38 -/
def spec_EvenSum.l0 : Nat → Int → Int → Int → Int → ByteArray → Option (Int)
 | 0, _, _, _, _, _ => none
 | k + 1, x3, x4, x5, x645000, x645001 => if x5 ≤ x645000 then ((spec_l8Sets.f k x645000 x645001 x5 true).bind fun t646 => (spec_EvenSum.l0 k (wrap64 (x3 + (wrap64 (x4 * (t646.length : Int))))) (wrap64 (-x4)) (wrap64 (x5 + 1)) x645000 x645001)) else (some x3)
def spec_EvenSum.f (k : Nat) (a0_0 : Int) (a0_1 : ByteArray) : Option (Int) := (spec_IsAcyclic.f k a0_0 a0_1).bind fun t645 => (if t645 = true then (spec_EvenSum.l0 k 0 1 3 a0_0 a0_1) else (some (-1)))
theorem spec_EvenSum.mono_l : ∀ k, (∀ y0 y1 y2 y3 y4, LeO (spec_EvenSum.l0 k y0 y1 y2 y3 y4) (spec_EvenSum.l0 (k + 1) y0 y1 y2 y3 y4))
 | 0 => fun _ _ _ _ _ r h => by simp [spec_EvenSum.l0] at h
 | k + 1 => by
  have ih0 := spec_EvenSum.mono_l k
  ·intro y0 y1 y2 y3 y4
   unfold spec_EvenSum.l0
   repeat' first
   | (with_reducible exact ih0 _ _ _ _ _)
   | (with_reducible exact spec_IsAcyclic.mono _ _ _)
   | (with_reducible exact spec_l8Sets.mono _ _ _ _ _)
   | (with_reducible exact LeO.refl _)
   | (with_reducible exact LeO.none _)
   | (with_reducible refine LeO.ite ?_ ?_)
   | (with_reducible refine LeO.bind ?_ (fun _ => ?_))
   | exact ih0 _ _ _ _ _
   | exact spec_IsAcyclic.mono _ _ _
   | exact spec_l8Sets.mono _ _ _ _ _
   | exact LeO.none _
   | refine LeO.ite ?_ ?_
   | refine LeO.bind ?_ (fun _ => ?_)
theorem spec_EvenSum.mono : ∀ a0 a1 k, LeO (spec_EvenSum.f k a0 a1) (spec_EvenSum.f (k + 1) a0 a1) := by
 intro a0 a1 k
 have ih0 := spec_EvenSum.mono_l k
 unfold spec_EvenSum.f
 repeat' first
   | (with_reducible exact ih0 _ _ _ _ _)
   | (with_reducible exact spec_IsAcyclic.mono _ _ _)
   | (with_reducible exact spec_l8Sets.mono _ _ _ _ _)
   | (with_reducible exact LeO.refl _)
   | (with_reducible exact LeO.none _)
   | (with_reducible refine LeO.ite ?_ ?_)
   | (with_reducible refine LeO.bind ?_ (fun _ => ?_))
   | exact ih0 _ _ _ _ _
   | exact spec_IsAcyclic.mono _ _ _
   | exact spec_l8Sets.mono _ _ _ _ _
   | exact LeO.none _
   | refine LeO.ite ?_ ?_
   | refine LeO.bind ?_ (fun _ => ?_)
set_option maxHeartbeats 8000000 in
set_option maxRecDepth 100000 in
theorem spec_EvenSum.calls (k : Nat) (a0_0 : Int) (a0_1 : ByteArray) (r : Int) (w : World) (h : spec_EvenSum.f k a0_0 a0_1 = some r) :
  Calls Try.prog 38 #[.agg #[.int .i64 a0_0, .string a0_1]] w fun e w' => e = .returned (.int .i64 r) ∧ Below w.heap.size w w' := by
 have hu26 := Try.underlying26
 have HB := Aside0.mk (Below.refl w.heap.size w)
 have H : ((spec_IsAcyclic.f k a0_0 a0_1).bind fun t645 => (if t645 = true then (spec_EvenSum.l0 k 0 1 3 a0_0 a0_1) else (some (-1)))) = some r := h
 clear h
 replace H := Option.bind_eq_some_iff.mp H
 obtain ⟨t645, A20, H⟩ := H
 (try dsimp only at H)
 have A2 := Aside0.mk A20
 clear A20
 by_cases c3 : t645 = true
 ·subst c3
  have H1 : (spec_EvenSum.l0 k 0 1 3 a0_0 a0_1) = some r := by rw [if_pos rfl] at H; exact H
  clear H
  have H := H1
  clear H1
  have H' := Aside0.mk H
  clear H
  go_enter Try.func38, Try.ntmps38
  go_wp2_with (first | ((with_reducible refine gate_dst (N := 1) rfl ?_); refine bx 1 #[.int .i64 a0_0, .string a0_1] 26 ?_; intro gb644 hg w4 hbox hb; have BK644 := Aside0.mk hbox; have GE644 := gs HB hg; have GW644 := GE644; replace HB := bs HB hb; clear hb hbox hg; have hcz5_0 := bc BK644 0; have hcz5_1 := bc BK644 1; have hfz5_0 := bf BK644 0; have hfz5_1 := bf BK644 1) | ((with_reducible refine gate_callee (f := 44) rfl ?_); refine gL (some 7) rfl rfl Try.func44 (by kernel_rfl) rfl #[.agg #[.int .i64 a0_0, .string a0_1]] rfl ?_; (with_reducible refine (spec_IsAcyclic.calls k a0_0 a0_1 true _ A2.out).mono ?_); rintro e w6 ⟨rfl, hb⟩; refine ⟨_, rfl, ?_⟩; have n0_ := Aside0.mk (blk_below (g := gb644) (o := .cells #[.int .i64 a0_0, .string a0_1] 26 (0, 0)) (bk BK644) hb); have n1_ := bsg HB GE644 hb; clear BK644; clear HB; have BK644 := n0_; have HB := n1_; clear n0_ n1_; (try clear hb); (try clear hb2); (try clear hk); (try clear hi)))
  go_loopg [3, 4, 5] k (fun kq v3 v4 v5 w' => ∃ (x3_1 : Int) (x4_1 : Int) (x5_1 : Int), v3 = .int .i64 x3_1 ∧ v4 = .int .i64 x4_1 ∧ v5 = .int .i64 x5_1 ∧ Aside0 (spec_EvenSum.l0 kq x3_1 x4_1 x5_1 a0_0 a0_1 = some r) ∧ Aside0 (kq ≤ k) ∧ Aside0 (w'.heap[gb644]? = some (.cells #[.int .i64 a0_0, .string a0_1] 26 (0, 0))) ∧ Aside0 (Below w.heap.size w w'))
  case atStart => exact ⟨(0), (1), (3), (by first | rfl | (simp; done) | (simp [*]; done)), (by first | rfl | (simp; done) | (simp [*]; done)), (by first | rfl | (simp; done) | (simp [*]; done)), H', ⟨Nat.le_refl _⟩, ⟨by (with_reducible repeat (first | refine blk_drewN ?_ _ | refine blk_drew ?_ | refine blk_alloc ?_ _)); exact BK644.out⟩, ⟨(bg HB GE644)⟩⟩
  case round =>
   clear H'
   try clear p2
   try clear c3
   try clear c4
   try clear hcz5_0
   try clear hcz5_1
   try clear hfz5_0
   try clear hfz5_1
   obtain ⟨x3_1, x4_1, x5_1, rfl, rfl, rfl, HA, HK1, BK644, HB⟩ := hrel
   cases gk with
   | zero => exact absurd HA.out (by simp [spec_EvenSum.l0])
   | succ k1 =>
    have H := HA.out
    clear HA
    simp only [spec_EvenSum.l0] at H
    by_cases c7 : x5_1 ≤ a0_0
    ·rw [if_pos c7] at H
     have c7b0 : decide (x5_1 ≤ a0_0) = true := decide_eq_true c7
     clear c7
     replace H := Option.bind_eq_some_iff.mp H
     obtain ⟨t646, A80, H⟩ := H
     (try dsimp only at H)
     have A8 := Aside0.mk A80
     clear A80
     have H' := Aside0.mk H
     clear H
     have hcz9_0 := bc BK644 0
     have hcz9_1 := bc BK644 1
     have hfz9_0 := bf BK644 0
     have hfz9_1 := bf BK644 1
     go_wp2_with (first | ((with_reducible refine gate_callee (f := 68) rfl ?_); refine gL (some 19) rfl rfl Try.func68 (by kernel_rfl) rfl #[.agg #[.int .i64 a0_0, .string a0_1], .int .i64 x5_1, .bool true] rfl ?_; (with_reducible refine (spec_l8Sets.calls k1 a0_0 a0_1 x5_1 true t646 _ A8.out).mono ?_); rintro e w10 ⟨v647, rfl, ho0, hb⟩; refine ⟨_, rfl, ?_⟩; have n0_ := Aside0.mk (Kd.R_lower ho0 (below_size (bg HB GE644))); have n1_ := Aside0.mk (blk_below (g := gb644) (o := .cells #[.int .i64 a0_0, .string a0_1] 26 (0, 0)) (bk BK644) hb); have n2_ := bsg HB GE644 hb; clear BK644; clear HB; have HO648 := n0_; have BK644 := n1_; have HB := n2_; clear n0_ n1_ n2_; (try clear hb); (try clear hb2); (try clear hk); (try clear hi); (try clear ho0); obtain ⟨Ao11, co11, eo11⟩ := Kd.R_slice HO648.out; subst eo11))
     go_roundg k1
     case measure => have := HK1.out; omega
     case rel => exact ⟨(wrap64 (x3_1 + (wrap64 (x4_1 * (t646.length : Int))))), (wrap64 (-x4_1)), (wrap64 (x5_1 + 1)), (by first | rfl | (simp; done) | (simp [*]; done)), (by first | rfl | (simp; done) | (simp [*]; done)), (by first | rfl | (simp; done) | (simp [*]; done)), H', ⟨by have := HK1.out; omega⟩, ⟨by (with_reducible repeat (first | refine blk_drewN ?_ _ | refine blk_drew ?_ | refine blk_alloc ?_ _)); exact BK644.out⟩, ⟨(bg HB GE644)⟩⟩
    ·rw [if_neg c7] at H
     have c7b0 : decide (x5_1 ≤ a0_0) = false := decide_eq_false c7
     clear c7
     obtain rfl := Option.some.inj H
     have hcz12_0 := bc BK644 0
     have hcz12_1 := bc BK644 1
     have hfz12_0 := bf BK644 0
     have hfz12_1 := bf BK644 1
     go_wp2
     go_ret
     exact ⟨by first | rfl | (simp [errW_none, errW_some] <;> rfl) | (simp [*, errW_none, errW_some] <;> rfl), (bg HB GE644)⟩
 ·replace c3 := Bool.eq_false_iff.mpr c3
  subst c3
  have H1 : (some (-1)) = some r := by rw [if_neg (show ¬ (false = true) by decide)] at H; exact H
  clear H
  have H := H1
  clear H1
  obtain rfl := Option.some.inj H
  go_enter Try.func38, Try.ntmps38
  go_wp2_with (first | ((with_reducible refine gate_dst (N := 1) rfl ?_); refine bx 1 #[.int .i64 a0_0, .string a0_1] 26 ?_; intro gb644 hg w13 hbox hb; have BK644 := Aside0.mk hbox; have GE644 := gs HB hg; have GW644 := GE644; replace HB := bs HB hb; clear hb hbox hg; have hcz14_0 := bc BK644 0; have hcz14_1 := bc BK644 1; have hfz14_0 := bf BK644 0; have hfz14_1 := bf BK644 1) | ((with_reducible refine gate_callee (f := 44) rfl ?_); refine gL (some 7) rfl rfl Try.func44 (by kernel_rfl) rfl #[.agg #[.int .i64 a0_0, .string a0_1]] rfl ?_; (with_reducible refine (spec_IsAcyclic.calls k a0_0 a0_1 false _ A2.out).mono ?_); rintro e w15 ⟨rfl, hb⟩; refine ⟨_, rfl, ?_⟩; have n0_ := Aside0.mk (blk_below (g := gb644) (o := .cells #[.int .i64 a0_0, .string a0_1] 26 (0, 0)) (bk BK644) hb); have n1_ := bsg HB GE644 hb; clear BK644; clear HB; have BK644 := n0_; have HB := n1_; clear n0_ n1_; (try clear hb); (try clear hb2); (try clear hk); (try clear hi)))
  go_ret
  exact ⟨by first | rfl | (simp [errW_none, errW_some] <;> rfl) | (simp [*, errW_none, errW_some] <;> rfl), (bg HB GE644)⟩

end Go.Proofs.Ytjjfjdejhddcnaa.P
