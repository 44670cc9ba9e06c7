-- Printed by a program of this session (wip/tools/myprint.py, over the kit's print.py); not trusted: Lean checks it.
import Derived.Test.YthibphndihjcaaaP0
import Derived.Test.YthibphndihjcaaaOWsg
import Derived.Test.YthibphndihjcaaaP17
import Derived.Test.YthibphndihjcaaaP26
import Derived.Test.YthibphndihjcaaaP34
import Derived.Test.YthibphndihjcaaaP38
namespace Go.Proofs.Ythibphndihjcaaa.P
open Go.RowKit Go.Proofs.YthibphndihjcaaaW.PrintWords Go.Proofs.YthibphndihjcaaaW.PrintLast Go.Proofs.YthibphndihjcaaaW.PrintMore
attribute [local go_sem] max2_int min2_int max_two min_two max_three min_three max_four min_four   -- for this text's walks alone
set_option linter.unusedVariables false
set_option linter.unusedSimpArgs false

/-! ### laws_FnExactWiringOfSigns: function 10 -/
mutual
def laws_FnExactWiringOfSigns.j0 : Nat → List Int → Bool → List Int → Bool → Int → ByteArray → Option (Bool)
 | 0, _, _, _, _, _, _ => none
 | k + 1, x4, x5, x6, x37, x486000, x486001 => if x37 = true then (some false) else ((laws_markIntS.f k x6 1).bind fun bt500 => ((laws_heldIntS.f k bt500.2 1).bind fun t502 => (if t502 < 0 then (some false) else (if t502 = bt500.1 then ((laws_toSigns.f x486000 x486001).bind fun bt503 => ((impl_WiringOfSigns.f k bt503.1 bt503.2).bind fun bt505 => ((laws_eqIntS.f k bt505.1 x4).bind fun t509 => (if t509 = true then (laws_FnExactWiringOfSigns.j1 k bt500.2 bt500.1 (bt505.2 != x5)) else (laws_FnExactWiringOfSigns.j1 k bt500.2 bt500.1 true))))) else (some false)))))
def laws_FnExactWiringOfSigns.j1 : Nat → List Int → Int → Bool → Option (Bool)
 | 0, _, _, _ => none
 | k + 1, x6, x8, x63 => if x63 = true then (some false) else ((laws_heldIntS.f k x6 1).bind fun t510 => (if t510 < 0 then (some false) else (if t510 = x8 then (some true) else (some false))))
end
def laws_FnExactWiringOfSigns.f (k : Nat) (a0_0 : Int) (a0_1 : ByteArray) : Option (Bool) := (laws_szSigns.f a0_0 a0_1 1048576).bind fun t486 => (if t486 < 0 then (some true) else ((laws_toSigns.f a0_0 a0_1).bind fun bt487 => ((spec_WiringOfSigns.f k bt487.1 bt487.2).bind fun bt489 => ((laws_toSigns.f a0_0 a0_1).bind fun bt493 => ((impl_WiringOfSigns.f k bt493.1 bt493.2).bind fun bt495 => ((laws_eqIntS.f k bt495.1 bt489.1).bind fun t499 => (if t499 = true then (laws_FnExactWiringOfSigns.j0 k bt489.1 bt489.2 bt495.1 (bt495.2 != bt489.2) a0_0 a0_1) else (laws_FnExactWiringOfSigns.j0 k bt489.1 bt489.2 bt495.1 true a0_0 a0_1))))))))
theorem laws_FnExactWiringOfSigns.mono_l : ∀ k, (∀ y0 y1 y2 y3 y4 y5, LeO (laws_FnExactWiringOfSigns.j0 k y0 y1 y2 y3 y4 y5) (laws_FnExactWiringOfSigns.j0 (k + 1) y0 y1 y2 y3 y4 y5)) ∧ (∀ y0 y1 y2, LeO (laws_FnExactWiringOfSigns.j1 k y0 y1 y2) (laws_FnExactWiringOfSigns.j1 (k + 1) y0 y1 y2))
 | 0 => ⟨fun _ _ _ _ _ _ r h => by simp [laws_FnExactWiringOfSigns.j0] at h, fun _ _ _ r h => by simp [laws_FnExactWiringOfSigns.j1] at h⟩
 | k + 1 => by
  obtain ⟨ih0, ih1⟩ := laws_FnExactWiringOfSigns.mono_l k
  refine ⟨?_, ?_⟩
  ·intro y0 y1 y2 y3 y4 y5
   unfold laws_FnExactWiringOfSigns.j0
   repeat' first
   | (with_reducible exact ih0 _ _ _ _ _ _)
   | (with_reducible exact ih1 _ _ _)
   | (with_reducible exact impl_WiringOfSigns.mono _ _ _)
   | (with_reducible exact laws_eqIntS.mono _ _ _)
   | (with_reducible exact laws_heldIntS.mono _ _ _)
   | (with_reducible exact laws_markIntS.mono _ _ _)
   | (with_reducible exact spec_WiringOfSigns.mono _ _ _)
   | (with_reducible exact LeO.refl _)
   | (with_reducible exact LeO.none _)
   | (with_reducible refine LeO.ite ?_ ?_)
   | (with_reducible refine LeO.bind ?_ (fun _ => ?_))
   | exact ih0 _ _ _ _ _ _
   | exact ih1 _ _ _
   | exact impl_WiringOfSigns.mono _ _ _
   | exact laws_eqIntS.mono _ _ _
   | exact laws_heldIntS.mono _ _ _
   | exact laws_markIntS.mono _ _ _
   | exact spec_WiringOfSigns.mono _ _ _
   | exact LeO.none _
   | refine LeO.ite ?_ ?_
   | refine LeO.bind ?_ (fun _ => ?_)
  ·intro y0 y1 y2
   unfold laws_FnExactWiringOfSigns.j1
   repeat' first
   | (with_reducible exact ih0 _ _ _ _ _ _)
   | (with_reducible exact ih1 _ _ _)
   | (with_reducible exact impl_WiringOfSigns.mono _ _ _)
   | (with_reducible exact laws_eqIntS.mono _ _ _)
   | (with_reducible exact laws_heldIntS.mono _ _ _)
   | (with_reducible exact laws_markIntS.mono _ _ _)
   | (with_reducible exact spec_WiringOfSigns.mono _ _ _)
   | (with_reducible exact LeO.refl _)
   | (with_reducible exact LeO.none _)
   | (with_reducible refine LeO.ite ?_ ?_)
   | (with_reducible refine LeO.bind ?_ (fun _ => ?_))
   | exact ih0 _ _ _ _ _ _
   | exact ih1 _ _ _
   | exact impl_WiringOfSigns.mono _ _ _
   | exact laws_eqIntS.mono _ _ _
   | exact laws_heldIntS.mono _ _ _
   | exact laws_markIntS.mono _ _ _
   | exact spec_WiringOfSigns.mono _ _ _
   | exact LeO.none _
   | refine LeO.ite ?_ ?_
   | refine LeO.bind ?_ (fun _ => ?_)
theorem laws_FnExactWiringOfSigns.mono : ∀ a0 a1 k, LeO (laws_FnExactWiringOfSigns.f k a0 a1) (laws_FnExactWiringOfSigns.f (k + 1) a0 a1) := by
 intro a0 a1 k
 obtain ⟨ih0, ih1⟩ := laws_FnExactWiringOfSigns.mono_l k
 unfold laws_FnExactWiringOfSigns.f
 repeat' first
   | (with_reducible exact ih0 _ _ _ _ _ _)
   | (with_reducible exact ih1 _ _ _)
   | (with_reducible exact impl_WiringOfSigns.mono _ _ _)
   | (with_reducible exact laws_eqIntS.mono _ _ _)
   | (with_reducible exact laws_heldIntS.mono _ _ _)
   | (with_reducible exact laws_markIntS.mono _ _ _)
   | (with_reducible exact spec_WiringOfSigns.mono _ _ _)
   | (with_reducible exact LeO.refl _)
   | (with_reducible exact LeO.none _)
   | (with_reducible refine LeO.ite ?_ ?_)
   | (with_reducible refine LeO.bind ?_ (fun _ => ?_))
   | exact ih0 _ _ _ _ _ _
   | exact ih1 _ _ _
   | exact impl_WiringOfSigns.mono _ _ _
   | exact laws_eqIntS.mono _ _ _
   | exact laws_heldIntS.mono _ _ _
   | exact laws_markIntS.mono _ _ _
   | exact spec_WiringOfSigns.mono _ _ _
   | exact LeO.none _
   | refine LeO.ite ?_ ?_
   | refine LeO.bind ?_ (fun _ => ?_)
set_option maxHeartbeats 8000000 in
set_option maxRecDepth 100000 in
theorem laws_FnExactWiringOfSigns.calls (k : Nat) (a0_0 : Int) (a0_1 : ByteArray) (w : World) (h : laws_FnExactWiringOfSigns.f k a0_0 a0_1 = some true) :
  Calls Try.prog 10 #[.agg #[.int .i64 a0_0, .string a0_1]] w fun e w' => e = .returned (.bool true) ∧ Below w.heap.size w w' := by
 have hu41 := Try.underlying41
 have HB := Aside0.mk (Below.refl w.heap.size w)
 have H : ((laws_szSigns.f a0_0 a0_1 1048576).bind fun t486 => (if t486 < 0 then (some true) else ((laws_toSigns.f a0_0 a0_1).bind fun bt487 => ((spec_WiringOfSigns.f k bt487.1 bt487.2).bind fun bt489 => ((laws_toSigns.f a0_0 a0_1).bind fun bt493 => ((impl_WiringOfSigns.f k bt493.1 bt493.2).bind fun bt495 => ((laws_eqIntS.f k bt495.1 bt489.1).bind fun t499 => (if t499 = true then (laws_FnExactWiringOfSigns.j0 k bt489.1 bt489.2 bt495.1 (bt495.2 != bt489.2) a0_0 a0_1) else (laws_FnExactWiringOfSigns.j0 k bt489.1 bt489.2 bt495.1 true a0_0 a0_1))))))))) = some true := h
 clear h
 replace H := Option.bind_eq_some_iff.mp H
 obtain ⟨t486, A20, H⟩ := H
 (try dsimp only at H)
 have A2 := Aside0.mk A20
 clear A20
 by_cases c3 : t486 < 0
 ·rw [if_pos c3] at H
  have c3b0 : decide (t486 < 0) = true := decide_eq_true c3
  clear c3
  clear H
  go_enter Try.func10, Try.ntmps10
  go_wp2_with (first | ((with_reducible refine gate_dst (N := 1) rfl ?_); refine bx 1 #[.int .i64 a0_0, .string a0_1] 41 ?_; intro gb485 hg w4 hbox hb; have BK485 := Aside0.mk hbox; have GE485 := gs HB hg; have GW485 := GE485; replace HB := bs HB hb; clear hb hbox hg; have hcz5_0 := bc BK485 0; have hcz5_1 := bc BK485 1; have hfz5_0 := bf BK485 0; have hfz5_1 := bf BK485 1) | ((with_reducible refine gate_callee (f := 34) rfl ?_); refine gL (some 14) rfl rfl Try.func34 (by kernel_rfl) rfl #[.agg #[.int .i64 a0_0, .string a0_1], .int .i64 1048576] rfl ?_; (with_reducible refine (laws_szSigns.calls a0_0 a0_1 1048576 t486 _ A2.out).mono ?_); rintro e w6 ⟨rfl, hb⟩; refine ⟨_, rfl, ?_⟩; have n0_ := Aside0.mk (blk_below (g := gb485) (o := .cells #[.int .i64 a0_0, .string a0_1] 41 (0, 0)) (bk BK485) hb); have n1_ := bsg HB GE485 hb; clear BK485; clear HB; have BK485 := n0_; have HB := n1_; clear n0_ n1_; (try clear hb); (try clear hb2); (try clear hk); (try clear hi)))
  go_ret
  exact ⟨by first | rfl | (simp [errW_none, errW_some] <;> rfl) | (simp [*, errW_none, errW_some] <;> rfl), (bg HB GE485)⟩
 ·rw [if_neg c3] at H
  have c3b0 : decide (t486 < 0) = false := decide_eq_false c3
  clear c3
  replace H := Option.bind_eq_some_iff.mp H
  obtain ⟨⟨t487, t488⟩, A70, H⟩ := H
  (try dsimp only at H)
  have A7 := Aside0.mk A70
  clear A70
  replace H := Option.bind_eq_some_iff.mp H
  obtain ⟨⟨t489, t492⟩, A80, H⟩ := H
  (try dsimp only at H)
  have A8 := Aside0.mk A80
  clear A80
  replace H := Option.bind_eq_some_iff.mp H
  obtain ⟨⟨t493, t494⟩, A90, H⟩ := H
  (try dsimp only at H)
  have A9 := Aside0.mk A90
  clear A90
  replace H := Option.bind_eq_some_iff.mp H
  obtain ⟨⟨t495, t498⟩, A100, H⟩ := H
  (try dsimp only at H)
  have A10 := Aside0.mk A100
  clear A100
  have HC11 := Aside0.mk H
  clear H
  go_enter Try.func10, Try.ntmps10
  go_upto_region 7 with (first | ((with_reducible refine gate_dst (N := 1) rfl ?_); refine bx 1 #[.int .i64 a0_0, .string a0_1] 41 ?_; intro gb485 hg w12 hbox hb; have BK485 := Aside0.mk hbox; have GE485 := gs HB hg; have GW485 := GE485; replace HB := bs HB hb; clear hb hbox hg; have hcz13_0 := bc BK485 0; have hcz13_1 := bc BK485 1; have hfz13_0 := bf BK485 0; have hfz13_1 := bf BK485 1) | ((with_reducible refine gate_callee (f := 34) rfl ?_); refine gL (some 14) rfl rfl Try.func34 (by kernel_rfl) rfl #[.agg #[.int .i64 a0_0, .string a0_1], .int .i64 1048576] rfl ?_; (with_reducible refine (laws_szSigns.calls a0_0 a0_1 1048576 t486 _ A2.out).mono ?_); rintro e w14 ⟨rfl, hb⟩; refine ⟨_, rfl, ?_⟩; have n0_ := Aside0.mk (blk_below (g := gb485) (o := .cells #[.int .i64 a0_0, .string a0_1] 41 (0, 0)) (bk BK485) hb); have n1_ := bsg HB GE485 hb; clear BK485; clear HB; have BK485 := n0_; have HB := n1_; clear n0_ n1_; (try clear hb); (try clear hb2); (try clear hk); (try clear hi); have hcz15_0 := bc BK485 0; have hcz15_1 := bc BK485 1; have hfz15_0 := bf BK485 0; have hfz15_1 := bf BK485 1) | ((with_reducible refine gate_callee (f := 36) rfl ?_); refine gL (some 19) rfl rfl Try.func36 (by kernel_rfl) rfl #[.agg #[.int .i64 a0_0, .string a0_1]] rfl ?_; (with_reducible refine (laws_toSigns.calls a0_0 a0_1 t487 t488 _ A7.out).mono ?_); rintro e w16 ⟨rfl, hb⟩; refine ⟨_, rfl, ?_⟩; have n0_ := Aside0.mk (blk_below (g := gb485) (o := .cells #[.int .i64 a0_0, .string a0_1] 41 (0, 0)) (bk BK485) hb); have n1_ := bsg HB GE485 hb; clear BK485; clear HB; have BK485 := n0_; have HB := n1_; clear n0_ n1_; (try clear hb); (try clear hb2); (try clear hk); (try clear hi)) | ((with_reducible refine gate_callee (f := 38) rfl ?_); refine gL (some 20) rfl rfl Try.func38 (by kernel_rfl) rfl #[.agg #[.int .i64 t487, .string t488]] rfl ?_; (with_reducible refine (spec_WiringOfSigns.calls k t487 t488 t489 t492 _ A8.out).mono ?_); rintro e w17 ⟨v490, rfl, ho0, hb⟩; refine ⟨_, rfl, ?_⟩; have n0_ := Aside0.mk (Kd.R_lower ho0 (below_size (bg HB GE485))); have n1_ := Aside0.mk (blk_below (g := gb485) (o := .cells #[.int .i64 a0_0, .string a0_1] 41 (0, 0)) (bk BK485) hb); have n2_ := bsg HB GE485 hb; clear BK485; clear HB; have HO491 := n0_; have BK485 := n1_; have HB := n2_; clear n0_ n1_ n2_; (try clear hb); (try clear hb2); (try clear hk); (try clear hi); (try clear ho0); have hcz18_0 := bc BK485 0; have hcz18_1 := bc BK485 1; have hfz18_0 := bf BK485 0; have hfz18_1 := bf BK485 1) | ((with_reducible refine gate_callee (f := 36) rfl ?_); refine gL (some 25) rfl rfl Try.func36 (by kernel_rfl) rfl #[.agg #[.int .i64 a0_0, .string a0_1]] rfl ?_; (with_reducible refine (laws_toSigns.calls a0_0 a0_1 t493 t494 _ A9.out).mono ?_); rintro e w19 ⟨rfl, hb⟩; refine ⟨_, rfl, ?_⟩; have n0_ := Aside0.mk (Kd.R_below (rr HO491) hb); have n1_ := Aside0.mk (blk_below (g := gb485) (o := .cells #[.int .i64 a0_0, .string a0_1] 41 (0, 0)) (bk BK485) hb); have n2_ := bsg HB GE485 hb; clear HO491; clear BK485; clear HB; have HO491 := n0_; have BK485 := n1_; have HB := n2_; clear n0_ n1_ n2_; (try clear hb); (try clear hb2); (try clear hk); (try clear hi)) | ((with_reducible refine gate_callee (f := 39) rfl ?_); refine gL (some 26) rfl rfl Try.func39 (by kernel_rfl) rfl #[.agg #[.int .i64 t493, .string t494]] rfl ?_; (with_reducible refine (impl_WiringOfSigns.calls k t493 t494 t495 t498 _ A10.out).mono ?_); rintro e w20 ⟨v496, rfl, ho0, hb⟩; refine ⟨_, rfl, ?_⟩; have n0_ := Aside0.mk (Kd.R_elder' (rr HO491) (Kd.R_base ho0) hb); have n1_ := Aside0.mk (Kd.R_lower (Kd.R_new' ho0 (Kd.R_lt (rr HO491))) (below_size (bg HB GE485))); have n2_ := Aside0.mk (blk_below (g := gb485) (o := .cells #[.int .i64 a0_0, .string a0_1] 41 (0, 0)) (bk BK485) hb); have n3_ := bsg HB GE485 hb; clear HO491; clear BK485; clear HB; have HO491 := n0_; have HO497 := n1_; have BK485 := n2_; have HB := n3_; clear n0_ n1_ n2_ n3_; (try clear hb); (try clear hb2); (try clear hk); (try clear hi); (try clear ho0)))
  (try simp only [Act.put, List.setIfInBounds_toArray, List.set_cons_zero, List.set_cons_succ])
  go_cut [37] (fun v37 wc => ∃ (kq : Nat) (x37_10 : Bool), v37 = .bool x37_10 ∧ Aside0 (laws_FnExactWiringOfSigns.j0 kq t489 t492 t495 x37_10 a0_0 a0_1 = some true) ∧ Aside0 (kq ≤ k) ∧ Aside0 (Kd.R (Kd.int .i64) 3 wc w.heap.size (fun k_ => some k_ ≠ (v496 : Value).ownBlock) v490 t489) ∧ Aside0 (Kd.R (Kd.int .i64) 3 wc w.heap.size (fun k_ => some k_ ≠ (v490 : Value).ownBlock) v496 t495) ∧ Aside0 (wc.heap[gb485]? = some (.cells #[.int .i64 a0_0, .string a0_1] 41 (0, 0))) ∧ Aside0 (Below w.heap.size w wc))
  case first =>
   have H := HC11.out
   clear HC11
   replace H := Option.bind_eq_some_iff.mp H
   obtain ⟨t499, A210, H⟩ := H
   (try dsimp only at H)
   have A21 := Aside0.mk A210
   clear A210
   by_cases c22 : t499 = true
   ·subst c22
    have H1 : (laws_FnExactWiringOfSigns.j0 k t489 t492 t495 (t498 != t492) a0_0 a0_1) = some true := by rw [if_pos rfl] at H; exact H
    clear H
    have H := H1
    clear H1
    have H' := Aside0.mk H
    clear H
    obtain ⟨Ao23, co23, eo23⟩ := Kd.R_slice HO497.out
    subst eo23
    obtain ⟨Ao24, co24, eo24⟩ := Kd.R_slice HO491.out
    subst eo24
    go_wp2_with (first | ((with_reducible refine gate_callee (f := 17) rfl ?_); refine gL (some 31) rfl rfl Try.func17 (by kernel_rfl) rfl #[.slice Ao23 t495.length co23, .slice Ao24 t489.length co24] rfl ?_; (with_reducible refine (laws_eqIntS.calls k _ _ t495 _ _ t489 true _ ?side1 ?side2 ?side3 ?side4 A21.out).mono ?_); (case side1 => repeat (first | exact (Kd.R_reads' HO497.out).2.2 | (with_reducible refine Kd.C_alloc ?_ _) | (with_reducible refine Kd.C_drewN ?_ _) | (with_reducible refine Kd.C_drew ?_))); (case side2 => exact (Kd.R_reads' HO497.out).2.1); (case side3 => repeat (first | exact (Kd.R_reads' HO491.out).2.2 | (with_reducible refine Kd.C_alloc ?_ _) | (with_reducible refine Kd.C_drewN ?_ _) | (with_reducible refine Kd.C_drew ?_))); (case side4 => exact (Kd.R_reads' HO491.out).2.1); rintro e w' ⟨rfl, ⟨nd, rfl⟩⟩; refine ⟨_, rfl, ?_⟩))
    go_meet
    case rel => exact ⟨_, ((t498 != t492)), (by first | rfl | (simp; done) | (simp [*]; done)), H', ⟨by first | omega | exact Nat.le_refl _⟩, ⟨by (with_reducible repeat (first | apply Kd.R_alloc | apply Kd.R_drewN | apply Kd.R_drew)); exact Kd.R_mono HO491.out (fun _ hk => hk.2)⟩, ⟨by (with_reducible repeat (first | apply Kd.R_alloc | apply Kd.R_drewN | apply Kd.R_drew)); exact Kd.R_mono HO497.out (fun _ hk => hk.2)⟩, ⟨by (with_reducible repeat (first | refine blk_drewN ?_ _ | refine blk_drew ?_ | refine blk_alloc ?_ _)); exact BK485.out⟩, ⟨(bg HB GE485)⟩⟩
   ·replace c22 := Bool.eq_false_iff.mpr c22
    subst c22
    have H1 : (laws_FnExactWiringOfSigns.j0 k t489 t492 t495 true a0_0 a0_1) = some true := by rw [if_neg (show ¬ (false = true) by decide)] at H; exact H
    clear H
    have H := H1
    clear H1
    have H' := Aside0.mk H
    clear H
    obtain ⟨Ao25, co25, eo25⟩ := Kd.R_slice HO497.out
    subst eo25
    obtain ⟨Ao26, co26, eo26⟩ := Kd.R_slice HO491.out
    subst eo26
    go_wp2_with (first | ((with_reducible refine gate_callee (f := 17) rfl ?_); refine gL (some 31) rfl rfl Try.func17 (by kernel_rfl) rfl #[.slice Ao25 t495.length co25, .slice Ao26 t489.length co26] rfl ?_; (with_reducible refine (laws_eqIntS.calls k _ _ t495 _ _ t489 false _ ?side1 ?side2 ?side3 ?side4 A21.out).mono ?_); (case side1 => repeat (first | exact (Kd.R_reads' HO497.out).2.2 | (with_reducible refine Kd.C_alloc ?_ _) | (with_reducible refine Kd.C_drewN ?_ _) | (with_reducible refine Kd.C_drew ?_))); (case side2 => exact (Kd.R_reads' HO497.out).2.1); (case side3 => repeat (first | exact (Kd.R_reads' HO491.out).2.2 | (with_reducible refine Kd.C_alloc ?_ _) | (with_reducible refine Kd.C_drewN ?_ _) | (with_reducible refine Kd.C_drew ?_))); (case side4 => exact (Kd.R_reads' HO491.out).2.1); rintro e w' ⟨rfl, ⟨nd, rfl⟩⟩; refine ⟨_, rfl, ?_⟩))
    go_meet
    case rel => exact ⟨_, (true), (by first | rfl | (simp; done) | (simp [*]; done)), H', ⟨by first | omega | exact Nat.le_refl _⟩, ⟨by (with_reducible repeat (first | apply Kd.R_alloc | apply Kd.R_drewN | apply Kd.R_drew)); exact Kd.R_mono HO491.out (fun _ hk => hk.2)⟩, ⟨by (with_reducible repeat (first | apply Kd.R_alloc | apply Kd.R_drewN | apply Kd.R_drew)); exact Kd.R_mono HO497.out (fun _ hk => hk.2)⟩, ⟨by (with_reducible repeat (first | refine blk_drewN ?_ _ | refine blk_drew ?_ | refine blk_alloc ?_ _)); exact BK485.out⟩, ⟨(bg HB GE485)⟩⟩
  case rest =>
   clear HC11
   try clear c1
   try clear c2
   try clear p2
   try clear c3
   try clear c3b0
   try clear c10
   try clear c17
   try clear c22
   try clear hcz13_0
   try clear hcz13_1
   try clear hcz15_0
   try clear hcz15_1
   try clear hcz18_0
   try clear hcz18_1
   try clear hcz5_0
   try clear hcz5_1
   try clear hfz13_0
   try clear hfz13_1
   try clear hfz15_0
   try clear hfz15_1
   try clear hfz18_0
   try clear hfz18_1
   try clear hfz5_0
   try clear hfz5_1
   obtain ⟨kq, x37_10, rfl, HA, HJ10, HO_4, HO_6, BK485, HB⟩ := hcut
   cases kq with
   | zero => exact absurd HA.out (by simp [laws_FnExactWiringOfSigns.j0])
   | succ kj10 =>
    have H := HA.out
    clear HA
    simp only [laws_FnExactWiringOfSigns.j0] at H
    by_cases c27 : x37_10 = true
    ·subst c27
     have H1 : (some false) = some true := by rw [if_pos rfl] at H; exact H
     clear H
     have H := H1
     clear H1
     exact absurd H (by simp)
    ·replace c27 := Bool.eq_false_iff.mpr c27
     subst c27
     have H1 : ((laws_markIntS.f kj10 t495 1).bind fun bt500 => ((laws_heldIntS.f kj10 bt500.2 1).bind fun t502 => (if t502 < 0 then (some false) else (if t502 = bt500.1 then ((laws_toSigns.f a0_0 a0_1).bind fun bt503 => ((impl_WiringOfSigns.f kj10 bt503.1 bt503.2).bind fun bt505 => ((laws_eqIntS.f kj10 bt505.1 t489).bind fun t509 => (if t509 = true then (laws_FnExactWiringOfSigns.j1 kj10 bt500.2 bt500.1 (bt505.2 != t492)) else (laws_FnExactWiringOfSigns.j1 kj10 bt500.2 bt500.1 true))))) else (some false))))) = some true := by rw [if_neg (show ¬ (false = true) by decide)] at H; exact H
     clear H
     have H := H1
     clear H1
     replace H := Option.bind_eq_some_iff.mp H
     obtain ⟨⟨t500, t501⟩, A280, H⟩ := H
     (try dsimp only at H)
     have A28 := Aside0.mk A280
     clear A280
     replace H := Option.bind_eq_some_iff.mp H
     obtain ⟨t502, A290, H⟩ := H
     (try dsimp only at H)
     have A29 := Aside0.mk A290
     clear A290
     by_cases c30 : t502 < 0
     ·rw [if_pos c30] at H
      have c30b0 : decide (t502 < 0) = true := decide_eq_true c30
      clear c30
      exact absurd H (by simp)
     ·rw [if_neg c30] at H
      have c30b0 : decide (t502 < 0) = false := decide_eq_false c30
      clear c30
      by_cases c33 : t502 = t500
      ·rw [if_pos c33] at H
       have c33b0 : (t502 == t500) = true := beq_iff_eq.mpr c33
       have c33b1 : (t502 != t500) = false := bne_eq_false_iff_eq.mpr c33
       clear c33
       replace H := Option.bind_eq_some_iff.mp H
       obtain ⟨⟨t503, t504⟩, A340, H⟩ := H
       (try dsimp only at H)
       have A34 := Aside0.mk A340
       clear A340
       replace H := Option.bind_eq_some_iff.mp H
       obtain ⟨⟨t505, t508⟩, A350, H⟩ := H
       (try dsimp only at H)
       have A35 := Aside0.mk A350
       clear A350
       have HC36 := Aside0.mk H
       clear H
       obtain ⟨Ao37, co37, eo37⟩ := Kd.R_slice HO_6.out
       subst eo37
       go_upto_region 18 with (first | ((with_reducible refine gate_callee (f := 26) rfl ?_); refine gL (some 40) rfl rfl Try.func26 (by kernel_rfl) rfl #[.slice Ao37 t495.length co37, .int .i64 1] rfl ?_; (with_reducible refine (laws_markIntS.calls kj10 (fun k_ => some k_ = (.slice Ao37 t495.length co37 : Value).ownBlock) (.slice Ao37 t495.length co37) t495 1 t500 t501 w _ ?side1 ?side2 A28.out).mono ?_); (case side1 => repeat (first | (with_reducible first | exact HB.out | apply below_alloc | apply pw_below_drewN | apply below_drew1 | refine below_set ?_ GE485.out) | exact HB.out)); (case side2 => exact Kd.R_tight rfl HO_6.out); rintro e w38 ⟨rfl, hy0, hb, hkp⟩; refine ⟨_, rfl, ?_⟩; have n0_ := Aside0.mk (Kd.R_mono (ok' := fun k_ => some k_ ≠ (.slice Ao37 t495.length co37 : Value).ownBlock) (Kd.R_keptB (HO_4.out) hkp (fun k_ hk_ hs_ => (hk_) hs_)) (fun k_ hk_ => hk_.1)); have n1_ := Aside0.mk (Kd.R_reok rfl hy0 (fun k_ e_ => HO_6.out.1 k_ e_)); have n2_ := Aside0.mk (blk_kept (bk BK485) hkp (fun hs_ => (fun e_ => (Kd.R_ne HO_6.out BK485.out (by decide)) e_) hs_)); have n3_ := Aside0.mk (hb); clear HO_4; clear HO_6; clear BK485; clear HB; have HO_4 := n0_; have HO_6 := n1_; have BK485 := n2_; have HB := n3_; clear n0_ n1_ n2_ n3_; (try clear hb); (try clear hkp); (try clear hy0)) | ((with_reducible refine gate_callee (f := 31) rfl ?_); refine goesL_ (some 43) rfl rfl Try.func31 (by kernel_rfl) rfl #[.slice Ao37 t501.length co37, .int .i64 1] rfl (by (try simp only [List.map_toArray, List.map_cons, List.map_nil]); first | done | (rw [show t501.length = t495.length from (Kd.R_reads' HO_6.out).1.symm] <;> rfl) | rfl | (simp only [List.length_drop, List.length_take]; rfl)) ?_; (with_reducible refine (laws_heldIntS.calls kj10 _ _ t501 1 t502 _ ?side1 ?side2 A29.out).mono ?_); (case side1 => repeat (first | exact (Kd.R_reads' HO_6.out).2.2 | (with_reducible refine Kd.C_alloc ?_ _) | (with_reducible refine Kd.C_drewN ?_ _) | (with_reducible refine Kd.C_drew ?_))); (case side2 => rw [show t501.length = t495.length from (Kd.R_reads' HO_6.out).1.symm]; exact (Kd.R_reads' HO_6.out).2.1); rintro e w' ⟨rfl, ⟨nd, rfl⟩⟩; refine ⟨_, rfl, ?_⟩; have hcz39_0 := bc BK485 0; have hcz39_1 := bc BK485 1; have hfz39_0 := bf BK485 0; have hfz39_1 := bf BK485 1) | ((with_reducible refine gate_callee (f := 36) rfl ?_); refine gL (some 51) rfl rfl Try.func36 (by kernel_rfl) rfl #[.agg #[.int .i64 a0_0, .string a0_1]] rfl ?_; (with_reducible refine (laws_toSigns.calls a0_0 a0_1 t503 t504 _ A34.out).mono ?_); rintro e w40 ⟨rfl, hb⟩; refine ⟨_, rfl, ?_⟩; have n0_ := Aside0.mk (Kd.R_below (rr HO_4) hb); have n1_ := Aside0.mk (Kd.R_below (rr HO_6) hb); have n2_ := Aside0.mk (blk_below (g := gb485) (o := .cells #[.int .i64 a0_0, .string a0_1] 41 (0, 0)) (bk BK485) hb); have n3_ := bsg HB GE485 hb; clear HO_4; clear HO_6; clear BK485; clear HB; have HO_4 := n0_; have HO_6 := n1_; have BK485 := n2_; have HB := n3_; clear n0_ n1_ n2_ n3_; (try clear hb); (try clear hb2); (try clear hk); (try clear hi)) | ((with_reducible refine gate_callee (f := 39) rfl ?_); refine gL (some 52) rfl rfl Try.func39 (by kernel_rfl) rfl #[.agg #[.int .i64 t503, .string t504]] rfl ?_; (with_reducible refine (impl_WiringOfSigns.calls kj10 t503 t504 t505 t508 _ A35.out).mono ?_); rintro e w41 ⟨v506, rfl, ho0, hb⟩; refine ⟨_, rfl, ?_⟩; have n0_ := Aside0.mk (Kd.R_elder' (rr HO_4) (Kd.R_base ho0) hb); have n1_ := Aside0.mk (Kd.R_elder' (rr HO_6) (Kd.R_base ho0) hb); have n2_ := Aside0.mk (Kd.R_lower (Kd.R_new' (Kd.R_new' ho0 (Kd.R_lt (rr HO_4))) (Kd.R_lt (rr HO_6))) (below_size (bg HB GE485))); have n3_ := Aside0.mk (blk_below (g := gb485) (o := .cells #[.int .i64 a0_0, .string a0_1] 41 (0, 0)) (bk BK485) hb); have n4_ := bsg HB GE485 hb; clear HO_4; clear HO_6; clear BK485; clear HB; have HO_4 := n0_; have HO_6 := n1_; have HO507 := n2_; have BK485 := n3_; have HB := n4_; clear n0_ n1_ n2_ n3_ n4_; (try clear hb); (try clear hb2); (try clear hk); (try clear hi); (try clear ho0)))
       (try simp only [Act.put, List.setIfInBounds_toArray, List.set_cons_zero, List.set_cons_succ])
       go_cut [63] (fun v63 wc => ∃ (kq : Nat) (x63_35 : Bool), v63 = .bool x63_35 ∧ Aside0 (laws_FnExactWiringOfSigns.j1 kq t501 t500 x63_35 = some true) ∧ Aside0 (kq ≤ kj10) ∧ Aside0 (Kd.R (Kd.int .i64) 3 wc w.heap.size (fun _ => True) (.slice Ao37 t495.length co37) t501) ∧ Aside0 (wc.heap[gb485]? = some (.cells #[.int .i64 a0_0, .string a0_1] 41 (0, 0))) ∧ Aside0 (Below w.heap.size w wc))
       case first =>
        have H := HC36.out
        clear HC36
        replace H := Option.bind_eq_some_iff.mp H
        obtain ⟨t509, A420, H⟩ := H
        (try dsimp only at H)
        have A42 := Aside0.mk A420
        clear A420
        by_cases c43 : t509 = true
        ·subst c43
         have H1 : (laws_FnExactWiringOfSigns.j1 kj10 t501 t500 (t508 != t492)) = some true := by rw [if_pos rfl] at H; exact H
         clear H
         have H := H1
         clear H1
         have H' := Aside0.mk H
         clear H
         obtain ⟨Ao44, co44, eo44⟩ := Kd.R_slice HO507.out
         subst eo44
         obtain ⟨Ao45, co45, eo45⟩ := Kd.R_slice HO_4.out
         subst eo45
         go_wp2_with (first | ((with_reducible refine gate_callee (f := 17) rfl ?_); refine gL (some 57) rfl rfl Try.func17 (by kernel_rfl) rfl #[.slice Ao44 t505.length co44, .slice Ao45 t489.length co45] rfl ?_; (with_reducible refine (laws_eqIntS.calls kj10 _ _ t505 _ _ t489 true _ ?side1 ?side2 ?side3 ?side4 A42.out).mono ?_); (case side1 => repeat (first | exact (Kd.R_reads' HO507.out).2.2 | (with_reducible refine Kd.C_alloc ?_ _) | (with_reducible refine Kd.C_drewN ?_ _) | (with_reducible refine Kd.C_drew ?_))); (case side2 => exact (Kd.R_reads' HO507.out).2.1); (case side3 => repeat (first | exact (Kd.R_reads' HO_4.out).2.2 | (with_reducible refine Kd.C_alloc ?_ _) | (with_reducible refine Kd.C_drewN ?_ _) | (with_reducible refine Kd.C_drew ?_))); (case side4 => exact (Kd.R_reads' HO_4.out).2.1); rintro e w' ⟨rfl, ⟨nd, rfl⟩⟩; refine ⟨_, rfl, ?_⟩))
         go_meet
         case rel => exact ⟨_, ((t508 != t492)), (by first | rfl | (simp; done) | (simp [*]; done)), H', ⟨by have := HJ10.out; first | omega | exact Nat.le_refl _⟩, ⟨by (with_reducible repeat (first | apply Kd.R_alloc | apply Kd.R_drewN | apply Kd.R_drew)); exact Kd.R_mono HO_6.out (fun _ hk => trivial)⟩, ⟨by (with_reducible repeat (first | refine blk_drewN ?_ _ | refine blk_drew ?_ | refine blk_alloc ?_ _)); exact BK485.out⟩, ⟨(bg HB GE485)⟩⟩
        ·replace c43 := Bool.eq_false_iff.mpr c43
         subst c43
         have H1 : (laws_FnExactWiringOfSigns.j1 kj10 t501 t500 true) = some true := by rw [if_neg (show ¬ (false = true) by decide)] at H; exact H
         clear H
         have H := H1
         clear H1
         have H' := Aside0.mk H
         clear H
         obtain ⟨Ao46, co46, eo46⟩ := Kd.R_slice HO507.out
         subst eo46
         obtain ⟨Ao47, co47, eo47⟩ := Kd.R_slice HO_4.out
         subst eo47
         go_wp2_with (first | ((with_reducible refine gate_callee (f := 17) rfl ?_); refine gL (some 57) rfl rfl Try.func17 (by kernel_rfl) rfl #[.slice Ao46 t505.length co46, .slice Ao47 t489.length co47] rfl ?_; (with_reducible refine (laws_eqIntS.calls kj10 _ _ t505 _ _ t489 false _ ?side1 ?side2 ?side3 ?side4 A42.out).mono ?_); (case side1 => repeat (first | exact (Kd.R_reads' HO507.out).2.2 | (with_reducible refine Kd.C_alloc ?_ _) | (with_reducible refine Kd.C_drewN ?_ _) | (with_reducible refine Kd.C_drew ?_))); (case side2 => exact (Kd.R_reads' HO507.out).2.1); (case side3 => repeat (first | exact (Kd.R_reads' HO_4.out).2.2 | (with_reducible refine Kd.C_alloc ?_ _) | (with_reducible refine Kd.C_drewN ?_ _) | (with_reducible refine Kd.C_drew ?_))); (case side4 => exact (Kd.R_reads' HO_4.out).2.1); rintro e w' ⟨rfl, ⟨nd, rfl⟩⟩; refine ⟨_, rfl, ?_⟩))
         go_meet
         case rel => exact ⟨_, (true), (by first | rfl | (simp; done) | (simp [*]; done)), H', ⟨by have := HJ10.out; first | omega | exact Nat.le_refl _⟩, ⟨by (with_reducible repeat (first | apply Kd.R_alloc | apply Kd.R_drewN | apply Kd.R_drew)); exact Kd.R_mono HO_6.out (fun _ hk => trivial)⟩, ⟨by (with_reducible repeat (first | refine blk_drewN ?_ _ | refine blk_drew ?_ | refine blk_alloc ?_ _)); exact BK485.out⟩, ⟨(bg HB GE485)⟩⟩
       case rest =>
        clear HC36
        try clear c1
        try clear c2
        try clear p2
        try clear c3
        try clear c3b0
        try clear c4
        try clear c10
        try clear c17
        try clear c22
        try clear c26
        try clear c27
        try clear c30
        try clear c30b0
        try clear c31
        try clear c33
        try clear c33b0
        try clear c33b1
        try clear c34
        try clear c36
        try clear c38
        try clear c39
        try clear c43
        try clear hcz13_0
        try clear hcz13_1
        try clear hcz15_0
        try clear hcz15_1
        try clear hcz18_0
        try clear hcz18_1
        try clear hcz39_0
        try clear hcz39_1
        try clear hcz5_0
        try clear hcz5_1
        try clear hfz13_0
        try clear hfz13_1
        try clear hfz15_0
        try clear hfz15_1
        try clear hfz18_0
        try clear hfz18_1
        try clear hfz39_0
        try clear hfz39_1
        try clear hfz5_0
        try clear hfz5_1
        try clear p2
        obtain ⟨kq, x63_35, rfl, HA, HJ35, HO_6, BK485, HB⟩ := hcut
        have hl6_35 := (Kd.R_reads' HO_6.out).1
        rw [hl6_35] at HO_6
        (try simp only [hl6_35])
        (try simp only [hl6_35] at BK485)
        cases kq with
        | zero => exact absurd HA.out (by simp [laws_FnExactWiringOfSigns.j1])
        | succ kj35 =>
         have H := HA.out
         clear HA
         simp only [laws_FnExactWiringOfSigns.j1] at H
         by_cases c48 : x63_35 = true
         ·subst c48
          have H1 : (some false) = some true := by rw [if_pos rfl] at H; exact H
          clear H
          have H := H1
          clear H1
          exact absurd H (by simp)
         ·replace c48 := Bool.eq_false_iff.mpr c48
          subst c48
          have H1 : ((laws_heldIntS.f kj35 t501 1).bind fun t510 => (if t510 < 0 then (some false) else (if t510 = t500 then (some true) else (some false)))) = some true := by rw [if_neg (show ¬ (false = true) by decide)] at H; exact H
          clear H
          have H := H1
          clear H1
          replace H := Option.bind_eq_some_iff.mp H
          obtain ⟨t510, A490, H⟩ := H
          (try dsimp only at H)
          have A49 := Aside0.mk A490
          clear A490
          by_cases c50 : t510 < 0
          ·rw [if_pos c50] at H
           have c50b0 : decide (t510 < 0) = true := decide_eq_true c50
           clear c50
           exact absurd H (by simp)
          ·rw [if_neg c50] at H
           have c50b0 : decide (t510 < 0) = false := decide_eq_false c50
           clear c50
           by_cases c51 : t510 = t500
           ·rw [if_pos c51] at H
            have c51b0 : (t510 == t500) = true := beq_iff_eq.mpr c51
            have c51b1 : (t510 != t500) = false := bne_eq_false_iff_eq.mpr c51
            clear c51
            clear H
            go_wp2_with (first | ((with_reducible refine gate_callee (f := 31) rfl ?_); refine gL (some 66) rfl rfl Try.func31 (by kernel_rfl) rfl #[.slice Ao37 t501.length co37, .int .i64 1] rfl ?_; (with_reducible refine (laws_heldIntS.calls kj35 _ _ t501 1 t510 _ ?side1 ?side2 A49.out).mono ?_); (case side1 => repeat (first | exact (Kd.R_reads' HO_6.out).2.2 | (with_reducible refine Kd.C_alloc ?_ _) | (with_reducible refine Kd.C_drewN ?_ _) | (with_reducible refine Kd.C_drew ?_))); (case side2 => exact (Kd.R_reads' HO_6.out).2.1); rintro e w' ⟨rfl, ⟨nd, rfl⟩⟩; refine ⟨_, rfl, ?_⟩))
            go_ret
            exact ⟨by first | rfl | (simp [errW_none, errW_some] <;> rfl) | (simp [*, errW_none, errW_some] <;> rfl), (bg HB GE485)⟩
           ·rw [if_neg c51] at H
            have c51b0 : (t510 == t500) = false := beq_eq_false_iff_ne.mpr c51
            have c51b1 : (t510 != t500) = true := bne_iff_ne.mpr c51
            exact absurd H (by simp)
      ·rw [if_neg c33] at H
       have c33b0 : (t502 == t500) = false := beq_eq_false_iff_ne.mpr c33
       have c33b1 : (t502 != t500) = true := bne_iff_ne.mpr c33
       exact absurd H (by simp)

/-- THE ONE PURE STATEMENT of laws_FnExactWiringOfSigns: yours. -/
def laws_FnExactWiringOfSigns.Pure : Prop := ∀ (a0_0 : Int) (a0_1 : ByteArray), (Lit.int .i64 a0_0).wf = true → a0_1.size ≤ 140737488351232 → ∃ k, laws_FnExactWiringOfSigns.f k a0_0 a0_1 = some true
theorem laws_FnExactWiringOfSigns.walk (P : laws_FnExactWiringOfSigns.Pure) (a0_0 : Int) (a0_1 : ByteArray) (w : World) (w0_0 : (Lit.int .i64 a0_0).wf = true) (w0_1 : a0_1.size ≤ 140737488351232) :
  Calls Try.prog 10 #[.agg #[.int .i64 a0_0, .string a0_1]] w fun e w' => e = .returned (.bool true) ∧ Below w.heap.size w w' := by
 obtain ⟨k, h⟩ := P a0_0 a0_1 w0_0 w0_1
 refine (laws_FnExactWiringOfSigns.calls k a0_0 a0_1 w h).mono ?_
 rintro e w' ⟨rfl, hd⟩
 exact ⟨rfl, hd⟩

end Go.Proofs.Ythibphndihjcaaa.P
