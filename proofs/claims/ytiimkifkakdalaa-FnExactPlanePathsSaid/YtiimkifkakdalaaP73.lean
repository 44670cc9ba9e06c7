-- Printed by a program of this session (wip/tools/myprint.py, over the kit's print.py); not trusted: Lean checks it.
import Derived.Test.YtiimkifkakdalaaWAll2
import Derived.Test.YtiimkifkakdalaaP0
import Derived.Test.YtiimkifkakdalaaP68
namespace Go.Proofs.Ytiimkifkakdalaa.P
open Go.RowKit Go.Proofs.YtiimkifkakdalaaW.PrintWords Go.Proofs.YtiimkifkakdalaaW.PrintLast Go.Proofs.YtiimkifkakdalaaW.PrintMore
attribute [local go_sem] max2_int min2_int max_two min_two max_three min_three max_four min_four   -- for this text's walks alone
set_option linter.unusedVariables false
set_option linter.unusedSimpArgs false

/-! ### impl_degrees: function 73 -/
def impl_degrees.l0 : Nat → Int → List Int → List (S72) → Int → Int → Option (List Int)
 | 0, _, _, _, _, _ => none
 | k + 1, x1, x5, x11, x12, x13 => if x13 < x12 then (if 0 ≤ x13 then (if x13 < (x11.length : Int) then (if (Go.bits .and .i64 (shr .i64 x1 x13) 1) = 1 then (if 0 ≤ ((rd_T72 x11 x13).f0) then (if ((rd_T72 x11 x13).f0) < (x5.length : Int) then ((some (x5.set (((rd_T72 x11 x13).f0) : Int).toNat (wrap64 ((rd x5 ((rd_T72 x11 x13).f0)) + 1)) : List Int)).bind fun y437 => (if 0 ≤ ((rd_T72 x11 x13).f1) then (if ((rd_T72 x11 x13).f1) < (x5.length : Int) then (impl_degrees.l0 k x1 (y437.set (((rd_T72 x11 x13).f1) : Int).toNat (wrap64 ((rd y437 ((rd_T72 x11 x13).f1)) + 1))) x11 x12 (wrap64 (x13 + 1))) else (none)) else (none))) else (none)) else (none)) else (impl_degrees.l0 k x1 x5 x11 x12 (wrap64 (x13 + 1)))) else (none)) else (none)) else (some x5)
def impl_degrees.f (k : Nat) (a0 : Int) (a1 : Int) : Option (List Int) := if 0 ≤ a0 then (if (a0 : Int).toNat ≤ 35184372088832 then ((impl_edgesOf.f k a0).bind fun t431 => (impl_degrees.l0 k a1 (List.replicate (a0 : Int).toNat 0) t431 (t431.length : Int) 0)) else (none)) else (none)
theorem impl_degrees.mono_l : ∀ k, (∀ y0 y1 y2 y3 y4, LeO (impl_degrees.l0 k y0 y1 y2 y3 y4) (impl_degrees.l0 (k + 1) y0 y1 y2 y3 y4))
 | 0 => fun _ _ _ _ _ r h => by simp [impl_degrees.l0] at h
 | k + 1 => by
  have ih0 := impl_degrees.mono_l k
  ·intro y0 y1 y2 y3 y4
   unfold impl_degrees.l0
   repeat' first
   | (with_reducible exact ih0 _ _ _ _ _)
   | (with_reducible exact impl_edgesOf.mono _ _)
   | (with_reducible exact LeO.refl _)
   | (with_reducible exact LeO.none _)
   | (with_reducible refine LeO.ite ?_ ?_)
   | (with_reducible refine LeO.bind ?_ (fun _ => ?_))
   | exact ih0 _ _ _ _ _
   | exact impl_edgesOf.mono _ _
   | exact LeO.none _
   | refine LeO.ite ?_ ?_
   | refine LeO.bind ?_ (fun _ => ?_)
theorem impl_degrees.mono : ∀ a0 a1 k, LeO (impl_degrees.f k a0 a1) (impl_degrees.f (k + 1) a0 a1) := by
 intro a0 a1 k
 have ih0 := impl_degrees.mono_l k
 unfold impl_degrees.f
 repeat' first
   | (with_reducible exact ih0 _ _ _ _ _)
   | (with_reducible exact impl_edgesOf.mono _ _)
   | (with_reducible exact LeO.refl _)
   | (with_reducible exact LeO.none _)
   | (with_reducible refine LeO.ite ?_ ?_)
   | (with_reducible refine LeO.bind ?_ (fun _ => ?_))
   | exact ih0 _ _ _ _ _
   | exact impl_edgesOf.mono _ _
   | exact LeO.none _
   | refine LeO.ite ?_ ?_
   | refine LeO.bind ?_ (fun _ => ?_)
set_option maxHeartbeats 8000000 in
set_option maxRecDepth 100000 in
theorem impl_degrees.calls (k : Nat) (a0 : Int) (a1 : Int) (r : List Int) (w : World) (h : impl_degrees.f k a0 a1 = some r) :
  Calls Try.prog 73 #[.int .i64 a0, .int .i64 a1] w fun e w' => ∃ v0_ : Value, e = .returned (v0_) ∧ Kd.R (Kd.int .i64) 3 w' w.heap.size (fun _ => True) v0_ r ∧ Below w.heap.size w w' := by
 have hu72 := Try.underlying72
 have HB := Aside0.mk (Below.refl w.heap.size w)
 have H : (if 0 ≤ a0 then (if (a0 : Int).toNat ≤ 35184372088832 then ((impl_edgesOf.f k a0).bind fun t431 => (impl_degrees.l0 k a1 (List.replicate (a0 : Int).toNat 0) t431 (t431.length : Int) 0)) else (none)) else (none)) = some r := h
 clear h
 by_cases c3 : 0 ≤ a0
 ·rw [if_pos c3] at H
  have c3b0 := eq_true c3
  have c3b1 : decide (0 ≤ a0) = true := decide_eq_true c3
  clear c3
  by_cases c4 : (a0 : Int).toNat ≤ 35184372088832
  ·rw [if_pos c4] at H
   have c4b0 := eq_true c4
   have c4b1 : decide ((a0 : Int).toNat ≤ 35184372088832) = true := decide_eq_true c4
   clear c4
   obtain ⟨y428, hy428⟩ : ∃ y_ : List Int, y_ = (List.replicate (a0 : Int).toNat 0) := ⟨_, rfl⟩
   replace H : ((impl_edgesOf.f k a0).bind fun t431 => (impl_degrees.l0 k a1 y428 t431 (t431.length : Int) 0)) = some r := by first | (rw [hy428]; with_reducible exact H) | (have H2_ := (Option.bind_some _ _).symm.trans H; rw [hy428]; with_reducible exact H2_) | (have H2_ := (Option.bind_some _ _).symm.trans H; with_reducible exact H2_) | with_reducible exact H | (rw [hy428]; exact H) | exact H
   have Ny428 := Aside0.mk hy428
   clear hy428
   replace H := Option.bind_eq_some_iff.mp H
   obtain ⟨t431, A50, H⟩ := H
   (try dsimp only at H)
   have A5 := Aside0.mk A50
   clear A50
   have H' := Aside0.mk H
   clear H
   go_enter Try.func73, Try.ntmps73
   go_wp2_with (first | ((with_reducible refine gate_dst (N := 9) rfl ?_); refine Kd.R_make (Kd.int .i64) _ 3 rfl (N := 9) rfl 25 _ _ rfl a0 rfl rfl Try.underlying25 (.int .i64 0) 8 info3 rfl (by decide) (by omega) 0 (ok := fun _ => True) (okp := fun _ => True) rfl (fun _ hk => hk) trivial (of_decide_eq_true (by first | (with_reducible assumption) | assumption)) (Nat.le_trans (Nat.mul_le_mul_right _ (of_decide_eq_true (by first | (with_reducible assumption) | assumption) : a0.toNat ≤ 35184372088832)) (by omega)) (Below.refl _ _) (Nat.le_refl _) ?_; intro v429 w6 ho7 hb hg_ hnew_; clear hg_ hnew_; (first | rw [← Ny428.out] at ho7 | (simp only [Int.reduceToNat] at ho7; rw [← Ny428.out] at ho7)); have n0_ := Aside0.mk (Kd.R_lower ho7 (below_size (bl HB))); have n1_ := bs HB hb; clear HB; have HO430 := n0_; have HB := n1_; clear n0_ n1_; clear hb ho7) | ((with_reducible refine gate_callee (f := 58) rfl ?_); refine gL (some 11) rfl rfl Try.func58 (by kernel_rfl) rfl #[.int .i64 a0] rfl ?_; (with_reducible refine (impl_edgesOf.calls k a0 t431 _ A5.out).mono ?_); rintro e w8 ⟨v432, rfl, ho0, hb⟩; refine ⟨_, rfl, ?_⟩; have n0_ := Aside0.mk (Kd.R_below (rr HO430) hb); have n1_ := Aside0.mk (Kd.R_lower ho0 (below_size (bl HB))); have n2_ := bs HB hb; clear HO430; clear HB; have HO430 := n0_; have HO433 := n1_; have HB := n2_; clear n0_ n1_ n2_; (try clear hb); (try clear hb2); (try clear hk); (try clear hi); (try clear ho0); obtain ⟨Ao9, co9, eo9⟩ := Kd.R_slice HO433.out; subst eo9))
   go_loopg [13] k (fun kq v13 w' => ∃ (x5_1 : List Int) (x13_1 : Int), v13 = .int .i64 x13_1 ∧ Aside0 (impl_degrees.l0 kq a1 x5_1 t431 (t431.length : Int) x13_1 = some r) ∧ Aside0 (kq ≤ k) ∧ Aside0 (Kd.R (Kd.int .i64) 3 w' w.heap.size (fun _ => True) v429 x5_1) ∧ Aside0 (Kd.R k72 72 w' w.heap.size (fun _ => True) (.slice Ao9 t431.length co9) t431) ∧ Aside0 (Below w.heap.size w w'))
   case atStart => exact ⟨(y428), (0), (by first | rfl | (simp; done) | (simp [*]; done)), H', ⟨Nat.le_refl _⟩, ⟨by (with_reducible repeat (first | apply Kd.R_alloc | apply Kd.R_drewN | apply Kd.R_drew)); exact HO430.out⟩, ⟨by (with_reducible repeat (first | apply Kd.R_alloc | apply Kd.R_drewN | apply Kd.R_drew)); exact HO433.out⟩, ⟨(bl HB)⟩⟩
   case round =>
    clear H'
    try clear p2
    try clear c3
    try clear c3b0
    try clear c3b1
    try clear c4
    try clear c4b0
    try clear c4b1
    try clear c5
    try clear c7
    obtain ⟨x5_1, x13_1, rfl, HA, HK1, HO_5, HO_11, HB⟩ := hrel
    cases gk with
    | zero => exact absurd HA.out (by simp [impl_degrees.l0])
    | succ k1 =>
     have H := HA.out
     clear HA
     simp only [impl_degrees.l0] at H
     by_cases c10 : x13_1 < (t431.length : Int)
     ·rw [if_pos c10] at H
      have c10b0 : decide (x13_1 < (t431.length : Int)) = true := decide_eq_true c10
      clear c10
      by_cases c11 : 0 ≤ x13_1
      ·rw [if_pos c11] at H
       have c11b0 : decide (0 ≤ x13_1) = true := decide_eq_true c11
       clear c11
       by_cases c12 : x13_1 < (t431.length : Int)
       ·rw [if_pos c12] at H
        have c12b0 : decide (x13_1 < (t431.length : Int)) = true := decide_eq_true c12
        clear c12
        have c13b0 := eq_true (of_decide_eq_true (by first | (with_reducible assumption) | assumption) : 0 ≤ x13_1)
        obtain ⟨ji14, hji14⟩ : ∃ j_ : Int, (shr .i64 a1 x13_1) = j_ := ⟨_, rfl⟩
        replace H : (if (Go.bits .and .i64 (ji14) 1) = 1 then (if 0 ≤ ((rd_T72 t431 x13_1).f0) then (if ((rd_T72 t431 x13_1).f0) < (x5_1.length : Int) then ((some (x5_1.set (((rd_T72 t431 x13_1).f0) : Int).toNat (wrap64 ((rd x5_1 ((rd_T72 t431 x13_1).f0)) + 1)) : List Int)).bind fun y437 => (if 0 ≤ ((rd_T72 t431 x13_1).f1) then (if ((rd_T72 t431 x13_1).f1) < (x5_1.length : Int) then (impl_degrees.l0 k1 a1 (y437.set (((rd_T72 t431 x13_1).f1) : Int).toNat (wrap64 ((rd y437 ((rd_T72 t431 x13_1).f1)) + 1))) t431 (t431.length : Int) (wrap64 (x13_1 + 1))) else (none)) else (none))) else (none)) else (none)) else (impl_degrees.l0 k1 a1 x5_1 t431 (t431.length : Int) (wrap64 (x13_1 + 1)))) = some r := by first | (rw [hji14] at H; exact H) | (simp only [hji14] at H ⊢; exact H)
        have hji14_ : (a1 / 2 ^ min x13_1.toNat 64) = ji14 := hji14
        have hji14z : x13_1 ≤ 64 → (a1 / 2 ^ x13_1.toNat) = ji14 := shr_small hji14
        by_cases c15 : (Go.bits .and .i64 (ji14) 1) = 1
        ·rw [if_pos c15] at H
         have c15b0 : ((Go.bits .and .i64 (ji14) 1) == 1) = true := beq_iff_eq.mpr c15
         have c15b1 : ((Go.bits .and .i64 (ji14) 1) != 1) = false := bne_eq_false_iff_eq.mpr c15
         clear c15
         by_cases c16 : 0 ≤ ((rd_T72 t431 x13_1).f0)
         ·rw [if_pos c16] at H
          have c16b0 : decide (0 ≤ ((rd_T72 t431 x13_1).f0)) = true := decide_eq_true c16
          clear c16
          by_cases c17 : ((rd_T72 t431 x13_1).f0) < (x5_1.length : Int)
          ·rw [if_pos c17] at H
           have c17b0 : decide (((rd_T72 t431 x13_1).f0) < (x5_1.length : Int)) = true := decide_eq_true c17
           clear c17
           obtain ⟨y437, hy437⟩ : ∃ y_ : List Int, y_ = (x5_1.set (((rd_T72 t431 x13_1).f0) : Int).toNat (wrap64 ((rd x5_1 ((rd_T72 t431 x13_1).f0)) + 1))) := ⟨_, rfl⟩
           replace H : (if 0 ≤ ((rd_T72 t431 x13_1).f1) then (if ((rd_T72 t431 x13_1).f1) < (x5_1.length : Int) then (impl_degrees.l0 k1 a1 (y437.set (((rd_T72 t431 x13_1).f1) : Int).toNat (wrap64 ((rd y437 ((rd_T72 t431 x13_1).f1)) + 1))) t431 (t431.length : Int) (wrap64 (x13_1 + 1))) else (none)) else (none)) = some r := by first | (rw [hy437]; with_reducible exact H) | (have H2_ := (Option.bind_some _ _).symm.trans H; rw [hy437]; with_reducible exact H2_) | (have H2_ := (Option.bind_some _ _).symm.trans H; with_reducible exact H2_) | with_reducible exact H | (rw [hy437]; exact H) | exact H
           have Ny437 := Aside0.mk hy437
           clear hy437
           by_cases c19 : 0 ≤ ((rd_T72 t431 x13_1).f1)
           ·rw [if_pos c19] at H
            have c19b0 : decide (0 ≤ ((rd_T72 t431 x13_1).f1)) = true := decide_eq_true c19
            clear c19
            by_cases c20 : ((rd_T72 t431 x13_1).f1) < (x5_1.length : Int)
            ·rw [if_pos c20] at H
             have c20b0 : decide (((rd_T72 t431 x13_1).f1) < (x5_1.length : Int)) = true := decide_eq_true c20
             clear c20
             obtain ⟨y439, hy439⟩ : ∃ y_ : List Int, y_ = (y437.set (((rd_T72 t431 x13_1).f1) : Int).toNat (wrap64 ((rd y437 ((rd_T72 t431 x13_1).f1)) + 1))) := ⟨_, rfl⟩
             replace H : (impl_degrees.l0 k1 a1 y439 t431 (t431.length : Int) (wrap64 (x13_1 + 1))) = some r := by first | (rw [hy439]; with_reducible exact H) | (have H2_ := (Option.bind_some _ _).symm.trans H; rw [hy439]; with_reducible exact H2_) | (have H2_ := (Option.bind_some _ _).symm.trans H; with_reducible exact H2_) | with_reducible exact H | (rw [hy439]; exact H) | exact H
             have Ny439 := Aside0.mk hy439
             clear hy439
             have H' := Aside0.mk H
             clear H
             have p434 : 0 ≤ (x13_1 : Int) := of_decide_eq_true (by first | (with_reducible assumption) | assumption)
             have q434 : x13_1 < (t431.length : Int) := of_decide_eq_true (by first | (with_reducible assumption) | assumption)
             obtain ⟨ad434, e434, hx434_0, hx434_1⟩ := at_T72 (Kd.R_reads' HO_11.out).2.2 x13_1 p434 q434
             cases e434
             replace p434 := eq_true p434
             replace q434 := eq_true q434
             go_wp2_with (first | ((with_reducible refine gate_dst (N := 7) rfl ?_); refine bx 7 #[.int .i64 0, .int .i64 0] 72 ?_; intro gb435 hg w22 hbox hb; have n0_ := Aside0.mk (Kd.R_below (rr HO_5) hb); have n1_ := Aside0.mk (Kd.R_below (Kd.R_elderB (rr HO_11) gb435 (Nat.le_of_eq hg.symm)) hb); have n2_ := bs HB hb; have n3_ := Aside0.mk (hbox); have n4_ := Aside0.mk ((by rw [hg]; exact (below_size (bl HB)) : w.heap.size ≤ gb435)); have n5_ := Aside0.mk ((by rw [hg]; exact (below_size (bl HB)) : w.heap.size ≤ gb435)); clear HO_5; clear HO_11; clear HB; have HO_5 := n0_; have HO_11 := n1_; have HB := n2_; have BK435 := n3_; have GW435 := n4_; have GE435 := n5_; clear n0_ n1_ n2_ n3_ n4_ n5_; clear hb hbox hg; have hcz23_0 := bc BK435 0; have hcz23_1 := bc BK435 1; have hfz23_0 := bf BK435 0; have hfz23_1 := bf BK435 1) | ((with_reducible refine gate_store (t := 72) (p := 7) rfl ?_); refine store_event (t := 72) (p := 7) (v := ?vo_w24) (w1 := ((w22.setCell ⟨gb435, 0, none⟩ (.int .i64 ((rd_T72 t431 x13_1).f0))).setCell ⟨gb435, 1, none⟩ (.int .i64 ((rd_T72 t431 x13_1).f1)))) ?hg ?ho ?hn ?hr ?_; (case ho => rfl); (case hg => rfl); (case hn => rfl); (case hr => first | (go_simp; done) | (go_simp; rfl)); intro w24 hw; have n0_ : Aside0 (Kd.R (Kd.int .i64) 3 w24 w.heap.size (fun _ => True) v429 x5_1) := ⟨(by rw [hw]; exact (by (with_reducible repeat (first | apply Kd.R_alloc | apply Kd.R_drewN | apply Kd.R_drew)); exact Kd.R_mono (Kd.R_far (p := ⟨gb435, 1, none⟩) (Kd.R_far (p := ⟨gb435, 0, none⟩) (Kd.R_types HO_5.out BK435.out (by decide)) (fun _ hk => hk.2) (.int .i64 ((rd_T72 t431 x13_1).f0))) (fun _ hk => hk.2) (.int .i64 ((rd_T72 t431 x13_1).f1))) (fun _ hk => trivial)))⟩; have n1_ : Aside0 (Kd.R k72 72 w24 w.heap.size (fun k_ => k_ ≠ gb435) (.slice (some ad434) t431.length co9) t431) := ⟨(by rw [hw]; exact (by (with_reducible repeat (first | apply Kd.R_alloc | apply Kd.R_drewN | apply Kd.R_drew)); exact Kd.R_mono (Kd.R_far (p := ⟨gb435, 1, none⟩) (Kd.R_far (p := ⟨gb435, 0, none⟩) (Kd.R_mono HO_11.out (fun k_ hk => (⟨hk, hk.2⟩ : _ ∧ k_ ≠ gb435))) (fun _ hk => hk.2) (.int .i64 ((rd_T72 t431 x13_1).f0))) (fun _ hk => hk.2) (.int .i64 ((rd_T72 t431 x13_1).f1))) (fun _ hk => hk.1.2)))⟩; have n2_ : Aside0 (w24.heap[gb435]? = some (.cells #[.int .i64 ((rd_T72 t431 x13_1).f0), .int .i64 ((rd_T72 t431 x13_1).f1)] 72 (0, 0))) := ⟨(by rw [hw]; exact (by (with_reducible repeat (first | refine blk_drewN ?_ _ | refine blk_drew ?_ | refine blk_alloc ?_ _)); refine blk_put (cs := #[.int .i64 ((rd_T72 t431 x13_1).f0), .int .i64 0]) ?_ 1 _ rfl; (with_reducible repeat (first | refine blk_drewN ?_ _ | refine blk_drew ?_ | refine blk_alloc ?_ _)); refine blk_put (cs := #[.int .i64 0, .int .i64 0]) ?_ 0 _ rfl; (with_reducible repeat (first | refine blk_drewN ?_ _ | refine blk_drew ?_ | refine blk_alloc ?_ _)); exact BK435.out))⟩; have n3_ : Aside0 (Below w.heap.size w w24) := ⟨(by rw [hw]; exact (bg HB GE435))⟩; clear hw; clear HO_5; clear HO_11; clear BK435; clear HB; have HO_5 := n0_; have HO_11 := n1_; have BK435 := n2_; have HB := n3_; clear n0_ n1_ n2_ n3_; have hcz25_0 := bc BK435 0; have hcz25_1 := bc BK435 1; have hfz25_0 := bf BK435 0; have hfz25_1 := bf BK435 1; obtain ⟨Ao26, co26, eo26⟩ := Kd.R_slice HO_5.out; subst eo26; have p436 : 0 ≤ (((rd_T72 t431 x13_1).f0) : Int) := of_decide_eq_true (by first | (with_reducible assumption) | assumption); have q436 : ((rd_T72 t431 x13_1).f0) < (x5_1.length : Int) := of_decide_eq_true (by first | (with_reducible assumption) | assumption); obtain ⟨ad436, e436, hx436_0⟩ := Kd.at_int (Kd.R_reads' HO_5.out).2.2 ((rd_T72 t431 x13_1).f0) p436 q436; cases e436; replace p436 := eq_true p436; replace q436 := eq_true q436; have p18 : 0 ≤ (((rd_T72 t431 x13_1).f0) : Int) := of_decide_eq_true (by first | (with_reducible assumption) | assumption); have q18 : (((rd_T72 t431 x13_1).f0) : Int) < ((x5_1.length : Int) : Int) := of_decide_eq_true (by first | (with_reducible assumption) | assumption); obtain ⟨go18, co18, eo18, gb18, gl18, cl18, HG18⟩ := Kd.R_form HO_5.out (by omega); (first | cases eo18 | (injection eo18 with ea_ en_ ec_; (first | subst ea_ | (injection ea_ with ea_; subst ea_)); subst ec_; clear en_)); have GB18 := Aside0.mk gb18; have GG18 := Aside0.mk HG18; clear gb18 gl18 HG18; (first | simp only [add_plain] at hx436_0 | skip); obtain ⟨hx18_0, hf18_0⟩ := Kd.R_celln 0 HO_5.out (((rd_T72 t431 x13_1).f0) : Int) p18 q18; replace p18 := eq_true p18; replace q18 := eq_true q18; obtain ⟨hy27_, hz27_⟩ := Kd.R_celln 0 HO_5.out (((rd_T72 t431 x13_1).f0) : Int) (of_decide_eq_true (by first | (with_reducible assumption) | assumption)) (of_decide_eq_true (by first | (with_reducible assumption) | assumption)); have HP27 := Kd.R_putg HO_5.out (((rd_T72 t431 x13_1).f0) : Int) (wrap64 ((rd x5_1 ((rd_T72 t431 x13_1).f0)) + 1))) | ((with_reducible refine gate_store (t := 3) (p := 29) rfl ?_); refine store_event (t := 3) (p := 29) (v := ?vo_w28) (w1 := (w24.setCell ⟨go18, (((rd_T72 t431 x13_1).f0) : Int).toNat, none⟩ (.int .i64 (wrap64 ((rd x5_1 ((rd_T72 t431 x13_1).f0)) + 1))))) ?hg ?ho ?hn ?hr ?_; (case ho => rfl); (case hg => rfl); (case hn => rfl); (case hr => first | (go_simp; done) | (go_simp; rfl)); intro w28 hw; have hg : w24.grownBy w28 (some go18) := (by rw [hw]; exact HP27.2); have hp_ : Kd.R (Kd.int .i64) 3 w28 w.heap.size (fun _ => True) (.slice (some ⟨go18, 0, none⟩) x5_1.length co26) y437 := (by rw [hw, Ny437.out]; exact HP27.1); clear HP27; have n0_ := Aside0.mk (hp_); have n1_ := Aside0.mk (Kd.R_over' (v := (.slice (some ⟨go18, 0, none⟩) x5_1.length co26)) (rr HO_11) (Kd.R_typed HO_5.out) (by decide) hg); have n2_ := Aside0.mk (blk_grown (g := gb435) (o := .cells #[.int .i64 ((rd_T72 t431 x13_1).f0), .int .i64 ((rd_T72 t431 x13_1).f1)] 72 (0, 0)) (bk BK435) hg (Kd.R_ne HO_5.out BK435.out (by decide))); have n3_ := Aside0.mk ((by rw [hw]; exact below_set (HB.out) GB18.out : Below w.heap.size w w28)); clear HO_5; clear HO_11; clear BK435; clear HB; have HO_5 := n0_; have HO_11 := n1_; have BK435 := n2_; have HB := n3_; clear n0_ n1_ n2_ n3_; clear hg hw hp_; have hcz29_0 := bc BK435 0; have hcz29_1 := bc BK435 1; have hfz29_0 := bf BK435 0; have hfz29_1 := bf BK435 1; have p438 : 0 ≤ (((rd_T72 t431 x13_1).f1) : Int) := of_decide_eq_true (by first | (with_reducible assumption) | assumption); have q438 : ((rd_T72 t431 x13_1).f1) < (y437.length : Int) := (by have h_ : (((rd_T72 t431 x13_1).f1) : Int) < ((x5_1.length : Int) : Int) := of_decide_eq_true (by first | (with_reducible assumption) | assumption); first | (have e_ := (Kd.R_reads' HO_5.out).1; omega) | simpa only [Ny437.out, List.length_set] using h_); have ql438 : ((((rd_T72 t431 x13_1).f1) : Int) < ((x5_1.length : Int) : Int)) = True := eq_true (of_decide_eq_true (by first | (with_reducible assumption) | assumption)); obtain ⟨ad438, e438, hx438_0⟩ := Kd.at_int (Kd.R_reads' HO_5.out).2.2 ((rd_T72 t431 x13_1).f1) p438 q438; obtain rfl : (⟨go18, 0, none⟩ : Addr) = ad438 := (by injection e438); (first | simp only [add_plain] at hx438_0 | simp only [add_at] at hx438_0 | simp only [Addr.add, Nat.zero_add] at hx438_0 | skip); replace p438 := eq_true p438; replace q438 := eq_true q438; have p21 : 0 ≤ (((rd_T72 t431 x13_1).f1) : Int) := of_decide_eq_true (by first | (with_reducible assumption) | assumption); have q21 : (((rd_T72 t431 x13_1).f1) : Int) < ((x5_1.length : Int) : Int) := of_decide_eq_true (by first | (with_reducible assumption) | assumption); obtain ⟨hx21_0, hf21_0⟩ := Kd.R_celln 0 HO_5.out (((rd_T72 t431 x13_1).f1) : Int) p21 q21; replace p21 := eq_true p21; replace q21 := eq_true q21; obtain ⟨hy30_, hz30_⟩ := Kd.R_celln 0 HO_5.out (((rd_T72 t431 x13_1).f1) : Int) (of_decide_eq_true (by first | (with_reducible assumption) | assumption)) (of_decide_eq_true (by first | (with_reducible assumption) | assumption)); have HP30 := Kd.R_putg HO_5.out (((rd_T72 t431 x13_1).f1) : Int) (wrap64 ((rd y437 ((rd_T72 t431 x13_1).f1)) + 1))) | ((with_reducible refine gate_store (t := 3) (p := 36) rfl ?_); refine store_event (t := 3) (p := 36) (v := ?vo_w31) (w1 := (w28.setCell ⟨go18, (((rd_T72 t431 x13_1).f1) : Int).toNat, none⟩ (.int .i64 (wrap64 ((rd y437 ((rd_T72 t431 x13_1).f1)) + 1))))) ?hg ?ho ?hn ?hr ?_; (case ho => rfl); (case hg => rfl); (case hn => rfl); (case hr => first | (go_simp; done) | (go_simp; rfl)); intro w31 hw; have hg : w28.grownBy w31 (some go18) := (by rw [hw]; exact HP30.2); have hp_ : Kd.R (Kd.int .i64) 3 w31 w.heap.size (fun _ => True) (.slice (some ⟨go18, 0, none⟩) x5_1.length co26) y439 := (by rw [hw, Ny439.out]; exact HP30.1); clear HP30; have n0_ := Aside0.mk (hp_); have n1_ := Aside0.mk (Kd.R_over' (v := (.slice (some ⟨go18, 0, none⟩) x5_1.length co26)) (rr HO_11) (Kd.R_typed HO_5.out) (by decide) hg); have n2_ := Aside0.mk (blk_grown (g := gb435) (o := .cells #[.int .i64 ((rd_T72 t431 x13_1).f0), .int .i64 ((rd_T72 t431 x13_1).f1)] 72 (0, 0)) (bk BK435) hg (Kd.R_ne HO_5.out BK435.out (by decide))); have n3_ := Aside0.mk ((by rw [hw]; exact below_set (HB.out) GB18.out : Below w.heap.size w w31)); clear HO_5; clear HO_11; clear BK435; clear HB; have HO_5 := n0_; have HO_11 := n1_; have BK435 := n2_; have HB := n3_; clear n0_ n1_ n2_ n3_; clear hg hw hp_))
             go_roundg k1
             case measure => have := HK1.out; omega
             case rel => exact ⟨(y439), (wrap64 (x13_1 + 1)), (by first | rfl | (simp; done) | (simp [*]; done)), H', ⟨by have := HK1.out; omega⟩, ⟨by (with_reducible repeat (first | apply Kd.R_alloc | apply Kd.R_drewN | apply Kd.R_drew)); exact HO_5.out⟩, ⟨by (with_reducible repeat (first | apply Kd.R_alloc | apply Kd.R_drewN | apply Kd.R_drew)); exact Kd.R_mono HO_11.out (fun _ hk => trivial)⟩, ⟨(bg HB GE435)⟩⟩
            ·rw [if_neg c20] at H
             exact absurd H (by simp)
           ·rw [if_neg c19] at H
            exact absurd H (by simp)
          ·rw [if_neg c17] at H
           exact absurd H (by simp)
         ·rw [if_neg c16] at H
          exact absurd H (by simp)
        ·rw [if_neg c15] at H
         have c15b0 : ((Go.bits .and .i64 (ji14) 1) == 1) = false := beq_eq_false_iff_ne.mpr c15
         have c15b1 : ((Go.bits .and .i64 (ji14) 1) != 1) = true := bne_iff_ne.mpr c15
         have H' := Aside0.mk H
         clear H
         have p434 : 0 ≤ (x13_1 : Int) := of_decide_eq_true (by first | (with_reducible assumption) | assumption)
         have q434 : x13_1 < (t431.length : Int) := of_decide_eq_true (by first | (with_reducible assumption) | assumption)
         obtain ⟨ad434, e434, hx434_0, hx434_1⟩ := at_T72 (Kd.R_reads' HO_11.out).2.2 x13_1 p434 q434
         cases e434
         replace p434 := eq_true p434
         replace q434 := eq_true q434
         go_wp2_with (first | ((with_reducible refine gate_dst (N := 7) rfl ?_); refine bx 7 #[.int .i64 0, .int .i64 0] 72 ?_; intro gb435 hg w32 hbox hb; have n0_ := Aside0.mk (Kd.R_below (rr HO_5) hb); have n1_ := Aside0.mk (Kd.R_below (Kd.R_elderB (rr HO_11) gb435 (Nat.le_of_eq hg.symm)) hb); have n2_ := bs HB hb; have n3_ := Aside0.mk (hbox); have n4_ := Aside0.mk ((by rw [hg]; exact (below_size (bl HB)) : w.heap.size ≤ gb435)); have n5_ := Aside0.mk ((by rw [hg]; exact (below_size (bl HB)) : w.heap.size ≤ gb435)); clear HO_5; clear HO_11; clear HB; have HO_5 := n0_; have HO_11 := n1_; have HB := n2_; have BK435 := n3_; have GW435 := n4_; have GE435 := n5_; clear n0_ n1_ n2_ n3_ n4_ n5_; clear hb hbox hg; have hcz33_0 := bc BK435 0; have hcz33_1 := bc BK435 1; have hfz33_0 := bf BK435 0; have hfz33_1 := bf BK435 1))
         go_roundg k1
         case measure => have := HK1.out; omega
         case rel => exact ⟨(x5_1), (wrap64 (x13_1 + 1)), (by first | rfl | (simp; done) | (simp [*]; done)), H', ⟨by have := HK1.out; omega⟩, ⟨by (with_reducible repeat (first | apply Kd.R_alloc | apply Kd.R_drewN | apply Kd.R_drew)); exact Kd.R_mono (Kd.R_far (p := ⟨gb435, 1, none⟩) (Kd.R_far (p := ⟨gb435, 0, none⟩) (Kd.R_types HO_5.out BK435.out (by decide)) (fun _ hk => hk.2) (.int .i64 ((rd_T72 t431 x13_1).f0))) (fun _ hk => hk.2) (.int .i64 ((rd_T72 t431 x13_1).f1))) (fun _ hk => trivial)⟩, ⟨by (with_reducible repeat (first | apply Kd.R_alloc | apply Kd.R_drewN | apply Kd.R_drew)); exact Kd.R_mono (Kd.R_far (p := ⟨gb435, 1, none⟩) (Kd.R_far (p := ⟨gb435, 0, none⟩) (Kd.R_mono HO_11.out (fun k_ hk => (⟨hk, hk.2⟩ : _ ∧ k_ ≠ gb435))) (fun _ hk => hk.2) (.int .i64 ((rd_T72 t431 x13_1).f0))) (fun _ hk => hk.2) (.int .i64 ((rd_T72 t431 x13_1).f1))) (fun _ hk => trivial)⟩, ⟨(bg HB GE435)⟩⟩
       ·rw [if_neg c12] at H
        exact absurd H (by simp)
      ·rw [if_neg c11] at H
       exact absurd H (by simp)
     ·rw [if_neg c10] at H
      have c10b0 : decide (x13_1 < (t431.length : Int)) = false := decide_eq_false c10
      clear c10
      obtain rfl := Option.some.inj H
      go_wp2
      go_ret
      exact ⟨_, by first | rfl | (simp [errW_none, errW_some] <;> rfl) | (simp [*, errW_none, errW_some] <;> rfl), by (with_reducible repeat (first | apply Kd.R_alloc | apply Kd.R_drewN | apply Kd.R_drew)); exact HO_5.out, (bl HB)⟩
  ·rw [if_neg c4] at H
   exact absurd H (by simp)
 ·rw [if_neg c3] at H
  exact absurd H (by simp)

end Go.Proofs.Ytiimkifkakdalaa.P
