-- Printed by a program of this session (wip/tools/myprint.py, over the kit's print.py); not trusted: Lean checks it.
import Derived.Test.YtdjaiedfcmjblaaWAll2
import Derived.Test.YtdjaiedfcmjblaaP0
import Derived.Test.YtdjaiedfcmjblaaOSwaps
import Derived.Test.YtdjaiedfcmjblaaP15
import Derived.Test.YtdjaiedfcmjblaaP16
import Derived.Test.YtdjaiedfcmjblaaP23
import Derived.Test.YtdjaiedfcmjblaaP48
import Derived.Test.YtdjaiedfcmjblaaP52
import Derived.Test.YtdjaiedfcmjblaaP60
import Derived.Test.YtdjaiedfcmjblaaP62
namespace Go.Proofs.Ytdjaiedfcmjblaa.P
open Go.RowKit Go.Proofs.YtdjaiedfcmjblaaW.PrintWords Go.Proofs.YtdjaiedfcmjblaaW.PrintLast Go.Proofs.YtdjaiedfcmjblaaW.PrintMore
attribute [local go_sem] max2_int min2_int max_two min_two max_three min_three max_four min_four   -- for this text's walks alone
set_option linter.unusedVariables false
set_option linter.unusedSimpArgs false

/-! ### spec_WalkOf: function 42 -/
mutual
def spec_WalkOf.j0 : Nat → Int → List Int → Int → List Int → Bool → Option (List Int)
 | 0, _, _, _, _, _ => none
 | k + 1, x0, x1, x2, x7, x21 => if x21 = true then (some x7) else ((spec_l12Swaps.f k x0 x1).bind fun t620 => (spec_WalkOf.l0 k x2 x7 t620 0))
def spec_WalkOf.l0 : Nat → Int → List Int → List (List Int) → Int → Option (List Int)
 | 0, _, _, _, _ => none
 | k + 1, x2, x7, x8, x9 => if x9 < (x8.length : Int) then (if 0 ≤ x9 then (if 0 < ((rd_L1 x8 x9).length : Int) then (if (rd (rd_L1 x8 x9) 0) = x2 then (if 1 < ((rd_L1 x8 x9).length : Int) then (if x7.length < 17592186044416 then ((some (x7 ++ [rd (rd_L1 x8 x9) 1] : List Int)).bind fun y627 => (if (rd (rd_L1 x8 x9) 1) = x2 then (if y627.length < 17592186044416 then (spec_WalkOf.l0 k x2 (y627 ++ [rd (rd_L1 x8 x9) 0]) x8 (wrap64 (x9 + 1))) else (none)) else (spec_WalkOf.l0 k x2 y627 x8 (wrap64 (x9 + 1))))) else (none)) else (none)) else (if 1 < ((rd_L1 x8 x9).length : Int) then (if (rd (rd_L1 x8 x9) 1) = x2 then (if x7.length < 17592186044416 then (spec_WalkOf.l0 k x2 (x7 ++ [rd (rd_L1 x8 x9) 0]) x8 (wrap64 (x9 + 1))) else (none)) else (spec_WalkOf.l0 k x2 x7 x8 (wrap64 (x9 + 1)))) else (none))) else (none)) else (none)) else (some x7)
end
def spec_WalkOf.f (k : Nat) (a0 : Int) (l1 : List Int) (a2 : Int) : Option (List Int) := (some (([] : List Int) : List Int)).bind fun y615 => ((spec_IsWiring.f k a0 l1).bind fun t618 => (if t618 = true then ((spec_l1In.f a2 0 (wrap64 (a0 - 1))).bind fun t619 => (spec_WalkOf.j0 k a0 l1 a2 y615 (!t619))) else (spec_WalkOf.j0 k a0 l1 a2 y615 true)))
theorem spec_WalkOf.mono_l : ∀ k, (∀ y0 y1 y2 y3 y4, LeO (spec_WalkOf.j0 k y0 y1 y2 y3 y4) (spec_WalkOf.j0 (k + 1) y0 y1 y2 y3 y4)) ∧ (∀ y0 y1 y2 y3, LeO (spec_WalkOf.l0 k y0 y1 y2 y3) (spec_WalkOf.l0 (k + 1) y0 y1 y2 y3))
 | 0 => ⟨fun _ _ _ _ _ r h => by simp [spec_WalkOf.j0] at h, fun _ _ _ _ r h => by simp [spec_WalkOf.l0] at h⟩
 | k + 1 => by
  obtain ⟨ih0, ih1⟩ := spec_WalkOf.mono_l k
  refine ⟨?_, ?_⟩
  ·intro y0 y1 y2 y3 y4
   unfold spec_WalkOf.j0
   repeat' first
   | (with_reducible exact ih0 _ _ _ _ _)
   | (with_reducible exact ih1 _ _ _ _)
   | (with_reducible exact spec_IsWiring.mono _ _ _)
   | (with_reducible exact spec_l12Swaps.mono _ _ _)
   | (with_reducible exact LeO.refl _)
   | (with_reducible exact LeO.none _)
   | (with_reducible refine LeO.ite ?_ ?_)
   | (with_reducible refine LeO.bind ?_ (fun _ => ?_))
   | exact ih0 _ _ _ _ _
   | exact ih1 _ _ _ _
   | exact spec_IsWiring.mono _ _ _
   | exact spec_l12Swaps.mono _ _ _
   | exact LeO.none _
   | refine LeO.ite ?_ ?_
   | refine LeO.bind ?_ (fun _ => ?_)
  ·intro y0 y1 y2 y3
   unfold spec_WalkOf.l0
   repeat' first
   | (with_reducible exact ih0 _ _ _ _ _)
   | (with_reducible exact ih1 _ _ _ _)
   | (with_reducible exact spec_IsWiring.mono _ _ _)
   | (with_reducible exact spec_l12Swaps.mono _ _ _)
   | (with_reducible exact LeO.refl _)
   | (with_reducible exact LeO.none _)
   | (with_reducible refine LeO.ite ?_ ?_)
   | (with_reducible refine LeO.bind ?_ (fun _ => ?_))
   | exact ih0 _ _ _ _ _
   | exact ih1 _ _ _ _
   | exact spec_IsWiring.mono _ _ _
   | exact spec_l12Swaps.mono _ _ _
   | exact LeO.none _
   | refine LeO.ite ?_ ?_
   | refine LeO.bind ?_ (fun _ => ?_)
theorem spec_WalkOf.mono : ∀ a0 a1 a2 k, LeO (spec_WalkOf.f k a0 a1 a2) (spec_WalkOf.f (k + 1) a0 a1 a2) := by
 intro a0 a1 a2 k
 obtain ⟨ih0, ih1⟩ := spec_WalkOf.mono_l k
 unfold spec_WalkOf.f
 repeat' first
   | (with_reducible exact ih0 _ _ _ _ _)
   | (with_reducible exact ih1 _ _ _ _)
   | (with_reducible exact spec_IsWiring.mono _ _ _)
   | (with_reducible exact spec_l12Swaps.mono _ _ _)
   | (with_reducible exact LeO.refl _)
   | (with_reducible exact LeO.none _)
   | (with_reducible refine LeO.ite ?_ ?_)
   | (with_reducible refine LeO.bind ?_ (fun _ => ?_))
   | exact ih0 _ _ _ _ _
   | exact ih1 _ _ _ _
   | exact spec_IsWiring.mono _ _ _
   | exact spec_l12Swaps.mono _ _ _
   | exact LeO.none _
   | refine LeO.ite ?_ ?_
   | refine LeO.bind ?_ (fun _ => ?_)
set_option maxHeartbeats 8000000 in
set_option maxRecDepth 100000 in
theorem spec_WalkOf.calls (k : Nat) (a0 : Int) (A1 : Option Addr) (c1 : Nat) (l1 : List Int) (a2 : Int) (r : List Int) (w : World) (hr1 : Kd.C (Kd.int .i64) w A1 l1.length l1) (hc1 : l1.length ≤ c1) (h : spec_WalkOf.f k a0 l1 a2 = some r) :
  Calls Try.prog 42 #[.int .i64 a0, .slice A1 l1.length c1, .int .i64 a2] w fun e w' => ∃ v0_ : Value, e = .returned (v0_) ∧ Kd.R (Kd.int .i64) 3 w' w.heap.size (fun _ => True) v0_ r ∧ Below w.heap.size w w' := by
 have HR1 := Aside0.mk hr1
 have HC1 := Aside0.mk hc1
 clear hr1 hc1
 have HB := Aside0.mk (Below.refl w.heap.size w)
 have H : ((some (([] : List Int) : List Int)).bind fun y615 => ((spec_IsWiring.f k a0 l1).bind fun t618 => (if t618 = true then ((spec_l1In.f a2 0 (wrap64 (a0 - 1))).bind fun t619 => (spec_WalkOf.j0 k a0 l1 a2 y615 (!t619))) else (spec_WalkOf.j0 k a0 l1 a2 y615 true)))) = some r := h
 clear h
 obtain ⟨y615, hy615⟩ : ∃ y_ : List Int, y_ = (([] : List Int)) := ⟨_, rfl⟩
 replace H : ((spec_IsWiring.f k a0 l1).bind fun t618 => (if t618 = true then ((spec_l1In.f a2 0 (wrap64 (a0 - 1))).bind fun t619 => (spec_WalkOf.j0 k a0 l1 a2 y615 (!t619))) else (spec_WalkOf.j0 k a0 l1 a2 y615 true))) = some r := by first | (rw [hy615]; with_reducible exact H) | (have H2_ := (Option.bind_some _ _).symm.trans H; rw [hy615]; with_reducible exact H2_) | (have H2_ := (Option.bind_some _ _).symm.trans H; with_reducible exact H2_) | with_reducible exact H | (rw [hy615]; exact H) | exact H
 have Ny615 := Aside0.mk hy615
 clear hy615
 have HC4 := Aside0.mk H
 clear H
 go_enter Try.func42, Try.ntmps42
 go_upto_region 2 with (first | ((with_reducible refine gate_dst (N := 10) rfl ?_); refine Kd.R_lit (Kd.int .i64) _ 3 ?hg (N := 10) ?hd (xs := ([] : List Int)) (inner := []) (ok := fun _ => True) (okp := fun _ => True) ?hr ?hp (fun _ hk => hk) trivial (Below.refl _ _) (Nat.le_refl _) (by simp) ?_; (case hd => rfl); (case hg => rfl); (case hr => first | (go_simp; done) | (go_simp; rfl)); (case hp => exact (Reps.none _ _)); intro v616 w5 ho6 hb hg_ hnew_; clear hg_ hnew_; (first | rw [← Ny615.out] at ho6 | (simp only [Int.reduceToNat] at ho6; rw [← Ny615.out] at ho6)); have n0_ := Aside0.mk (Kd.R_lower ho6 (below_size (bl HB))); have n1_ := bs HB hb; clear HB; have HO617 := n0_; have HB := n1_; clear n0_ n1_; clear hb ho6))
 (try simp only [Act.put, List.setIfInBounds_toArray, List.set_cons_zero, List.set_cons_succ])
 go_cut [21] (fun v21 wc => ∃ (kq : Nat) (x21_3 : Bool), v21 = .bool x21_3 ∧ Aside0 (spec_WalkOf.j0 kq a0 l1 a2 y615 x21_3 = some r) ∧ Aside0 (kq ≤ k) ∧ Aside0 (Kd.R (Kd.int .i64) 3 wc w.heap.size (fun _ => True) v616 y615) ∧ Aside0 (Below w.heap.size w wc))
 case first =>
  have H := HC4.out
  clear HC4
  replace H := Option.bind_eq_some_iff.mp H
  obtain ⟨t618, A70, H⟩ := H
  (try dsimp only at H)
  have A7 := Aside0.mk A70
  clear A70
  by_cases c8 : t618 = true
  ·subst c8
   have H1 : ((spec_l1In.f a2 0 (wrap64 (a0 - 1))).bind fun t619 => (spec_WalkOf.j0 k a0 l1 a2 y615 (!t619))) = some r := by rw [if_pos rfl] at H; exact H
   clear H
   have H := H1
   clear H1
   replace H := Option.bind_eq_some_iff.mp H
   obtain ⟨t619, A90, H⟩ := H
   (try dsimp only at H)
   have A9 := Aside0.mk A90
   clear A90
   have H' := Aside0.mk H
   clear H
   go_wp2_with (first | ((with_reducible refine gate_callee (f := 15) rfl ?_); refine gL (some 13) rfl rfl Try.func15 (by kernel_rfl) rfl #[.int .i64 a0, .slice A1 l1.length c1] rfl ?_; (with_reducible refine (spec_IsWiring.calls k a0 _ _ l1 true _ ?side1 ?side2 A7.out).mono ?_); (case side1 => repeat (first | exact (Kd.C_below HR1.out HB.out) | (with_reducible refine Kd.C_alloc ?_ _) | (with_reducible refine Kd.C_drewN ?_ _) | (with_reducible refine Kd.C_drew ?_))); (case side2 => exact HC1.out); rintro e w10 ⟨rfl, hb⟩; refine ⟨_, rfl, ?_⟩; have n0_ := Aside0.mk (Kd.R_below (rr HO617) hb); have n1_ := bs HB hb; clear HO617; clear HB; have HO617 := n0_; have HB := n1_; clear n0_ n1_; (try clear hb); (try clear hb2); (try clear hk); (try clear hi)) | (go_at_call 48; (with_reducible refine (spec_l1In.calls a2 0 (wrap64 (a0 - 1)) t619 _ A9.out).mono ?_); rintro e w' ⟨rfl, ⟨nd, rfl⟩⟩))
   go_meet
   case rel => exact ⟨_, (!t619), (by first | rfl | (simp; done) | (simp [*]; done)), H', ⟨by first | omega | exact Nat.le_refl _⟩, ⟨by (with_reducible repeat (first | apply Kd.R_alloc | apply Kd.R_drewN | apply Kd.R_drew)); exact HO617.out⟩, ⟨(bl HB)⟩⟩
  ·replace c8 := Bool.eq_false_iff.mpr c8
   subst c8
   have H1 : (spec_WalkOf.j0 k a0 l1 a2 y615 true) = some r := by rw [if_neg (show ¬ (false = true) by decide)] at H; exact H
   clear H
   have H := H1
   clear H1
   have H' := Aside0.mk H
   clear H
   go_wp2_with (first | ((with_reducible refine gate_callee (f := 15) rfl ?_); refine gL (some 13) rfl rfl Try.func15 (by kernel_rfl) rfl #[.int .i64 a0, .slice A1 l1.length c1] rfl ?_; (with_reducible refine (spec_IsWiring.calls k a0 _ _ l1 false _ ?side1 ?side2 A7.out).mono ?_); (case side1 => repeat (first | exact (Kd.C_below HR1.out HB.out) | (with_reducible refine Kd.C_alloc ?_ _) | (with_reducible refine Kd.C_drewN ?_ _) | (with_reducible refine Kd.C_drew ?_))); (case side2 => exact HC1.out); rintro e w11 ⟨rfl, hb⟩; refine ⟨_, rfl, ?_⟩; have n0_ := Aside0.mk (Kd.R_below (rr HO617) hb); have n1_ := bs HB hb; clear HO617; clear HB; have HO617 := n0_; have HB := n1_; clear n0_ n1_; (try clear hb); (try clear hb2); (try clear hk); (try clear hi)))
   go_meet
   case rel => exact ⟨_, (true), (by first | rfl | (simp; done) | (simp [*]; done)), H', ⟨by first | omega | exact Nat.le_refl _⟩, ⟨by (with_reducible repeat (first | apply Kd.R_alloc | apply Kd.R_drewN | apply Kd.R_drew)); exact HO617.out⟩, ⟨(bl HB)⟩⟩
 case rest =>
  clear HC4
  try clear c1
  try clear p2
  try clear c4
  try clear p6
  try clear c8
  obtain ⟨kq, x21_3, rfl, HA, HJ3, HO_7, HB⟩ := hcut
  cases kq with
  | zero => exact absurd HA.out (by simp [spec_WalkOf.j0])
  | succ kj3 =>
   have H := HA.out
   clear HA
   simp only [spec_WalkOf.j0] at H
   by_cases c12 : x21_3 = true
   ·subst c12
    have H1 : (some y615) = some r := by rw [if_pos rfl] at H; exact H
    clear H
    have H := H1
    clear H1
    obtain rfl := Option.some.inj H
    go_wp2
    go_ret
    exact ⟨_, by first | rfl | (simp [errW_none, errW_some] <;> rfl) | (simp [*, errW_none, errW_some] <;> rfl), by (with_reducible repeat (first | apply Kd.R_alloc | apply Kd.R_drewN | apply Kd.R_drew)); exact HO_7.out, (bl HB)⟩
   ·replace c12 := Bool.eq_false_iff.mpr c12
    subst c12
    have H1 : ((spec_l12Swaps.f kj3 a0 l1).bind fun t620 => (spec_WalkOf.l0 kj3 a2 y615 t620 0)) = some r := by rw [if_neg (show ¬ (false = true) by decide)] at H; exact H
    clear H
    have H := H1
    clear H1
    replace H := Option.bind_eq_some_iff.mp H
    obtain ⟨t620, A130, H⟩ := H
    (try dsimp only at H)
    have A13 := Aside0.mk A130
    clear A130
    have H' := Aside0.mk H
    clear H
    go_wp2_with (first | ((with_reducible refine gate_callee (f := 60) rfl ?_); refine gL (some 25) rfl rfl Try.func60 (by kernel_rfl) rfl #[.int .i64 a0, .slice A1 l1.length c1] rfl ?_; (with_reducible refine (spec_l12Swaps.calls kj3 a0 _ _ l1 t620 _ ?side1 ?side2 A13.out).mono ?_); (case side1 => repeat (first | exact (Kd.C_below HR1.out HB.out) | (with_reducible refine Kd.C_alloc ?_ _) | (with_reducible refine Kd.C_drewN ?_ _) | (with_reducible refine Kd.C_drew ?_))); (case side2 => exact HC1.out); rintro e w14 ⟨v621, rfl, ho0, hb⟩; refine ⟨_, rfl, ?_⟩; have n0_ := Aside0.mk (Kd.R_below (rr HO_7) hb); have n1_ := Aside0.mk (Kd.S_lower (Kd.S_new' ho0 (Kd.R_lt (rr HO_7))) (below_size (bl HB))); have n2_ := bs HB hb; clear HO_7; clear HB; have HO_7 := n0_; have HO622 := n1_; have HB := n2_; clear n0_ n1_ n2_; (try clear hb); (try clear hb2); (try clear hk); (try clear hi); (try clear ho0)))
    go_loopg [7, 9] kj3 (fun kq v7 v9 w' => ∃ (x7_2 : List Int) (x9_2 : Int), v9 = .int .i64 x9_2 ∧ Aside0 (spec_WalkOf.l0 kq a2 x7_2 t620 x9_2 = some r) ∧ Aside0 (kq ≤ kj3) ∧ Aside0 (Kd.R (Kd.int .i64) 3 w' w.heap.size (fun _ => True) v7 x7_2) ∧ Aside0 (Kd.S (Kd.slice 3 (Kd.int .i64)) 22 w' w.heap.size (fun k_ => some k_ ≠ (v7 : Value).ownBlock) v621 t620) ∧ Aside0 (Below w.heap.size w w'))
    case atStart => exact ⟨(y615), (0), (by first | rfl | (simp; done) | (simp [*]; done)), H', ⟨Nat.le_refl _⟩, ⟨by (with_reducible repeat (first | apply Kd.R_alloc | apply Kd.R_drewN | apply Kd.R_drew)); exact HO_7.out⟩, ⟨by (with_reducible repeat (first | apply Kd.S_alloc | apply Kd.S_drewN | apply Kd.S_drew)); exact Kd.S_mono HO622.out (fun _ hk => hk.2)⟩, ⟨(bl HB)⟩⟩
    case round =>
     clear H'
     try clear c1
     try clear p2
     try clear c4
     try clear c6
     try clear p6
     try clear c8
     try clear c12
     try clear p2
     try clear p6
     obtain ⟨x7_2, x9_2, rfl, HA, HK2, HO_7, HO_8, HB⟩ := hrel
     cases gk with
     | zero => exact absurd HA.out (by simp [spec_WalkOf.l0])
     | succ k2 =>
      have H := HA.out
      clear HA
      simp only [spec_WalkOf.l0] at H
      by_cases c15 : x9_2 < (t620.length : Int)
      ·rw [if_pos c15] at H
       have c15b0 : decide (x9_2 < (t620.length : Int)) = true := decide_eq_true c15
       clear c15
       by_cases c16 : 0 ≤ x9_2
       ·rw [if_pos c16] at H
        have c16b0 : decide (0 ≤ x9_2) = true := decide_eq_true c16
        clear c16
        by_cases c17 : 0 < ((rd_L1 t620 x9_2).length : Int)
        ·rw [if_pos c17] at H
         have c17b0 : decide (0 < ((rd_L1 t620 x9_2).length : Int)) = true := decide_eq_true c17
         have c17b1 : decide (0 < (rd_L1 t620 x9_2).length) = true := decide_eq_true (by omega)
         clear c17
         by_cases c18 : (rd (rd_L1 t620 x9_2) 0) = a2
         ·rw [if_pos c18] at H
          have c18b0 : ((rd (rd_L1 t620 x9_2) 0) == a2) = true := beq_iff_eq.mpr c18
          have c18b1 : ((rd (rd_L1 t620 x9_2) 0) != a2) = false := bne_eq_false_iff_eq.mpr c18
          clear c18
          by_cases c19 : 1 < ((rd_L1 t620 x9_2).length : Int)
          ·rw [if_pos c19] at H
           have c19b0 : decide (1 < ((rd_L1 t620 x9_2).length : Int)) = true := decide_eq_true c19
           have c19b1 : decide (1 < (rd_L1 t620 x9_2).length) = true := decide_eq_true (by omega)
           clear c19
           by_cases c20 : x7_2.length < 17592186044416
           ·rw [if_pos c20] at H
            have LMc20 := Aside0.mk c20
            clear c20
            obtain ⟨y627, hy627⟩ : ∃ y_ : List Int, y_ = (x7_2 ++ [rd (rd_L1 t620 x9_2) 1]) := ⟨_, rfl⟩
            replace H : (if (rd (rd_L1 t620 x9_2) 1) = a2 then (if y627.length < 17592186044416 then (spec_WalkOf.l0 k2 a2 (y627 ++ [rd (rd_L1 t620 x9_2) 0]) t620 (wrap64 (x9_2 + 1))) else (none)) else (spec_WalkOf.l0 k2 a2 y627 t620 (wrap64 (x9_2 + 1)))) = some r := by first | (rw [hy627]; with_reducible exact H) | (have H2_ := (Option.bind_some _ _).symm.trans H; rw [hy627]; with_reducible exact H2_) | (have H2_ := (Option.bind_some _ _).symm.trans H; with_reducible exact H2_) | with_reducible exact H | (rw [hy627]; exact H) | exact H
            have Ny627 := Aside0.mk hy627
            clear hy627
            by_cases c21 : (rd (rd_L1 t620 x9_2) 1) = a2
            ·rw [if_pos c21] at H
             have c21b0 : ((rd (rd_L1 t620 x9_2) 1) == a2) = true := beq_iff_eq.mpr c21
             have c21b1 : ((rd (rd_L1 t620 x9_2) 1) != a2) = false := bne_eq_false_iff_eq.mpr c21
             clear c21
             by_cases c22 : y627.length < 17592186044416
             ·rw [if_pos c22] at H
              have LMc22 := Aside0.mk c22
              clear c22
              obtain ⟨y634, hy634⟩ : ∃ y_ : List Int, y_ = (y627 ++ [rd (rd_L1 t620 x9_2) 0]) := ⟨_, rfl⟩
              replace H : (spec_WalkOf.l0 k2 a2 y634 t620 (wrap64 (x9_2 + 1))) = some r := by first | (rw [hy634]; with_reducible exact H) | (have H2_ := (Option.bind_some _ _).symm.trans H; rw [hy634]; with_reducible exact H2_) | (have H2_ := (Option.bind_some _ _).symm.trans H; with_reducible exact H2_) | with_reducible exact H | (rw [hy634]; exact H) | exact H
              have Ny634 := Aside0.mk hy634
              clear hy634
              have H' := Aside0.mk H
              clear H
              obtain ⟨Ao23, co23, eo23⟩ := Kd.S_slice HO_8.out
              subst eo23
              have p623 : 0 ≤ (x9_2 : Int) := of_decide_eq_true (by first | (with_reducible assumption) | assumption)
              have q623 : x9_2 < (t620.length : Int) := of_decide_eq_true (by first | (with_reducible assumption) | assumption)
              obtain ⟨ad623, A623_0, c623_0, e623, hx623_0, hl623_0, hi623_0⟩ := at_L1 (Kd.S_reads' HO_8.out).2.2 x9_2 p623 q623
              cases e623
              obtain ⟨ce623, hce623, hMe623, hcc623⟩ := Kd.S_get HO_8.out [] x9_2 p623 (by first | exact q623 | exact of_decide_eq_true (by first | (with_reducible assumption) | assumption) | (have e_ := (Kd.S_reads' HO_8.out).1; omega))
              obtain ⟨ve623_0, rfl, ge623_0⟩ := hMe623
              have hv623_0 := hcc623 0 _ rfl
              rw [Nat.add_zero, show ((Kd.slice 3 (Kd.int .i64))).sz = 1 from rfl, Nat.mul_one] at hv623_0
              replace hv623_0 := Option.some.inj (hv623_0.symm.trans hx623_0)
              rw [hv623_0] at ge623_0
              have HL623_0 := Aside0.mk (show Kd.R (Kd.int .i64) 3 _ _ _ _ (rd_L1 t620 x9_2) from ge623_0)
              clear hv623_0 ge623_0
              clear hcc623 hce623
              have HR623_0 := Aside0.mk hi623_0
              have HC623_0 := Aside0.mk hl623_0
              clear hi623_0 hl623_0
              replace p623 := eq_true p623
              replace q623 := eq_true q623
              have p624 : 0 ≤ (0 : Int) := (by omega)
              have q624 : 0 < ((rd_L1 t620 x9_2).length : Int) := of_decide_eq_true (by first | (with_reducible assumption) | assumption)
              obtain ⟨ad624, e624, hx624_0⟩ := Kd.at_int (by repeat (first | (with_reducible exact HR623_0.out) | (with_reducible refine Kd.C_alloc ?_ _) | (with_reducible refine Kd.C_drewN ?_ _) | (with_reducible refine Kd.C_drew ?_) | exact HR623_0.out)) 0 p624 q624
              cases e624
              have qi624 : (0 < (rd_L1 t620 x9_2).length) = True := eq_true (by omega)
              (try rw [show ((0 : Int)).toNat = 0 from rfl] at hx624_0)
              (try rw [Addr.add_zero'] at hx624_0)
              replace p624 := eq_true p624
              replace q624 := eq_true q624
              have p625 : 0 ≤ (x9_2 : Int) := of_decide_eq_true (by first | (with_reducible assumption) | assumption)
              have q625 : x9_2 < (t620.length : Int) := of_decide_eq_true (by first | (with_reducible assumption) | assumption)
              obtain ⟨ad625, A625_0, c625_0, e625, hx625_0, hl625_0, hi625_0⟩ := at_L1 (Kd.S_reads' HO_8.out).2.2 x9_2 p625 q625
              obtain rfl : ad623 = ad625 := (by injection e625)
              obtain ⟨ce625, hce625, hMe625, hcc625⟩ := Kd.S_get HO_8.out [] x9_2 p625 (by first | exact q625 | exact of_decide_eq_true (by first | (with_reducible assumption) | assumption) | (have e_ := (Kd.S_reads' HO_8.out).1; omega))
              obtain ⟨ve625_0, rfl, ge625_0⟩ := hMe625
              have hv625_0 := hcc625 0 _ rfl
              rw [Nat.add_zero, show ((Kd.slice 3 (Kd.int .i64))).sz = 1 from rfl, Nat.mul_one] at hv625_0
              replace hv625_0 := Option.some.inj (hv625_0.symm.trans hx625_0)
              rw [hv625_0] at ge625_0
              have HL625_0 := Aside0.mk (show Kd.R (Kd.int .i64) 3 _ _ _ _ (rd_L1 t620 x9_2) from ge625_0)
              clear hv625_0 ge625_0
              clear hcc625 hce625
              have HR625_0 := Aside0.mk hi625_0
              have HC625_0 := Aside0.mk hl625_0
              clear hi625_0 hl625_0
              replace p625 := eq_true p625
              replace q625 := eq_true q625
              have ea_ := Option.some.inj (hx623_0.symm.trans hx625_0)
              injection ea_ with ea_ en_ ec_
              subst ea_
              subst ec_
              clear en_
              have p626 : 0 ≤ (1 : Int) := (by omega)
              have q626 : 1 < ((rd_L1 t620 x9_2).length : Int) := of_decide_eq_true (by first | (with_reducible assumption) | assumption)
              obtain ⟨ad626, e626, hx626_0⟩ := Kd.at_int (by repeat (first | (with_reducible exact HR625_0.out) | (with_reducible refine Kd.C_alloc ?_ _) | (with_reducible refine Kd.C_drewN ?_ _) | (with_reducible refine Kd.C_drew ?_) | exact HR625_0.out)) 1 p626 q626
              cases e626
              (try simp only [show (1 : Int).toNat = 1 from rfl, Nat.reduceMul, Nat.reduceEqDiff, Go.Addr.add, ↓reduceIte] at hx626_0)
              have qi626 : (1 < (rd_L1 t620 x9_2).length) = True := eq_true (by omega)
              (try rw [show ((1 : Int)).toNat = 1 from rfl] at hx626_0)
              replace p626 := eq_true p626
              replace q626 := eq_true q626
              go_wp2_with (first | ((with_reducible refine gate_builtin (b := .append) (xs := #[.tmp 40, .tmp 47]) rfl ?_); at_builtin; refine Kd.R_append (Kd.int .i64) (w0 := w) w.heap.size rfl (.tmp 40) (.tmp 47) 22 3 (.int .i64 0) 8 rfl Try.underlying22 info3 rfl (by decide) (by omega) u7 x7_2 (rd (rd_L1 t620 x9_2) 1) [.int .i64 (rd (rd_L1 t620 x9_2) 1)] (fun _ => True) (fun _ => False) rfl rfl ?aP (fun _ hk => hk.elim) ?aF ?aO ?aB ?aS ?aL ?_; (case aP => exact rfl); (case aB => exact (bl HB)); (case aF => exact (fun _ _ => trivial)); (case aO => exact (rr HO_7)); (case aS => exact (below_size (bl HB))); (case aL => have := LMc20.out; omega); intro v628 w24 ho hb hg hat; rw [← Ny627.out] at ho; have n0_ := Aside0.mk (Kd.S_after (ok := (fun _ => True)) (by (with_reducible repeat (first | apply Kd.S_alloc | apply Kd.S_drewN | apply Kd.S_drew)); exact Kd.S_mono HO_8.out (fun _ hk => ⟨trivial, hk⟩)) hg hat); have n1_ := Aside0.mk (Kd.R_after (ok := (fun k_ => some k_ ≠ (.slice (some ad623) t620.length co23 : Value).ownBlock)) (by (with_reducible repeat (first | apply Kd.R_alloc | apply Kd.R_drewN | apply Kd.R_drew)); first | exact Kd.R_mono HL623_0.out (fun _ hk => ⟨hk.2, hk.1⟩) | exact Kd.R_mono HL623_0.out (fun _ hk => ⟨hk.1, hk.2⟩)) hg hat); have n2_ := Aside0.mk (Kd.R_after (ok := (fun k_ => some k_ ≠ (.slice (some ad623) t620.length co23 : Value).ownBlock)) (by (with_reducible repeat (first | apply Kd.R_alloc | apply Kd.R_drewN | apply Kd.R_drew)); first | exact Kd.R_mono HL625_0.out (fun _ hk => ⟨hk.2, hk.1⟩) | exact Kd.R_mono HL625_0.out (fun _ hk => ⟨hk.1, hk.2⟩)) hg hat); have n3_ := Aside0.mk (hb); have n4_ := Aside0.mk (ho); clear HO_8; clear HL623_0; clear HL625_0; clear HB; clear HO_7; have HO_8 := n0_; have HL623_0 := n1_; have HL625_0 := n2_; have HB := n3_; have HO629 := n4_; clear n0_ n1_ n2_ n3_ n4_; clear ho hb hg hat; have p630 : 0 ≤ (x9_2 : Int) := of_decide_eq_true (by first | (with_reducible assumption) | assumption); have q630 : x9_2 < (t620.length : Int) := of_decide_eq_true (by first | (with_reducible assumption) | assumption); obtain ⟨ad630, A630_0, c630_0, e630, hx630_0, hl630_0, hi630_0⟩ := at_L1 (Kd.S_reads' HO_8.out).2.2 x9_2 p630 q630; obtain rfl : ad623 = ad630 := (by injection e630); obtain ⟨ce630, hce630, hMe630, hcc630⟩ := Kd.S_get HO_8.out [] x9_2 p630 (by first | exact q630 | exact of_decide_eq_true (by first | (with_reducible assumption) | assumption) | (have e_ := (Kd.S_reads' HO_8.out).1; omega)); obtain ⟨ve630_0, rfl, ge630_0⟩ := hMe630; have hv630_0 := hcc630 0 _ rfl; rw [Nat.add_zero, show ((Kd.slice 3 (Kd.int .i64))).sz = 1 from rfl, Nat.mul_one] at hv630_0; replace hv630_0 := Option.some.inj (hv630_0.symm.trans hx630_0); rw [hv630_0] at ge630_0; have HL630_0 := Aside0.mk (show Kd.R (Kd.int .i64) 3 _ _ _ _ (rd_L1 t620 x9_2) from ge630_0); clear hv630_0 ge630_0; clear hcc630 hce630; have HR630_0 := Aside0.mk hi630_0; have HC630_0 := Aside0.mk hl630_0; clear hi630_0 hl630_0; replace p630 := eq_true p630; replace q630 := eq_true q630; have p631 : 0 ≤ (1 : Int) := (by omega); have q631 : 1 < ((rd_L1 t620 x9_2).length : Int) := of_decide_eq_true (by first | (with_reducible assumption) | assumption); obtain ⟨ad631, e631, hx631_0⟩ := Kd.at_int (by repeat (first | (with_reducible exact HR630_0.out) | (with_reducible refine Kd.C_alloc ?_ _) | (with_reducible refine Kd.C_drewN ?_ _) | (with_reducible refine Kd.C_drew ?_) | exact HR630_0.out)) 1 p631 q631; cases e631; (try simp only [show (1 : Int).toNat = 1 from rfl, Nat.reduceMul, Nat.reduceEqDiff, Go.Addr.add, ↓reduceIte] at hx631_0); have qi631 : (1 < (rd_L1 t620 x9_2).length) = True := eq_true (by omega); (try rw [show ((1 : Int)).toNat = 1 from rfl] at hx631_0); replace p631 := eq_true p631; replace q631 := eq_true q631; have p632 : 0 ≤ (x9_2 : Int) := of_decide_eq_true (by first | (with_reducible assumption) | assumption); have q632 : x9_2 < (t620.length : Int) := of_decide_eq_true (by first | (with_reducible assumption) | assumption); obtain ⟨ad632, A632_0, c632_0, e632, hx632_0, hl632_0, hi632_0⟩ := at_L1 (Kd.S_reads' HO_8.out).2.2 x9_2 p632 q632; obtain rfl : ad623 = ad632 := (by injection e632); obtain ⟨ce632, hce632, hMe632, hcc632⟩ := Kd.S_get HO_8.out [] x9_2 p632 (by first | exact q632 | exact of_decide_eq_true (by first | (with_reducible assumption) | assumption) | (have e_ := (Kd.S_reads' HO_8.out).1; omega)); obtain ⟨ve632_0, rfl, ge632_0⟩ := hMe632; have hv632_0 := hcc632 0 _ rfl; rw [Nat.add_zero, show ((Kd.slice 3 (Kd.int .i64))).sz = 1 from rfl, Nat.mul_one] at hv632_0; replace hv632_0 := Option.some.inj (hv632_0.symm.trans hx632_0); rw [hv632_0] at ge632_0; have HL632_0 := Aside0.mk (show Kd.R (Kd.int .i64) 3 _ _ _ _ (rd_L1 t620 x9_2) from ge632_0); clear hv632_0 ge632_0; clear hcc632 hce632; have HR632_0 := Aside0.mk hi632_0; have HC632_0 := Aside0.mk hl632_0; clear hi632_0 hl632_0; replace p632 := eq_true p632; replace q632 := eq_true q632; have ea_ := Option.some.inj (hx630_0.symm.trans hx632_0); injection ea_ with ea_ en_ ec_; subst ea_; subst ec_; clear en_; have p633 : 0 ≤ (0 : Int) := (by omega); have q633 : 0 < ((rd_L1 t620 x9_2).length : Int) := of_decide_eq_true (by first | (with_reducible assumption) | assumption); obtain ⟨ad633, e633, hx633_0⟩ := Kd.at_int (by repeat (first | (with_reducible exact HR632_0.out) | (with_reducible refine Kd.C_alloc ?_ _) | (with_reducible refine Kd.C_drewN ?_ _) | (with_reducible refine Kd.C_drew ?_) | exact HR632_0.out)) 0 p633 q633; cases e633; have qi633 : (0 < (rd_L1 t620 x9_2).length) = True := eq_true (by omega); (try rw [show ((0 : Int)).toNat = 0 from rfl] at hx633_0); (try rw [Addr.add_zero'] at hx633_0); replace p633 := eq_true p633; replace q633 := eq_true q633) | ((with_reducible refine gate_builtin (b := .append) (xs := #[.tmp 57, .tmp 64]) rfl ?_); at_builtin; refine Kd.R_append (Kd.int .i64) (w0 := w) w.heap.size rfl (.tmp 57) (.tmp 64) 22 3 (.int .i64 0) 8 rfl Try.underlying22 info3 rfl (by decide) (by omega) v628 y627 (rd (rd_L1 t620 x9_2) 0) [.int .i64 (rd (rd_L1 t620 x9_2) 0)] (fun _ => True) (fun _ => False) rfl rfl ?aP (fun _ hk => hk.elim) ?aF ?aO ?aB ?aS ?aL ?_; (case aP => exact rfl); (case aB => exact (bl HB)); (case aF => exact (fun _ _ => trivial)); (case aO => exact (rr HO629)); (case aS => exact (below_size (bl HB))); (case aL => have := LMc22.out; omega); intro v635 w25 ho hb hg hat; rw [← Ny634.out] at ho; have n0_ := Aside0.mk (Kd.S_after (ok := (fun _ => True)) (by (with_reducible repeat (first | apply Kd.S_alloc | apply Kd.S_drewN | apply Kd.S_drew)); exact HO_8.out) hg hat); have n1_ := Aside0.mk (Kd.R_after (ok := (fun k_ => some k_ ≠ (.slice (some ad623) t620.length co23 : Value).ownBlock)) (rr HL623_0) hg hat); have n2_ := Aside0.mk (Kd.R_after (ok := (fun k_ => some k_ ≠ (.slice (some ad623) t620.length co23 : Value).ownBlock)) (rr HL625_0) hg hat); have n3_ := Aside0.mk (Kd.R_after (ok := (fun k_ => some k_ ≠ (.slice (some ad623) t620.length co23 : Value).ownBlock)) (by (with_reducible repeat (first | apply Kd.R_alloc | apply Kd.R_drewN | apply Kd.R_drew)); exact Kd.R_mono HL630_0.out (fun _ hk => ⟨hk.2, hk.1.2⟩)) hg hat); have n4_ := Aside0.mk (Kd.R_after (ok := (fun k_ => some k_ ≠ (.slice (some ad623) t620.length co23 : Value).ownBlock)) (by (with_reducible repeat (first | apply Kd.R_alloc | apply Kd.R_drewN | apply Kd.R_drew)); exact Kd.R_mono HL632_0.out (fun _ hk => ⟨hk.2, hk.1.2⟩)) hg hat); have n5_ := Aside0.mk (hb); have n6_ := Aside0.mk (ho); clear HO_8; clear HL623_0; clear HL625_0; clear HL630_0; clear HL632_0; clear HB; clear HO629; have HO_8 := n0_; have HL623_0 := n1_; have HL625_0 := n2_; have HL630_0 := n3_; have HL632_0 := n4_; have HB := n5_; have HO636 := n6_; clear n0_ n1_ n2_ n3_ n4_ n5_ n6_; clear ho hb hg hat))
              go_roundg k2
              case measure => have := HJ3.out; have := HK2.out; omega
              case rel => exact ⟨(y634), (wrap64 (x9_2 + 1)), (by first | rfl | (simp; done) | (simp [*]; done)), H', ⟨by have := HJ3.out; have := HK2.out; omega⟩, ⟨by (with_reducible repeat (first | apply Kd.R_alloc | apply Kd.R_drewN | apply Kd.R_drew)); exact HO636.out⟩, ⟨by (with_reducible repeat (first | apply Kd.S_alloc | apply Kd.S_drewN | apply Kd.S_drew)); exact Kd.S_mono HO_8.out (fun _ hk => hk.2)⟩, ⟨(bl HB)⟩⟩
             ·rw [if_neg c22] at H
              exact absurd H (by simp)
            ·rw [if_neg c21] at H
             have c21b0 : ((rd (rd_L1 t620 x9_2) 1) == a2) = false := beq_eq_false_iff_ne.mpr c21
             have c21b1 : ((rd (rd_L1 t620 x9_2) 1) != a2) = true := bne_iff_ne.mpr c21
             have H' := Aside0.mk H
             clear H
             obtain ⟨Ao26, co26, eo26⟩ := Kd.S_slice HO_8.out
             subst eo26
             have p623 : 0 ≤ (x9_2 : Int) := of_decide_eq_true (by first | (with_reducible assumption) | assumption)
             have q623 : x9_2 < (t620.length : Int) := of_decide_eq_true (by first | (with_reducible assumption) | assumption)
             obtain ⟨ad623, A623_0, c623_0, e623, hx623_0, hl623_0, hi623_0⟩ := at_L1 (Kd.S_reads' HO_8.out).2.2 x9_2 p623 q623
             cases e623
             obtain ⟨ce623, hce623, hMe623, hcc623⟩ := Kd.S_get HO_8.out [] x9_2 p623 (by first | exact q623 | exact of_decide_eq_true (by first | (with_reducible assumption) | assumption) | (have e_ := (Kd.S_reads' HO_8.out).1; omega))
             obtain ⟨ve623_0, rfl, ge623_0⟩ := hMe623
             have hv623_0 := hcc623 0 _ rfl
             rw [Nat.add_zero, show ((Kd.slice 3 (Kd.int .i64))).sz = 1 from rfl, Nat.mul_one] at hv623_0
             replace hv623_0 := Option.some.inj (hv623_0.symm.trans hx623_0)
             rw [hv623_0] at ge623_0
             have HL623_0 := Aside0.mk (show Kd.R (Kd.int .i64) 3 _ _ _ _ (rd_L1 t620 x9_2) from ge623_0)
             clear hv623_0 ge623_0
             clear hcc623 hce623
             have HR623_0 := Aside0.mk hi623_0
             have HC623_0 := Aside0.mk hl623_0
             clear hi623_0 hl623_0
             replace p623 := eq_true p623
             replace q623 := eq_true q623
             have p624 : 0 ≤ (0 : Int) := (by omega)
             have q624 : 0 < ((rd_L1 t620 x9_2).length : Int) := of_decide_eq_true (by first | (with_reducible assumption) | assumption)
             obtain ⟨ad624, e624, hx624_0⟩ := Kd.at_int (by repeat (first | (with_reducible exact HR623_0.out) | (with_reducible refine Kd.C_alloc ?_ _) | (with_reducible refine Kd.C_drewN ?_ _) | (with_reducible refine Kd.C_drew ?_) | exact HR623_0.out)) 0 p624 q624
             cases e624
             have qi624 : (0 < (rd_L1 t620 x9_2).length) = True := eq_true (by omega)
             (try rw [show ((0 : Int)).toNat = 0 from rfl] at hx624_0)
             (try rw [Addr.add_zero'] at hx624_0)
             replace p624 := eq_true p624
             replace q624 := eq_true q624
             have p625 : 0 ≤ (x9_2 : Int) := of_decide_eq_true (by first | (with_reducible assumption) | assumption)
             have q625 : x9_2 < (t620.length : Int) := of_decide_eq_true (by first | (with_reducible assumption) | assumption)
             obtain ⟨ad625, A625_0, c625_0, e625, hx625_0, hl625_0, hi625_0⟩ := at_L1 (Kd.S_reads' HO_8.out).2.2 x9_2 p625 q625
             obtain rfl : ad623 = ad625 := (by injection e625)
             obtain ⟨ce625, hce625, hMe625, hcc625⟩ := Kd.S_get HO_8.out [] x9_2 p625 (by first | exact q625 | exact of_decide_eq_true (by first | (with_reducible assumption) | assumption) | (have e_ := (Kd.S_reads' HO_8.out).1; omega))
             obtain ⟨ve625_0, rfl, ge625_0⟩ := hMe625
             have hv625_0 := hcc625 0 _ rfl
             rw [Nat.add_zero, show ((Kd.slice 3 (Kd.int .i64))).sz = 1 from rfl, Nat.mul_one] at hv625_0
             replace hv625_0 := Option.some.inj (hv625_0.symm.trans hx625_0)
             rw [hv625_0] at ge625_0
             have HL625_0 := Aside0.mk (show Kd.R (Kd.int .i64) 3 _ _ _ _ (rd_L1 t620 x9_2) from ge625_0)
             clear hv625_0 ge625_0
             clear hcc625 hce625
             have HR625_0 := Aside0.mk hi625_0
             have HC625_0 := Aside0.mk hl625_0
             clear hi625_0 hl625_0
             replace p625 := eq_true p625
             replace q625 := eq_true q625
             have ea_ := Option.some.inj (hx623_0.symm.trans hx625_0)
             injection ea_ with ea_ en_ ec_
             subst ea_
             subst ec_
             clear en_
             have p626 : 0 ≤ (1 : Int) := (by omega)
             have q626 : 1 < ((rd_L1 t620 x9_2).length : Int) := of_decide_eq_true (by first | (with_reducible assumption) | assumption)
             obtain ⟨ad626, e626, hx626_0⟩ := Kd.at_int (by repeat (first | (with_reducible exact HR625_0.out) | (with_reducible refine Kd.C_alloc ?_ _) | (with_reducible refine Kd.C_drewN ?_ _) | (with_reducible refine Kd.C_drew ?_) | exact HR625_0.out)) 1 p626 q626
             cases e626
             (try simp only [show (1 : Int).toNat = 1 from rfl, Nat.reduceMul, Nat.reduceEqDiff, Go.Addr.add, ↓reduceIte] at hx626_0)
             have qi626 : (1 < (rd_L1 t620 x9_2).length) = True := eq_true (by omega)
             (try rw [show ((1 : Int)).toNat = 1 from rfl] at hx626_0)
             replace p626 := eq_true p626
             replace q626 := eq_true q626
             go_wp2_with (first | ((with_reducible refine gate_builtin (b := .append) (xs := #[.tmp 40, .tmp 47]) rfl ?_); at_builtin; refine Kd.R_append (Kd.int .i64) (w0 := w) w.heap.size rfl (.tmp 40) (.tmp 47) 22 3 (.int .i64 0) 8 rfl Try.underlying22 info3 rfl (by decide) (by omega) u7 x7_2 (rd (rd_L1 t620 x9_2) 1) [.int .i64 (rd (rd_L1 t620 x9_2) 1)] (fun _ => True) (fun _ => False) rfl rfl ?aP (fun _ hk => hk.elim) ?aF ?aO ?aB ?aS ?aL ?_; (case aP => exact rfl); (case aB => exact (bl HB)); (case aF => exact (fun _ _ => trivial)); (case aO => exact (rr HO_7)); (case aS => exact (below_size (bl HB))); (case aL => have := LMc20.out; omega); intro v628 w27 ho hb hg hat; rw [← Ny627.out] at ho; have n0_ := Aside0.mk (Kd.S_after (ok := (fun _ => True)) (by (with_reducible repeat (first | apply Kd.S_alloc | apply Kd.S_drewN | apply Kd.S_drew)); exact Kd.S_mono HO_8.out (fun _ hk => ⟨trivial, hk⟩)) hg hat); have n1_ := Aside0.mk (Kd.R_after (ok := (fun k_ => some k_ ≠ (.slice (some ad623) t620.length co26 : Value).ownBlock)) (by (with_reducible repeat (first | apply Kd.R_alloc | apply Kd.R_drewN | apply Kd.R_drew)); first | exact Kd.R_mono HL623_0.out (fun _ hk => ⟨hk.2, hk.1⟩) | exact Kd.R_mono HL623_0.out (fun _ hk => ⟨hk.1, hk.2⟩)) hg hat); have n2_ := Aside0.mk (Kd.R_after (ok := (fun k_ => some k_ ≠ (.slice (some ad623) t620.length co26 : Value).ownBlock)) (by (with_reducible repeat (first | apply Kd.R_alloc | apply Kd.R_drewN | apply Kd.R_drew)); first | exact Kd.R_mono HL625_0.out (fun _ hk => ⟨hk.2, hk.1⟩) | exact Kd.R_mono HL625_0.out (fun _ hk => ⟨hk.1, hk.2⟩)) hg hat); have n3_ := Aside0.mk (hb); have n4_ := Aside0.mk (ho); clear HO_8; clear HL623_0; clear HL625_0; clear HB; clear HO_7; have HO_8 := n0_; have HL623_0 := n1_; have HL625_0 := n2_; have HB := n3_; have HO629 := n4_; clear n0_ n1_ n2_ n3_ n4_; clear ho hb hg hat; have p630 : 0 ≤ (x9_2 : Int) := of_decide_eq_true (by first | (with_reducible assumption) | assumption); have q630 : x9_2 < (t620.length : Int) := of_decide_eq_true (by first | (with_reducible assumption) | assumption); obtain ⟨ad630, A630_0, c630_0, e630, hx630_0, hl630_0, hi630_0⟩ := at_L1 (Kd.S_reads' HO_8.out).2.2 x9_2 p630 q630; obtain rfl : ad623 = ad630 := (by injection e630); obtain ⟨ce630, hce630, hMe630, hcc630⟩ := Kd.S_get HO_8.out [] x9_2 p630 (by first | exact q630 | exact of_decide_eq_true (by first | (with_reducible assumption) | assumption) | (have e_ := (Kd.S_reads' HO_8.out).1; omega)); obtain ⟨ve630_0, rfl, ge630_0⟩ := hMe630; have hv630_0 := hcc630 0 _ rfl; rw [Nat.add_zero, show ((Kd.slice 3 (Kd.int .i64))).sz = 1 from rfl, Nat.mul_one] at hv630_0; replace hv630_0 := Option.some.inj (hv630_0.symm.trans hx630_0); rw [hv630_0] at ge630_0; have HL630_0 := Aside0.mk (show Kd.R (Kd.int .i64) 3 _ _ _ _ (rd_L1 t620 x9_2) from ge630_0); clear hv630_0 ge630_0; clear hcc630 hce630; have HR630_0 := Aside0.mk hi630_0; have HC630_0 := Aside0.mk hl630_0; clear hi630_0 hl630_0; replace p630 := eq_true p630; replace q630 := eq_true q630; have p631 : 0 ≤ (1 : Int) := (by omega); have q631 : 1 < ((rd_L1 t620 x9_2).length : Int) := of_decide_eq_true (by first | (with_reducible assumption) | assumption); obtain ⟨ad631, e631, hx631_0⟩ := Kd.at_int (by repeat (first | (with_reducible exact HR630_0.out) | (with_reducible refine Kd.C_alloc ?_ _) | (with_reducible refine Kd.C_drewN ?_ _) | (with_reducible refine Kd.C_drew ?_) | exact HR630_0.out)) 1 p631 q631; cases e631; (try simp only [show (1 : Int).toNat = 1 from rfl, Nat.reduceMul, Nat.reduceEqDiff, Go.Addr.add, ↓reduceIte] at hx631_0); have qi631 : (1 < (rd_L1 t620 x9_2).length) = True := eq_true (by omega); (try rw [show ((1 : Int)).toNat = 1 from rfl] at hx631_0); replace p631 := eq_true p631; replace q631 := eq_true q631))
             go_roundg k2
             case measure => have := HJ3.out; have := HK2.out; omega
             case rel => exact ⟨(y627), (wrap64 (x9_2 + 1)), (by first | rfl | (simp; done) | (simp [*]; done)), H', ⟨by have := HJ3.out; have := HK2.out; omega⟩, ⟨by (with_reducible repeat (first | apply Kd.R_alloc | apply Kd.R_drewN | apply Kd.R_drew)); exact HO629.out⟩, ⟨by (with_reducible repeat (first | apply Kd.S_alloc | apply Kd.S_drewN | apply Kd.S_drew)); exact Kd.S_mono HO_8.out (fun _ hk => hk.2)⟩, ⟨(bl HB)⟩⟩
           ·rw [if_neg c20] at H
            exact absurd H (by simp)
          ·rw [if_neg c19] at H
           exact absurd H (by simp)
         ·rw [if_neg c18] at H
          have c18b0 : ((rd (rd_L1 t620 x9_2) 0) == a2) = false := beq_eq_false_iff_ne.mpr c18
          have c18b1 : ((rd (rd_L1 t620 x9_2) 0) != a2) = true := bne_iff_ne.mpr c18
          by_cases c28 : 1 < ((rd_L1 t620 x9_2).length : Int)
          ·rw [if_pos c28] at H
           have c28b0 : decide (1 < ((rd_L1 t620 x9_2).length : Int)) = true := decide_eq_true c28
           have c28b1 : decide (1 < (rd_L1 t620 x9_2).length) = true := decide_eq_true (by omega)
           clear c28
           by_cases c29 : (rd (rd_L1 t620 x9_2) 1) = a2
           ·rw [if_pos c29] at H
            have c29b0 : ((rd (rd_L1 t620 x9_2) 1) == a2) = true := beq_iff_eq.mpr c29
            have c29b1 : ((rd (rd_L1 t620 x9_2) 1) != a2) = false := bne_eq_false_iff_eq.mpr c29
            clear c29
            by_cases c30 : x7_2.length < 17592186044416
            ·rw [if_pos c30] at H
             have LMc30 := Aside0.mk c30
             clear c30
             obtain ⟨y641, hy641⟩ : ∃ y_ : List Int, y_ = (x7_2 ++ [rd (rd_L1 t620 x9_2) 0]) := ⟨_, rfl⟩
             replace H : (spec_WalkOf.l0 k2 a2 y641 t620 (wrap64 (x9_2 + 1))) = some r := by first | (rw [hy641]; with_reducible exact H) | (have H2_ := (Option.bind_some _ _).symm.trans H; rw [hy641]; with_reducible exact H2_) | (have H2_ := (Option.bind_some _ _).symm.trans H; with_reducible exact H2_) | with_reducible exact H | (rw [hy641]; exact H) | exact H
             have Ny641 := Aside0.mk hy641
             clear hy641
             have H' := Aside0.mk H
             clear H
             obtain ⟨Ao31, co31, eo31⟩ := Kd.S_slice HO_8.out
             subst eo31
             have p623 : 0 ≤ (x9_2 : Int) := of_decide_eq_true (by first | (with_reducible assumption) | assumption)
             have q623 : x9_2 < (t620.length : Int) := of_decide_eq_true (by first | (with_reducible assumption) | assumption)
             obtain ⟨ad623, A623_0, c623_0, e623, hx623_0, hl623_0, hi623_0⟩ := at_L1 (Kd.S_reads' HO_8.out).2.2 x9_2 p623 q623
             cases e623
             obtain ⟨ce623, hce623, hMe623, hcc623⟩ := Kd.S_get HO_8.out [] x9_2 p623 (by first | exact q623 | exact of_decide_eq_true (by first | (with_reducible assumption) | assumption) | (have e_ := (Kd.S_reads' HO_8.out).1; omega))
             obtain ⟨ve623_0, rfl, ge623_0⟩ := hMe623
             have hv623_0 := hcc623 0 _ rfl
             rw [Nat.add_zero, show ((Kd.slice 3 (Kd.int .i64))).sz = 1 from rfl, Nat.mul_one] at hv623_0
             replace hv623_0 := Option.some.inj (hv623_0.symm.trans hx623_0)
             rw [hv623_0] at ge623_0
             have HL623_0 := Aside0.mk (show Kd.R (Kd.int .i64) 3 _ _ _ _ (rd_L1 t620 x9_2) from ge623_0)
             clear hv623_0 ge623_0
             clear hcc623 hce623
             have HR623_0 := Aside0.mk hi623_0
             have HC623_0 := Aside0.mk hl623_0
             clear hi623_0 hl623_0
             replace p623 := eq_true p623
             replace q623 := eq_true q623
             have p624 : 0 ≤ (0 : Int) := (by omega)
             have q624 : 0 < ((rd_L1 t620 x9_2).length : Int) := of_decide_eq_true (by first | (with_reducible assumption) | assumption)
             obtain ⟨ad624, e624, hx624_0⟩ := Kd.at_int (by repeat (first | (with_reducible exact HR623_0.out) | (with_reducible refine Kd.C_alloc ?_ _) | (with_reducible refine Kd.C_drewN ?_ _) | (with_reducible refine Kd.C_drew ?_) | exact HR623_0.out)) 0 p624 q624
             cases e624
             have qi624 : (0 < (rd_L1 t620 x9_2).length) = True := eq_true (by omega)
             (try rw [show ((0 : Int)).toNat = 0 from rfl] at hx624_0)
             (try rw [Addr.add_zero'] at hx624_0)
             replace p624 := eq_true p624
             replace q624 := eq_true q624
             have p637 : 0 ≤ (x9_2 : Int) := of_decide_eq_true (by first | (with_reducible assumption) | assumption)
             have q637 : x9_2 < (t620.length : Int) := of_decide_eq_true (by first | (with_reducible assumption) | assumption)
             obtain ⟨ad637, A637_0, c637_0, e637, hx637_0, hl637_0, hi637_0⟩ := at_L1 (Kd.S_reads' HO_8.out).2.2 x9_2 p637 q637
             obtain rfl : ad623 = ad637 := (by injection e637)
             obtain ⟨ce637, hce637, hMe637, hcc637⟩ := Kd.S_get HO_8.out [] x9_2 p637 (by first | exact q637 | exact of_decide_eq_true (by first | (with_reducible assumption) | assumption) | (have e_ := (Kd.S_reads' HO_8.out).1; omega))
             obtain ⟨ve637_0, rfl, ge637_0⟩ := hMe637
             have hv637_0 := hcc637 0 _ rfl
             rw [Nat.add_zero, show ((Kd.slice 3 (Kd.int .i64))).sz = 1 from rfl, Nat.mul_one] at hv637_0
             replace hv637_0 := Option.some.inj (hv637_0.symm.trans hx637_0)
             rw [hv637_0] at ge637_0
             have HL637_0 := Aside0.mk (show Kd.R (Kd.int .i64) 3 _ _ _ _ (rd_L1 t620 x9_2) from ge637_0)
             clear hv637_0 ge637_0
             clear hcc637 hce637
             have HR637_0 := Aside0.mk hi637_0
             have HC637_0 := Aside0.mk hl637_0
             clear hi637_0 hl637_0
             replace p637 := eq_true p637
             replace q637 := eq_true q637
             have ea_ := Option.some.inj (hx623_0.symm.trans hx637_0)
             injection ea_ with ea_ en_ ec_
             subst ea_
             subst ec_
             clear en_
             have p638 : 0 ≤ (1 : Int) := (by omega)
             have q638 : 1 < ((rd_L1 t620 x9_2).length : Int) := of_decide_eq_true (by first | (with_reducible assumption) | assumption)
             obtain ⟨ad638, e638, hx638_0⟩ := Kd.at_int (by repeat (first | (with_reducible exact HR637_0.out) | (with_reducible refine Kd.C_alloc ?_ _) | (with_reducible refine Kd.C_drewN ?_ _) | (with_reducible refine Kd.C_drew ?_) | exact HR637_0.out)) 1 p638 q638
             cases e638
             (try simp only [show (1 : Int).toNat = 1 from rfl, Nat.reduceMul, Nat.reduceEqDiff, Go.Addr.add, ↓reduceIte] at hx638_0)
             have qi638 : (1 < (rd_L1 t620 x9_2).length) = True := eq_true (by omega)
             (try rw [show ((1 : Int)).toNat = 1 from rfl] at hx638_0)
             replace p638 := eq_true p638
             replace q638 := eq_true q638
             have p639 : 0 ≤ (x9_2 : Int) := of_decide_eq_true (by first | (with_reducible assumption) | assumption)
             have q639 : x9_2 < (t620.length : Int) := of_decide_eq_true (by first | (with_reducible assumption) | assumption)
             obtain ⟨ad639, A639_0, c639_0, e639, hx639_0, hl639_0, hi639_0⟩ := at_L1 (Kd.S_reads' HO_8.out).2.2 x9_2 p639 q639
             obtain rfl : ad623 = ad639 := (by injection e639)
             obtain ⟨ce639, hce639, hMe639, hcc639⟩ := Kd.S_get HO_8.out [] x9_2 p639 (by first | exact q639 | exact of_decide_eq_true (by first | (with_reducible assumption) | assumption) | (have e_ := (Kd.S_reads' HO_8.out).1; omega))
             obtain ⟨ve639_0, rfl, ge639_0⟩ := hMe639
             have hv639_0 := hcc639 0 _ rfl
             rw [Nat.add_zero, show ((Kd.slice 3 (Kd.int .i64))).sz = 1 from rfl, Nat.mul_one] at hv639_0
             replace hv639_0 := Option.some.inj (hv639_0.symm.trans hx639_0)
             rw [hv639_0] at ge639_0
             have HL639_0 := Aside0.mk (show Kd.R (Kd.int .i64) 3 _ _ _ _ (rd_L1 t620 x9_2) from ge639_0)
             clear hv639_0 ge639_0
             clear hcc639 hce639
             have HR639_0 := Aside0.mk hi639_0
             have HC639_0 := Aside0.mk hl639_0
             clear hi639_0 hl639_0
             replace p639 := eq_true p639
             replace q639 := eq_true q639
             have ea_ := Option.some.inj (hx623_0.symm.trans hx639_0)
             injection ea_ with ea_ en_ ec_
             subst ea_
             subst ec_
             clear en_
             have p640 : 0 ≤ (0 : Int) := (by omega)
             have q640 : 0 < ((rd_L1 t620 x9_2).length : Int) := of_decide_eq_true (by first | (with_reducible assumption) | assumption)
             obtain ⟨ad640, e640, hx640_0⟩ := Kd.at_int (by repeat (first | (with_reducible exact HR639_0.out) | (with_reducible refine Kd.C_alloc ?_ _) | (with_reducible refine Kd.C_drewN ?_ _) | (with_reducible refine Kd.C_drew ?_) | exact HR639_0.out)) 0 p640 q640
             cases e640
             have qi640 : (0 < (rd_L1 t620 x9_2).length) = True := eq_true (by omega)
             (try rw [show ((0 : Int)).toNat = 0 from rfl] at hx640_0)
             (try rw [Addr.add_zero'] at hx640_0)
             replace p640 := eq_true p640
             replace q640 := eq_true q640
             go_wp2_with (first | ((with_reducible refine gate_builtin (b := .append) (xs := #[.tmp 57, .tmp 64]) rfl ?_); at_builtin; refine Kd.R_append (Kd.int .i64) (w0 := w) w.heap.size rfl (.tmp 57) (.tmp 64) 22 3 (.int .i64 0) 8 rfl Try.underlying22 info3 rfl (by decide) (by omega) u7 x7_2 (rd (rd_L1 t620 x9_2) 0) [.int .i64 (rd (rd_L1 t620 x9_2) 0)] (fun _ => True) (fun _ => False) rfl rfl ?aP (fun _ hk => hk.elim) ?aF ?aO ?aB ?aS ?aL ?_; (case aP => exact rfl); (case aB => exact (bl HB)); (case aF => exact (fun _ _ => trivial)); (case aO => exact (rr HO_7)); (case aS => exact (below_size (bl HB))); (case aL => have := LMc30.out; omega); intro v642 w32 ho hb hg hat; rw [← Ny641.out] at ho; have n0_ := Aside0.mk (Kd.S_after (ok := (fun _ => True)) (by (with_reducible repeat (first | apply Kd.S_alloc | apply Kd.S_drewN | apply Kd.S_drew)); exact Kd.S_mono HO_8.out (fun _ hk => ⟨trivial, hk⟩)) hg hat); have n1_ := Aside0.mk (Kd.R_after (ok := (fun k_ => some k_ ≠ (.slice (some ad623) t620.length co31 : Value).ownBlock)) (by (with_reducible repeat (first | apply Kd.R_alloc | apply Kd.R_drewN | apply Kd.R_drew)); first | exact Kd.R_mono HL623_0.out (fun _ hk => ⟨hk.2, hk.1⟩) | exact Kd.R_mono HL623_0.out (fun _ hk => ⟨hk.1, hk.2⟩)) hg hat); have n2_ := Aside0.mk (Kd.R_after (ok := (fun k_ => some k_ ≠ (.slice (some ad623) t620.length co31 : Value).ownBlock)) (by (with_reducible repeat (first | apply Kd.R_alloc | apply Kd.R_drewN | apply Kd.R_drew)); first | exact Kd.R_mono HL637_0.out (fun _ hk => ⟨hk.2, hk.1⟩) | exact Kd.R_mono HL637_0.out (fun _ hk => ⟨hk.1, hk.2⟩)) hg hat); have n3_ := Aside0.mk (Kd.R_after (ok := (fun k_ => some k_ ≠ (.slice (some ad623) t620.length co31 : Value).ownBlock)) (by (with_reducible repeat (first | apply Kd.R_alloc | apply Kd.R_drewN | apply Kd.R_drew)); first | exact Kd.R_mono HL639_0.out (fun _ hk => ⟨hk.2, hk.1⟩) | exact Kd.R_mono HL639_0.out (fun _ hk => ⟨hk.1, hk.2⟩)) hg hat); have n4_ := Aside0.mk (hb); have n5_ := Aside0.mk (ho); clear HO_8; clear HL623_0; clear HL637_0; clear HL639_0; clear HB; clear HO_7; have HO_8 := n0_; have HL623_0 := n1_; have HL637_0 := n2_; have HL639_0 := n3_; have HB := n4_; have HO643 := n5_; clear n0_ n1_ n2_ n3_ n4_ n5_; clear ho hb hg hat))
             go_roundg k2
             case measure => have := HJ3.out; have := HK2.out; omega
             case rel => exact ⟨(y641), (wrap64 (x9_2 + 1)), (by first | rfl | (simp; done) | (simp [*]; done)), H', ⟨by have := HJ3.out; have := HK2.out; omega⟩, ⟨by (with_reducible repeat (first | apply Kd.R_alloc | apply Kd.R_drewN | apply Kd.R_drew)); exact HO643.out⟩, ⟨by (with_reducible repeat (first | apply Kd.S_alloc | apply Kd.S_drewN | apply Kd.S_drew)); exact Kd.S_mono HO_8.out (fun _ hk => hk.2)⟩, ⟨(bl HB)⟩⟩
            ·rw [if_neg c30] at H
             exact absurd H (by simp)
           ·rw [if_neg c29] at H
            have c29b0 : ((rd (rd_L1 t620 x9_2) 1) == a2) = false := beq_eq_false_iff_ne.mpr c29
            have c29b1 : ((rd (rd_L1 t620 x9_2) 1) != a2) = true := bne_iff_ne.mpr c29
            have H' := Aside0.mk H
            clear H
            obtain ⟨Ao33, co33, eo33⟩ := Kd.S_slice HO_8.out
            subst eo33
            have p623 : 0 ≤ (x9_2 : Int) := of_decide_eq_true (by first | (with_reducible assumption) | assumption)
            have q623 : x9_2 < (t620.length : Int) := of_decide_eq_true (by first | (with_reducible assumption) | assumption)
            obtain ⟨ad623, A623_0, c623_0, e623, hx623_0, hl623_0, hi623_0⟩ := at_L1 (Kd.S_reads' HO_8.out).2.2 x9_2 p623 q623
            cases e623
            obtain ⟨ce623, hce623, hMe623, hcc623⟩ := Kd.S_get HO_8.out [] x9_2 p623 (by first | exact q623 | exact of_decide_eq_true (by first | (with_reducible assumption) | assumption) | (have e_ := (Kd.S_reads' HO_8.out).1; omega))
            obtain ⟨ve623_0, rfl, ge623_0⟩ := hMe623
            have hv623_0 := hcc623 0 _ rfl
            rw [Nat.add_zero, show ((Kd.slice 3 (Kd.int .i64))).sz = 1 from rfl, Nat.mul_one] at hv623_0
            replace hv623_0 := Option.some.inj (hv623_0.symm.trans hx623_0)
            rw [hv623_0] at ge623_0
            have HL623_0 := Aside0.mk (show Kd.R (Kd.int .i64) 3 _ _ _ _ (rd_L1 t620 x9_2) from ge623_0)
            clear hv623_0 ge623_0
            clear hcc623 hce623
            have HR623_0 := Aside0.mk hi623_0
            have HC623_0 := Aside0.mk hl623_0
            clear hi623_0 hl623_0
            replace p623 := eq_true p623
            replace q623 := eq_true q623
            have p624 : 0 ≤ (0 : Int) := (by omega)
            have q624 : 0 < ((rd_L1 t620 x9_2).length : Int) := of_decide_eq_true (by first | (with_reducible assumption) | assumption)
            obtain ⟨ad624, e624, hx624_0⟩ := Kd.at_int (by repeat (first | (with_reducible exact HR623_0.out) | (with_reducible refine Kd.C_alloc ?_ _) | (with_reducible refine Kd.C_drewN ?_ _) | (with_reducible refine Kd.C_drew ?_) | exact HR623_0.out)) 0 p624 q624
            cases e624
            have qi624 : (0 < (rd_L1 t620 x9_2).length) = True := eq_true (by omega)
            (try rw [show ((0 : Int)).toNat = 0 from rfl] at hx624_0)
            (try rw [Addr.add_zero'] at hx624_0)
            replace p624 := eq_true p624
            replace q624 := eq_true q624
            have p637 : 0 ≤ (x9_2 : Int) := of_decide_eq_true (by first | (with_reducible assumption) | assumption)
            have q637 : x9_2 < (t620.length : Int) := of_decide_eq_true (by first | (with_reducible assumption) | assumption)
            obtain ⟨ad637, A637_0, c637_0, e637, hx637_0, hl637_0, hi637_0⟩ := at_L1 (Kd.S_reads' HO_8.out).2.2 x9_2 p637 q637
            obtain rfl : ad623 = ad637 := (by injection e637)
            obtain ⟨ce637, hce637, hMe637, hcc637⟩ := Kd.S_get HO_8.out [] x9_2 p637 (by first | exact q637 | exact of_decide_eq_true (by first | (with_reducible assumption) | assumption) | (have e_ := (Kd.S_reads' HO_8.out).1; omega))
            obtain ⟨ve637_0, rfl, ge637_0⟩ := hMe637
            have hv637_0 := hcc637 0 _ rfl
            rw [Nat.add_zero, show ((Kd.slice 3 (Kd.int .i64))).sz = 1 from rfl, Nat.mul_one] at hv637_0
            replace hv637_0 := Option.some.inj (hv637_0.symm.trans hx637_0)
            rw [hv637_0] at ge637_0
            have HL637_0 := Aside0.mk (show Kd.R (Kd.int .i64) 3 _ _ _ _ (rd_L1 t620 x9_2) from ge637_0)
            clear hv637_0 ge637_0
            clear hcc637 hce637
            have HR637_0 := Aside0.mk hi637_0
            have HC637_0 := Aside0.mk hl637_0
            clear hi637_0 hl637_0
            replace p637 := eq_true p637
            replace q637 := eq_true q637
            have ea_ := Option.some.inj (hx623_0.symm.trans hx637_0)
            injection ea_ with ea_ en_ ec_
            subst ea_
            subst ec_
            clear en_
            have p638 : 0 ≤ (1 : Int) := (by omega)
            have q638 : 1 < ((rd_L1 t620 x9_2).length : Int) := of_decide_eq_true (by first | (with_reducible assumption) | assumption)
            obtain ⟨ad638, e638, hx638_0⟩ := Kd.at_int (by repeat (first | (with_reducible exact HR637_0.out) | (with_reducible refine Kd.C_alloc ?_ _) | (with_reducible refine Kd.C_drewN ?_ _) | (with_reducible refine Kd.C_drew ?_) | exact HR637_0.out)) 1 p638 q638
            cases e638
            (try simp only [show (1 : Int).toNat = 1 from rfl, Nat.reduceMul, Nat.reduceEqDiff, Go.Addr.add, ↓reduceIte] at hx638_0)
            have qi638 : (1 < (rd_L1 t620 x9_2).length) = True := eq_true (by omega)
            (try rw [show ((1 : Int)).toNat = 1 from rfl] at hx638_0)
            replace p638 := eq_true p638
            replace q638 := eq_true q638
            go_wp2
            go_roundg k2
            case measure => have := HJ3.out; have := HK2.out; omega
            case rel => exact ⟨(x7_2), (wrap64 (x9_2 + 1)), (by first | rfl | (simp; done) | (simp [*]; done)), H', ⟨by have := HJ3.out; have := HK2.out; omega⟩, ⟨by (with_reducible repeat (first | apply Kd.R_alloc | apply Kd.R_drewN | apply Kd.R_drew)); exact HO_7.out⟩, ⟨by (with_reducible repeat (first | apply Kd.S_alloc | apply Kd.S_drewN | apply Kd.S_drew)); exact HO_8.out⟩, ⟨(bl HB)⟩⟩
          ·rw [if_neg c28] at H
           exact absurd H (by simp)
        ·rw [if_neg c17] at H
         exact absurd H (by simp)
       ·rw [if_neg c16] at H
        exact absurd H (by simp)
      ·rw [if_neg c15] at H
       have c15b0 : decide (x9_2 < (t620.length : Int)) = false := decide_eq_false c15
       clear c15
       obtain rfl := Option.some.inj H
       obtain ⟨Ao34, co34, eo34⟩ := Kd.S_slice HO_8.out
       subst eo34
       go_wp2
       go_ret
       exact ⟨_, by first | rfl | (simp [errW_none, errW_some] <;> rfl) | (simp [*, errW_none, errW_some] <;> rfl), by (with_reducible repeat (first | apply Kd.R_alloc | apply Kd.R_drewN | apply Kd.R_drew)); exact HO_7.out, (bl HB)⟩

/-! ### impl_WalkOf: function 43 -/
mutual
def impl_WalkOf.j0 : Nat → Int → List Int → Int → Bool → Option (List Int)
 | 0, _, _, _, _ => none
 | k + 1, x0, x1, x2, x19 => if x19 = true then (some ([] : List Int)) else ((impl_SwapsOf.f k x0 x1).bind fun t648 => (impl_WalkOf.l0 k x2 ([] : List Int) t648 (t648.length : Int) 0))
def impl_WalkOf.l0 : Nat → Int → List Int → List (List Int) → Int → Int → Option (List Int)
 | 0, _, _, _, _, _ => none
 | k + 1, x2, x7, x22, x23, x24 => if x24 < x23 then (if 0 ≤ x24 then (if x24 < (x22.length : Int) then ((slices_Contains_int_int.f k (rd_L1 x22 x24) x2).bind fun t652 => (if t652 = true then (if 0 < ((rd_L1 x22 x24).length : Int) then (if 1 < ((rd_L1 x22 x24).length : Int) then (if x7.length < 17592186044416 then (impl_WalkOf.l0 k x2 (x7 ++ [wrap64 ((wrap64 ((rd (rd_L1 x22 x24) 0) + (rd (rd_L1 x22 x24) 1))) - x2)]) x22 x23 (wrap64 (x24 + 1))) else (none)) else (none)) else (none)) else (impl_WalkOf.l0 k x2 x7 x22 x23 (wrap64 (x24 + 1))))) else (none)) else (none)) else (some x7)
end
def impl_WalkOf.f (k : Nat) (a0 : Int) (l1 : List Int) (a2 : Int) : Option (List Int) := (impl_IsWiring.f k a0 l1).bind fun t646 => (if t646 = true then ((impl_isElement.f a0 a2).bind fun t647 => (impl_WalkOf.j0 k a0 l1 a2 (!t647))) else (impl_WalkOf.j0 k a0 l1 a2 true))
theorem impl_WalkOf.mono_l : ∀ k, (∀ y0 y1 y2 y3, LeO (impl_WalkOf.j0 k y0 y1 y2 y3) (impl_WalkOf.j0 (k + 1) y0 y1 y2 y3)) ∧ (∀ y0 y1 y2 y3 y4, LeO (impl_WalkOf.l0 k y0 y1 y2 y3 y4) (impl_WalkOf.l0 (k + 1) y0 y1 y2 y3 y4))
 | 0 => ⟨fun _ _ _ _ r h => by simp [impl_WalkOf.j0] at h, fun _ _ _ _ _ r h => by simp [impl_WalkOf.l0] at h⟩
 | k + 1 => by
  obtain ⟨ih0, ih1⟩ := impl_WalkOf.mono_l k
  refine ⟨?_, ?_⟩
  ·intro y0 y1 y2 y3
   unfold impl_WalkOf.j0
   repeat' first
   | (with_reducible exact ih0 _ _ _ _)
   | (with_reducible exact ih1 _ _ _ _ _)
   | (with_reducible exact impl_IsWiring.mono _ _ _)
   | (with_reducible exact impl_SwapsOf.mono _ _ _)
   | (with_reducible exact slices_Contains_int_int.mono _ _ _)
   | (with_reducible exact LeO.refl _)
   | (with_reducible exact LeO.none _)
   | (with_reducible refine LeO.ite ?_ ?_)
   | (with_reducible refine LeO.bind ?_ (fun _ => ?_))
   | exact ih0 _ _ _ _
   | exact ih1 _ _ _ _ _
   | exact impl_IsWiring.mono _ _ _
   | exact impl_SwapsOf.mono _ _ _
   | exact slices_Contains_int_int.mono _ _ _
   | exact LeO.none _
   | refine LeO.ite ?_ ?_
   | refine LeO.bind ?_ (fun _ => ?_)
  ·intro y0 y1 y2 y3 y4
   unfold impl_WalkOf.l0
   repeat' first
   | (with_reducible exact ih0 _ _ _ _)
   | (with_reducible exact ih1 _ _ _ _ _)
   | (with_reducible exact impl_IsWiring.mono _ _ _)
   | (with_reducible exact impl_SwapsOf.mono _ _ _)
   | (with_reducible exact slices_Contains_int_int.mono _ _ _)
   | (with_reducible exact LeO.refl _)
   | (with_reducible exact LeO.none _)
   | (with_reducible refine LeO.ite ?_ ?_)
   | (with_reducible refine LeO.bind ?_ (fun _ => ?_))
   | exact ih0 _ _ _ _
   | exact ih1 _ _ _ _ _
   | exact impl_IsWiring.mono _ _ _
   | exact impl_SwapsOf.mono _ _ _
   | exact slices_Contains_int_int.mono _ _ _
   | exact LeO.none _
   | refine LeO.ite ?_ ?_
   | refine LeO.bind ?_ (fun _ => ?_)
theorem impl_WalkOf.mono : ∀ a0 a1 a2 k, LeO (impl_WalkOf.f k a0 a1 a2) (impl_WalkOf.f (k + 1) a0 a1 a2) := by
 intro a0 a1 a2 k
 obtain ⟨ih0, ih1⟩ := impl_WalkOf.mono_l k
 unfold impl_WalkOf.f
 repeat' first
   | (with_reducible exact ih0 _ _ _ _)
   | (with_reducible exact ih1 _ _ _ _ _)
   | (with_reducible exact impl_IsWiring.mono _ _ _)
   | (with_reducible exact impl_SwapsOf.mono _ _ _)
   | (with_reducible exact slices_Contains_int_int.mono _ _ _)
   | (with_reducible exact LeO.refl _)
   | (with_reducible exact LeO.none _)
   | (with_reducible refine LeO.ite ?_ ?_)
   | (with_reducible refine LeO.bind ?_ (fun _ => ?_))
   | exact ih0 _ _ _ _
   | exact ih1 _ _ _ _ _
   | exact impl_IsWiring.mono _ _ _
   | exact impl_SwapsOf.mono _ _ _
   | exact slices_Contains_int_int.mono _ _ _
   | exact LeO.none _
   | refine LeO.ite ?_ ?_
   | refine LeO.bind ?_ (fun _ => ?_)
def impl_WalkOf.T8 : Bool × List (List Nat × List Nat) := (true, [([], []), ([], []), ([1], [1]), ([2], [2]), ([], []), ([4], [4]), ([5], [5]), ([3, 6], [3, 6]), ([], []), ([7, 8], [7, 8]), ([9], [9]), ([0, 10], [0, 10]), ([11, 11, 0, 1, 2, 3, 4, 5, 6, 7, 8, 9, 10, 11], [0, 11])])
def impl_WalkOf.B8 : List Nat := [0, 0, 2, 6, 0, 16, 48, 126, 0, 510, 1022, 2047, 4095]
theorem impl_WalkOf.tab8 : rtab .any (opsOf Try.f43 8) = impl_WalkOf.T8 := by kernel_rfl
theorem impl_WalkOf.bits8 : waitsOk impl_WalkOf.T8.2 impl_WalkOf.B8 = true := by kernel_rfl
set_option maxHeartbeats 8000000 in
set_option maxRecDepth 100000 in
theorem impl_WalkOf.calls (k : Nat) (a0 : Int) (A1 : Option Addr) (c1 : Nat) (l1 : List Int) (a2 : Int) (r : List Int) (w : World) (hr1 : Kd.C (Kd.int .i64) w A1 l1.length l1) (hc1 : l1.length ≤ c1) (h : impl_WalkOf.f k a0 l1 a2 = some r) :
  Calls Try.prog 43 #[.int .i64 a0, .slice A1 l1.length c1, .int .i64 a2] w fun e w' => ∃ v0_ : Value, e = .returned (v0_) ∧ Kd.R (Kd.int .i64) 3 w' w.heap.size (fun _ => True) v0_ r ∧ Below w.heap.size w w' := by
 have HR1 := Aside0.mk hr1
 have HC1 := Aside0.mk hc1
 clear hr1 hc1
 have HB := Aside0.mk (Below.refl w.heap.size w)
 have H : ((impl_IsWiring.f k a0 l1).bind fun t646 => (if t646 = true then ((impl_isElement.f a0 a2).bind fun t647 => (impl_WalkOf.j0 k a0 l1 a2 (!t647))) else (impl_WalkOf.j0 k a0 l1 a2 true))) = some r := h
 clear h
 have HC4 := Aside0.mk H
 clear H
 go_enter Try.func43, Try.ntmps43
 go_upto_region 1 with (fail)
 go_cut [19] (fun v19 wc => ∃ (kq : Nat) (x19_3 : Bool), v19 = .bool x19_3 ∧ Aside0 (impl_WalkOf.j0 kq a0 l1 a2 x19_3 = some r) ∧ Aside0 (kq ≤ k) ∧ Aside0 (Below w.heap.size w wc))
 case first =>
  have H := HC4.out
  clear HC4
  replace H := Option.bind_eq_some_iff.mp H
  obtain ⟨t646, A50, H⟩ := H
  (try dsimp only at H)
  have A5 := Aside0.mk A50
  clear A50
  by_cases c6 : t646 = true
  ·subst c6
   have H1 : ((impl_isElement.f a0 a2).bind fun t647 => (impl_WalkOf.j0 k a0 l1 a2 (!t647))) = some r := by rw [if_pos rfl] at H; exact H
   clear H
   have H := H1
   clear H1
   replace H := Option.bind_eq_some_iff.mp H
   obtain ⟨t647, A70, H⟩ := H
   (try dsimp only at H)
   have A7 := Aside0.mk A70
   clear A70
   have H' := Aside0.mk H
   clear H
   go_wp2_with (first | ((with_reducible refine gate_callee (f := 17) rfl ?_); refine gL (some 12) rfl rfl Try.func17 (by kernel_rfl) rfl #[.int .i64 a0, .slice A1 l1.length c1] rfl ?_; (with_reducible refine (impl_IsWiring.calls k a0 _ _ l1 true _ ?side1 ?side2 A5.out).mono ?_); (case side1 => repeat (first | exact (Kd.C_below HR1.out HB.out) | (with_reducible refine Kd.C_alloc ?_ _) | (with_reducible refine Kd.C_drewN ?_ _) | (with_reducible refine Kd.C_drew ?_))); (case side2 => exact HC1.out); rintro e w8 ⟨rfl, hb⟩; refine ⟨_, rfl, ?_⟩; have n0_ := bs HB hb; clear HB; have HB := n0_; clear n0_; (try clear hb); (try clear hb2); (try clear hk); (try clear hi)) | (go_at_call 62; (with_reducible refine (impl_isElement.calls a0 a2 t647 _ A7.out).mono ?_); rintro e w' ⟨rfl, ⟨nd, rfl⟩⟩))
   go_meet
   case rel => exact ⟨_, (!t647), (by first | rfl | (simp; done) | (simp [*]; done)), H', ⟨by first | omega | exact Nat.le_refl _⟩, ⟨(bl HB)⟩⟩
  ·replace c6 := Bool.eq_false_iff.mpr c6
   subst c6
   have H1 : (impl_WalkOf.j0 k a0 l1 a2 true) = some r := by rw [if_neg (show ¬ (false = true) by decide)] at H; exact H
   clear H
   have H := H1
   clear H1
   have H' := Aside0.mk H
   clear H
   go_wp2_with (first | ((with_reducible refine gate_callee (f := 17) rfl ?_); refine gL (some 12) rfl rfl Try.func17 (by kernel_rfl) rfl #[.int .i64 a0, .slice A1 l1.length c1] rfl ?_; (with_reducible refine (impl_IsWiring.calls k a0 _ _ l1 false _ ?side1 ?side2 A5.out).mono ?_); (case side1 => repeat (first | exact (Kd.C_below HR1.out HB.out) | (with_reducible refine Kd.C_alloc ?_ _) | (with_reducible refine Kd.C_drewN ?_ _) | (with_reducible refine Kd.C_drew ?_))); (case side2 => exact HC1.out); rintro e w9 ⟨rfl, hb⟩; refine ⟨_, rfl, ?_⟩; have n0_ := bs HB hb; clear HB; have HB := n0_; clear n0_; (try clear hb); (try clear hb2); (try clear hk); (try clear hi)))
   go_meet
   case rel => exact ⟨_, (true), (by first | rfl | (simp; done) | (simp [*]; done)), H', ⟨by first | omega | exact Nat.le_refl _⟩, ⟨(bl HB)⟩⟩
 case rest =>
  clear HC4
  try clear c1
  try clear p2
  try clear c4
  try clear c6
  obtain ⟨kq, x19_3, rfl, HA, HJ3, HB⟩ := hcut
  cases kq with
  | zero => exact absurd HA.out (by simp [impl_WalkOf.j0])
  | succ kj3 =>
   have H := HA.out
   clear HA
   simp only [impl_WalkOf.j0] at H
   by_cases c10 : x19_3 = true
   ·subst c10
    have H1 : (some ([] : List Int)) = some r := by rw [if_pos rfl] at H; exact H
    clear H
    have H := H1
    clear H1
    obtain rfl := Option.some.inj H
    go_wp2
    go_ret
    exact ⟨_, by first | rfl | (simp [errW_none, errW_some] <;> rfl) | (simp [*, errW_none, errW_some] <;> rfl), by first | exact Kd.R_nil _ _ _ _ _ | exact Kd.N_nil _ _ _ _ _ | exact Kd.V_nil _ _ _ _ _ | exact Kd.Q_nil _ _ _ _ _ | exact Kd.S_nil _ _ _ _ _, (bl HB)⟩
   ·replace c10 := Bool.eq_false_iff.mpr c10
    subst c10
    have H1 : ((impl_SwapsOf.f kj3 a0 l1).bind fun t648 => (impl_WalkOf.l0 kj3 a2 ([] : List Int) t648 (t648.length : Int) 0)) = some r := by rw [if_neg (show ¬ (false = true) by decide)] at H; exact H
    clear H
    have H := H1
    clear H1
    replace H := Option.bind_eq_some_iff.mp H
    obtain ⟨t648, A110, H⟩ := H
    (try dsimp only at H)
    have A11 := Aside0.mk A110
    clear A110
    have H' := Aside0.mk H
    clear H
    go_wp2_with (first | ((with_reducible refine gate_callee (f := 41) rfl ?_); refine gL (some 22) rfl rfl Try.func41 (by kernel_rfl) rfl #[.int .i64 a0, .slice A1 l1.length c1] rfl ?_; (with_reducible refine (impl_SwapsOf.calls kj3 a0 _ _ l1 t648 _ ?side1 ?side2 A11.out).mono ?_); (case side1 => repeat (first | exact (Kd.C_below HR1.out HB.out) | (with_reducible refine Kd.C_alloc ?_ _) | (with_reducible refine Kd.C_drewN ?_ _) | (with_reducible refine Kd.C_drew ?_))); (case side2 => exact HC1.out); rintro e w12 ⟨v649, rfl, ho0, hb⟩; refine ⟨_, rfl, ?_⟩; have n0_ := Aside0.mk (Kd.S_lower ho0 (below_size (bl HB))); have n1_ := bs HB hb; clear HB; have HO650 := n0_; have HB := n1_; clear n0_ n1_; (try clear hb); (try clear hb2); (try clear hk); (try clear hi); (try clear ho0); obtain ⟨Ao13, co13, eo13⟩ := Kd.S_slice HO650.out; subst eo13))
    go_loopg [7, 24] kj3 (fun kq v7 v24 w' => ∃ (x7_2 : List Int) (x24_2 : Int), v24 = .int .i64 x24_2 ∧ Aside0 (impl_WalkOf.l0 kq a2 x7_2 t648 (t648.length : Int) x24_2 = some r) ∧ Aside0 (kq ≤ kj3) ∧ Aside0 (Kd.R (Kd.int .i64) 3 w' w.heap.size (fun _ => True) v7 x7_2) ∧ Aside0 (Kd.S (Kd.slice 3 (Kd.int .i64)) 22 w' w.heap.size (fun k_ => some k_ ≠ (v7 : Value).ownBlock) (.slice Ao13 t648.length co13) t648) ∧ Aside0 (Below w.heap.size w w'))
    case atStart => exact ⟨(([] : List Int)), (0), (by first | rfl | (simp; done) | (simp [*]; done)), H', ⟨Nat.le_refl _⟩, ⟨by first | exact Kd.R_nil _ _ _ _ _ | exact Kd.N_nil _ _ _ _ _ | exact Kd.V_nil _ _ _ _ _ | exact Kd.Q_nil _ _ _ _ _ | exact Kd.S_nil _ _ _ _ _⟩, ⟨by (with_reducible repeat (first | apply Kd.S_alloc | apply Kd.S_drewN | apply Kd.S_drew)); exact Kd.S_mono HO650.out (fun _ hk => (by simp [Value.ownBlock]))⟩, ⟨(bl HB)⟩⟩
    case round =>
     clear H'
     try clear c1
     try clear p2
     try clear c4
     try clear c6
     try clear c10
     try clear p2
     obtain ⟨x7_2, x24_2, rfl, HA, HK2, HO_7, HO_22, HB⟩ := hrel
     cases gk with
     | zero => exact absurd HA.out (by simp [impl_WalkOf.l0])
     | succ k2 =>
      have H := HA.out
      clear HA
      simp only [impl_WalkOf.l0] at H
      by_cases c14 : x24_2 < (t648.length : Int)
      ·rw [if_pos c14] at H
       have c14b0 : decide (x24_2 < (t648.length : Int)) = true := decide_eq_true c14
       clear c14
       by_cases c15 : 0 ≤ x24_2
       ·rw [if_pos c15] at H
        have c15b0 : decide (0 ≤ x24_2) = true := decide_eq_true c15
        clear c15
        by_cases c16 : x24_2 < (t648.length : Int)
        ·rw [if_pos c16] at H
         have c16b0 : decide (x24_2 < (t648.length : Int)) = true := decide_eq_true c16
         clear c16
         replace H := Option.bind_eq_some_iff.mp H
         obtain ⟨t652, A170, H⟩ := H
         (try dsimp only at H)
         have A17 := Aside0.mk A170
         clear A170
         by_cases c18 : t652 = true
         ·subst c18
          have H1 : (if 0 < ((rd_L1 t648 x24_2).length : Int) then (if 1 < ((rd_L1 t648 x24_2).length : Int) then (if x7_2.length < 17592186044416 then (impl_WalkOf.l0 k2 a2 (x7_2 ++ [wrap64 ((wrap64 ((rd (rd_L1 t648 x24_2) 0) + (rd (rd_L1 t648 x24_2) 1))) - a2)]) t648 (t648.length : Int) (wrap64 (x24_2 + 1))) else (none)) else (none)) else (none)) = some r := by rw [if_pos rfl] at H; exact H
          clear H
          have H := H1
          clear H1
          by_cases c19 : 0 < ((rd_L1 t648 x24_2).length : Int)
          ·rw [if_pos c19] at H
           have c19b0 : decide (0 < ((rd_L1 t648 x24_2).length : Int)) = true := decide_eq_true c19
           have c19b1 : decide (0 < (rd_L1 t648 x24_2).length) = true := decide_eq_true (by omega)
           clear c19
           by_cases c20 : 1 < ((rd_L1 t648 x24_2).length : Int)
           ·rw [if_pos c20] at H
            have c20b0 : decide (1 < ((rd_L1 t648 x24_2).length : Int)) = true := decide_eq_true c20
            have c20b1 : decide (1 < (rd_L1 t648 x24_2).length) = true := decide_eq_true (by omega)
            clear c20
            by_cases c21 : x7_2.length < 17592186044416
            ·rw [if_pos c21] at H
             have LMc21 := Aside0.mk c21
             clear c21
             obtain ⟨y655, hy655⟩ : ∃ y_ : List Int, y_ = (x7_2 ++ [wrap64 ((wrap64 ((rd (rd_L1 t648 x24_2) 0) + (rd (rd_L1 t648 x24_2) 1))) - a2)]) := ⟨_, rfl⟩
             replace H : (impl_WalkOf.l0 k2 a2 y655 t648 (t648.length : Int) (wrap64 (x24_2 + 1))) = some r := by first | (rw [hy655]; with_reducible exact H) | (have H2_ := (Option.bind_some _ _).symm.trans H; rw [hy655]; with_reducible exact H2_) | (have H2_ := (Option.bind_some _ _).symm.trans H; with_reducible exact H2_) | with_reducible exact H | (rw [hy655]; exact H) | exact H
             have Ny655 := Aside0.mk hy655
             clear hy655
             have H' := Aside0.mk H
             clear H
             have p651 : 0 ≤ (x24_2 : Int) := of_decide_eq_true (by first | (with_reducible assumption) | assumption)
             have q651 : x24_2 < (t648.length : Int) := of_decide_eq_true (by first | (with_reducible assumption) | assumption)
             obtain ⟨ad651, A651_0, c651_0, e651, hx651_0, hl651_0, hi651_0⟩ := at_L1 (Kd.S_reads' HO_22.out).2.2 x24_2 p651 q651
             cases e651
             obtain ⟨ce651, hce651, hMe651, hcc651⟩ := Kd.S_get HO_22.out [] x24_2 p651 (by first | exact q651 | exact of_decide_eq_true (by first | (with_reducible assumption) | assumption) | (have e_ := (Kd.S_reads' HO_22.out).1; omega))
             obtain ⟨ve651_0, rfl, ge651_0⟩ := hMe651
             have hv651_0 := hcc651 0 _ rfl
             rw [Nat.add_zero, show ((Kd.slice 3 (Kd.int .i64))).sz = 1 from rfl, Nat.mul_one] at hv651_0
             replace hv651_0 := Option.some.inj (hv651_0.symm.trans hx651_0)
             rw [hv651_0] at ge651_0
             have HL651_0 := Aside0.mk (show Kd.R (Kd.int .i64) 3 _ _ _ _ (rd_L1 t648 x24_2) from ge651_0)
             clear hv651_0 ge651_0
             clear hcc651 hce651
             have HR651_0 := Aside0.mk hi651_0
             have HC651_0 := Aside0.mk hl651_0
             clear hi651_0 hl651_0
             replace p651 := eq_true p651
             replace q651 := eq_true q651
             try go_wp2_with (first | ((with_reducible refine gate_callee (f := 63) rfl ?_); refine gL (some 30) rfl rfl Try.func63 (by kernel_rfl) rfl #[.slice A651_0 (rd_L1 t648 x24_2).length c651_0, .int .i64 a2] rfl ?_; (with_reducible refine (slices_Contains_int_int.calls k2 _ _ (rd_L1 t648 x24_2) a2 true _ ?side1 ?side2 A17.out).mono ?_); (case side1 => repeat (first | exact (by repeat (first | (with_reducible exact HR651_0.out) | (with_reducible refine Kd.C_alloc ?_ _) | (with_reducible refine Kd.C_drewN ?_ _) | (with_reducible refine Kd.C_drew ?_) | exact HR651_0.out)) | (with_reducible refine Kd.C_alloc ?_ _) | (with_reducible refine Kd.C_drewN ?_ _) | (with_reducible refine Kd.C_drew ?_))); (case side2 => exact HC651_0.out); rintro e w' ⟨rfl, ⟨nd, rfl⟩⟩; refine ⟨_, rfl, ?_⟩))
             (try (rw [drewN_self wr]; generalize hq_ : World.drewN wr _ = wr; have n0_ : Aside0 (Kd.R (Kd.int .i64) 3 wr w.heap.size (fun k_ => some k_ ≠ (.slice (some ad651) t648.length co13 : Value).ownBlock ∧ some k_ ≠ (u7 : Value).ownBlock) (.slice A651_0 (rd_L1 t648 x24_2).length c651_0) (rd_L1 t648 x24_2)) := ⟨by rw [← hq_]; exact (by (with_reducible repeat (first | apply Kd.R_alloc | apply Kd.R_drewN | apply Kd.R_drew)); first | exact Kd.R_mono HL651_0.out (fun _ hk => ⟨hk.2, hk.1⟩) | exact Kd.R_mono HL651_0.out (fun _ hk => ⟨hk.1, hk.2⟩))⟩; have n1_ : Aside0 (Kd.S (Kd.slice 3 (Kd.int .i64)) 22 wr w.heap.size (fun k_ => some k_ ≠ (u7 : Value).ownBlock) (.slice (some ad651) t648.length co13) t648) := ⟨by rw [← hq_]; exact (by (with_reducible repeat (first | apply Kd.S_alloc | apply Kd.S_drewN | apply Kd.S_drew)); exact HO_22.out)⟩; have n2_ : Aside0 (Kd.R (Kd.int .i64) 3 wr w.heap.size (fun _ => True) u7 x7_2) := ⟨by rw [← hq_]; exact (rr HO_7)⟩; have n3_ : Aside0 (Below w.heap.size w wr) := ⟨by rw [← hq_]; exact (bl HB)⟩; have n4_ : Aside0 (Kd.C (Kd.int .i64) wr A651_0 (rd_L1 t648 x24_2).length (rd_L1 t648 x24_2)) := ⟨by rw [← hq_]; exact (by repeat (first | (with_reducible exact HR651_0.out) | (with_reducible refine Kd.C_alloc ?_ _) | (with_reducible refine Kd.C_drewN ?_ _) | (with_reducible refine Kd.C_drew ?_) | exact HR651_0.out))⟩; clear HL651_0 HO_22 HO_7 HB HR651_0 hq_; have HL651_0 := n0_; have HO_22 := n1_; have HO_7 := n2_; have HB := n3_; have HR651_0 := n4_; clear n0_ n1_ n2_ n3_ n4_))
             have n0_ := Aside0.mk (Kd.R_drew HO_7.out)
             have n1_ := Aside0.mk (Kd.S_drew HO_22.out)
             have n2_ := Aside0.mk (Kd.R_drew HL651_0.out)
             have n3_ := Aside0.mk (Kd.C_drew HR651_0.out)
             have n4_ := Aside0.mk (below_drew1 HB.out)
             clear HO_7
             clear HO_22
             clear HL651_0
             clear HR651_0
             clear HB
             have HO_7 := n0_
             have HO_22 := n1_
             have HL651_0 := n2_
             have HR651_0 := n3_
             have HB := n4_
             clear n0_ n1_ n2_ n3_ n4_
             have p653 : 0 ≤ (0 : Int) := (by omega)
             have q653 : 0 < ((rd_L1 t648 x24_2).length : Int) := of_decide_eq_true (by first | (with_reducible assumption) | assumption)
             obtain ⟨ad653, e653, hx653_0⟩ := Kd.at_int (by repeat (first | (with_reducible exact HR651_0.out) | (with_reducible refine Kd.C_alloc ?_ _) | (with_reducible refine Kd.C_drewN ?_ _) | (with_reducible refine Kd.C_drew ?_) | exact HR651_0.out)) 0 p653 q653
             cases e653
             have qi653 : (0 < (rd_L1 t648 x24_2).length) = True := eq_true (by omega)
             (try rw [show ((0 : Int)).toNat = 0 from rfl] at hx653_0)
             (try rw [Addr.add_zero'] at hx653_0)
             replace p653 := eq_true p653
             replace q653 := eq_true q653
             have p654 : 0 ≤ (1 : Int) := (by omega)
             have q654 : 1 < ((rd_L1 t648 x24_2).length : Int) := of_decide_eq_true (by first | (with_reducible assumption) | assumption)
             obtain ⟨ad654, e654, hx654_0⟩ := Kd.at_int (by repeat (first | (with_reducible exact HR651_0.out) | (with_reducible refine Kd.C_alloc ?_ _) | (with_reducible refine Kd.C_drewN ?_ _) | (with_reducible refine Kd.C_drew ?_) | exact HR651_0.out)) 1 p654 q654
             obtain rfl : ad653 = ad654 := (by injection e654)
             (try simp only [show (1 : Int).toNat = 1 from rfl, Nat.reduceMul, Nat.reduceEqDiff, Go.Addr.add, ↓reduceIte] at hx654_0)
             have qi654 : (1 < (rd_L1 t648 x24_2).length) = True := eq_true (by omega)
             (try rw [show ((1 : Int)).toNat = 1 from rfl] at hx654_0)
             replace p654 := eq_true p654
             replace q654 := eq_true q654
             refine start_ (n := 13) (S := fun w' => w'.cell? ad653 = some (.int .i64 (rd (rd_L1 t648 x24_2) 0)) ∧ w'.cell? ⟨ad653.block, ad653.off + 1, none⟩ = some (.int .i64 (rd (rd_L1 t648 x24_2) 1))) (ds := [10, 11]) #[false, false, false, false, false, false, false, false, false, false, false, false, false] (by kernel_rfl) rfl rfl ⟨hx653_0, hx654_0⟩ (fun hHeld => ?_); refine with_tabW impl_WalkOf.tab8 impl_WalkOf.bits8 (fun HT_ HW_ => ?_)
             generalize wr.drew = w22 at HO_7 HO_22 HL651_0 HR651_0 HB hx653_0 hx654_0 hHeld ⊢
             refine pu 0 31 HT_ ?_
             refine pu 1 32 HT_ ?_
             refine pu 2 33 HT_ ?_
             refine pu 4 35 HT_ ?_
             refine pu 5 36 HT_ ?_
             refine pu 8 39 HT_ ?_
             refine take_ (i := 3) (N := some 34) (v := ?_) (a' := ?_) #[true, true, true, true, true, true, false, false, true, false, false, false, false] rfl rfl (take_ofW HT_.out HW_.out (by kernel_rfl)) (fun _ _ _ h => h) (Or.inl ⟨by rfl, ?_⟩) hHeld ?_ ?_
             rotate_left
             ·rintro w' ⟨s0, s1⟩
              go_simp
              with_reducible rfl
             rotate_left
             ·simp only [Act.put, List.setIfInBounds_toArray, List.set_cons_zero, List.set_cons_succ, i64_w, i32_w]
              rfl
             refine take_ (i := 6) (N := some 37) (v := ?_) (a' := ?_) #[true, true, true, true, true, true, true, false, true, false, false, false, false] rfl rfl (take_ofW HT_.out HW_.out (by kernel_rfl)) (fun _ _ _ h => h) (Or.inl ⟨by rfl, ?_⟩) hHeld ?_ ?_
             rotate_left
             ·rintro w' ⟨s0, s1⟩
              go_simp
              with_reducible rfl
             rotate_left
             ·simp only [Act.put, List.setIfInBounds_toArray, List.set_cons_zero, List.set_cons_succ, i64_w, i32_w]
              rfl
             refine pu 7 38 HT_ ?_
             refine pu 9 40 HT_ ?_
             refine last_ (i := 10) (N := some 41) #[true, true, true, true, true, true, true, true, true, true, true, false, false] rfl rfl (one_of HT_.out (by kernel_rfl)) (by decide) (fun K hK => ?_)
             refine value_ (w1 := ?_) (v := ?_) (by rfl) rfl ?_ ?_
             rotate_left 2
             ·go_simp
              constructor
              ·rfl
              ·rfl
             refine hK.out _ _ ?_
             clear hK K
             refine norm_ (a' := ?_) ?_ ?_
             rotate_left
             ·show Act.put _ (some 41) _ = _
              simp only [Act.put, List.setIfInBounds_toArray, List.set_cons_zero, List.set_cons_succ, i64_w, i32_w]
              rfl
             refine last_ (i := 11) (N := some 42) #[true, true, true, true, true, true, true, true, true, true, true, true, false] rfl rfl (one_of HT_.out (by kernel_rfl)) (by decide) (fun K hK => ?_)
             refine Kd.R_append_step (Kd.int .i64) (w0 := w) w.heap.size (by rfl) (.tmp 31) (.tmp 41) 22 3 (.int .i64 0) 8 rfl Try.underlying22 info3 rfl (by decide) (by omega) u7 x7_2 (wrap64 ((wrap64 ((rd (rd_L1 t648 x24_2) 0) + (rd (rd_L1 t648 x24_2) 1))) - a2)) [.int .i64 (wrap64 ((wrap64 ((rd (rd_L1 t648 x24_2) 0) + (rd (rd_L1 t648 x24_2) 1))) - a2))] (fun _ => True) (fun _ => False) rfl rfl ?aP (fun _ hk => hk.elim) ?aF ?aO ?aB ?aS ?aL ?_
             (case aP => exact rfl)
             (case aB => exact (bl HB))
             (case aF => exact (fun _ _ => trivial))
             (case aO => exact (rr HO_7))
             (case aS => exact (below_size (bl HB)))
             (case aL => have := LMc21.out; omega)
             intro v656 w23 ho hb hg hat
             rw [← Ny655.out] at ho
             have n0_ := Aside0.mk (Kd.S_after (ok := (fun _ => True)) (by (with_reducible repeat (first | apply Kd.S_alloc | apply Kd.S_drewN | apply Kd.S_drew)); exact Kd.S_mono HO_22.out (fun _ hk => ⟨trivial, hk⟩)) hg hat)
             have n1_ := Aside0.mk (Kd.R_after (ok := (fun k_ => some k_ ≠ (.slice (some ad651) t648.length co13 : Value).ownBlock)) (by (with_reducible repeat (first | apply Kd.R_alloc | apply Kd.R_drewN | apply Kd.R_drew)); first | exact Kd.R_mono HL651_0.out (fun _ hk => ⟨hk.2, hk.1⟩) | exact Kd.R_mono HL651_0.out (fun _ hk => ⟨hk.1, hk.2⟩)) hg hat)
             have n2_ := Aside0.mk (hb)
             have n3_ := Aside0.mk (ho)
             clear HO_22
             clear HL651_0
             clear HB
             clear HO_7
             have HO_22 := n0_
             have HL651_0 := n1_
             have HB := n2_
             have HO657 := n3_
             clear n0_ n1_ n2_ n3_
             clear ho hb hg hat
             refine hK.out _ _ ?_
             clear hK K
             refine norm_ (a' := ?_) ?_ ?_
             rotate_left
             ·show Act.put _ (some 42) _ = _
              simp only [Act.put, List.setIfInBounds_toArray, List.set_cons_zero, List.set_cons_succ, i64_w, i32_w]
              rfl
             refine pu 12 7 HT_ ?_
             refine done_ (done_of HT_.out (by kernel_rfl)) ?_
             try go_wp2
             go_roundg k2
             case measure => have := HJ3.out; have := HK2.out; omega
             case rel => exact ⟨(y655), (wrap64 (x24_2 + 1)), (by first | rfl | (simp; done) | (simp [*]; done)), H', ⟨by have := HJ3.out; have := HK2.out; omega⟩, ⟨by (with_reducible repeat (first | apply Kd.R_alloc | apply Kd.R_drewN | apply Kd.R_drew)); exact HO657.out⟩, ⟨by (with_reducible repeat (first | apply Kd.S_alloc | apply Kd.S_drewN | apply Kd.S_drew)); exact Kd.S_mono HO_22.out (fun _ hk => hk.2)⟩, ⟨(bl HB)⟩⟩
            ·rw [if_neg c21] at H
             exact absurd H (by simp)
           ·rw [if_neg c20] at H
            exact absurd H (by simp)
          ·rw [if_neg c19] at H
           exact absurd H (by simp)
         ·replace c18 := Bool.eq_false_iff.mpr c18
          subst c18
          have H1 : (impl_WalkOf.l0 k2 a2 x7_2 t648 (t648.length : Int) (wrap64 (x24_2 + 1))) = some r := by rw [if_neg (show ¬ (false = true) by decide)] at H; exact H
          clear H
          have H := H1
          clear H1
          have H' := Aside0.mk H
          clear H
          have p651 : 0 ≤ (x24_2 : Int) := of_decide_eq_true (by first | (with_reducible assumption) | assumption)
          have q651 : x24_2 < (t648.length : Int) := of_decide_eq_true (by first | (with_reducible assumption) | assumption)
          obtain ⟨ad651, A651_0, c651_0, e651, hx651_0, hl651_0, hi651_0⟩ := at_L1 (Kd.S_reads' HO_22.out).2.2 x24_2 p651 q651
          cases e651
          obtain ⟨ce651, hce651, hMe651, hcc651⟩ := Kd.S_get HO_22.out [] x24_2 p651 (by first | exact q651 | exact of_decide_eq_true (by first | (with_reducible assumption) | assumption) | (have e_ := (Kd.S_reads' HO_22.out).1; omega))
          obtain ⟨ve651_0, rfl, ge651_0⟩ := hMe651
          have hv651_0 := hcc651 0 _ rfl
          rw [Nat.add_zero, show ((Kd.slice 3 (Kd.int .i64))).sz = 1 from rfl, Nat.mul_one] at hv651_0
          replace hv651_0 := Option.some.inj (hv651_0.symm.trans hx651_0)
          rw [hv651_0] at ge651_0
          have HL651_0 := Aside0.mk (show Kd.R (Kd.int .i64) 3 _ _ _ _ (rd_L1 t648 x24_2) from ge651_0)
          clear hv651_0 ge651_0
          clear hcc651 hce651
          have HR651_0 := Aside0.mk hi651_0
          have HC651_0 := Aside0.mk hl651_0
          clear hi651_0 hl651_0
          replace p651 := eq_true p651
          replace q651 := eq_true q651
          go_wp2_with (first | ((with_reducible refine gate_callee (f := 63) rfl ?_); refine gL (some 30) rfl rfl Try.func63 (by kernel_rfl) rfl #[.slice A651_0 (rd_L1 t648 x24_2).length c651_0, .int .i64 a2] rfl ?_; (with_reducible refine (slices_Contains_int_int.calls k2 _ _ (rd_L1 t648 x24_2) a2 false _ ?side1 ?side2 A17.out).mono ?_); (case side1 => repeat (first | exact (by repeat (first | (with_reducible exact HR651_0.out) | (with_reducible refine Kd.C_alloc ?_ _) | (with_reducible refine Kd.C_drewN ?_ _) | (with_reducible refine Kd.C_drew ?_) | exact HR651_0.out)) | (with_reducible refine Kd.C_alloc ?_ _) | (with_reducible refine Kd.C_drewN ?_ _) | (with_reducible refine Kd.C_drew ?_))); (case side2 => exact HC651_0.out); rintro e w' ⟨rfl, ⟨nd, rfl⟩⟩; refine ⟨_, rfl, ?_⟩))
          go_roundg k2
          case measure => have := HJ3.out; have := HK2.out; omega
          case rel => exact ⟨(x7_2), (wrap64 (x24_2 + 1)), (by first | rfl | (simp; done) | (simp [*]; done)), H', ⟨by have := HJ3.out; have := HK2.out; omega⟩, ⟨by (with_reducible repeat (first | apply Kd.R_alloc | apply Kd.R_drewN | apply Kd.R_drew)); exact HO_7.out⟩, ⟨by (with_reducible repeat (first | apply Kd.S_alloc | apply Kd.S_drewN | apply Kd.S_drew)); exact HO_22.out⟩, ⟨(bl HB)⟩⟩
        ·rw [if_neg c16] at H
         exact absurd H (by simp)
       ·rw [if_neg c15] at H
        exact absurd H (by simp)
      ·rw [if_neg c14] at H
       have c14b0 : decide (x24_2 < (t648.length : Int)) = false := decide_eq_false c14
       clear c14
       obtain rfl := Option.some.inj H
       go_wp2
       go_ret
       exact ⟨_, by first | rfl | (simp [errW_none, errW_some] <;> rfl) | (simp [*, errW_none, errW_some] <;> rfl), by (with_reducible repeat (first | apply Kd.R_alloc | apply Kd.R_drewN | apply Kd.R_drew)); exact HO_7.out, (bl HB)⟩

/-! ### laws_FnExactWalkOf: function 13 -/
def laws_FnExactWalkOf.j0 : Nat → Int → List Int → Int → List Int → List Int → Bool → Option (Bool)
 | 0, _, _, _, _, _, _ => none
 | k + 1, x0, x1, x2, x7, x9, x47 => if x47 = true then (some false) else ((laws_markIntS.f k x9 1).bind fun bt678 => ((laws_heldIntS.f k bt678.2 1).bind fun t680 => (if t680 < 0 then (some false) else (if t680 = bt678.1 then ((laws_toIntS.f k x1).bind fun t681 => ((impl_WalkOf.f k x0 t681 x2).bind fun t684 => ((laws_eqIntS.f k t684 x7).bind fun t687 => (if t687 = true then ((laws_heldIntS.f k bt678.2 1).bind fun t688 => (if t688 < 0 then (some false) else (if t688 = bt678.1 then (some true) else (some false)))) else (some false))))) else (some false)))))
def laws_FnExactWalkOf.f (k : Nat) (a0 : Int) (l1 : List Int) (a2 : Int) : Option (Bool) := if (l1.length : Int) > 1048576 then (some true) else ((laws_toIntS.f k l1).bind fun t658 => ((spec_WalkOf.f k a0 t658 a2).bind fun t661 => ((laws_toIntS.f k l1).bind fun t664 => ((impl_WalkOf.f k a0 t664 a2).bind fun t667 => ((laws_eqIntS.f k t667 t661).bind fun t670 => (if t670 = true then ((laws_toIntS.f k l1).bind fun t671 => ((laws_eqIntS.f k t664 t671).bind fun t674 => (if t674 = true then ((laws_markIntS.f k t664 1).bind fun bt675 => (if bt675.1 < 0 then (laws_FnExactWalkOf.j0 k a0 l1 a2 t661 t667 true) else ((laws_eqIntS.f k t667 t661).bind fun t677 => (laws_FnExactWalkOf.j0 k a0 l1 a2 t661 t667 (!t677))))) else (some false)))) else (some false)))))))
theorem laws_FnExactWalkOf.mono_l : ∀ k, (∀ y0 y1 y2 y3 y4 y5, LeO (laws_FnExactWalkOf.j0 k y0 y1 y2 y3 y4 y5) (laws_FnExactWalkOf.j0 (k + 1) y0 y1 y2 y3 y4 y5))
 | 0 => fun _ _ _ _ _ _ r h => by simp [laws_FnExactWalkOf.j0] at h
 | k + 1 => by
  have ih0 := laws_FnExactWalkOf.mono_l k
  ·intro y0 y1 y2 y3 y4 y5
   unfold laws_FnExactWalkOf.j0
   repeat' first
   | (with_reducible exact ih0 _ _ _ _ _ _)
   | (with_reducible exact impl_WalkOf.mono _ _ _ _)
   | (with_reducible exact laws_eqIntS.mono _ _ _)
   | (with_reducible exact laws_heldIntS.mono _ _ _)
   | (with_reducible exact laws_markIntS.mono _ _ _)
   | (with_reducible exact laws_toIntS.mono _ _)
   | (with_reducible exact spec_WalkOf.mono _ _ _ _)
   | (with_reducible exact LeO.refl _)
   | (with_reducible exact LeO.none _)
   | (with_reducible refine LeO.ite ?_ ?_)
   | (with_reducible refine LeO.bind ?_ (fun _ => ?_))
   | exact ih0 _ _ _ _ _ _
   | exact impl_WalkOf.mono _ _ _ _
   | exact laws_eqIntS.mono _ _ _
   | exact laws_heldIntS.mono _ _ _
   | exact laws_markIntS.mono _ _ _
   | exact laws_toIntS.mono _ _
   | exact spec_WalkOf.mono _ _ _ _
   | exact LeO.none _
   | refine LeO.ite ?_ ?_
   | refine LeO.bind ?_ (fun _ => ?_)
theorem laws_FnExactWalkOf.mono : ∀ a0 a1 a2 k, LeO (laws_FnExactWalkOf.f k a0 a1 a2) (laws_FnExactWalkOf.f (k + 1) a0 a1 a2) := by
 intro a0 a1 a2 k
 have ih0 := laws_FnExactWalkOf.mono_l k
 unfold laws_FnExactWalkOf.f
 repeat' first
   | (with_reducible exact ih0 _ _ _ _ _ _)
   | (with_reducible exact impl_WalkOf.mono _ _ _ _)
   | (with_reducible exact laws_eqIntS.mono _ _ _)
   | (with_reducible exact laws_heldIntS.mono _ _ _)
   | (with_reducible exact laws_markIntS.mono _ _ _)
   | (with_reducible exact laws_toIntS.mono _ _)
   | (with_reducible exact spec_WalkOf.mono _ _ _ _)
   | (with_reducible exact LeO.refl _)
   | (with_reducible exact LeO.none _)
   | (with_reducible refine LeO.ite ?_ ?_)
   | (with_reducible refine LeO.bind ?_ (fun _ => ?_))
   | exact ih0 _ _ _ _ _ _
   | exact impl_WalkOf.mono _ _ _ _
   | exact laws_eqIntS.mono _ _ _
   | exact laws_heldIntS.mono _ _ _
   | exact laws_markIntS.mono _ _ _
   | exact laws_toIntS.mono _ _
   | exact spec_WalkOf.mono _ _ _ _
   | exact LeO.none _
   | refine LeO.ite ?_ ?_
   | refine LeO.bind ?_ (fun _ => ?_)
set_option maxHeartbeats 8000000 in
set_option maxRecDepth 100000 in
theorem laws_FnExactWalkOf.calls (k : Nat) (a0 : Int) (A1 : Option Addr) (c1 : Nat) (l1 : List Int) (a2 : Int) (r : Bool) (w : World) (hr1 : Kd.C (Kd.int .i64) w A1 l1.length l1) (hc1 : l1.length ≤ c1) (h : laws_FnExactWalkOf.f k a0 l1 a2 = some r) :
  Calls Try.prog 13 #[.int .i64 a0, .slice A1 l1.length c1, .int .i64 a2] w fun e w' => e = .returned (.bool r) ∧ Below w.heap.size w w' := by
 have HR1 := Aside0.mk hr1
 have HC1 := Aside0.mk hc1
 clear hr1 hc1
 have HB := Aside0.mk (Below.refl w.heap.size w)
 have H : (if (l1.length : Int) > 1048576 then (some true) else ((laws_toIntS.f k l1).bind fun t658 => ((spec_WalkOf.f k a0 t658 a2).bind fun t661 => ((laws_toIntS.f k l1).bind fun t664 => ((impl_WalkOf.f k a0 t664 a2).bind fun t667 => ((laws_eqIntS.f k t667 t661).bind fun t670 => (if t670 = true then ((laws_toIntS.f k l1).bind fun t671 => ((laws_eqIntS.f k t664 t671).bind fun t674 => (if t674 = true then ((laws_markIntS.f k t664 1).bind fun bt675 => (if bt675.1 < 0 then (laws_FnExactWalkOf.j0 k a0 l1 a2 t661 t667 true) else ((laws_eqIntS.f k t667 t661).bind fun t677 => (laws_FnExactWalkOf.j0 k a0 l1 a2 t661 t667 (!t677))))) else (some false)))) else (some false)))))))) = some r := h
 clear h
 by_cases c4 : (l1.length : Int) > 1048576
 ·rw [if_pos c4] at H
  have c4b0 : decide (1048576 < (l1.length : Int)) = true := decide_eq_true c4
  have c4b1 : decide (1048576 < l1.length) = true := decide_eq_true (by omega)
  clear c4
  obtain rfl := Option.some.inj H
  go_enter Try.func13, Try.ntmps13
  go_wp2
  go_ret
  exact ⟨by first | rfl | (simp [errW_none, errW_some] <;> rfl) | (simp [*, errW_none, errW_some] <;> rfl), (bl HB)⟩
 ·rw [if_neg c4] at H
  have c4b0 : decide (1048576 < (l1.length : Int)) = false := decide_eq_false c4
  have c4b1 : decide (1048576 < l1.length) = false := decide_eq_false (by omega)
  clear c4
  replace H := Option.bind_eq_some_iff.mp H
  obtain ⟨t658, A50, H⟩ := H
  (try dsimp only at H)
  have A5 := Aside0.mk A50
  clear A50
  replace H := Option.bind_eq_some_iff.mp H
  obtain ⟨t661, A60, H⟩ := H
  (try dsimp only at H)
  have A6 := Aside0.mk A60
  clear A60
  replace H := Option.bind_eq_some_iff.mp H
  obtain ⟨t664, A70, H⟩ := H
  (try dsimp only at H)
  have A7 := Aside0.mk A70
  clear A70
  replace H := Option.bind_eq_some_iff.mp H
  obtain ⟨t667, A80, H⟩ := H
  (try dsimp only at H)
  have A8 := Aside0.mk A80
  clear A80
  replace H := Option.bind_eq_some_iff.mp H
  obtain ⟨t670, A90, H⟩ := H
  (try dsimp only at H)
  have A9 := Aside0.mk A90
  clear A90
  by_cases c10 : t670 = true
  ·subst c10
   have H1 : ((laws_toIntS.f k l1).bind fun t671 => ((laws_eqIntS.f k t664 t671).bind fun t674 => (if t674 = true then ((laws_markIntS.f k t664 1).bind fun bt675 => (if bt675.1 < 0 then (laws_FnExactWalkOf.j0 k a0 l1 a2 t661 t667 true) else ((laws_eqIntS.f k t667 t661).bind fun t677 => (laws_FnExactWalkOf.j0 k a0 l1 a2 t661 t667 (!t677))))) else (some false)))) = some r := by rw [if_pos rfl] at H; exact H
   clear H
   have H := H1
   clear H1
   replace H := Option.bind_eq_some_iff.mp H
   obtain ⟨t671, A110, H⟩ := H
   (try dsimp only at H)
   have A11 := Aside0.mk A110
   clear A110
   replace H := Option.bind_eq_some_iff.mp H
   obtain ⟨t674, A120, H⟩ := H
   (try dsimp only at H)
   have A12 := Aside0.mk A120
   clear A120
   by_cases c13 : t674 = true
   ·subst c13
    have H1 : ((laws_markIntS.f k t664 1).bind fun bt675 => (if bt675.1 < 0 then (laws_FnExactWalkOf.j0 k a0 l1 a2 t661 t667 true) else ((laws_eqIntS.f k t667 t661).bind fun t677 => (laws_FnExactWalkOf.j0 k a0 l1 a2 t661 t667 (!t677))))) = some r := by rw [if_pos rfl] at H; exact H
    clear H
    have H := H1
    clear H1
    replace H := Option.bind_eq_some_iff.mp H
    obtain ⟨⟨t675, t676⟩, A140, H⟩ := H
    (try dsimp only at H)
    have A14 := Aside0.mk A140
    clear A140
    have HC15 := Aside0.mk H
    clear H
    go_enter Try.func13, Try.ntmps13
    go_upto_region 12 with (first | ((with_reducible refine gate_callee (f := 16) rfl ?_); refine gL (some 19) rfl rfl Try.func16 (by kernel_rfl) rfl #[.slice A1 l1.length c1] rfl ?_; (with_reducible refine (laws_toIntS.calls k _ _ l1 t658 _ ?side1 ?side2 A5.out).mono ?_); (case side1 => repeat (first | exact HR1.out | (with_reducible refine Kd.C_alloc ?_ _) | (with_reducible refine Kd.C_drewN ?_ _) | (with_reducible refine Kd.C_drew ?_))); (case side2 => exact HC1.out); rintro e w16 ⟨v659, rfl, ho0, hb⟩; refine ⟨_, rfl, ?_⟩; have n0_ := Aside0.mk (Kd.R_lower ho0 (below_size (bl HB))); have n1_ := bs HB hb; clear HB; have HO660 := n0_; have HB := n1_; clear n0_ n1_; (try clear hb); (try clear hb2); (try clear hk); (try clear hi); (try clear ho0); obtain ⟨Ao17, co17, eo17⟩ := Kd.R_slice HO660.out; subst eo17) | ((with_reducible refine gate_callee (f := 42) rfl ?_); refine gL (some 21) rfl rfl Try.func42 (by kernel_rfl) rfl #[.int .i64 a0, .slice Ao17 t658.length co17, .int .i64 a2] rfl ?_; (with_reducible refine (spec_WalkOf.calls k a0 _ _ t658 a2 t661 _ ?side1 ?side2 A6.out).mono ?_); (case side1 => repeat (first | exact (Kd.R_reads' HO660.out).2.2 | (with_reducible refine Kd.C_alloc ?_ _) | (with_reducible refine Kd.C_drewN ?_ _) | (with_reducible refine Kd.C_drew ?_))); (case side2 => exact (Kd.R_reads' HO660.out).2.1); rintro e w18 ⟨v662, rfl, ho0, hb⟩; refine ⟨_, rfl, ?_⟩; have n0_ := Aside0.mk (Kd.R_elder' (rr HO660) (Kd.R_base ho0) hb); have n1_ := Aside0.mk (Kd.R_lower (Kd.R_new' ho0 (Kd.R_lt (rr HO660))) (below_size (bl HB))); have n2_ := bs HB hb; clear HO660; clear HB; have HO660 := n0_; have HO663 := n1_; have HB := n2_; clear n0_ n1_ n2_; (try clear hb); (try clear hb2); (try clear hk); (try clear hi); (try clear ho0)) | ((with_reducible refine gate_callee (f := 16) rfl ?_); refine gL (some 23) rfl rfl Try.func16 (by kernel_rfl) rfl #[.slice A1 l1.length c1] rfl ?_; (with_reducible refine (laws_toIntS.calls k _ _ l1 t664 _ ?side1 ?side2 A7.out).mono ?_); (case side1 => repeat (first | exact (Kd.C_below HR1.out HB.out) | (with_reducible refine Kd.C_alloc ?_ _) | (with_reducible refine Kd.C_drewN ?_ _) | (with_reducible refine Kd.C_drew ?_))); (case side2 => exact HC1.out); rintro e w19 ⟨v665, rfl, ho0, hb⟩; refine ⟨_, rfl, ?_⟩; have n0_ := Aside0.mk (Kd.R_elder' (rr HO660) (Kd.R_base ho0) hb); have n1_ := Aside0.mk (Kd.R_elder' (rr HO663) (Kd.R_base ho0) hb); have n2_ := Aside0.mk (Kd.R_lower (Kd.R_new' (Kd.R_new' ho0 (Kd.R_lt (rr HO660))) (Kd.R_lt (rr HO663))) (below_size (bl HB))); have n3_ := bs HB hb; clear HO660; clear HO663; clear HB; have HO660 := n0_; have HO663 := n1_; have HO666 := n2_; have HB := n3_; clear n0_ n1_ n2_ n3_; (try clear hb); (try clear hb2); (try clear hk); (try clear hi); (try clear ho0); obtain ⟨Ao20, co20, eo20⟩ := Kd.R_slice HO666.out; subst eo20) | ((with_reducible refine gate_callee (f := 43) rfl ?_); refine gL (some 27) rfl rfl Try.func43 (by kernel_rfl) rfl #[.int .i64 a0, .slice Ao20 t664.length co20, .int .i64 a2] rfl ?_; (with_reducible refine (impl_WalkOf.calls k a0 _ _ t664 a2 t667 _ ?side1 ?side2 A8.out).mono ?_); (case side1 => repeat (first | exact (Kd.R_reads' HO666.out).2.2 | (with_reducible refine Kd.C_alloc ?_ _) | (with_reducible refine Kd.C_drewN ?_ _) | (with_reducible refine Kd.C_drew ?_))); (case side2 => exact (Kd.R_reads' HO666.out).2.1); rintro e w21 ⟨v668, rfl, ho0, hb⟩; refine ⟨_, rfl, ?_⟩; have n0_ := Aside0.mk (Kd.R_elder' (rr HO660) (Kd.R_base ho0) hb); have n1_ := Aside0.mk (Kd.R_elder' (rr HO663) (Kd.R_base ho0) hb); have n2_ := Aside0.mk (Kd.R_elder' (rr HO666) (Kd.R_base ho0) hb); have n3_ := Aside0.mk (Kd.R_lower (Kd.R_new' (Kd.R_new' (Kd.R_new' ho0 (Kd.R_lt (rr HO660))) (Kd.R_lt (rr HO663))) (Kd.R_lt (rr HO666))) (below_size (bl HB))); have n4_ := bs HB hb; clear HO660; clear HO663; clear HO666; clear HB; have HO660 := n0_; have HO663 := n1_; have HO666 := n2_; have HO669 := n3_; have HB := n4_; clear n0_ n1_ n2_ n3_ n4_; (try clear hb); (try clear hb2); (try clear hk); (try clear hi); (try clear ho0); obtain ⟨Ao22, co22, eo22⟩ := Kd.R_slice HO669.out; subst eo22; obtain ⟨Ao23, co23, eo23⟩ := Kd.R_slice HO663.out; subst eo23) | ((with_reducible refine gate_callee (f := 18) rfl ?_); refine gL (some 30) rfl rfl Try.func18 (by kernel_rfl) rfl #[.slice Ao22 t667.length co22, .slice Ao23 t661.length co23] rfl ?_; (with_reducible refine (laws_eqIntS.calls k _ _ t667 _ _ t661 true _ ?side1 ?side2 ?side3 ?side4 A9.out).mono ?_); (case side1 => repeat (first | exact (Kd.R_reads' HO669.out).2.2 | (with_reducible refine Kd.C_alloc ?_ _) | (with_reducible refine Kd.C_drewN ?_ _) | (with_reducible refine Kd.C_drew ?_))); (case side2 => exact (Kd.R_reads' HO669.out).2.1); (case side3 => repeat (first | exact (Kd.R_reads' HO663.out).2.2 | (with_reducible refine Kd.C_alloc ?_ _) | (with_reducible refine Kd.C_drewN ?_ _) | (with_reducible refine Kd.C_drew ?_))); (case side4 => exact (Kd.R_reads' HO663.out).2.1); rintro e w' ⟨rfl, ⟨nd, rfl⟩⟩; refine ⟨_, rfl, ?_⟩) | ((with_reducible refine gate_callee (f := 16) rfl ?_); refine gL (some 34) rfl rfl Try.func16 (by kernel_rfl) rfl #[.slice A1 l1.length c1] rfl ?_; (with_reducible refine (laws_toIntS.calls k _ _ l1 t671 _ ?side1 ?side2 A11.out).mono ?_); (case side1 => repeat (first | exact (Kd.C_below HR1.out (bl HB)) | (with_reducible refine Kd.C_alloc ?_ _) | (with_reducible refine Kd.C_drewN ?_ _) | (with_reducible refine Kd.C_drew ?_))); (case side2 => exact HC1.out); rintro e w24 ⟨v672, rfl, ho0, hb⟩; refine ⟨_, rfl, ?_⟩; have n0_ := Aside0.mk (Kd.R_elder' (rr HO660) (Kd.R_base ho0) hb); have n1_ := Aside0.mk (Kd.R_elder' (rr HO663) (Kd.R_base ho0) hb); have n2_ := Aside0.mk (Kd.R_elder' (rr HO666) (Kd.R_base ho0) hb); have n3_ := Aside0.mk (Kd.R_elder' (rr HO669) (Kd.R_base ho0) hb); have n4_ := Aside0.mk (Kd.R_lower (Kd.R_new' (Kd.R_new' (Kd.R_new' (Kd.R_new' ho0 (Kd.R_lt (rr HO660))) (Kd.R_lt (rr HO663))) (Kd.R_lt (rr HO666))) (Kd.R_lt (rr HO669))) (below_size (bl HB))); have n5_ := bs HB hb; clear HO660; clear HO663; clear HO666; clear HO669; clear HB; have HO660 := n0_; have HO663 := n1_; have HO666 := n2_; have HO669 := n3_; have HO673 := n4_; have HB := n5_; clear n0_ n1_ n2_ n3_ n4_ n5_; (try clear hb); (try clear hb2); (try clear hk); (try clear hi); (try clear ho0); obtain ⟨Ao25, co25, eo25⟩ := Kd.R_slice HO673.out; subst eo25) | ((with_reducible refine gate_callee (f := 18) rfl ?_); refine gL (some 35) rfl rfl Try.func18 (by kernel_rfl) rfl #[.slice Ao20 t664.length co20, .slice Ao25 t671.length co25] rfl ?_; (with_reducible refine (laws_eqIntS.calls k _ _ t664 _ _ t671 true _ ?side1 ?side2 ?side3 ?side4 A12.out).mono ?_); (case side1 => repeat (first | exact (Kd.R_reads' HO666.out).2.2 | (with_reducible refine Kd.C_alloc ?_ _) | (with_reducible refine Kd.C_drewN ?_ _) | (with_reducible refine Kd.C_drew ?_))); (case side2 => exact (Kd.R_reads' HO666.out).2.1); (case side3 => repeat (first | exact (Kd.R_reads' HO673.out).2.2 | (with_reducible refine Kd.C_alloc ?_ _) | (with_reducible refine Kd.C_drewN ?_ _) | (with_reducible refine Kd.C_drew ?_))); (case side4 => exact (Kd.R_reads' HO673.out).2.1); rintro e w' ⟨rfl, ⟨nd, rfl⟩⟩; refine ⟨_, rfl, ?_⟩) | ((with_reducible refine gate_callee (f := 23) rfl ?_); refine gL (some 39) rfl rfl Try.func23 (by kernel_rfl) rfl #[.slice Ao20 t664.length co20, .int .i64 1] rfl ?_; (with_reducible refine (laws_markIntS.calls k (fun k_ => some k_ = (.slice Ao20 t664.length co20 : Value).ownBlock) (.slice Ao20 t664.length co20) t664 1 t675 t676 w _ ?side1 ?side2 A14.out).mono ?_); (case side1 => repeat (first | (with_reducible first | exact HB.out | apply below_alloc | apply pw_below_drewN | apply below_drew1) | exact HB.out)); (case side2 => exact Kd.R_tight rfl HO666.out); rintro e w26 ⟨rfl, hy0, hb, hkp⟩; refine ⟨_, rfl, ?_⟩; have n0_ := Aside0.mk (Kd.R_mono (ok' := fun k_ => some k_ ≠ (.slice Ao23 t661.length co23 : Value).ownBlock ∧ some k_ ≠ (.slice Ao20 t664.length co20 : Value).ownBlock ∧ some k_ ≠ (.slice Ao22 t667.length co22 : Value).ownBlock ∧ some k_ ≠ (.slice Ao25 t671.length co25 : Value).ownBlock) (Kd.R_keptB (HO660.out) hkp (fun k_ hk_ hs_ => (hk_.1.1.2) hs_)) (fun k_ hk_ => ⟨hk_.1.1.1.1.2, hk_.1.1.1.2, hk_.1.1.2, hk_.1.2⟩)); have n1_ := Aside0.mk (Kd.R_mono (ok' := fun k_ => some k_ ≠ (.slice Ao17 t658.length co17 : Value).ownBlock ∧ some k_ ≠ (.slice Ao20 t664.length co20 : Value).ownBlock ∧ some k_ ≠ (.slice Ao22 t667.length co22 : Value).ownBlock ∧ some k_ ≠ (.slice Ao25 t671.length co25 : Value).ownBlock) (Kd.R_keptB (HO663.out) hkp (fun k_ hk_ hs_ => (hk_.1.1.2) hs_)) (fun k_ hk_ => ⟨hk_.1.1.1.1.2, hk_.1.1.1.2, hk_.1.1.2, hk_.1.2⟩)); have n2_ := Aside0.mk (Kd.R_reok rfl hy0 (fun k_ e_ => HO666.out.1 k_ e_)); have n3_ := Aside0.mk (Kd.R_mono (ok' := fun k_ => some k_ ≠ (.slice Ao17 t658.length co17 : Value).ownBlock ∧ some k_ ≠ (.slice Ao23 t661.length co23 : Value).ownBlock ∧ some k_ ≠ (.slice Ao20 t664.length co20 : Value).ownBlock ∧ some k_ ≠ (.slice Ao25 t671.length co25 : Value).ownBlock) (Kd.R_keptB (HO669.out) hkp (fun k_ hk_ hs_ => (hk_.1.2) hs_)) (fun k_ hk_ => ⟨hk_.1.1.1.1.2, hk_.1.1.1.2, hk_.1.1.2, hk_.1.2⟩)); have n4_ := Aside0.mk (Kd.R_mono (ok' := fun k_ => some k_ ≠ (.slice Ao17 t658.length co17 : Value).ownBlock ∧ some k_ ≠ (.slice Ao23 t661.length co23 : Value).ownBlock ∧ some k_ ≠ (.slice Ao20 t664.length co20 : Value).ownBlock ∧ some k_ ≠ (.slice Ao22 t667.length co22 : Value).ownBlock) (Kd.R_keptB (HO673.out) hkp (fun k_ hk_ hs_ => (hk_.1.2) hs_)) (fun k_ hk_ => ⟨hk_.1.1.1.1.2, hk_.1.1.1.2, hk_.1.1.2, hk_.1.2⟩)); have n5_ := Aside0.mk (hb); clear HO660; clear HO663; clear HO666; clear HO669; clear HO673; clear HB; have HO660 := n0_; have HO663 := n1_; have HO666 := n2_; have HO669 := n3_; have HO673 := n4_; have HB := n5_; clear n0_ n1_ n2_ n3_ n4_ n5_; (try clear hb); (try clear hkp); (try clear hy0)))
    (try simp only [Act.put, List.setIfInBounds_toArray, List.set_cons_zero, List.set_cons_succ])
    go_cut [47] (fun v47 wc => ∃ (kq : Nat) (x47_14 : Bool), v47 = .bool x47_14 ∧ Aside0 (laws_FnExactWalkOf.j0 kq a0 l1 a2 t661 t667 x47_14 = some r) ∧ Aside0 (kq ≤ k) ∧ Aside0 (Kd.R (Kd.int .i64) 3 wc w.heap.size (fun k_ => some k_ ≠ ((.slice Ao22 t667.length co22) : Value).ownBlock) (.slice Ao23 t661.length co23) t661) ∧ Aside0 (Kd.R (Kd.int .i64) 3 wc w.heap.size (fun k_ => some k_ ≠ ((.slice Ao23 t661.length co23) : Value).ownBlock) (.slice Ao22 t667.length co22) t667) ∧ Aside0 (Below w.heap.size w wc))
    case first =>
     have H := HC15.out
     clear HC15
     by_cases c27 : t675 < 0
     ·rw [if_pos c27] at H
      have c27b0 : decide (t675 < 0) = true := decide_eq_true c27
      clear c27
      (first | rw [c27b0] | (simp only [i64_w, i32_w]; rw [c27b0]) | skip)
      have H' := Aside0.mk H
      clear H
      go_wp2
      go_meet
      case rel => exact ⟨_, (true), (by first | rfl | (simp; done) | (simp [*]; done)), H', ⟨by first | omega | exact Nat.le_refl _⟩, ⟨by (with_reducible repeat (first | apply Kd.R_alloc | apply Kd.R_drewN | apply Kd.R_drew)); exact Kd.R_mono HO663.out (fun _ hk => hk.2.2.1)⟩, ⟨by (with_reducible repeat (first | apply Kd.R_alloc | apply Kd.R_drewN | apply Kd.R_drew)); exact Kd.R_mono HO669.out (fun _ hk => hk.2.1)⟩, ⟨(bl HB)⟩⟩
     ·rw [if_neg c27] at H
      have c27b0 : decide (t675 < 0) = false := decide_eq_false c27
      clear c27
      (first | rw [c27b0] | (simp only [i64_w, i32_w]; rw [c27b0]) | skip)
      replace H := Option.bind_eq_some_iff.mp H
      obtain ⟨t677, A280, H⟩ := H
      (try dsimp only at H)
      have A28 := Aside0.mk A280
      clear A280
      have H' := Aside0.mk H
      clear H
      go_wp2_with (first | (go_at_call 18; (with_reducible refine (laws_eqIntS.calls k _ _ t667 _ _ t661 t677 _ ?side1 ?side2 ?side3 ?side4 A28.out).mono ?_); (case side1 => repeat (first | exact (Kd.R_reads' HO669.out).2.2 | (with_reducible refine Kd.C_alloc ?_ _) | (with_reducible refine Kd.C_drewN ?_ _) | (with_reducible refine Kd.C_drew ?_))); (case side2 => exact (Kd.R_reads' HO669.out).2.1); (case side3 => repeat (first | exact (Kd.R_reads' HO663.out).2.2 | (with_reducible refine Kd.C_alloc ?_ _) | (with_reducible refine Kd.C_drewN ?_ _) | (with_reducible refine Kd.C_drew ?_))); (case side4 => exact (Kd.R_reads' HO663.out).2.1); rintro e w' ⟨rfl, ⟨nd, rfl⟩⟩))
      go_meet
      case rel => exact ⟨_, (!t677), (by first | rfl | (simp; done) | (simp [*]; done)), H', ⟨by first | omega | exact Nat.le_refl _⟩, ⟨by (with_reducible repeat (first | apply Kd.R_alloc | apply Kd.R_drewN | apply Kd.R_drew)); exact Kd.R_mono HO663.out (fun _ hk => hk.2.2.1)⟩, ⟨by (with_reducible repeat (first | apply Kd.R_alloc | apply Kd.R_drewN | apply Kd.R_drew)); exact Kd.R_mono HO669.out (fun _ hk => hk.2.1)⟩, ⟨(bl HB)⟩⟩
    case rest =>
     clear HC15
     try clear c1
     try clear c2
     try clear p2
     try clear c4
     try clear c4b0
     try clear c4b1
     try clear c10
     try clear c13
     try clear c16
     try clear c18
     try clear c23
     try clear c27
     try clear c27b0
     obtain ⟨kq, x47_14, rfl, HA, HJ14, HO_7, HO_9, HB⟩ := hcut
     cases kq with
     | zero => exact absurd HA.out (by simp [laws_FnExactWalkOf.j0])
     | succ kj14 =>
      have H := HA.out
      clear HA
      simp only [laws_FnExactWalkOf.j0] at H
      by_cases c29 : x47_14 = true
      ·subst c29
       have H1 : (some false) = some r := by rw [if_pos rfl] at H; exact H
       clear H
       have H := H1
       clear H1
       obtain rfl := Option.some.inj H
       go_wp2
       go_ret
       exact ⟨by first | rfl | (simp [errW_none, errW_some] <;> rfl) | (simp [*, errW_none, errW_some] <;> rfl), (bl HB)⟩
      ·replace c29 := Bool.eq_false_iff.mpr c29
       subst c29
       have H1 : ((laws_markIntS.f kj14 t667 1).bind fun bt678 => ((laws_heldIntS.f kj14 bt678.2 1).bind fun t680 => (if t680 < 0 then (some false) else (if t680 = bt678.1 then ((laws_toIntS.f kj14 l1).bind fun t681 => ((impl_WalkOf.f kj14 a0 t681 a2).bind fun t684 => ((laws_eqIntS.f kj14 t684 t661).bind fun t687 => (if t687 = true then ((laws_heldIntS.f kj14 bt678.2 1).bind fun t688 => (if t688 < 0 then (some false) else (if t688 = bt678.1 then (some true) else (some false)))) else (some false))))) else (some false))))) = some r := by rw [if_neg (show ¬ (false = true) by decide)] at H; exact H
       clear H
       have H := H1
       clear H1
       replace H := Option.bind_eq_some_iff.mp H
       obtain ⟨⟨t678, t679⟩, A300, H⟩ := H
       (try dsimp only at H)
       have A30 := Aside0.mk A300
       clear A300
       replace H := Option.bind_eq_some_iff.mp H
       obtain ⟨t680, A310, H⟩ := H
       (try dsimp only at H)
       have A31 := Aside0.mk A310
       clear A310
       by_cases c32 : t680 < 0
       ·rw [if_pos c32] at H
        have c32b0 : decide (t680 < 0) = true := decide_eq_true c32
        clear c32
        obtain rfl := Option.some.inj H
        go_wp2_with (first | ((with_reducible refine gate_callee (f := 23) rfl ?_); refine gL (some 50) rfl rfl Try.func23 (by kernel_rfl) rfl #[.slice Ao22 t667.length co22, .int .i64 1] rfl ?_; (with_reducible refine (laws_markIntS.calls kj14 (fun k_ => some k_ = (.slice Ao22 t667.length co22 : Value).ownBlock) (.slice Ao22 t667.length co22) t667 1 t678 t679 w _ ?side1 ?side2 A30.out).mono ?_); (case side1 => repeat (first | (with_reducible first | exact HB.out | apply below_alloc | apply pw_below_drewN | apply below_drew1) | exact HB.out)); (case side2 => exact Kd.R_tight rfl HO_9.out); rintro e w33 ⟨rfl, hy0, hb, hkp⟩; refine ⟨_, rfl, ?_⟩; have n0_ := Aside0.mk (Kd.R_mono (ok' := fun k_ => some k_ ≠ (.slice Ao22 t667.length co22 : Value).ownBlock) (Kd.R_keptB (HO_7.out) hkp (fun k_ hk_ hs_ => (hk_) hs_)) (fun k_ hk_ => hk_.1)); have n1_ := Aside0.mk (Kd.R_reok rfl hy0 (fun k_ e_ => HO_9.out.1 k_ e_)); have n2_ := Aside0.mk (hb); clear HO_7; clear HO_9; clear HB; have HO_7 := n0_; have HO_9 := n1_; have HB := n2_; clear n0_ n1_ n2_; (try clear hb); (try clear hkp); (try clear hy0)) | ((with_reducible refine gate_callee (f := 24) rfl ?_); refine goesL_ (some 53) rfl rfl Try.func24 (by kernel_rfl) rfl #[.slice Ao22 t679.length co22, .int .i64 1] rfl (by (try simp only [List.map_toArray, List.map_cons, List.map_nil]); first | done | (rw [show t679.length = t667.length from (Kd.R_reads' HO_9.out).1.symm] <;> rfl) | rfl | (simp only [List.length_drop, List.length_take]; rfl)) ?_; (with_reducible refine (laws_heldIntS.calls kj14 _ _ t679 1 t680 _ ?side1 ?side2 A31.out).mono ?_); (case side1 => repeat (first | exact (Kd.R_reads' HO_9.out).2.2 | (with_reducible refine Kd.C_alloc ?_ _) | (with_reducible refine Kd.C_drewN ?_ _) | (with_reducible refine Kd.C_drew ?_))); (case side2 => rw [show t679.length = t667.length from (Kd.R_reads' HO_9.out).1.symm]; exact (Kd.R_reads' HO_9.out).2.1); rintro e w' ⟨rfl, ⟨nd, rfl⟩⟩; refine ⟨_, rfl, ?_⟩))
        go_ret
        exact ⟨by first | rfl | (simp [errW_none, errW_some] <;> rfl) | (simp [*, errW_none, errW_some] <;> rfl), (bl HB)⟩
       ·rw [if_neg c32] at H
        have c32b0 : decide (t680 < 0) = false := decide_eq_false c32
        clear c32
        by_cases c34 : t680 = t678
        ·rw [if_pos c34] at H
         have c34b0 : (t680 == t678) = true := beq_iff_eq.mpr c34
         have c34b1 : (t680 != t678) = false := bne_eq_false_iff_eq.mpr c34
         clear c34
         replace H := Option.bind_eq_some_iff.mp H
         obtain ⟨t681, A350, H⟩ := H
         (try dsimp only at H)
         have A35 := Aside0.mk A350
         clear A350
         replace H := Option.bind_eq_some_iff.mp H
         obtain ⟨t684, A360, H⟩ := H
         (try dsimp only at H)
         have A36 := Aside0.mk A360
         clear A360
         replace H := Option.bind_eq_some_iff.mp H
         obtain ⟨t687, A370, H⟩ := H
         (try dsimp only at H)
         have A37 := Aside0.mk A370
         clear A370
         by_cases c38 : t687 = true
         ·subst c38
          have H1 : ((laws_heldIntS.f kj14 t679 1).bind fun t688 => (if t688 < 0 then (some false) else (if t688 = t678 then (some true) else (some false)))) = some r := by rw [if_pos rfl] at H; exact H
          clear H
          have H := H1
          clear H1
          replace H := Option.bind_eq_some_iff.mp H
          obtain ⟨t688, A390, H⟩ := H
          (try dsimp only at H)
          have A39 := Aside0.mk A390
          clear A390
          by_cases c40 : t688 < 0
          ·rw [if_pos c40] at H
           have c40b0 : decide (t688 < 0) = true := decide_eq_true c40
           clear c40
           obtain rfl := Option.some.inj H
           go_wp2_with (first | ((with_reducible refine gate_callee (f := 23) rfl ?_); refine gL (some 50) rfl rfl Try.func23 (by kernel_rfl) rfl #[.slice Ao22 t667.length co22, .int .i64 1] rfl ?_; (with_reducible refine (laws_markIntS.calls kj14 (fun k_ => some k_ = (.slice Ao22 t667.length co22 : Value).ownBlock) (.slice Ao22 t667.length co22) t667 1 t678 t679 w _ ?side1 ?side2 A30.out).mono ?_); (case side1 => repeat (first | (with_reducible first | exact HB.out | apply below_alloc | apply pw_below_drewN | apply below_drew1) | exact HB.out)); (case side2 => exact Kd.R_tight rfl HO_9.out); rintro e w41 ⟨rfl, hy0, hb, hkp⟩; refine ⟨_, rfl, ?_⟩; have n0_ := Aside0.mk (Kd.R_mono (ok' := fun k_ => some k_ ≠ (.slice Ao22 t667.length co22 : Value).ownBlock) (Kd.R_keptB (HO_7.out) hkp (fun k_ hk_ hs_ => (hk_) hs_)) (fun k_ hk_ => hk_.1)); have n1_ := Aside0.mk (Kd.R_reok rfl hy0 (fun k_ e_ => HO_9.out.1 k_ e_)); have n2_ := Aside0.mk (hb); clear HO_7; clear HO_9; clear HB; have HO_7 := n0_; have HO_9 := n1_; have HB := n2_; clear n0_ n1_ n2_; (try clear hb); (try clear hkp); (try clear hy0)) | ((with_reducible refine gate_callee (f := 24) rfl ?_); refine goesL_ (some 53) rfl rfl Try.func24 (by kernel_rfl) rfl #[.slice Ao22 t679.length co22, .int .i64 1] rfl (by (try simp only [List.map_toArray, List.map_cons, List.map_nil]); first | done | (rw [show t679.length = t667.length from (Kd.R_reads' HO_9.out).1.symm] <;> rfl) | rfl | (simp only [List.length_drop, List.length_take]; rfl)) ?_; (with_reducible refine (laws_heldIntS.calls kj14 _ _ t679 1 t680 _ ?side1 ?side2 A31.out).mono ?_); (case side1 => repeat (first | exact (Kd.R_reads' HO_9.out).2.2 | (with_reducible refine Kd.C_alloc ?_ _) | (with_reducible refine Kd.C_drewN ?_ _) | (with_reducible refine Kd.C_drew ?_))); (case side2 => rw [show t679.length = t667.length from (Kd.R_reads' HO_9.out).1.symm]; exact (Kd.R_reads' HO_9.out).2.1); rintro e w' ⟨rfl, ⟨nd, rfl⟩⟩; refine ⟨_, rfl, ?_⟩) | ((with_reducible refine gate_callee (f := 16) rfl ?_); refine gL (some 61) rfl rfl Try.func16 (by kernel_rfl) rfl #[.slice A1 l1.length c1] rfl ?_; (with_reducible refine (laws_toIntS.calls kj14 _ _ l1 t681 _ ?side1 ?side2 A35.out).mono ?_); (case side1 => repeat (first | exact (Kd.C_below HR1.out (bl HB)) | (with_reducible refine Kd.C_alloc ?_ _) | (with_reducible refine Kd.C_drewN ?_ _) | (with_reducible refine Kd.C_drew ?_))); (case side2 => exact HC1.out); rintro e w42 ⟨v682, rfl, ho0, hb⟩; refine ⟨_, rfl, ?_⟩; have n0_ := Aside0.mk (Kd.R_elder' (rr HO_7) (Kd.R_base ho0) hb); have n1_ := Aside0.mk (Kd.R_elder' (rr HO_9) (Kd.R_base ho0) hb); have n2_ := Aside0.mk (Kd.R_lower (Kd.R_new' (Kd.R_new' ho0 (Kd.R_lt (rr HO_7))) (Kd.R_lt (rr HO_9))) (below_size (bl HB))); have n3_ := bs HB hb; clear HO_7; clear HO_9; clear HB; have HO_7 := n0_; have HO_9 := n1_; have HO683 := n2_; have HB := n3_; clear n0_ n1_ n2_ n3_; (try clear hb); (try clear hb2); (try clear hk); (try clear hi); (try clear ho0); obtain ⟨Ao43, co43, eo43⟩ := Kd.R_slice HO683.out; subst eo43) | ((with_reducible refine gate_callee (f := 43) rfl ?_); refine gL (some 63) rfl rfl Try.func43 (by kernel_rfl) rfl #[.int .i64 a0, .slice Ao43 t681.length co43, .int .i64 a2] rfl ?_; (with_reducible refine (impl_WalkOf.calls kj14 a0 _ _ t681 a2 t684 _ ?side1 ?side2 A36.out).mono ?_); (case side1 => repeat (first | exact (Kd.R_reads' HO683.out).2.2 | (with_reducible refine Kd.C_alloc ?_ _) | (with_reducible refine Kd.C_drewN ?_ _) | (with_reducible refine Kd.C_drew ?_))); (case side2 => exact (Kd.R_reads' HO683.out).2.1); rintro e w44 ⟨v685, rfl, ho0, hb⟩; refine ⟨_, rfl, ?_⟩; have n0_ := Aside0.mk (Kd.R_elder' (rr HO_7) (Kd.R_base ho0) hb); have n1_ := Aside0.mk (Kd.R_elder' (rr HO_9) (Kd.R_base ho0) hb); have n2_ := Aside0.mk (Kd.R_elder' (rr HO683) (Kd.R_base ho0) hb); have n3_ := Aside0.mk (Kd.R_lower (Kd.R_new' (Kd.R_new' (Kd.R_new' ho0 (Kd.R_lt (rr HO_7))) (Kd.R_lt (rr HO_9))) (Kd.R_lt (rr HO683))) (below_size (bl HB))); have n4_ := bs HB hb; clear HO_7; clear HO_9; clear HO683; clear HB; have HO_7 := n0_; have HO_9 := n1_; have HO683 := n2_; have HO686 := n3_; have HB := n4_; clear n0_ n1_ n2_ n3_ n4_; (try clear hb); (try clear hb2); (try clear hk); (try clear hi); (try clear ho0); obtain ⟨Ao45, co45, eo45⟩ := Kd.R_slice HO686.out; subst eo45) | ((with_reducible refine gate_callee (f := 18) rfl ?_); refine gL (some 66) rfl rfl Try.func18 (by kernel_rfl) rfl #[.slice Ao45 t684.length co45, .slice Ao23 t661.length co23] rfl ?_; (with_reducible refine (laws_eqIntS.calls kj14 _ _ t684 _ _ t661 true _ ?side1 ?side2 ?side3 ?side4 A37.out).mono ?_); (case side1 => repeat (first | exact (Kd.R_reads' HO686.out).2.2 | (with_reducible refine Kd.C_alloc ?_ _) | (with_reducible refine Kd.C_drewN ?_ _) | (with_reducible refine Kd.C_drew ?_))); (case side2 => exact (Kd.R_reads' HO686.out).2.1); (case side3 => repeat (first | exact (Kd.R_reads' HO_7.out).2.2 | (with_reducible refine Kd.C_alloc ?_ _) | (with_reducible refine Kd.C_drewN ?_ _) | (with_reducible refine Kd.C_drew ?_))); (case side4 => exact (Kd.R_reads' HO_7.out).2.1); rintro e w' ⟨rfl, ⟨nd, rfl⟩⟩; refine ⟨_, rfl, ?_⟩) | ((with_reducible refine gate_callee (f := 24) rfl ?_); refine goesL_ (some 70) rfl rfl Try.func24 (by kernel_rfl) rfl #[.slice Ao22 t679.length co22, .int .i64 1] rfl (by (try simp only [List.map_toArray, List.map_cons, List.map_nil]); first | done | (rw [show t679.length = t667.length from (Kd.R_reads' HO_9.out).1.symm] <;> rfl) | rfl | (simp only [List.length_drop, List.length_take]; rfl)) ?_; (with_reducible refine (laws_heldIntS.calls kj14 _ _ t679 1 t688 _ ?side1 ?side2 A39.out).mono ?_); (case side1 => repeat (first | exact (Kd.R_reads' HO_9.out).2.2 | (with_reducible refine Kd.C_alloc ?_ _) | (with_reducible refine Kd.C_drewN ?_ _) | (with_reducible refine Kd.C_drew ?_))); (case side2 => rw [show t679.length = t667.length from (Kd.R_reads' HO_9.out).1.symm]; exact (Kd.R_reads' HO_9.out).2.1); rintro e w' ⟨rfl, ⟨nd, rfl⟩⟩; refine ⟨_, rfl, ?_⟩))
           go_ret
           exact ⟨by first | rfl | (simp [errW_none, errW_some] <;> rfl) | (simp [*, errW_none, errW_some] <;> rfl), (bl HB)⟩
          ·rw [if_neg c40] at H
           have c40b0 : decide (t688 < 0) = false := decide_eq_false c40
           clear c40
           by_cases c46 : t688 = t678
           ·rw [if_pos c46] at H
            have c46b0 : (t688 == t678) = true := beq_iff_eq.mpr c46
            have c46b1 : (t688 != t678) = false := bne_eq_false_iff_eq.mpr c46
            clear c46
            obtain rfl := Option.some.inj H
            go_wp2_with (first | ((with_reducible refine gate_callee (f := 23) rfl ?_); refine gL (some 50) rfl rfl Try.func23 (by kernel_rfl) rfl #[.slice Ao22 t667.length co22, .int .i64 1] rfl ?_; (with_reducible refine (laws_markIntS.calls kj14 (fun k_ => some k_ = (.slice Ao22 t667.length co22 : Value).ownBlock) (.slice Ao22 t667.length co22) t667 1 t678 t679 w _ ?side1 ?side2 A30.out).mono ?_); (case side1 => repeat (first | (with_reducible first | exact HB.out | apply below_alloc | apply pw_below_drewN | apply below_drew1) | exact HB.out)); (case side2 => exact Kd.R_tight rfl HO_9.out); rintro e w47 ⟨rfl, hy0, hb, hkp⟩; refine ⟨_, rfl, ?_⟩; have n0_ := Aside0.mk (Kd.R_mono (ok' := fun k_ => some k_ ≠ (.slice Ao22 t667.length co22 : Value).ownBlock) (Kd.R_keptB (HO_7.out) hkp (fun k_ hk_ hs_ => (hk_) hs_)) (fun k_ hk_ => hk_.1)); have n1_ := Aside0.mk (Kd.R_reok rfl hy0 (fun k_ e_ => HO_9.out.1 k_ e_)); have n2_ := Aside0.mk (hb); clear HO_7; clear HO_9; clear HB; have HO_7 := n0_; have HO_9 := n1_; have HB := n2_; clear n0_ n1_ n2_; (try clear hb); (try clear hkp); (try clear hy0)) | ((with_reducible refine gate_callee (f := 24) rfl ?_); refine goesL_ (some 53) rfl rfl Try.func24 (by kernel_rfl) rfl #[.slice Ao22 t679.length co22, .int .i64 1] rfl (by (try simp only [List.map_toArray, List.map_cons, List.map_nil]); first | done | (rw [show t679.length = t667.length from (Kd.R_reads' HO_9.out).1.symm] <;> rfl) | rfl | (simp only [List.length_drop, List.length_take]; rfl)) ?_; (with_reducible refine (laws_heldIntS.calls kj14 _ _ t679 1 t680 _ ?side1 ?side2 A31.out).mono ?_); (case side1 => repeat (first | exact (Kd.R_reads' HO_9.out).2.2 | (with_reducible refine Kd.C_alloc ?_ _) | (with_reducible refine Kd.C_drewN ?_ _) | (with_reducible refine Kd.C_drew ?_))); (case side2 => rw [show t679.length = t667.length from (Kd.R_reads' HO_9.out).1.symm]; exact (Kd.R_reads' HO_9.out).2.1); rintro e w' ⟨rfl, ⟨nd, rfl⟩⟩; refine ⟨_, rfl, ?_⟩) | ((with_reducible refine gate_callee (f := 16) rfl ?_); refine gL (some 61) rfl rfl Try.func16 (by kernel_rfl) rfl #[.slice A1 l1.length c1] rfl ?_; (with_reducible refine (laws_toIntS.calls kj14 _ _ l1 t681 _ ?side1 ?side2 A35.out).mono ?_); (case side1 => repeat (first | exact (Kd.C_below HR1.out (bl HB)) | (with_reducible refine Kd.C_alloc ?_ _) | (with_reducible refine Kd.C_drewN ?_ _) | (with_reducible refine Kd.C_drew ?_))); (case side2 => exact HC1.out); rintro e w48 ⟨v682, rfl, ho0, hb⟩; refine ⟨_, rfl, ?_⟩; have n0_ := Aside0.mk (Kd.R_elder' (rr HO_7) (Kd.R_base ho0) hb); have n1_ := Aside0.mk (Kd.R_elder' (rr HO_9) (Kd.R_base ho0) hb); have n2_ := Aside0.mk (Kd.R_lower (Kd.R_new' (Kd.R_new' ho0 (Kd.R_lt (rr HO_7))) (Kd.R_lt (rr HO_9))) (below_size (bl HB))); have n3_ := bs HB hb; clear HO_7; clear HO_9; clear HB; have HO_7 := n0_; have HO_9 := n1_; have HO683 := n2_; have HB := n3_; clear n0_ n1_ n2_ n3_; (try clear hb); (try clear hb2); (try clear hk); (try clear hi); (try clear ho0); obtain ⟨Ao49, co49, eo49⟩ := Kd.R_slice HO683.out; subst eo49) | ((with_reducible refine gate_callee (f := 43) rfl ?_); refine gL (some 63) rfl rfl Try.func43 (by kernel_rfl) rfl #[.int .i64 a0, .slice Ao49 t681.length co49, .int .i64 a2] rfl ?_; (with_reducible refine (impl_WalkOf.calls kj14 a0 _ _ t681 a2 t684 _ ?side1 ?side2 A36.out).mono ?_); (case side1 => repeat (first | exact (Kd.R_reads' HO683.out).2.2 | (with_reducible refine Kd.C_alloc ?_ _) | (with_reducible refine Kd.C_drewN ?_ _) | (with_reducible refine Kd.C_drew ?_))); (case side2 => exact (Kd.R_reads' HO683.out).2.1); rintro e w50 ⟨v685, rfl, ho0, hb⟩; refine ⟨_, rfl, ?_⟩; have n0_ := Aside0.mk (Kd.R_elder' (rr HO_7) (Kd.R_base ho0) hb); have n1_ := Aside0.mk (Kd.R_elder' (rr HO_9) (Kd.R_base ho0) hb); have n2_ := Aside0.mk (Kd.R_elder' (rr HO683) (Kd.R_base ho0) hb); have n3_ := Aside0.mk (Kd.R_lower (Kd.R_new' (Kd.R_new' (Kd.R_new' ho0 (Kd.R_lt (rr HO_7))) (Kd.R_lt (rr HO_9))) (Kd.R_lt (rr HO683))) (below_size (bl HB))); have n4_ := bs HB hb; clear HO_7; clear HO_9; clear HO683; clear HB; have HO_7 := n0_; have HO_9 := n1_; have HO683 := n2_; have HO686 := n3_; have HB := n4_; clear n0_ n1_ n2_ n3_ n4_; (try clear hb); (try clear hb2); (try clear hk); (try clear hi); (try clear ho0); obtain ⟨Ao51, co51, eo51⟩ := Kd.R_slice HO686.out; subst eo51) | ((with_reducible refine gate_callee (f := 18) rfl ?_); refine gL (some 66) rfl rfl Try.func18 (by kernel_rfl) rfl #[.slice Ao51 t684.length co51, .slice Ao23 t661.length co23] rfl ?_; (with_reducible refine (laws_eqIntS.calls kj14 _ _ t684 _ _ t661 true _ ?side1 ?side2 ?side3 ?side4 A37.out).mono ?_); (case side1 => repeat (first | exact (Kd.R_reads' HO686.out).2.2 | (with_reducible refine Kd.C_alloc ?_ _) | (with_reducible refine Kd.C_drewN ?_ _) | (with_reducible refine Kd.C_drew ?_))); (case side2 => exact (Kd.R_reads' HO686.out).2.1); (case side3 => repeat (first | exact (Kd.R_reads' HO_7.out).2.2 | (with_reducible refine Kd.C_alloc ?_ _) | (with_reducible refine Kd.C_drewN ?_ _) | (with_reducible refine Kd.C_drew ?_))); (case side4 => exact (Kd.R_reads' HO_7.out).2.1); rintro e w' ⟨rfl, ⟨nd, rfl⟩⟩; refine ⟨_, rfl, ?_⟩) | ((with_reducible refine gate_callee (f := 24) rfl ?_); refine goesL_ (some 70) rfl rfl Try.func24 (by kernel_rfl) rfl #[.slice Ao22 t679.length co22, .int .i64 1] rfl (by (try simp only [List.map_toArray, List.map_cons, List.map_nil]); first | done | (rw [show t679.length = t667.length from (Kd.R_reads' HO_9.out).1.symm] <;> rfl) | rfl | (simp only [List.length_drop, List.length_take]; rfl)) ?_; (with_reducible refine (laws_heldIntS.calls kj14 _ _ t679 1 t688 _ ?side1 ?side2 A39.out).mono ?_); (case side1 => repeat (first | exact (Kd.R_reads' HO_9.out).2.2 | (with_reducible refine Kd.C_alloc ?_ _) | (with_reducible refine Kd.C_drewN ?_ _) | (with_reducible refine Kd.C_drew ?_))); (case side2 => rw [show t679.length = t667.length from (Kd.R_reads' HO_9.out).1.symm]; exact (Kd.R_reads' HO_9.out).2.1); rintro e w' ⟨rfl, ⟨nd, rfl⟩⟩; refine ⟨_, rfl, ?_⟩))
            go_ret
            exact ⟨by first | rfl | (simp [errW_none, errW_some] <;> rfl) | (simp [*, errW_none, errW_some] <;> rfl), (bl HB)⟩
           ·rw [if_neg c46] at H
            have c46b0 : (t688 == t678) = false := beq_eq_false_iff_ne.mpr c46
            have c46b1 : (t688 != t678) = true := bne_iff_ne.mpr c46
            obtain rfl := Option.some.inj H
            go_wp2_with (first | ((with_reducible refine gate_callee (f := 23) rfl ?_); refine gL (some 50) rfl rfl Try.func23 (by kernel_rfl) rfl #[.slice Ao22 t667.length co22, .int .i64 1] rfl ?_; (with_reducible refine (laws_markIntS.calls kj14 (fun k_ => some k_ = (.slice Ao22 t667.length co22 : Value).ownBlock) (.slice Ao22 t667.length co22) t667 1 t678 t679 w _ ?side1 ?side2 A30.out).mono ?_); (case side1 => repeat (first | (with_reducible first | exact HB.out | apply below_alloc | apply pw_below_drewN | apply below_drew1) | exact HB.out)); (case side2 => exact Kd.R_tight rfl HO_9.out); rintro e w52 ⟨rfl, hy0, hb, hkp⟩; refine ⟨_, rfl, ?_⟩; have n0_ := Aside0.mk (Kd.R_mono (ok' := fun k_ => some k_ ≠ (.slice Ao22 t667.length co22 : Value).ownBlock) (Kd.R_keptB (HO_7.out) hkp (fun k_ hk_ hs_ => (hk_) hs_)) (fun k_ hk_ => hk_.1)); have n1_ := Aside0.mk (Kd.R_reok rfl hy0 (fun k_ e_ => HO_9.out.1 k_ e_)); have n2_ := Aside0.mk (hb); clear HO_7; clear HO_9; clear HB; have HO_7 := n0_; have HO_9 := n1_; have HB := n2_; clear n0_ n1_ n2_; (try clear hb); (try clear hkp); (try clear hy0)) | ((with_reducible refine gate_callee (f := 24) rfl ?_); refine goesL_ (some 53) rfl rfl Try.func24 (by kernel_rfl) rfl #[.slice Ao22 t679.length co22, .int .i64 1] rfl (by (try simp only [List.map_toArray, List.map_cons, List.map_nil]); first | done | (rw [show t679.length = t667.length from (Kd.R_reads' HO_9.out).1.symm] <;> rfl) | rfl | (simp only [List.length_drop, List.length_take]; rfl)) ?_; (with_reducible refine (laws_heldIntS.calls kj14 _ _ t679 1 t680 _ ?side1 ?side2 A31.out).mono ?_); (case side1 => repeat (first | exact (Kd.R_reads' HO_9.out).2.2 | (with_reducible refine Kd.C_alloc ?_ _) | (with_reducible refine Kd.C_drewN ?_ _) | (with_reducible refine Kd.C_drew ?_))); (case side2 => rw [show t679.length = t667.length from (Kd.R_reads' HO_9.out).1.symm]; exact (Kd.R_reads' HO_9.out).2.1); rintro e w' ⟨rfl, ⟨nd, rfl⟩⟩; refine ⟨_, rfl, ?_⟩) | ((with_reducible refine gate_callee (f := 16) rfl ?_); refine gL (some 61) rfl rfl Try.func16 (by kernel_rfl) rfl #[.slice A1 l1.length c1] rfl ?_; (with_reducible refine (laws_toIntS.calls kj14 _ _ l1 t681 _ ?side1 ?side2 A35.out).mono ?_); (case side1 => repeat (first | exact (Kd.C_below HR1.out (bl HB)) | (with_reducible refine Kd.C_alloc ?_ _) | (with_reducible refine Kd.C_drewN ?_ _) | (with_reducible refine Kd.C_drew ?_))); (case side2 => exact HC1.out); rintro e w53 ⟨v682, rfl, ho0, hb⟩; refine ⟨_, rfl, ?_⟩; have n0_ := Aside0.mk (Kd.R_elder' (rr HO_7) (Kd.R_base ho0) hb); have n1_ := Aside0.mk (Kd.R_elder' (rr HO_9) (Kd.R_base ho0) hb); have n2_ := Aside0.mk (Kd.R_lower (Kd.R_new' (Kd.R_new' ho0 (Kd.R_lt (rr HO_7))) (Kd.R_lt (rr HO_9))) (below_size (bl HB))); have n3_ := bs HB hb; clear HO_7; clear HO_9; clear HB; have HO_7 := n0_; have HO_9 := n1_; have HO683 := n2_; have HB := n3_; clear n0_ n1_ n2_ n3_; (try clear hb); (try clear hb2); (try clear hk); (try clear hi); (try clear ho0); obtain ⟨Ao54, co54, eo54⟩ := Kd.R_slice HO683.out; subst eo54) | ((with_reducible refine gate_callee (f := 43) rfl ?_); refine gL (some 63) rfl rfl Try.func43 (by kernel_rfl) rfl #[.int .i64 a0, .slice Ao54 t681.length co54, .int .i64 a2] rfl ?_; (with_reducible refine (impl_WalkOf.calls kj14 a0 _ _ t681 a2 t684 _ ?side1 ?side2 A36.out).mono ?_); (case side1 => repeat (first | exact (Kd.R_reads' HO683.out).2.2 | (with_reducible refine Kd.C_alloc ?_ _) | (with_reducible refine Kd.C_drewN ?_ _) | (with_reducible refine Kd.C_drew ?_))); (case side2 => exact (Kd.R_reads' HO683.out).2.1); rintro e w55 ⟨v685, rfl, ho0, hb⟩; refine ⟨_, rfl, ?_⟩; have n0_ := Aside0.mk (Kd.R_elder' (rr HO_7) (Kd.R_base ho0) hb); have n1_ := Aside0.mk (Kd.R_elder' (rr HO_9) (Kd.R_base ho0) hb); have n2_ := Aside0.mk (Kd.R_elder' (rr HO683) (Kd.R_base ho0) hb); have n3_ := Aside0.mk (Kd.R_lower (Kd.R_new' (Kd.R_new' (Kd.R_new' ho0 (Kd.R_lt (rr HO_7))) (Kd.R_lt (rr HO_9))) (Kd.R_lt (rr HO683))) (below_size (bl HB))); have n4_ := bs HB hb; clear HO_7; clear HO_9; clear HO683; clear HB; have HO_7 := n0_; have HO_9 := n1_; have HO683 := n2_; have HO686 := n3_; have HB := n4_; clear n0_ n1_ n2_ n3_ n4_; (try clear hb); (try clear hb2); (try clear hk); (try clear hi); (try clear ho0); obtain ⟨Ao56, co56, eo56⟩ := Kd.R_slice HO686.out; subst eo56) | ((with_reducible refine gate_callee (f := 18) rfl ?_); refine gL (some 66) rfl rfl Try.func18 (by kernel_rfl) rfl #[.slice Ao56 t684.length co56, .slice Ao23 t661.length co23] rfl ?_; (with_reducible refine (laws_eqIntS.calls kj14 _ _ t684 _ _ t661 true _ ?side1 ?side2 ?side3 ?side4 A37.out).mono ?_); (case side1 => repeat (first | exact (Kd.R_reads' HO686.out).2.2 | (with_reducible refine Kd.C_alloc ?_ _) | (with_reducible refine Kd.C_drewN ?_ _) | (with_reducible refine Kd.C_drew ?_))); (case side2 => exact (Kd.R_reads' HO686.out).2.1); (case side3 => repeat (first | exact (Kd.R_reads' HO_7.out).2.2 | (with_reducible refine Kd.C_alloc ?_ _) | (with_reducible refine Kd.C_drewN ?_ _) | (with_reducible refine Kd.C_drew ?_))); (case side4 => exact (Kd.R_reads' HO_7.out).2.1); rintro e w' ⟨rfl, ⟨nd, rfl⟩⟩; refine ⟨_, rfl, ?_⟩) | ((with_reducible refine gate_callee (f := 24) rfl ?_); refine goesL_ (some 70) rfl rfl Try.func24 (by kernel_rfl) rfl #[.slice Ao22 t679.length co22, .int .i64 1] rfl (by (try simp only [List.map_toArray, List.map_cons, List.map_nil]); first | done | (rw [show t679.length = t667.length from (Kd.R_reads' HO_9.out).1.symm] <;> rfl) | rfl | (simp only [List.length_drop, List.length_take]; rfl)) ?_; (with_reducible refine (laws_heldIntS.calls kj14 _ _ t679 1 t688 _ ?side1 ?side2 A39.out).mono ?_); (case side1 => repeat (first | exact (Kd.R_reads' HO_9.out).2.2 | (with_reducible refine Kd.C_alloc ?_ _) | (with_reducible refine Kd.C_drewN ?_ _) | (with_reducible refine Kd.C_drew ?_))); (case side2 => rw [show t679.length = t667.length from (Kd.R_reads' HO_9.out).1.symm]; exact (Kd.R_reads' HO_9.out).2.1); rintro e w' ⟨rfl, ⟨nd, rfl⟩⟩; refine ⟨_, rfl, ?_⟩))
            go_ret
            exact ⟨by first | rfl | (simp [errW_none, errW_some] <;> rfl) | (simp [*, errW_none, errW_some] <;> rfl), (bl HB)⟩
         ·replace c38 := Bool.eq_false_iff.mpr c38
          subst c38
          have H1 : (some false) = some r := by rw [if_neg (show ¬ (false = true) by decide)] at H; exact H
          clear H
          have H := H1
          clear H1
          obtain rfl := Option.some.inj H
          go_wp2_with (first | ((with_reducible refine gate_callee (f := 23) rfl ?_); refine gL (some 50) rfl rfl Try.func23 (by kernel_rfl) rfl #[.slice Ao22 t667.length co22, .int .i64 1] rfl ?_; (with_reducible refine (laws_markIntS.calls kj14 (fun k_ => some k_ = (.slice Ao22 t667.length co22 : Value).ownBlock) (.slice Ao22 t667.length co22) t667 1 t678 t679 w _ ?side1 ?side2 A30.out).mono ?_); (case side1 => repeat (first | (with_reducible first | exact HB.out | apply below_alloc | apply pw_below_drewN | apply below_drew1) | exact HB.out)); (case side2 => exact Kd.R_tight rfl HO_9.out); rintro e w57 ⟨rfl, hy0, hb, hkp⟩; refine ⟨_, rfl, ?_⟩; have n0_ := Aside0.mk (Kd.R_mono (ok' := fun k_ => some k_ ≠ (.slice Ao22 t667.length co22 : Value).ownBlock) (Kd.R_keptB (HO_7.out) hkp (fun k_ hk_ hs_ => (hk_) hs_)) (fun k_ hk_ => hk_.1)); have n1_ := Aside0.mk (Kd.R_reok rfl hy0 (fun k_ e_ => HO_9.out.1 k_ e_)); have n2_ := Aside0.mk (hb); clear HO_7; clear HO_9; clear HB; have HO_7 := n0_; have HO_9 := n1_; have HB := n2_; clear n0_ n1_ n2_; (try clear hb); (try clear hkp); (try clear hy0)) | ((with_reducible refine gate_callee (f := 24) rfl ?_); refine goesL_ (some 53) rfl rfl Try.func24 (by kernel_rfl) rfl #[.slice Ao22 t679.length co22, .int .i64 1] rfl (by (try simp only [List.map_toArray, List.map_cons, List.map_nil]); first | done | (rw [show t679.length = t667.length from (Kd.R_reads' HO_9.out).1.symm] <;> rfl) | rfl | (simp only [List.length_drop, List.length_take]; rfl)) ?_; (with_reducible refine (laws_heldIntS.calls kj14 _ _ t679 1 t680 _ ?side1 ?side2 A31.out).mono ?_); (case side1 => repeat (first | exact (Kd.R_reads' HO_9.out).2.2 | (with_reducible refine Kd.C_alloc ?_ _) | (with_reducible refine Kd.C_drewN ?_ _) | (with_reducible refine Kd.C_drew ?_))); (case side2 => rw [show t679.length = t667.length from (Kd.R_reads' HO_9.out).1.symm]; exact (Kd.R_reads' HO_9.out).2.1); rintro e w' ⟨rfl, ⟨nd, rfl⟩⟩; refine ⟨_, rfl, ?_⟩) | ((with_reducible refine gate_callee (f := 16) rfl ?_); refine gL (some 61) rfl rfl Try.func16 (by kernel_rfl) rfl #[.slice A1 l1.length c1] rfl ?_; (with_reducible refine (laws_toIntS.calls kj14 _ _ l1 t681 _ ?side1 ?side2 A35.out).mono ?_); (case side1 => repeat (first | exact (Kd.C_below HR1.out (bl HB)) | (with_reducible refine Kd.C_alloc ?_ _) | (with_reducible refine Kd.C_drewN ?_ _) | (with_reducible refine Kd.C_drew ?_))); (case side2 => exact HC1.out); rintro e w58 ⟨v682, rfl, ho0, hb⟩; refine ⟨_, rfl, ?_⟩; have n0_ := Aside0.mk (Kd.R_elder' (rr HO_7) (Kd.R_base ho0) hb); have n1_ := Aside0.mk (Kd.R_elder' (rr HO_9) (Kd.R_base ho0) hb); have n2_ := Aside0.mk (Kd.R_lower (Kd.R_new' (Kd.R_new' ho0 (Kd.R_lt (rr HO_7))) (Kd.R_lt (rr HO_9))) (below_size (bl HB))); have n3_ := bs HB hb; clear HO_7; clear HO_9; clear HB; have HO_7 := n0_; have HO_9 := n1_; have HO683 := n2_; have HB := n3_; clear n0_ n1_ n2_ n3_; (try clear hb); (try clear hb2); (try clear hk); (try clear hi); (try clear ho0); obtain ⟨Ao59, co59, eo59⟩ := Kd.R_slice HO683.out; subst eo59) | ((with_reducible refine gate_callee (f := 43) rfl ?_); refine gL (some 63) rfl rfl Try.func43 (by kernel_rfl) rfl #[.int .i64 a0, .slice Ao59 t681.length co59, .int .i64 a2] rfl ?_; (with_reducible refine (impl_WalkOf.calls kj14 a0 _ _ t681 a2 t684 _ ?side1 ?side2 A36.out).mono ?_); (case side1 => repeat (first | exact (Kd.R_reads' HO683.out).2.2 | (with_reducible refine Kd.C_alloc ?_ _) | (with_reducible refine Kd.C_drewN ?_ _) | (with_reducible refine Kd.C_drew ?_))); (case side2 => exact (Kd.R_reads' HO683.out).2.1); rintro e w60 ⟨v685, rfl, ho0, hb⟩; refine ⟨_, rfl, ?_⟩; have n0_ := Aside0.mk (Kd.R_elder' (rr HO_7) (Kd.R_base ho0) hb); have n1_ := Aside0.mk (Kd.R_elder' (rr HO_9) (Kd.R_base ho0) hb); have n2_ := Aside0.mk (Kd.R_elder' (rr HO683) (Kd.R_base ho0) hb); have n3_ := Aside0.mk (Kd.R_lower (Kd.R_new' (Kd.R_new' (Kd.R_new' ho0 (Kd.R_lt (rr HO_7))) (Kd.R_lt (rr HO_9))) (Kd.R_lt (rr HO683))) (below_size (bl HB))); have n4_ := bs HB hb; clear HO_7; clear HO_9; clear HO683; clear HB; have HO_7 := n0_; have HO_9 := n1_; have HO683 := n2_; have HO686 := n3_; have HB := n4_; clear n0_ n1_ n2_ n3_ n4_; (try clear hb); (try clear hb2); (try clear hk); (try clear hi); (try clear ho0); obtain ⟨Ao61, co61, eo61⟩ := Kd.R_slice HO686.out; subst eo61) | ((with_reducible refine gate_callee (f := 18) rfl ?_); refine gL (some 66) rfl rfl Try.func18 (by kernel_rfl) rfl #[.slice Ao61 t684.length co61, .slice Ao23 t661.length co23] rfl ?_; (with_reducible refine (laws_eqIntS.calls kj14 _ _ t684 _ _ t661 false _ ?side1 ?side2 ?side3 ?side4 A37.out).mono ?_); (case side1 => repeat (first | exact (Kd.R_reads' HO686.out).2.2 | (with_reducible refine Kd.C_alloc ?_ _) | (with_reducible refine Kd.C_drewN ?_ _) | (with_reducible refine Kd.C_drew ?_))); (case side2 => exact (Kd.R_reads' HO686.out).2.1); (case side3 => repeat (first | exact (Kd.R_reads' HO_7.out).2.2 | (with_reducible refine Kd.C_alloc ?_ _) | (with_reducible refine Kd.C_drewN ?_ _) | (with_reducible refine Kd.C_drew ?_))); (case side4 => exact (Kd.R_reads' HO_7.out).2.1); rintro e w' ⟨rfl, ⟨nd, rfl⟩⟩; refine ⟨_, rfl, ?_⟩))
          go_ret
          exact ⟨by first | rfl | (simp [errW_none, errW_some] <;> rfl) | (simp [*, errW_none, errW_some] <;> rfl), (bl HB)⟩
        ·rw [if_neg c34] at H
         have c34b0 : (t680 == t678) = false := beq_eq_false_iff_ne.mpr c34
         have c34b1 : (t680 != t678) = true := bne_iff_ne.mpr c34
         obtain rfl := Option.some.inj H
         go_wp2_with (first | ((with_reducible refine gate_callee (f := 23) rfl ?_); refine gL (some 50) rfl rfl Try.func23 (by kernel_rfl) rfl #[.slice Ao22 t667.length co22, .int .i64 1] rfl ?_; (with_reducible refine (laws_markIntS.calls kj14 (fun k_ => some k_ = (.slice Ao22 t667.length co22 : Value).ownBlock) (.slice Ao22 t667.length co22) t667 1 t678 t679 w _ ?side1 ?side2 A30.out).mono ?_); (case side1 => repeat (first | (with_reducible first | exact HB.out | apply below_alloc | apply pw_below_drewN | apply below_drew1) | exact HB.out)); (case side2 => exact Kd.R_tight rfl HO_9.out); rintro e w62 ⟨rfl, hy0, hb, hkp⟩; refine ⟨_, rfl, ?_⟩; have n0_ := Aside0.mk (Kd.R_mono (ok' := fun k_ => some k_ ≠ (.slice Ao22 t667.length co22 : Value).ownBlock) (Kd.R_keptB (HO_7.out) hkp (fun k_ hk_ hs_ => (hk_) hs_)) (fun k_ hk_ => hk_.1)); have n1_ := Aside0.mk (Kd.R_reok rfl hy0 (fun k_ e_ => HO_9.out.1 k_ e_)); have n2_ := Aside0.mk (hb); clear HO_7; clear HO_9; clear HB; have HO_7 := n0_; have HO_9 := n1_; have HB := n2_; clear n0_ n1_ n2_; (try clear hb); (try clear hkp); (try clear hy0)) | ((with_reducible refine gate_callee (f := 24) rfl ?_); refine goesL_ (some 53) rfl rfl Try.func24 (by kernel_rfl) rfl #[.slice Ao22 t679.length co22, .int .i64 1] rfl (by (try simp only [List.map_toArray, List.map_cons, List.map_nil]); first | done | (rw [show t679.length = t667.length from (Kd.R_reads' HO_9.out).1.symm] <;> rfl) | rfl | (simp only [List.length_drop, List.length_take]; rfl)) ?_; (with_reducible refine (laws_heldIntS.calls kj14 _ _ t679 1 t680 _ ?side1 ?side2 A31.out).mono ?_); (case side1 => repeat (first | exact (Kd.R_reads' HO_9.out).2.2 | (with_reducible refine Kd.C_alloc ?_ _) | (with_reducible refine Kd.C_drewN ?_ _) | (with_reducible refine Kd.C_drew ?_))); (case side2 => rw [show t679.length = t667.length from (Kd.R_reads' HO_9.out).1.symm]; exact (Kd.R_reads' HO_9.out).2.1); rintro e w' ⟨rfl, ⟨nd, rfl⟩⟩; refine ⟨_, rfl, ?_⟩))
         go_ret
         exact ⟨by first | rfl | (simp [errW_none, errW_some] <;> rfl) | (simp [*, errW_none, errW_some] <;> rfl), (bl HB)⟩
   ·replace c13 := Bool.eq_false_iff.mpr c13
    subst c13
    have H1 : (some false) = some r := by rw [if_neg (show ¬ (false = true) by decide)] at H; exact H
    clear H
    have H := H1
    clear H1
    obtain rfl := Option.some.inj H
    go_enter Try.func13, Try.ntmps13
    go_wp2_with (first | ((with_reducible refine gate_callee (f := 16) rfl ?_); refine gL (some 19) rfl rfl Try.func16 (by kernel_rfl) rfl #[.slice A1 l1.length c1] rfl ?_; (with_reducible refine (laws_toIntS.calls k _ _ l1 t658 _ ?side1 ?side2 A5.out).mono ?_); (case side1 => repeat (first | exact HR1.out | (with_reducible refine Kd.C_alloc ?_ _) | (with_reducible refine Kd.C_drewN ?_ _) | (with_reducible refine Kd.C_drew ?_))); (case side2 => exact HC1.out); rintro e w63 ⟨v659, rfl, ho0, hb⟩; refine ⟨_, rfl, ?_⟩; have n0_ := Aside0.mk (Kd.R_lower ho0 (below_size (bl HB))); have n1_ := bs HB hb; clear HB; have HO660 := n0_; have HB := n1_; clear n0_ n1_; (try clear hb); (try clear hb2); (try clear hk); (try clear hi); (try clear ho0); obtain ⟨Ao64, co64, eo64⟩ := Kd.R_slice HO660.out; subst eo64) | ((with_reducible refine gate_callee (f := 42) rfl ?_); refine gL (some 21) rfl rfl Try.func42 (by kernel_rfl) rfl #[.int .i64 a0, .slice Ao64 t658.length co64, .int .i64 a2] rfl ?_; (with_reducible refine (spec_WalkOf.calls k a0 _ _ t658 a2 t661 _ ?side1 ?side2 A6.out).mono ?_); (case side1 => repeat (first | exact (Kd.R_reads' HO660.out).2.2 | (with_reducible refine Kd.C_alloc ?_ _) | (with_reducible refine Kd.C_drewN ?_ _) | (with_reducible refine Kd.C_drew ?_))); (case side2 => exact (Kd.R_reads' HO660.out).2.1); rintro e w65 ⟨v662, rfl, ho0, hb⟩; refine ⟨_, rfl, ?_⟩; have n0_ := Aside0.mk (Kd.R_elder' (rr HO660) (Kd.R_base ho0) hb); have n1_ := Aside0.mk (Kd.R_lower (Kd.R_new' ho0 (Kd.R_lt (rr HO660))) (below_size (bl HB))); have n2_ := bs HB hb; clear HO660; clear HB; have HO660 := n0_; have HO663 := n1_; have HB := n2_; clear n0_ n1_ n2_; (try clear hb); (try clear hb2); (try clear hk); (try clear hi); (try clear ho0)) | ((with_reducible refine gate_callee (f := 16) rfl ?_); refine gL (some 23) rfl rfl Try.func16 (by kernel_rfl) rfl #[.slice A1 l1.length c1] rfl ?_; (with_reducible refine (laws_toIntS.calls k _ _ l1 t664 _ ?side1 ?side2 A7.out).mono ?_); (case side1 => repeat (first | exact (Kd.C_below HR1.out HB.out) | (with_reducible refine Kd.C_alloc ?_ _) | (with_reducible refine Kd.C_drewN ?_ _) | (with_reducible refine Kd.C_drew ?_))); (case side2 => exact HC1.out); rintro e w66 ⟨v665, rfl, ho0, hb⟩; refine ⟨_, rfl, ?_⟩; have n0_ := Aside0.mk (Kd.R_elder' (rr HO660) (Kd.R_base ho0) hb); have n1_ := Aside0.mk (Kd.R_elder' (rr HO663) (Kd.R_base ho0) hb); have n2_ := Aside0.mk (Kd.R_lower (Kd.R_new' (Kd.R_new' ho0 (Kd.R_lt (rr HO660))) (Kd.R_lt (rr HO663))) (below_size (bl HB))); have n3_ := bs HB hb; clear HO660; clear HO663; clear HB; have HO660 := n0_; have HO663 := n1_; have HO666 := n2_; have HB := n3_; clear n0_ n1_ n2_ n3_; (try clear hb); (try clear hb2); (try clear hk); (try clear hi); (try clear ho0); obtain ⟨Ao67, co67, eo67⟩ := Kd.R_slice HO666.out; subst eo67) | ((with_reducible refine gate_callee (f := 43) rfl ?_); refine gL (some 27) rfl rfl Try.func43 (by kernel_rfl) rfl #[.int .i64 a0, .slice Ao67 t664.length co67, .int .i64 a2] rfl ?_; (with_reducible refine (impl_WalkOf.calls k a0 _ _ t664 a2 t667 _ ?side1 ?side2 A8.out).mono ?_); (case side1 => repeat (first | exact (Kd.R_reads' HO666.out).2.2 | (with_reducible refine Kd.C_alloc ?_ _) | (with_reducible refine Kd.C_drewN ?_ _) | (with_reducible refine Kd.C_drew ?_))); (case side2 => exact (Kd.R_reads' HO666.out).2.1); rintro e w68 ⟨v668, rfl, ho0, hb⟩; refine ⟨_, rfl, ?_⟩; have n0_ := Aside0.mk (Kd.R_elder' (rr HO660) (Kd.R_base ho0) hb); have n1_ := Aside0.mk (Kd.R_elder' (rr HO663) (Kd.R_base ho0) hb); have n2_ := Aside0.mk (Kd.R_elder' (rr HO666) (Kd.R_base ho0) hb); have n3_ := Aside0.mk (Kd.R_lower (Kd.R_new' (Kd.R_new' (Kd.R_new' ho0 (Kd.R_lt (rr HO660))) (Kd.R_lt (rr HO663))) (Kd.R_lt (rr HO666))) (below_size (bl HB))); have n4_ := bs HB hb; clear HO660; clear HO663; clear HO666; clear HB; have HO660 := n0_; have HO663 := n1_; have HO666 := n2_; have HO669 := n3_; have HB := n4_; clear n0_ n1_ n2_ n3_ n4_; (try clear hb); (try clear hb2); (try clear hk); (try clear hi); (try clear ho0); obtain ⟨Ao69, co69, eo69⟩ := Kd.R_slice HO669.out; subst eo69; obtain ⟨Ao70, co70, eo70⟩ := Kd.R_slice HO663.out; subst eo70) | ((with_reducible refine gate_callee (f := 18) rfl ?_); refine gL (some 30) rfl rfl Try.func18 (by kernel_rfl) rfl #[.slice Ao69 t667.length co69, .slice Ao70 t661.length co70] rfl ?_; (with_reducible refine (laws_eqIntS.calls k _ _ t667 _ _ t661 true _ ?side1 ?side2 ?side3 ?side4 A9.out).mono ?_); (case side1 => repeat (first | exact (Kd.R_reads' HO669.out).2.2 | (with_reducible refine Kd.C_alloc ?_ _) | (with_reducible refine Kd.C_drewN ?_ _) | (with_reducible refine Kd.C_drew ?_))); (case side2 => exact (Kd.R_reads' HO669.out).2.1); (case side3 => repeat (first | exact (Kd.R_reads' HO663.out).2.2 | (with_reducible refine Kd.C_alloc ?_ _) | (with_reducible refine Kd.C_drewN ?_ _) | (with_reducible refine Kd.C_drew ?_))); (case side4 => exact (Kd.R_reads' HO663.out).2.1); rintro e w' ⟨rfl, ⟨nd, rfl⟩⟩; refine ⟨_, rfl, ?_⟩) | ((with_reducible refine gate_callee (f := 16) rfl ?_); refine gL (some 34) rfl rfl Try.func16 (by kernel_rfl) rfl #[.slice A1 l1.length c1] rfl ?_; (with_reducible refine (laws_toIntS.calls k _ _ l1 t671 _ ?side1 ?side2 A11.out).mono ?_); (case side1 => repeat (first | exact (Kd.C_below HR1.out (bl HB)) | (with_reducible refine Kd.C_alloc ?_ _) | (with_reducible refine Kd.C_drewN ?_ _) | (with_reducible refine Kd.C_drew ?_))); (case side2 => exact HC1.out); rintro e w71 ⟨v672, rfl, ho0, hb⟩; refine ⟨_, rfl, ?_⟩; have n0_ := Aside0.mk (Kd.R_elder' (rr HO660) (Kd.R_base ho0) hb); have n1_ := Aside0.mk (Kd.R_elder' (rr HO663) (Kd.R_base ho0) hb); have n2_ := Aside0.mk (Kd.R_elder' (rr HO666) (Kd.R_base ho0) hb); have n3_ := Aside0.mk (Kd.R_elder' (rr HO669) (Kd.R_base ho0) hb); have n4_ := Aside0.mk (Kd.R_lower (Kd.R_new' (Kd.R_new' (Kd.R_new' (Kd.R_new' ho0 (Kd.R_lt (rr HO660))) (Kd.R_lt (rr HO663))) (Kd.R_lt (rr HO666))) (Kd.R_lt (rr HO669))) (below_size (bl HB))); have n5_ := bs HB hb; clear HO660; clear HO663; clear HO666; clear HO669; clear HB; have HO660 := n0_; have HO663 := n1_; have HO666 := n2_; have HO669 := n3_; have HO673 := n4_; have HB := n5_; clear n0_ n1_ n2_ n3_ n4_ n5_; (try clear hb); (try clear hb2); (try clear hk); (try clear hi); (try clear ho0); obtain ⟨Ao72, co72, eo72⟩ := Kd.R_slice HO673.out; subst eo72) | ((with_reducible refine gate_callee (f := 18) rfl ?_); refine gL (some 35) rfl rfl Try.func18 (by kernel_rfl) rfl #[.slice Ao67 t664.length co67, .slice Ao72 t671.length co72] rfl ?_; (with_reducible refine (laws_eqIntS.calls k _ _ t664 _ _ t671 false _ ?side1 ?side2 ?side3 ?side4 A12.out).mono ?_); (case side1 => repeat (first | exact (Kd.R_reads' HO666.out).2.2 | (with_reducible refine Kd.C_alloc ?_ _) | (with_reducible refine Kd.C_drewN ?_ _) | (with_reducible refine Kd.C_drew ?_))); (case side2 => exact (Kd.R_reads' HO666.out).2.1); (case side3 => repeat (first | exact (Kd.R_reads' HO673.out).2.2 | (with_reducible refine Kd.C_alloc ?_ _) | (with_reducible refine Kd.C_drewN ?_ _) | (with_reducible refine Kd.C_drew ?_))); (case side4 => exact (Kd.R_reads' HO673.out).2.1); rintro e w' ⟨rfl, ⟨nd, rfl⟩⟩; refine ⟨_, rfl, ?_⟩))
    go_ret
    exact ⟨by first | rfl | (simp [errW_none, errW_some] <;> rfl) | (simp [*, errW_none, errW_some] <;> rfl), (bl HB)⟩
  ·replace c10 := Bool.eq_false_iff.mpr c10
   subst c10
   have H1 : (some false) = some r := by rw [if_neg (show ¬ (false = true) by decide)] at H; exact H
   clear H
   have H := H1
   clear H1
   obtain rfl := Option.some.inj H
   go_enter Try.func13, Try.ntmps13
   go_wp2_with (first | ((with_reducible refine gate_callee (f := 16) rfl ?_); refine gL (some 19) rfl rfl Try.func16 (by kernel_rfl) rfl #[.slice A1 l1.length c1] rfl ?_; (with_reducible refine (laws_toIntS.calls k _ _ l1 t658 _ ?side1 ?side2 A5.out).mono ?_); (case side1 => repeat (first | exact HR1.out | (with_reducible refine Kd.C_alloc ?_ _) | (with_reducible refine Kd.C_drewN ?_ _) | (with_reducible refine Kd.C_drew ?_))); (case side2 => exact HC1.out); rintro e w73 ⟨v659, rfl, ho0, hb⟩; refine ⟨_, rfl, ?_⟩; have n0_ := Aside0.mk (Kd.R_lower ho0 (below_size (bl HB))); have n1_ := bs HB hb; clear HB; have HO660 := n0_; have HB := n1_; clear n0_ n1_; (try clear hb); (try clear hb2); (try clear hk); (try clear hi); (try clear ho0); obtain ⟨Ao74, co74, eo74⟩ := Kd.R_slice HO660.out; subst eo74) | ((with_reducible refine gate_callee (f := 42) rfl ?_); refine gL (some 21) rfl rfl Try.func42 (by kernel_rfl) rfl #[.int .i64 a0, .slice Ao74 t658.length co74, .int .i64 a2] rfl ?_; (with_reducible refine (spec_WalkOf.calls k a0 _ _ t658 a2 t661 _ ?side1 ?side2 A6.out).mono ?_); (case side1 => repeat (first | exact (Kd.R_reads' HO660.out).2.2 | (with_reducible refine Kd.C_alloc ?_ _) | (with_reducible refine Kd.C_drewN ?_ _) | (with_reducible refine Kd.C_drew ?_))); (case side2 => exact (Kd.R_reads' HO660.out).2.1); rintro e w75 ⟨v662, rfl, ho0, hb⟩; refine ⟨_, rfl, ?_⟩; have n0_ := Aside0.mk (Kd.R_elder' (rr HO660) (Kd.R_base ho0) hb); have n1_ := Aside0.mk (Kd.R_lower (Kd.R_new' ho0 (Kd.R_lt (rr HO660))) (below_size (bl HB))); have n2_ := bs HB hb; clear HO660; clear HB; have HO660 := n0_; have HO663 := n1_; have HB := n2_; clear n0_ n1_ n2_; (try clear hb); (try clear hb2); (try clear hk); (try clear hi); (try clear ho0)) | ((with_reducible refine gate_callee (f := 16) rfl ?_); refine gL (some 23) rfl rfl Try.func16 (by kernel_rfl) rfl #[.slice A1 l1.length c1] rfl ?_; (with_reducible refine (laws_toIntS.calls k _ _ l1 t664 _ ?side1 ?side2 A7.out).mono ?_); (case side1 => repeat (first | exact (Kd.C_below HR1.out HB.out) | (with_reducible refine Kd.C_alloc ?_ _) | (with_reducible refine Kd.C_drewN ?_ _) | (with_reducible refine Kd.C_drew ?_))); (case side2 => exact HC1.out); rintro e w76 ⟨v665, rfl, ho0, hb⟩; refine ⟨_, rfl, ?_⟩; have n0_ := Aside0.mk (Kd.R_elder' (rr HO660) (Kd.R_base ho0) hb); have n1_ := Aside0.mk (Kd.R_elder' (rr HO663) (Kd.R_base ho0) hb); have n2_ := Aside0.mk (Kd.R_lower (Kd.R_new' (Kd.R_new' ho0 (Kd.R_lt (rr HO660))) (Kd.R_lt (rr HO663))) (below_size (bl HB))); have n3_ := bs HB hb; clear HO660; clear HO663; clear HB; have HO660 := n0_; have HO663 := n1_; have HO666 := n2_; have HB := n3_; clear n0_ n1_ n2_ n3_; (try clear hb); (try clear hb2); (try clear hk); (try clear hi); (try clear ho0); obtain ⟨Ao77, co77, eo77⟩ := Kd.R_slice HO666.out; subst eo77) | ((with_reducible refine gate_callee (f := 43) rfl ?_); refine gL (some 27) rfl rfl Try.func43 (by kernel_rfl) rfl #[.int .i64 a0, .slice Ao77 t664.length co77, .int .i64 a2] rfl ?_; (with_reducible refine (impl_WalkOf.calls k a0 _ _ t664 a2 t667 _ ?side1 ?side2 A8.out).mono ?_); (case side1 => repeat (first | exact (Kd.R_reads' HO666.out).2.2 | (with_reducible refine Kd.C_alloc ?_ _) | (with_reducible refine Kd.C_drewN ?_ _) | (with_reducible refine Kd.C_drew ?_))); (case side2 => exact (Kd.R_reads' HO666.out).2.1); rintro e w78 ⟨v668, rfl, ho0, hb⟩; refine ⟨_, rfl, ?_⟩; have n0_ := Aside0.mk (Kd.R_elder' (rr HO660) (Kd.R_base ho0) hb); have n1_ := Aside0.mk (Kd.R_elder' (rr HO663) (Kd.R_base ho0) hb); have n2_ := Aside0.mk (Kd.R_elder' (rr HO666) (Kd.R_base ho0) hb); have n3_ := Aside0.mk (Kd.R_lower (Kd.R_new' (Kd.R_new' (Kd.R_new' ho0 (Kd.R_lt (rr HO660))) (Kd.R_lt (rr HO663))) (Kd.R_lt (rr HO666))) (below_size (bl HB))); have n4_ := bs HB hb; clear HO660; clear HO663; clear HO666; clear HB; have HO660 := n0_; have HO663 := n1_; have HO666 := n2_; have HO669 := n3_; have HB := n4_; clear n0_ n1_ n2_ n3_ n4_; (try clear hb); (try clear hb2); (try clear hk); (try clear hi); (try clear ho0); obtain ⟨Ao79, co79, eo79⟩ := Kd.R_slice HO669.out; subst eo79; obtain ⟨Ao80, co80, eo80⟩ := Kd.R_slice HO663.out; subst eo80) | ((with_reducible refine gate_callee (f := 18) rfl ?_); refine gL (some 30) rfl rfl Try.func18 (by kernel_rfl) rfl #[.slice Ao79 t667.length co79, .slice Ao80 t661.length co80] rfl ?_; (with_reducible refine (laws_eqIntS.calls k _ _ t667 _ _ t661 false _ ?side1 ?side2 ?side3 ?side4 A9.out).mono ?_); (case side1 => repeat (first | exact (Kd.R_reads' HO669.out).2.2 | (with_reducible refine Kd.C_alloc ?_ _) | (with_reducible refine Kd.C_drewN ?_ _) | (with_reducible refine Kd.C_drew ?_))); (case side2 => exact (Kd.R_reads' HO669.out).2.1); (case side3 => repeat (first | exact (Kd.R_reads' HO663.out).2.2 | (with_reducible refine Kd.C_alloc ?_ _) | (with_reducible refine Kd.C_drewN ?_ _) | (with_reducible refine Kd.C_drew ?_))); (case side4 => exact (Kd.R_reads' HO663.out).2.1); rintro e w' ⟨rfl, ⟨nd, rfl⟩⟩; refine ⟨_, rfl, ?_⟩))
   go_ret
   exact ⟨by first | rfl | (simp [errW_none, errW_some] <;> rfl) | (simp [*, errW_none, errW_some] <;> rfl), (bl HB)⟩

/-- THE ONE PURE STATEMENT of laws_FnExactWalkOf: yours. -/
def laws_FnExactWalkOf.Pure : Prop := ∀ (a0 : Int) (l1 : List Int) (a2 : Int), (Lit.int .i64 a0).wf = true → l1.length ≤ maxLen → l1.length * 8 ≤ 140737488351232 → (∀ x ∈ l1, (Lit.int .i64 x).wf = true) → (Lit.int .i64 a2).wf = true → ∃ k, laws_FnExactWalkOf.f k a0 l1 a2 = some true
theorem laws_FnExactWalkOf.walk (P : laws_FnExactWalkOf.Pure) (a0 : Int) (a1 : Option Addr) (len1 cap1 : Nat) (z1 : List Int) (a2 : Int) (w : World) (w0 : (Lit.int .i64 a0).wf = true) (w1 : (a1 = none ∧ len1 = 0 ∧ cap1 = 0 ∧ z1 = []) ∨ ∃ x, a1 = some x ∧ len1 ≤ cap1 ∧ cap1 ≤ maxLen ∧ z1.length = cap1 ∧ (∀ i, i < z1.length → w.cell? (x.add i) = some (.int .i64 (z1.getD i 0))) ∧ ∀ n ∈ z1, (Lit.int .i64 n).wf = true) (y1 : len1 * 8 ≤ 140737488351232) (w2 : (Lit.int .i64 a2).wf = true) :
  Calls Try.prog 13 #[.int .i64 a0, .slice a1 len1 cap1, .int .i64 a2] w fun e w' => e = .returned (.bool true) ∧ Below w.heap.size w w' := by
 obtain ⟨l1, rfl, hr1, hm1, hw1, hc1⟩ := ReadsInt.ofRowC w1
 obtain ⟨k, h⟩ := P a0 l1 a2 w0 hm1 y1 hw1 w2
 refine (laws_FnExactWalkOf.calls k a0 _ _ l1 a2 true w (Kd.C_of_reads (d := (0 : Int)) (h1 := fun _ => rfl) hr1) hc1 h).mono ?_
 rintro e w' ⟨rfl, hd⟩
 exact ⟨rfl, hd⟩

end Go.Proofs.Ytdjaiedfcmjblaa.P
