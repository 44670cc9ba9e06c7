-- Printed by a program of this session (wip/tools/myprint.py, over the kit's print.py); not trusted: Lean checks it.
import Derived.Test.YtdjaiedfcmjblaaWAll2
import Derived.Test.YtdjaiedfcmjblaaP0
import Derived.Test.YtdjaiedfcmjblaaOSwap
import Derived.Test.YtdjaiedfcmjblaaP48
import Derived.Test.YtdjaiedfcmjblaaP64
namespace Go.Proofs.Ytdjaiedfcmjblaa.P
open Go.RowKit Go.Proofs.YtdjaiedfcmjblaaW.PrintWords Go.Proofs.YtdjaiedfcmjblaaW.PrintLast Go.Proofs.YtdjaiedfcmjblaaW.PrintMore
attribute [local go_sem] max2_int min2_int max_two min_two max_three min_three max_four min_four   -- for this text's walks alone
set_option linter.unusedVariables false
set_option linter.unusedSimpArgs false

/-! ### spec_WiringFrom: function 45 -/
mutual
def spec_WiringFrom.j0 : Nat → Int → List (List Int) → Bool → Option (List Int × Bool)
 | 0, _, _, _ => none
 | k + 1, x0, x1, x22 => if x22 = true then (some ((([] : List Int)), false)) else ((spec_l12Start.f k x0).bind fun t699 => (spec_WiringFrom.l0 k x0 x1 (([] : List Int)) t699 0))
def spec_WiringFrom.l0 : Nat → Int → List (List Int) → List Int → List Int → Int → Option (List Int × Bool)
 | 0, _, _, _, _, _ => none
 | k + 1, x0, x1, x6, x7, x8 => if x8 < (x1.length : Int) then (if 0 ≤ x8 then (if ((rd_L1 x1 x8).length : Int) = 2 then (if 0 < ((rd_L1 x1 x8).length : Int) then (if 1 < ((rd_L1 x1 x8).length : Int) then (spec_WiringFrom.j2 k x0 x1 x6 x7 x8 (decide ((rd (rd_L1 x1 x8) 0) ≥ (rd (rd_L1 x1 x8) 1)))) else (none)) else (none)) else (spec_WiringFrom.j2 k x0 x1 x6 x7 x8 true)) else (none)) else (some (x6, true))
def spec_WiringFrom.j2 : Nat → Int → List (List Int) → List Int → List Int → Int → Bool → Option (List Int × Bool)
 | 0, _, _, _, _, _, _ => none
 | k + 1, x0, x1, x6, x7, x8, x53 => if x53 = true then (some ((([] : List Int)), false)) else (if 0 ≤ x8 then (if x8 < (x1.length : Int) then (if 0 < ((rd_L1 x1 x8).length : Int) then ((spec_l12Place.f k x7 (rd (rd_L1 x1 x8) 0)).bind fun t712 => (if t712 < 0 then (some ((([] : List Int)), false)) else (if (wrap64 (t712 + 1)) ≥ x0 then (some ((([] : List Int)), false)) else (if 0 ≤ (wrap64 (t712 + 1)) then (if (wrap64 (t712 + 1)) < (x7.length : Int) then (if 1 < ((rd_L1 x1 x8).length : Int) then (if (rd x7 (wrap64 (t712 + 1))) = (rd (rd_L1 x1 x8) 1) then ((spec_l12Swap.f x7 t712).bind fun bt722 => (if x6.length < 17592186044416 then (spec_WiringFrom.l0 k x0 x1 (x6 ++ [t712]) bt722.2 (wrap64 (x8 + 1))) else (none))) else (some ((([] : List Int)), false))) else (none)) else (none)) else (none))))) else (none)) else (none)) else (none))
end
def spec_WiringFrom.f (k : Nat) (a0 : Int) (l1 : List (List Int)) : Option (List Int × Bool) := (spec_l1In.f a0 3 6).bind fun t692 => (if t692 = true then (spec_WiringFrom.j0 k a0 l1 ((l1.length : Int) != (wrap64 (Int.tdiv (wrap64 (a0 * (wrap64 (a0 - 1)))) 2)))) else (spec_WiringFrom.j0 k a0 l1 true))
theorem spec_WiringFrom.mono_l : ∀ k, (∀ y0 y1 y2, LeO (spec_WiringFrom.j0 k y0 y1 y2) (spec_WiringFrom.j0 (k + 1) y0 y1 y2)) ∧ (∀ y0 y1 y2 y3 y4, LeO (spec_WiringFrom.l0 k y0 y1 y2 y3 y4) (spec_WiringFrom.l0 (k + 1) y0 y1 y2 y3 y4)) ∧ (∀ y0 y1 y2 y3 y4 y5, LeO (spec_WiringFrom.j2 k y0 y1 y2 y3 y4 y5) (spec_WiringFrom.j2 (k + 1) y0 y1 y2 y3 y4 y5))
 | 0 => ⟨fun _ _ _ r h => by simp [spec_WiringFrom.j0] at h, fun _ _ _ _ _ r h => by simp [spec_WiringFrom.l0] at h, fun _ _ _ _ _ _ r h => by simp [spec_WiringFrom.j2] at h⟩
 | k + 1 => by
  obtain ⟨ih0, ih1, ih2⟩ := spec_WiringFrom.mono_l k
  refine ⟨?_, ?_, ?_⟩
  ·intro y0 y1 y2
   unfold spec_WiringFrom.j0
   repeat' first
   | (with_reducible exact ih0 _ _ _)
   | (with_reducible exact ih1 _ _ _ _ _)
   | (with_reducible exact ih2 _ _ _ _ _ _)
   | (with_reducible exact spec_l12Place.mono _ _ _)
   | (with_reducible exact spec_l12Start.mono _ _)
   | (with_reducible exact LeO.refl _)
   | (with_reducible exact LeO.none _)
   | (with_reducible refine LeO.ite ?_ ?_)
   | (with_reducible refine LeO.bind ?_ (fun _ => ?_))
   | exact ih0 _ _ _
   | exact ih1 _ _ _ _ _
   | exact ih2 _ _ _ _ _ _
   | exact spec_l12Place.mono _ _ _
   | exact spec_l12Start.mono _ _
   | exact LeO.none _
   | refine LeO.ite ?_ ?_
   | refine LeO.bind ?_ (fun _ => ?_)
  ·intro y0 y1 y2 y3 y4
   unfold spec_WiringFrom.l0
   repeat' first
   | (with_reducible exact ih0 _ _ _)
   | (with_reducible exact ih1 _ _ _ _ _)
   | (with_reducible exact ih2 _ _ _ _ _ _)
   | (with_reducible exact spec_l12Place.mono _ _ _)
   | (with_reducible exact spec_l12Start.mono _ _)
   | (with_reducible exact LeO.refl _)
   | (with_reducible exact LeO.none _)
   | (with_reducible refine LeO.ite ?_ ?_)
   | (with_reducible refine LeO.bind ?_ (fun _ => ?_))
   | exact ih0 _ _ _
   | exact ih1 _ _ _ _ _
   | exact ih2 _ _ _ _ _ _
   | exact spec_l12Place.mono _ _ _
   | exact spec_l12Start.mono _ _
   | exact LeO.none _
   | refine LeO.ite ?_ ?_
   | refine LeO.bind ?_ (fun _ => ?_)
  ·intro y0 y1 y2 y3 y4 y5
   unfold spec_WiringFrom.j2
   repeat' first
   | (with_reducible exact ih0 _ _ _)
   | (with_reducible exact ih1 _ _ _ _ _)
   | (with_reducible exact ih2 _ _ _ _ _ _)
   | (with_reducible exact spec_l12Place.mono _ _ _)
   | (with_reducible exact spec_l12Start.mono _ _)
   | (with_reducible exact LeO.refl _)
   | (with_reducible exact LeO.none _)
   | (with_reducible refine LeO.ite ?_ ?_)
   | (with_reducible refine LeO.bind ?_ (fun _ => ?_))
   | exact ih0 _ _ _
   | exact ih1 _ _ _ _ _
   | exact ih2 _ _ _ _ _ _
   | exact spec_l12Place.mono _ _ _
   | exact spec_l12Start.mono _ _
   | exact LeO.none _
   | refine LeO.ite ?_ ?_
   | refine LeO.bind ?_ (fun _ => ?_)
theorem spec_WiringFrom.mono : ∀ a0 a1 k, LeO (spec_WiringFrom.f k a0 a1) (spec_WiringFrom.f (k + 1) a0 a1) := by
 intro a0 a1 k
 obtain ⟨ih0, ih1, ih2⟩ := spec_WiringFrom.mono_l k
 unfold spec_WiringFrom.f
 repeat' first
   | (with_reducible exact ih0 _ _ _)
   | (with_reducible exact ih1 _ _ _ _ _)
   | (with_reducible exact ih2 _ _ _ _ _ _)
   | (with_reducible exact spec_l12Place.mono _ _ _)
   | (with_reducible exact spec_l12Start.mono _ _)
   | (with_reducible exact LeO.refl _)
   | (with_reducible exact LeO.none _)
   | (with_reducible refine LeO.ite ?_ ?_)
   | (with_reducible refine LeO.bind ?_ (fun _ => ?_))
   | exact ih0 _ _ _
   | exact ih1 _ _ _ _ _
   | exact ih2 _ _ _ _ _ _
   | exact spec_l12Place.mono _ _ _
   | exact spec_l12Start.mono _ _
   | exact LeO.none _
   | refine LeO.ite ?_ ?_
   | refine LeO.bind ?_ (fun _ => ?_)
set_option maxHeartbeats 8000000 in
set_option maxRecDepth 100000 in
theorem spec_WiringFrom.calls (k : Nat) (a0 : Int) (A1 : Option Addr) (c1 : Nat) (l1 : List (List Int)) (r1 : List Int) (r2 : Bool) (w : World) (hr1 : Kd.C (Kd.slice 3 (Kd.int .i64)) w A1 l1.length l1) (hc1 : l1.length ≤ c1) (h : spec_WiringFrom.f k a0 l1 = some (r1, r2)) :
  Calls Try.prog 45 #[.int .i64 a0, .slice A1 l1.length c1] w fun e w' => ∃ v0_ : Value, e = .returned (.tuple #[v0_, .bool r2]) ∧ Kd.R (Kd.int .i64) 3 w' w.heap.size (fun _ => True) v0_ r1 ∧ Below w.heap.size w w' := by
 have HR1 := Aside0.mk hr1
 have HC1 := Aside0.mk hc1
 clear hr1 hc1
 have HB := Aside0.mk (Below.refl w.heap.size w)
 have H : ((spec_l1In.f a0 3 6).bind fun t692 => (if t692 = true then (spec_WiringFrom.j0 k a0 l1 ((l1.length : Int) != (wrap64 (Int.tdiv (wrap64 (a0 * (wrap64 (a0 - 1)))) 2)))) else (spec_WiringFrom.j0 k a0 l1 true))) = some (r1, r2) := h
 clear h
 have HC3 := Aside0.mk H
 clear H
 go_enter Try.func45, Try.ntmps45
 go_upto_region 1 with (fail)
 repeat (go_quiet (fail); go_upto_region 1 with (fail))
 go_cut [22] (fun v22 wc => ∃ (kq : Nat) (x22_2 : Bool), v22 = .bool x22_2 ∧ Aside0 (spec_WiringFrom.j0 kq a0 l1 x22_2 = some (r1, r2)) ∧ Aside0 (kq ≤ k) ∧ Aside0 (Below w.heap.size w wc))
 case first =>
  have H := HC3.out
  clear HC3
  replace H := Option.bind_eq_some_iff.mp H
  obtain ⟨t692, A40, H⟩ := H
  (try dsimp only at H)
  have A4 := Aside0.mk A40
  clear A40
  by_cases c5 : t692 = true
  ·subst c5
   have H1 : (spec_WiringFrom.j0 k a0 l1 ((l1.length : Int) != (wrap64 (Int.tdiv (wrap64 (a0 * (wrap64 (a0 - 1)))) 2)))) = some (r1, r2) := by rw [if_pos rfl] at H; exact H
   clear H
   have H := H1
   clear H1
   have H' := Aside0.mk H
   clear H
   go_wp2_with (first | (go_at_call 48; (with_reducible refine (spec_l1In.calls a0 3 6 true _ A4.out).mono ?_); rintro e w' ⟨rfl, ⟨nd, rfl⟩⟩; (try first | exact ⟨rfl, _, World.drewN_drewN _ _ _⟩ | exact ⟨rfl, _, Eq.trans (World.drewN_drewN _ _ _) (congrArg (World.drewN _) (Nat.add_assoc _ _ _))⟩)))
   repeat (go_quiet (first | (go_at_call 48; (with_reducible refine (spec_l1In.calls a0 3 6 true _ A4.out).mono ?_); rintro e w' ⟨rfl, ⟨nd, rfl⟩⟩; (try first | exact ⟨rfl, _, World.drewN_drewN _ _ _⟩ | exact ⟨rfl, _, Eq.trans (World.drewN_drewN _ _ _) (congrArg (World.drewN _) (Nat.add_assoc _ _ _))⟩))); try go_wp2_with (first | (go_at_call 48; (with_reducible refine (spec_l1In.calls a0 3 6 true _ A4.out).mono ?_); rintro e w' ⟨rfl, ⟨nd, rfl⟩⟩; (try first | exact ⟨rfl, _, World.drewN_drewN _ _ _⟩ | exact ⟨rfl, _, Eq.trans (World.drewN_drewN _ _ _) (congrArg (World.drewN _) (Nat.add_assoc _ _ _))⟩))))
   go_meet
   case rel => exact ⟨_, (((l1.length : Int) != (wrap64 (Int.tdiv (wrap64 (a0 * (wrap64 (a0 - 1)))) 2)))), (by first | rfl | (simp; done) | (simp [*]; done)), H', ⟨by first | omega | exact Nat.le_refl _⟩, ⟨(bl HB)⟩⟩
  ·replace c5 := Bool.eq_false_iff.mpr c5
   subst c5
   have H1 : (spec_WiringFrom.j0 k a0 l1 true) = some (r1, r2) := by rw [if_neg (show ¬ (false = true) by decide)] at H; exact H
   clear H
   have H := H1
   clear H1
   have H' := Aside0.mk H
   clear H
   go_wp2_with (first | (go_at_call 48; (with_reducible refine (spec_l1In.calls a0 3 6 false _ A4.out).mono ?_); rintro e w' ⟨rfl, ⟨nd, rfl⟩⟩; (try first | exact ⟨rfl, _, World.drewN_drewN _ _ _⟩ | exact ⟨rfl, _, Eq.trans (World.drewN_drewN _ _ _) (congrArg (World.drewN _) (Nat.add_assoc _ _ _))⟩)))
   repeat (go_quiet (first | (go_at_call 48; (with_reducible refine (spec_l1In.calls a0 3 6 false _ A4.out).mono ?_); rintro e w' ⟨rfl, ⟨nd, rfl⟩⟩; (try first | exact ⟨rfl, _, World.drewN_drewN _ _ _⟩ | exact ⟨rfl, _, Eq.trans (World.drewN_drewN _ _ _) (congrArg (World.drewN _) (Nat.add_assoc _ _ _))⟩))); try go_wp2_with (first | (go_at_call 48; (with_reducible refine (spec_l1In.calls a0 3 6 false _ A4.out).mono ?_); rintro e w' ⟨rfl, ⟨nd, rfl⟩⟩; (try first | exact ⟨rfl, _, World.drewN_drewN _ _ _⟩ | exact ⟨rfl, _, Eq.trans (World.drewN_drewN _ _ _) (congrArg (World.drewN _) (Nat.add_assoc _ _ _))⟩))))
   go_meet
   case rel => exact ⟨_, (true), (by first | rfl | (simp; done) | (simp [*]; done)), H', ⟨by first | omega | exact Nat.le_refl _⟩, ⟨(bl HB)⟩⟩
 case rest =>
  clear HC3
  try clear c1
  try clear p2
  try clear c4
  try clear c5
  obtain ⟨kq, x22_2, rfl, HA, HJ2, HB⟩ := hcut
  cases kq with
  | zero => exact absurd HA.out (by simp [spec_WiringFrom.j0])
  | succ kj2 =>
   have H := HA.out
   clear HA
   simp only [spec_WiringFrom.j0] at H
   by_cases c6 : x22_2 = true
   ·subst c6
    have H1 : (some ((([] : List Int)), false)) = some (r1, r2) := by rw [if_pos rfl] at H; exact H
    clear H
    have H := H1
    clear H1
    obtain ⟨y693, hy693⟩ : ∃ y_ : List Int, y_ = (([] : List Int)) := ⟨_, rfl⟩
    replace H : (some (y693, false)) = some (r1, r2) := by first | (rw [hy693]; with_reducible exact H) | (have H2_ := (Option.bind_some _ _).symm.trans H; rw [hy693]; with_reducible exact H2_) | (have H2_ := (Option.bind_some _ _).symm.trans H; with_reducible exact H2_) | with_reducible exact H | (rw [hy693]; exact H) | exact H
    have Ny693 := Aside0.mk hy693
    clear hy693
    simp only [Option.some.injEq, Prod.mk.injEq] at H
    obtain ⟨rfl, rfl⟩ := H
    go_wp2_with (first | ((with_reducible refine gate_dst (N := 23) rfl ?_); (try (refine gate_guard (by rfl) ?_; dsimp only)); refine Kd.R_lit (Kd.int .i64) _ 3 ?hg (N := 23) ?hd (xs := ([] : List Int)) (inner := []) (ok := fun _ => True) (okp := fun _ => True) ?hr ?hp (fun _ hk => hk) trivial (Below.refl _ _) (Nat.le_refl _) (by simp) ?_; (case hd => rfl); (case hg => rfl); (case hr => first | (go_simp; done) | (go_simp; rfl)); (case hp => exact (Reps.none _ _)); intro v694 w7 ho8 hb hg_ hnew_; clear hg_ hnew_; (first | rw [← Ny693.out] at ho8 | (simp only [Int.reduceToNat] at ho8; rw [← Ny693.out] at ho8)); have n0_ := Aside0.mk (Kd.R_lower ho8 (below_size (bl HB))); have n1_ := bs HB hb; clear HB; have HO695 := n0_; have HB := n1_; clear n0_ n1_; clear hb ho8))
    repeat (go_quiet (first | ((with_reducible refine gate_dst (N := 23) rfl ?_); (try (refine gate_guard (by rfl) ?_; dsimp only)); refine Kd.R_lit (Kd.int .i64) _ 3 ?hg (N := 23) ?hd (xs := ([] : List Int)) (inner := []) (ok := fun _ => True) (okp := fun _ => True) ?hr ?hp (fun _ hk => hk) trivial (Below.refl _ _) (Nat.le_refl _) (by simp) ?_; (case hd => rfl); (case hg => rfl); (case hr => first | (go_simp; done) | (go_simp; rfl)); (case hp => exact (Reps.none _ _)); intro v694 w7 ho8 hb hg_ hnew_; clear hg_ hnew_; (first | rw [← Ny693.out] at ho8 | (simp only [Int.reduceToNat] at ho8; rw [← Ny693.out] at ho8)); have n0_ := Aside0.mk (Kd.R_lower ho8 (below_size (bl HB))); have n1_ := bs HB hb; clear HB; have HO695 := n0_; have HB := n1_; clear n0_ n1_; clear hb ho8)); try go_wp2_with (first | ((with_reducible refine gate_dst (N := 23) rfl ?_); (try (refine gate_guard (by rfl) ?_; dsimp only)); refine Kd.R_lit (Kd.int .i64) _ 3 ?hg (N := 23) ?hd (xs := ([] : List Int)) (inner := []) (ok := fun _ => True) (okp := fun _ => True) ?hr ?hp (fun _ hk => hk) trivial (Below.refl _ _) (Nat.le_refl _) (by simp) ?_; (case hd => rfl); (case hg => rfl); (case hr => first | (go_simp; done) | (go_simp; rfl)); (case hp => exact (Reps.none _ _)); intro v694 w7 ho8 hb hg_ hnew_; clear hg_ hnew_; (first | rw [← Ny693.out] at ho8 | (simp only [Int.reduceToNat] at ho8; rw [← Ny693.out] at ho8)); have n0_ := Aside0.mk (Kd.R_lower ho8 (below_size (bl HB))); have n1_ := bs HB hb; clear HB; have HO695 := n0_; have HB := n1_; clear n0_ n1_; clear hb ho8)))
    go_ret2
    exact ⟨_, by first | rfl | (simp [errW_none, errW_some] <;> rfl) | (simp [*, errW_none, errW_some] <;> rfl), by (with_reducible repeat (first | apply Kd.R_alloc | apply Kd.R_drewN | apply Kd.R_drew)); exact HO695.out, (bl HB)⟩
   ·replace c6 := Bool.eq_false_iff.mpr c6
    subst c6
    have H1 : ((spec_l12Start.f kj2 a0).bind fun t699 => (spec_WiringFrom.l0 kj2 a0 l1 (([] : List Int)) t699 0)) = some (r1, r2) := by rw [if_neg (show ¬ (false = true) by decide)] at H; exact H
    clear H
    have H := H1
    clear H1
    obtain ⟨y696, hy696⟩ : ∃ y_ : List Int, y_ = (([] : List Int)) := ⟨_, rfl⟩
    replace H : ((spec_l12Start.f kj2 a0).bind fun t699 => (spec_WiringFrom.l0 kj2 a0 l1 y696 t699 0)) = some (r1, r2) := by first | (rw [hy696]; with_reducible exact H) | (have H2_ := (Option.bind_some _ _).symm.trans H; rw [hy696]; with_reducible exact H2_) | (have H2_ := (Option.bind_some _ _).symm.trans H; with_reducible exact H2_) | with_reducible exact H | (rw [hy696]; exact H) | exact H
    have Ny696 := Aside0.mk hy696
    clear hy696
    replace H := Option.bind_eq_some_iff.mp H
    obtain ⟨t699, A90, H⟩ := H
    (try dsimp only at H)
    have A9 := Aside0.mk A90
    clear A90
    have H' := Aside0.mk H
    clear H
    go_wp2_with (first | ((with_reducible refine gate_dst (N := 24) rfl ?_); (try (refine gate_guard (by rfl) ?_; dsimp only)); refine Kd.R_lit (Kd.int .i64) _ 3 ?hg (N := 24) ?hd (xs := ([] : List Int)) (inner := []) (ok := fun _ => True) (okp := fun _ => True) ?hr ?hp (fun _ hk => hk) trivial (Below.refl _ _) (Nat.le_refl _) (by simp) ?_; (case hd => rfl); (case hg => rfl); (case hr => first | (go_simp; done) | (go_simp; rfl)); (case hp => exact (Reps.none _ _)); intro v697 w10 ho11 hb hg_ hnew_; clear hg_ hnew_; (first | rw [← Ny696.out] at ho11 | (simp only [Int.reduceToNat] at ho11; rw [← Ny696.out] at ho11)); have n0_ := Aside0.mk (Kd.R_lower ho11 (below_size (bl HB))); have n1_ := bs HB hb; clear HB; have HO698 := n0_; have HB := n1_; clear n0_ n1_; clear hb ho11) | (go_at_call 49; (with_reducible refine (spec_l12Start.calls kj2 a0 t699 _ A9.out).mono ?_); rintro e w12 ⟨v700, rfl, ho0, hb⟩; have n0_ := Aside0.mk (Kd.R_elder' (rr HO698) (Kd.R_base ho0) hb); have n1_ := Aside0.mk (Kd.R_lower (Kd.R_new' ho0 (Kd.R_lt (rr HO698))) (below_size (bl HB))); have n2_ := bs HB hb; clear HO698; clear HB; have HO698 := n0_; have HO701 := n1_; have HB := n2_; clear n0_ n1_ n2_; (try clear hb); (try clear hb2); (try clear hk); (try clear hi); (try clear ho0)))
    repeat (go_quiet (first | ((with_reducible refine gate_dst (N := 24) rfl ?_); (try (refine gate_guard (by rfl) ?_; dsimp only)); refine Kd.R_lit (Kd.int .i64) _ 3 ?hg (N := 24) ?hd (xs := ([] : List Int)) (inner := []) (ok := fun _ => True) (okp := fun _ => True) ?hr ?hp (fun _ hk => hk) trivial (Below.refl _ _) (Nat.le_refl _) (by simp) ?_; (case hd => rfl); (case hg => rfl); (case hr => first | (go_simp; done) | (go_simp; rfl)); (case hp => exact (Reps.none _ _)); intro v697 w10 ho11 hb hg_ hnew_; clear hg_ hnew_; (first | rw [← Ny696.out] at ho11 | (simp only [Int.reduceToNat] at ho11; rw [← Ny696.out] at ho11)); have n0_ := Aside0.mk (Kd.R_lower ho11 (below_size (bl HB))); have n1_ := bs HB hb; clear HB; have HO698 := n0_; have HB := n1_; clear n0_ n1_; clear hb ho11) | (go_at_call 49; (with_reducible refine (spec_l12Start.calls kj2 a0 t699 _ A9.out).mono ?_); rintro e w12 ⟨v700, rfl, ho0, hb⟩; have n0_ := Aside0.mk (Kd.R_elder' (rr HO698) (Kd.R_base ho0) hb); have n1_ := Aside0.mk (Kd.R_lower (Kd.R_new' ho0 (Kd.R_lt (rr HO698))) (below_size (bl HB))); have n2_ := bs HB hb; clear HO698; clear HB; have HO698 := n0_; have HO701 := n1_; have HB := n2_; clear n0_ n1_ n2_; (try clear hb); (try clear hb2); (try clear hk); (try clear hi); (try clear ho0))); try go_wp2_with (first | ((with_reducible refine gate_dst (N := 24) rfl ?_); (try (refine gate_guard (by rfl) ?_; dsimp only)); refine Kd.R_lit (Kd.int .i64) _ 3 ?hg (N := 24) ?hd (xs := ([] : List Int)) (inner := []) (ok := fun _ => True) (okp := fun _ => True) ?hr ?hp (fun _ hk => hk) trivial (Below.refl _ _) (Nat.le_refl _) (by simp) ?_; (case hd => rfl); (case hg => rfl); (case hr => first | (go_simp; done) | (go_simp; rfl)); (case hp => exact (Reps.none _ _)); intro v697 w10 ho11 hb hg_ hnew_; clear hg_ hnew_; (first | rw [← Ny696.out] at ho11 | (simp only [Int.reduceToNat] at ho11; rw [← Ny696.out] at ho11)); have n0_ := Aside0.mk (Kd.R_lower ho11 (below_size (bl HB))); have n1_ := bs HB hb; clear HB; have HO698 := n0_; have HB := n1_; clear n0_ n1_; clear hb ho11) | (go_at_call 49; (with_reducible refine (spec_l12Start.calls kj2 a0 t699 _ A9.out).mono ?_); rintro e w12 ⟨v700, rfl, ho0, hb⟩; have n0_ := Aside0.mk (Kd.R_elder' (rr HO698) (Kd.R_base ho0) hb); have n1_ := Aside0.mk (Kd.R_lower (Kd.R_new' ho0 (Kd.R_lt (rr HO698))) (below_size (bl HB))); have n2_ := bs HB hb; clear HO698; clear HB; have HO698 := n0_; have HO701 := n1_; have HB := n2_; clear n0_ n1_ n2_; (try clear hb); (try clear hb2); (try clear hk); (try clear hi); (try clear ho0))))
    go_loopg [6, 8] kj2 (fun kq v6 v8 w' => ∃ (x6_2 : List Int) (x7_2 : List Int) (x8_2 : Int), v8 = .int .i64 x8_2 ∧ Aside0 (spec_WiringFrom.l0 kq a0 l1 x6_2 x7_2 x8_2 = some (r1, r2)) ∧ Aside0 (kq ≤ kj2) ∧ Aside0 (Kd.R (Kd.int .i64) 3 w' w.heap.size (fun k_ => some k_ ≠ (v700 : Value).ownBlock) v6 x6_2) ∧ Aside0 (Kd.R (Kd.int .i64) 3 w' w.heap.size (fun k_ => some k_ ≠ (v6 : Value).ownBlock) v700 x7_2) ∧ Aside0 (Below w.heap.size w w'))
    case atStart => exact ⟨(y696), (t699), (0), (by first | rfl | (simp; done) | (simp [*]; done)), H', ⟨Nat.le_refl _⟩, ⟨by (with_reducible repeat (first | apply Kd.R_alloc | apply Kd.R_drewN | apply Kd.R_drew)); exact Kd.R_mono HO698.out (fun _ hk => hk.2)⟩, ⟨by (with_reducible repeat (first | apply Kd.R_alloc | apply Kd.R_drewN | apply Kd.R_drew)); exact Kd.R_mono HO701.out (fun _ hk => hk.2)⟩, ⟨(bl HB)⟩⟩
    case round =>
     clear H'
     try clear c1
     try clear p2
     try clear c4
     try clear c5
     try clear c6
     try clear p6
     try clear p2
     obtain ⟨x6_2, x7_2, x8_2, rfl, HA, HK2, HO_6, HO_7, HB⟩ := hrel
     cases gk with
     | zero => exact absurd HA.out (by simp [spec_WiringFrom.l0])
     | succ k2 =>
      have H := HA.out
      clear HA
      simp only [spec_WiringFrom.l0] at H
      by_cases c13 : x8_2 < (l1.length : Int)
      ·rw [if_pos c13] at H
       have c13b0 : decide (x8_2 < (l1.length : Int)) = true := decide_eq_true c13
       clear c13
       have HC14 := Aside0.mk H
       clear H
       go_upto_region 8 with (fail)
       repeat (go_quiet (fail); go_upto_region 8 with (fail))
       go_cut [53] (fun v53 wc => ∃ (kq : Nat) (x53_13 : Bool), v53 = .bool x53_13 ∧ Aside0 (spec_WiringFrom.j2 kq a0 l1 x6_2 x7_2 x8_2 x53_13 = some (r1, r2)) ∧ Aside0 (kq ≤ k2) ∧ Aside0 (Kd.R (Kd.int .i64) 3 wc w.heap.size (fun k_ => some k_ ≠ (v700 : Value).ownBlock) u6 x6_2) ∧ Aside0 (Kd.R (Kd.int .i64) 3 wc w.heap.size (fun k_ => some k_ ≠ (u6 : Value).ownBlock) v700 x7_2) ∧ Aside0 (Below w.heap.size w wc))
       case first =>
        have H := HC14.out
        clear HC14
        by_cases c15 : 0 ≤ x8_2
        ·rw [if_pos c15] at H
         have c15b0 : decide (0 ≤ x8_2) = true := decide_eq_true c15
         clear c15
         (first | rw [c15b0] | (simp only [i64_w, i32_w]; rw [c15b0]) | skip)
         by_cases c16 : ((rd_L1 l1 x8_2).length : Int) = 2
         ·rw [if_pos c16] at H
          have c16b0 : (((rd_L1 l1 x8_2).length : Int) == 2) = true := beq_iff_eq.mpr c16
          have c16b1 : (((rd_L1 l1 x8_2).length : Int) != 2) = false := bne_eq_false_iff_eq.mpr c16
          clear c16
          by_cases c17 : 0 < ((rd_L1 l1 x8_2).length : Int)
          ·rw [if_pos c17] at H
           have c17b0 : decide (0 < ((rd_L1 l1 x8_2).length : Int)) = true := decide_eq_true c17
           have c17b1 : decide (0 < (rd_L1 l1 x8_2).length) = true := decide_eq_true (by omega)
           clear c17
           by_cases c18 : 1 < ((rd_L1 l1 x8_2).length : Int)
           ·rw [if_pos c18] at H
            have c18b0 : decide (1 < ((rd_L1 l1 x8_2).length : Int)) = true := decide_eq_true c18
            have c18b1 : decide (1 < (rd_L1 l1 x8_2).length) = true := decide_eq_true (by omega)
            clear c18
            have H' := Aside0.mk H
            clear H
            have p702 : 0 ≤ (x8_2 : Int) := of_decide_eq_true (by first | (with_reducible assumption) | assumption)
            have q702 : x8_2 < (l1.length : Int) := of_decide_eq_true (by first | (with_reducible assumption) | assumption)
            obtain ⟨ad702, A702_0, c702_0, e702, hx702_0, hl702_0, hi702_0⟩ := at_L1 HR1.out x8_2 p702 q702
            cases e702
            replace hx702_0 := (HB.out.cell (World.block_lt_of_cell? w _ hx702_0)).trans hx702_0
            have HR702_0 := Aside0.mk hi702_0
            have HC702_0 := Aside0.mk hl702_0
            clear hi702_0 hl702_0
            replace p702 := eq_true p702
            replace q702 := eq_true q702
            have p703 : 0 ≤ (x8_2 : Int) := of_decide_eq_true (by first | (with_reducible assumption) | assumption)
            have q703 : x8_2 < (l1.length : Int) := of_decide_eq_true (by first | (with_reducible assumption) | assumption)
            obtain ⟨ad703, A703_0, c703_0, e703, hx703_0, hl703_0, hi703_0⟩ := at_L1 HR1.out x8_2 p703 q703
            obtain rfl : ad702 = ad703 := (by injection e703)
            replace hx703_0 := (HB.out.cell (World.block_lt_of_cell? w _ hx703_0)).trans hx703_0
            have HR703_0 := Aside0.mk hi703_0
            have HC703_0 := Aside0.mk hl703_0
            clear hi703_0 hl703_0
            replace p703 := eq_true p703
            replace q703 := eq_true q703
            have ea_ := Option.some.inj (hx702_0.symm.trans hx703_0)
            injection ea_ with ea_ en_ ec_
            subst ea_
            subst ec_
            clear en_
            have p704 : 0 ≤ (0 : Int) := (by omega)
            have q704 : 0 < ((rd_L1 l1 x8_2).length : Int) := of_decide_eq_true (by first | (with_reducible assumption) | assumption)
            obtain ⟨ad704, e704, hx704_0⟩ := Kd.at_int HR703_0.out 0 p704 q704
            cases e704
            have qi704 : (0 < (rd_L1 l1 x8_2).length) = True := eq_true (by omega)
            (try rw [show ((0 : Int)).toNat = 0 from rfl] at hx704_0)
            (try rw [Addr.add_zero'] at hx704_0)
            replace hx704_0 := (HB.out.cell (World.block_lt_of_cell? w _ hx704_0)).trans hx704_0
            replace p704 := eq_true p704
            replace q704 := eq_true q704
            have p705 : 0 ≤ (x8_2 : Int) := of_decide_eq_true (by first | (with_reducible assumption) | assumption)
            have q705 : x8_2 < (l1.length : Int) := of_decide_eq_true (by first | (with_reducible assumption) | assumption)
            obtain ⟨ad705, A705_0, c705_0, e705, hx705_0, hl705_0, hi705_0⟩ := at_L1 HR1.out x8_2 p705 q705
            obtain rfl : ad702 = ad705 := (by injection e705)
            replace hx705_0 := (HB.out.cell (World.block_lt_of_cell? w _ hx705_0)).trans hx705_0
            have HR705_0 := Aside0.mk hi705_0
            have HC705_0 := Aside0.mk hl705_0
            clear hi705_0 hl705_0
            replace p705 := eq_true p705
            replace q705 := eq_true q705
            have ea_ := Option.some.inj (hx702_0.symm.trans hx705_0)
            injection ea_ with ea_ en_ ec_
            subst ea_
            subst ec_
            clear en_
            have p706 : 0 ≤ (1 : Int) := (by omega)
            have q706 : 1 < ((rd_L1 l1 x8_2).length : Int) := of_decide_eq_true (by first | (with_reducible assumption) | assumption)
            obtain ⟨ad706, e706, hx706_0⟩ := Kd.at_int HR705_0.out 1 p706 q706
            cases e706
            (try simp only [show (1 : Int).toNat = 1 from rfl, Nat.reduceMul, Nat.reduceEqDiff, Go.Addr.add, ↓reduceIte] at hx706_0)
            have qi706 : (1 < (rd_L1 l1 x8_2).length) = True := eq_true (by omega)
            (try rw [show ((1 : Int)).toNat = 1 from rfl] at hx706_0)
            replace hx706_0 := (HB.out.cell (World.block_lt_of_cell? w _ hx706_0)).trans hx706_0
            replace p706 := eq_true p706
            replace q706 := eq_true q706
            go_wp2
            repeat (go_quiet (fail); try go_wp2)
            go_meet
            case rel => exact ⟨_, (decide ((rd (rd_L1 l1 x8_2) 0) ≥ (rd (rd_L1 l1 x8_2) 1))), (by first | rfl | (simp; done) | (simp [*]; done)), H', ⟨by have := HJ2.out; have := HK2.out; first | omega | exact Nat.le_refl _⟩, ⟨by (with_reducible repeat (first | apply Kd.R_alloc | apply Kd.R_drewN | apply Kd.R_drew)); exact HO_6.out⟩, ⟨by (with_reducible repeat (first | apply Kd.R_alloc | apply Kd.R_drewN | apply Kd.R_drew)); exact HO_7.out⟩, ⟨(bl HB)⟩⟩
           ·rw [if_neg c18] at H
            exact absurd H (by simp)
          ·rw [if_neg c17] at H
           exact absurd H (by simp)
         ·rw [if_neg c16] at H
          have c16b0 : (((rd_L1 l1 x8_2).length : Int) == 2) = false := beq_eq_false_iff_ne.mpr c16
          have c16b1 : (((rd_L1 l1 x8_2).length : Int) != 2) = true := bne_iff_ne.mpr c16
          have H' := Aside0.mk H
          clear H
          have p702 : 0 ≤ (x8_2 : Int) := of_decide_eq_true (by first | (with_reducible assumption) | assumption)
          have q702 : x8_2 < (l1.length : Int) := of_decide_eq_true (by first | (with_reducible assumption) | assumption)
          obtain ⟨ad702, A702_0, c702_0, e702, hx702_0, hl702_0, hi702_0⟩ := at_L1 HR1.out x8_2 p702 q702
          cases e702
          replace hx702_0 := (HB.out.cell (World.block_lt_of_cell? w _ hx702_0)).trans hx702_0
          have HR702_0 := Aside0.mk hi702_0
          have HC702_0 := Aside0.mk hl702_0
          clear hi702_0 hl702_0
          replace p702 := eq_true p702
          replace q702 := eq_true q702
          go_wp2
          repeat (go_quiet (fail); try go_wp2)
          go_meet
          case rel => exact ⟨_, (true), (by first | rfl | (simp; done) | (simp [*]; done)), H', ⟨by have := HJ2.out; have := HK2.out; first | omega | exact Nat.le_refl _⟩, ⟨by (with_reducible repeat (first | apply Kd.R_alloc | apply Kd.R_drewN | apply Kd.R_drew)); exact HO_6.out⟩, ⟨by (with_reducible repeat (first | apply Kd.R_alloc | apply Kd.R_drewN | apply Kd.R_drew)); exact HO_7.out⟩, ⟨(bl HB)⟩⟩
        ·rw [if_neg c15] at H
         exact absurd H (by simp)
       case rest =>
        clear HC14
        try clear c1
        try clear p2
        try clear c4
        try clear c5
        try clear c6
        try clear p6
        try clear c7
        try clear p7
        try clear q7
        try clear hx7
        try clear qi7
        try clear c13
        try clear c13b0
        try clear c15
        try clear c15b0
        try clear c16
        try clear c16b0
        try clear c16b1
        try clear c17
        try clear c17b0
        try clear c17b1
        try clear c18
        try clear c18b0
        try clear c18b1
        try clear hx702_0
        try clear hx703_0
        try clear hx704_0
        try clear hx705_0
        try clear hx706_0
        try clear p2
        try clear p6
        try clear p702
        try clear p703
        try clear p704
        try clear p705
        try clear p706
        try clear q702
        try clear q703
        try clear q704
        try clear q705
        try clear q706
        obtain ⟨kq, x53_13, rfl, HA, HJ13, HO_6, HO_7, HB⟩ := hcut
        cases kq with
        | zero => exact absurd HA.out (by simp [spec_WiringFrom.j2])
        | succ kj13 =>
         have H := HA.out
         clear HA
         simp only [spec_WiringFrom.j2] at H
         by_cases c19 : x53_13 = true
         ·subst c19
          have H1 : (some ((([] : List Int)), false)) = some (r1, r2) := by rw [if_pos rfl] at H; exact H
          clear H
          have H := H1
          clear H1
          obtain ⟨y707, hy707⟩ : ∃ y_ : List Int, y_ = (([] : List Int)) := ⟨_, rfl⟩
          replace H : (some (y707, false)) = some (r1, r2) := by first | (rw [hy707]; with_reducible exact H) | (have H2_ := (Option.bind_some _ _).symm.trans H; rw [hy707]; with_reducible exact H2_) | (have H2_ := (Option.bind_some _ _).symm.trans H; with_reducible exact H2_) | with_reducible exact H | (rw [hy707]; exact H) | exact H
          have Ny707 := Aside0.mk hy707
          clear hy707
          simp only [Option.some.injEq, Prod.mk.injEq] at H
          obtain ⟨rfl, rfl⟩ := H
          go_wp2_with (first | ((with_reducible refine gate_dst (N := 54) rfl ?_); (try (refine gate_guard (by rfl) ?_; dsimp only)); refine Kd.R_lit (Kd.int .i64) _ 3 ?hg (N := 54) ?hd (xs := ([] : List Int)) (inner := []) (ok := fun _ => True) (okp := fun _ => True) ?hr ?hp (fun _ hk => hk) trivial (Below.refl _ _) (Nat.le_refl _) (by simp) ?_; (case hd => rfl); (case hg => rfl); (case hr => first | (go_simp; done) | (go_simp; rfl)); (case hp => exact (Reps.none _ _)); intro v708 w20 ho21 hb hg_ hnew_; clear hg_ hnew_; (first | rw [← Ny707.out] at ho21 | (simp only [Int.reduceToNat] at ho21; rw [← Ny707.out] at ho21)); have n0_ := Aside0.mk (Kd.R_elder' (rr HO_6) (Kd.R_base ho21) hb); have n1_ := Aside0.mk (Kd.R_elder' (rr HO_7) (Kd.R_base ho21) hb); have n2_ := Aside0.mk (Kd.R_lower (Kd.R_new' (Kd.R_new' ho21 (Kd.R_lt (rr HO_6))) (Kd.R_lt (rr HO_7))) (below_size (bl HB))); have n3_ := bs HB hb; clear HO_6; clear HO_7; clear HB; have HO_6 := n0_; have HO_7 := n1_; have HO709 := n2_; have HB := n3_; clear n0_ n1_ n2_ n3_; clear hb ho21))
          repeat (go_quiet (first | ((with_reducible refine gate_dst (N := 54) rfl ?_); (try (refine gate_guard (by rfl) ?_; dsimp only)); refine Kd.R_lit (Kd.int .i64) _ 3 ?hg (N := 54) ?hd (xs := ([] : List Int)) (inner := []) (ok := fun _ => True) (okp := fun _ => True) ?hr ?hp (fun _ hk => hk) trivial (Below.refl _ _) (Nat.le_refl _) (by simp) ?_; (case hd => rfl); (case hg => rfl); (case hr => first | (go_simp; done) | (go_simp; rfl)); (case hp => exact (Reps.none _ _)); intro v708 w20 ho21 hb hg_ hnew_; clear hg_ hnew_; (first | rw [← Ny707.out] at ho21 | (simp only [Int.reduceToNat] at ho21; rw [← Ny707.out] at ho21)); have n0_ := Aside0.mk (Kd.R_elder' (rr HO_6) (Kd.R_base ho21) hb); have n1_ := Aside0.mk (Kd.R_elder' (rr HO_7) (Kd.R_base ho21) hb); have n2_ := Aside0.mk (Kd.R_lower (Kd.R_new' (Kd.R_new' ho21 (Kd.R_lt (rr HO_6))) (Kd.R_lt (rr HO_7))) (below_size (bl HB))); have n3_ := bs HB hb; clear HO_6; clear HO_7; clear HB; have HO_6 := n0_; have HO_7 := n1_; have HO709 := n2_; have HB := n3_; clear n0_ n1_ n2_ n3_; clear hb ho21)); try go_wp2_with (first | ((with_reducible refine gate_dst (N := 54) rfl ?_); (try (refine gate_guard (by rfl) ?_; dsimp only)); refine Kd.R_lit (Kd.int .i64) _ 3 ?hg (N := 54) ?hd (xs := ([] : List Int)) (inner := []) (ok := fun _ => True) (okp := fun _ => True) ?hr ?hp (fun _ hk => hk) trivial (Below.refl _ _) (Nat.le_refl _) (by simp) ?_; (case hd => rfl); (case hg => rfl); (case hr => first | (go_simp; done) | (go_simp; rfl)); (case hp => exact (Reps.none _ _)); intro v708 w20 ho21 hb hg_ hnew_; clear hg_ hnew_; (first | rw [← Ny707.out] at ho21 | (simp only [Int.reduceToNat] at ho21; rw [← Ny707.out] at ho21)); have n0_ := Aside0.mk (Kd.R_elder' (rr HO_6) (Kd.R_base ho21) hb); have n1_ := Aside0.mk (Kd.R_elder' (rr HO_7) (Kd.R_base ho21) hb); have n2_ := Aside0.mk (Kd.R_lower (Kd.R_new' (Kd.R_new' ho21 (Kd.R_lt (rr HO_6))) (Kd.R_lt (rr HO_7))) (below_size (bl HB))); have n3_ := bs HB hb; clear HO_6; clear HO_7; clear HB; have HO_6 := n0_; have HO_7 := n1_; have HO709 := n2_; have HB := n3_; clear n0_ n1_ n2_ n3_; clear hb ho21)))
          go_ret2
          exact ⟨_, by first | rfl | (simp [errW_none, errW_some] <;> rfl) | (simp [*, errW_none, errW_some] <;> rfl), by (with_reducible repeat (first | apply Kd.R_alloc | apply Kd.R_drewN | apply Kd.R_drew)); exact Kd.R_mono HO709.out (fun _ hk => trivial), (bl HB)⟩
         ·replace c19 := Bool.eq_false_iff.mpr c19
          subst c19
          have H1 : (if 0 ≤ x8_2 then (if x8_2 < (l1.length : Int) then (if 0 < ((rd_L1 l1 x8_2).length : Int) then ((spec_l12Place.f kj13 x7_2 (rd (rd_L1 l1 x8_2) 0)).bind fun t712 => (if t712 < 0 then (some ((([] : List Int)), false)) else (if (wrap64 (t712 + 1)) ≥ a0 then (some ((([] : List Int)), false)) else (if 0 ≤ (wrap64 (t712 + 1)) then (if (wrap64 (t712 + 1)) < (x7_2.length : Int) then (if 1 < ((rd_L1 l1 x8_2).length : Int) then (if (rd x7_2 (wrap64 (t712 + 1))) = (rd (rd_L1 l1 x8_2) 1) then ((spec_l12Swap.f x7_2 t712).bind fun bt722 => (if x6_2.length < 17592186044416 then (spec_WiringFrom.l0 kj13 a0 l1 (x6_2 ++ [t712]) bt722.2 (wrap64 (x8_2 + 1))) else (none))) else (some ((([] : List Int)), false))) else (none)) else (none)) else (none))))) else (none)) else (none)) else (none)) = some (r1, r2) := by rw [if_neg (show ¬ (false = true) by decide)] at H; exact H
          clear H
          have H := H1
          clear H1
          by_cases c22 : 0 ≤ x8_2
          ·rw [if_pos c22] at H
           have c22b0 : decide (0 ≤ x8_2) = true := decide_eq_true c22
           clear c22
           by_cases c23 : x8_2 < (l1.length : Int)
           ·rw [if_pos c23] at H
            have c23b0 : decide (x8_2 < (l1.length : Int)) = true := decide_eq_true c23
            clear c23
            by_cases c24 : 0 < ((rd_L1 l1 x8_2).length : Int)
            ·rw [if_pos c24] at H
             have c24b0 : decide (0 < ((rd_L1 l1 x8_2).length : Int)) = true := decide_eq_true c24
             have c24b1 : decide (0 < (rd_L1 l1 x8_2).length) = true := decide_eq_true (by omega)
             clear c24
             replace H := Option.bind_eq_some_iff.mp H
             obtain ⟨t712, A250, H⟩ := H
             (try dsimp only at H)
             have A25 := Aside0.mk A250
             clear A250
             by_cases c26 : t712 < 0
             ·rw [if_pos c26] at H
              have c26b0 : decide (t712 < 0) = true := decide_eq_true c26
              clear c26
              obtain ⟨y713, hy713⟩ : ∃ y_ : List Int, y_ = (([] : List Int)) := ⟨_, rfl⟩
              replace H : (some (y713, false)) = some (r1, r2) := by first | (rw [hy713]; with_reducible exact H) | (have H2_ := (Option.bind_some _ _).symm.trans H; rw [hy713]; with_reducible exact H2_) | (have H2_ := (Option.bind_some _ _).symm.trans H; with_reducible exact H2_) | with_reducible exact H | (rw [hy713]; exact H) | exact H
              have Ny713 := Aside0.mk hy713
              clear hy713
              simp only [Option.some.injEq, Prod.mk.injEq] at H
              obtain ⟨rfl, rfl⟩ := H
              have p710 : 0 ≤ (x8_2 : Int) := of_decide_eq_true (by first | (with_reducible assumption) | assumption)
              have q710 : x8_2 < (l1.length : Int) := of_decide_eq_true (by first | (with_reducible assumption) | assumption)
              obtain ⟨ad710, A710_0, c710_0, e710, hx710_0, hl710_0, hi710_0⟩ := at_L1 HR1.out x8_2 p710 q710
              cases e710
              replace hx710_0 := (HB.out.cell (World.block_lt_of_cell? w _ hx710_0)).trans hx710_0
              have HR710_0 := Aside0.mk hi710_0
              have HC710_0 := Aside0.mk hl710_0
              clear hi710_0 hl710_0
              replace p710 := eq_true p710
              replace q710 := eq_true q710
              have p711 : 0 ≤ (0 : Int) := (by omega)
              have q711 : 0 < ((rd_L1 l1 x8_2).length : Int) := of_decide_eq_true (by first | (with_reducible assumption) | assumption)
              obtain ⟨ad711, e711, hx711_0⟩ := Kd.at_int HR710_0.out 0 p711 q711
              cases e711
              have qi711 : (0 < (rd_L1 l1 x8_2).length) = True := eq_true (by omega)
              (try rw [show ((0 : Int)).toNat = 0 from rfl] at hx711_0)
              (try rw [Addr.add_zero'] at hx711_0)
              replace hx711_0 := (HB.out.cell (World.block_lt_of_cell? w _ hx711_0)).trans hx711_0
              replace p711 := eq_true p711
              replace q711 := eq_true q711
              obtain ⟨Ao27, co27, eo27⟩ := Kd.R_slice HO_7.out
              subst eo27
              go_wp2_with (first | (go_at_call 65; (with_reducible refine (spec_l12Place.calls kj13 _ _ x7_2 (rd (rd_L1 l1 x8_2) 0) t712 _ ?side1 ?side2 A25.out).mono ?_); (case side1 => repeat (first | exact (Kd.R_reads' HO_7.out).2.2 | (with_reducible refine Kd.C_alloc ?_ _) | (with_reducible refine Kd.C_drewN ?_ _) | (with_reducible refine Kd.C_drew ?_))); (case side2 => exact (Kd.R_reads' HO_7.out).2.1); rintro e w' ⟨rfl, ⟨nd, rfl⟩⟩; (try first | exact ⟨rfl, _, World.drewN_drewN _ _ _⟩ | exact ⟨rfl, _, Eq.trans (World.drewN_drewN _ _ _) (congrArg (World.drewN _) (Nat.add_assoc _ _ _))⟩)) | ((with_reducible refine gate_dst (N := 85) rfl ?_); (try (refine gate_guard (by rfl) ?_; dsimp only)); refine Kd.R_lit (Kd.int .i64) _ 3 ?hg (N := 85) ?hd (xs := ([] : List Int)) (inner := []) (ok := fun _ => True) (okp := fun _ => True) ?hr ?hp (fun _ hk => hk) trivial (Below.refl _ _) (Nat.le_refl _) (by simp) ?_; (case hd => rfl); (case hg => rfl); (case hr => first | (go_simp; done) | (go_simp; rfl)); (case hp => exact (Reps.none _ _)); intro v714 w28 ho29 hb hg_ hnew_; clear hg_ hnew_; (first | rw [← Ny713.out] at ho29 | (simp only [Int.reduceToNat] at ho29; rw [← Ny713.out] at ho29)); have n0_ := Aside0.mk (Kd.R_elder' (rr HO_6) (Kd.R_base ho29) hb); have n1_ := Aside0.mk (Kd.R_elder' (rr HO_7) (Kd.R_base ho29) hb); have n2_ := Aside0.mk (Kd.R_lower (Kd.R_new' (Kd.R_new' ho29 (Kd.R_lt (rr HO_6))) (Kd.R_lt (rr HO_7))) (below_size (bl HB))); have n3_ := bs HB hb; clear HO_6; clear HO_7; clear HB; have HO_6 := n0_; have HO_7 := n1_; have HO715 := n2_; have HB := n3_; clear n0_ n1_ n2_ n3_; clear hb ho29))
              repeat (go_quiet (first | (go_at_call 65; (with_reducible refine (spec_l12Place.calls kj13 _ _ x7_2 (rd (rd_L1 l1 x8_2) 0) t712 _ ?side1 ?side2 A25.out).mono ?_); (case side1 => repeat (first | exact (Kd.R_reads' HO_7.out).2.2 | (with_reducible refine Kd.C_alloc ?_ _) | (with_reducible refine Kd.C_drewN ?_ _) | (with_reducible refine Kd.C_drew ?_))); (case side2 => exact (Kd.R_reads' HO_7.out).2.1); rintro e w' ⟨rfl, ⟨nd, rfl⟩⟩; (try first | exact ⟨rfl, _, World.drewN_drewN _ _ _⟩ | exact ⟨rfl, _, Eq.trans (World.drewN_drewN _ _ _) (congrArg (World.drewN _) (Nat.add_assoc _ _ _))⟩)) | ((with_reducible refine gate_dst (N := 85) rfl ?_); (try (refine gate_guard (by rfl) ?_; dsimp only)); refine Kd.R_lit (Kd.int .i64) _ 3 ?hg (N := 85) ?hd (xs := ([] : List Int)) (inner := []) (ok := fun _ => True) (okp := fun _ => True) ?hr ?hp (fun _ hk => hk) trivial (Below.refl _ _) (Nat.le_refl _) (by simp) ?_; (case hd => rfl); (case hg => rfl); (case hr => first | (go_simp; done) | (go_simp; rfl)); (case hp => exact (Reps.none _ _)); intro v714 w28 ho29 hb hg_ hnew_; clear hg_ hnew_; (first | rw [← Ny713.out] at ho29 | (simp only [Int.reduceToNat] at ho29; rw [← Ny713.out] at ho29)); have n0_ := Aside0.mk (Kd.R_elder' (rr HO_6) (Kd.R_base ho29) hb); have n1_ := Aside0.mk (Kd.R_elder' (rr HO_7) (Kd.R_base ho29) hb); have n2_ := Aside0.mk (Kd.R_lower (Kd.R_new' (Kd.R_new' ho29 (Kd.R_lt (rr HO_6))) (Kd.R_lt (rr HO_7))) (below_size (bl HB))); have n3_ := bs HB hb; clear HO_6; clear HO_7; clear HB; have HO_6 := n0_; have HO_7 := n1_; have HO715 := n2_; have HB := n3_; clear n0_ n1_ n2_ n3_; clear hb ho29)); try go_wp2_with (first | (go_at_call 65; (with_reducible refine (spec_l12Place.calls kj13 _ _ x7_2 (rd (rd_L1 l1 x8_2) 0) t712 _ ?side1 ?side2 A25.out).mono ?_); (case side1 => repeat (first | exact (Kd.R_reads' HO_7.out).2.2 | (with_reducible refine Kd.C_alloc ?_ _) | (with_reducible refine Kd.C_drewN ?_ _) | (with_reducible refine Kd.C_drew ?_))); (case side2 => exact (Kd.R_reads' HO_7.out).2.1); rintro e w' ⟨rfl, ⟨nd, rfl⟩⟩; (try first | exact ⟨rfl, _, World.drewN_drewN _ _ _⟩ | exact ⟨rfl, _, Eq.trans (World.drewN_drewN _ _ _) (congrArg (World.drewN _) (Nat.add_assoc _ _ _))⟩)) | ((with_reducible refine gate_dst (N := 85) rfl ?_); (try (refine gate_guard (by rfl) ?_; dsimp only)); refine Kd.R_lit (Kd.int .i64) _ 3 ?hg (N := 85) ?hd (xs := ([] : List Int)) (inner := []) (ok := fun _ => True) (okp := fun _ => True) ?hr ?hp (fun _ hk => hk) trivial (Below.refl _ _) (Nat.le_refl _) (by simp) ?_; (case hd => rfl); (case hg => rfl); (case hr => first | (go_simp; done) | (go_simp; rfl)); (case hp => exact (Reps.none _ _)); intro v714 w28 ho29 hb hg_ hnew_; clear hg_ hnew_; (first | rw [← Ny713.out] at ho29 | (simp only [Int.reduceToNat] at ho29; rw [← Ny713.out] at ho29)); have n0_ := Aside0.mk (Kd.R_elder' (rr HO_6) (Kd.R_base ho29) hb); have n1_ := Aside0.mk (Kd.R_elder' (rr HO_7) (Kd.R_base ho29) hb); have n2_ := Aside0.mk (Kd.R_lower (Kd.R_new' (Kd.R_new' ho29 (Kd.R_lt (rr HO_6))) (Kd.R_lt (rr HO_7))) (below_size (bl HB))); have n3_ := bs HB hb; clear HO_6; clear HO_7; clear HB; have HO_6 := n0_; have HO_7 := n1_; have HO715 := n2_; have HB := n3_; clear n0_ n1_ n2_ n3_; clear hb ho29)))
              go_ret2
              exact ⟨_, by first | rfl | (simp [errW_none, errW_some] <;> rfl) | (simp [*, errW_none, errW_some] <;> rfl), by (with_reducible repeat (first | apply Kd.R_alloc | apply Kd.R_drewN | apply Kd.R_drew)); exact Kd.R_mono HO715.out (fun _ hk => trivial), (bl HB)⟩
             ·rw [if_neg c26] at H
              have c26b0 : decide (t712 < 0) = false := decide_eq_false c26
              clear c26
              by_cases c30 : (wrap64 (t712 + 1)) ≥ a0
              ·rw [if_pos c30] at H
               have c30b0 : decide (a0 ≤ (wrap64 (t712 + 1))) = true := decide_eq_true c30
               clear c30
               obtain ⟨y716, hy716⟩ : ∃ y_ : List Int, y_ = (([] : List Int)) := ⟨_, rfl⟩
               replace H : (some (y716, false)) = some (r1, r2) := by first | (rw [hy716]; with_reducible exact H) | (have H2_ := (Option.bind_some _ _).symm.trans H; rw [hy716]; with_reducible exact H2_) | (have H2_ := (Option.bind_some _ _).symm.trans H; with_reducible exact H2_) | with_reducible exact H | (rw [hy716]; exact H) | exact H
               have Ny716 := Aside0.mk hy716
               clear hy716
               simp only [Option.some.injEq, Prod.mk.injEq] at H
               obtain ⟨rfl, rfl⟩ := H
               have p710 : 0 ≤ (x8_2 : Int) := of_decide_eq_true (by first | (with_reducible assumption) | assumption)
               have q710 : x8_2 < (l1.length : Int) := of_decide_eq_true (by first | (with_reducible assumption) | assumption)
               obtain ⟨ad710, A710_0, c710_0, e710, hx710_0, hl710_0, hi710_0⟩ := at_L1 HR1.out x8_2 p710 q710
               cases e710
               replace hx710_0 := (HB.out.cell (World.block_lt_of_cell? w _ hx710_0)).trans hx710_0
               have HR710_0 := Aside0.mk hi710_0
               have HC710_0 := Aside0.mk hl710_0
               clear hi710_0 hl710_0
               replace p710 := eq_true p710
               replace q710 := eq_true q710
               have p711 : 0 ≤ (0 : Int) := (by omega)
               have q711 : 0 < ((rd_L1 l1 x8_2).length : Int) := of_decide_eq_true (by first | (with_reducible assumption) | assumption)
               obtain ⟨ad711, e711, hx711_0⟩ := Kd.at_int HR710_0.out 0 p711 q711
               cases e711
               have qi711 : (0 < (rd_L1 l1 x8_2).length) = True := eq_true (by omega)
               (try rw [show ((0 : Int)).toNat = 0 from rfl] at hx711_0)
               (try rw [Addr.add_zero'] at hx711_0)
               replace hx711_0 := (HB.out.cell (World.block_lt_of_cell? w _ hx711_0)).trans hx711_0
               replace p711 := eq_true p711
               replace q711 := eq_true q711
               obtain ⟨Ao31, co31, eo31⟩ := Kd.R_slice HO_7.out
               subst eo31
               go_wp2_with (first | (go_at_call 65; (with_reducible refine (spec_l12Place.calls kj13 _ _ x7_2 (rd (rd_L1 l1 x8_2) 0) t712 _ ?side1 ?side2 A25.out).mono ?_); (case side1 => repeat (first | exact (Kd.R_reads' HO_7.out).2.2 | (with_reducible refine Kd.C_alloc ?_ _) | (with_reducible refine Kd.C_drewN ?_ _) | (with_reducible refine Kd.C_drew ?_))); (case side2 => exact (Kd.R_reads' HO_7.out).2.1); rintro e w' ⟨rfl, ⟨nd, rfl⟩⟩; (try first | exact ⟨rfl, _, World.drewN_drewN _ _ _⟩ | exact ⟨rfl, _, Eq.trans (World.drewN_drewN _ _ _) (congrArg (World.drewN _) (Nat.add_assoc _ _ _))⟩)) | ((with_reducible refine gate_dst (N := 85) rfl ?_); (try (refine gate_guard (by rfl) ?_; dsimp only)); refine Kd.R_lit (Kd.int .i64) _ 3 ?hg (N := 85) ?hd (xs := ([] : List Int)) (inner := []) (ok := fun _ => True) (okp := fun _ => True) ?hr ?hp (fun _ hk => hk) trivial (Below.refl _ _) (Nat.le_refl _) (by simp) ?_; (case hd => rfl); (case hg => rfl); (case hr => first | (go_simp; done) | (go_simp; rfl)); (case hp => exact (Reps.none _ _)); intro v717 w32 ho33 hb hg_ hnew_; clear hg_ hnew_; (first | rw [← Ny716.out] at ho33 | (simp only [Int.reduceToNat] at ho33; rw [← Ny716.out] at ho33)); have n0_ := Aside0.mk (Kd.R_elder' (rr HO_6) (Kd.R_base ho33) hb); have n1_ := Aside0.mk (Kd.R_elder' (rr HO_7) (Kd.R_base ho33) hb); have n2_ := Aside0.mk (Kd.R_lower (Kd.R_new' (Kd.R_new' ho33 (Kd.R_lt (rr HO_6))) (Kd.R_lt (rr HO_7))) (below_size (bl HB))); have n3_ := bs HB hb; clear HO_6; clear HO_7; clear HB; have HO_6 := n0_; have HO_7 := n1_; have HO718 := n2_; have HB := n3_; clear n0_ n1_ n2_ n3_; clear hb ho33))
               repeat (go_quiet (first | (go_at_call 65; (with_reducible refine (spec_l12Place.calls kj13 _ _ x7_2 (rd (rd_L1 l1 x8_2) 0) t712 _ ?side1 ?side2 A25.out).mono ?_); (case side1 => repeat (first | exact (Kd.R_reads' HO_7.out).2.2 | (with_reducible refine Kd.C_alloc ?_ _) | (with_reducible refine Kd.C_drewN ?_ _) | (with_reducible refine Kd.C_drew ?_))); (case side2 => exact (Kd.R_reads' HO_7.out).2.1); rintro e w' ⟨rfl, ⟨nd, rfl⟩⟩; (try first | exact ⟨rfl, _, World.drewN_drewN _ _ _⟩ | exact ⟨rfl, _, Eq.trans (World.drewN_drewN _ _ _) (congrArg (World.drewN _) (Nat.add_assoc _ _ _))⟩)) | ((with_reducible refine gate_dst (N := 85) rfl ?_); (try (refine gate_guard (by rfl) ?_; dsimp only)); refine Kd.R_lit (Kd.int .i64) _ 3 ?hg (N := 85) ?hd (xs := ([] : List Int)) (inner := []) (ok := fun _ => True) (okp := fun _ => True) ?hr ?hp (fun _ hk => hk) trivial (Below.refl _ _) (Nat.le_refl _) (by simp) ?_; (case hd => rfl); (case hg => rfl); (case hr => first | (go_simp; done) | (go_simp; rfl)); (case hp => exact (Reps.none _ _)); intro v717 w32 ho33 hb hg_ hnew_; clear hg_ hnew_; (first | rw [← Ny716.out] at ho33 | (simp only [Int.reduceToNat] at ho33; rw [← Ny716.out] at ho33)); have n0_ := Aside0.mk (Kd.R_elder' (rr HO_6) (Kd.R_base ho33) hb); have n1_ := Aside0.mk (Kd.R_elder' (rr HO_7) (Kd.R_base ho33) hb); have n2_ := Aside0.mk (Kd.R_lower (Kd.R_new' (Kd.R_new' ho33 (Kd.R_lt (rr HO_6))) (Kd.R_lt (rr HO_7))) (below_size (bl HB))); have n3_ := bs HB hb; clear HO_6; clear HO_7; clear HB; have HO_6 := n0_; have HO_7 := n1_; have HO718 := n2_; have HB := n3_; clear n0_ n1_ n2_ n3_; clear hb ho33)); try go_wp2_with (first | (go_at_call 65; (with_reducible refine (spec_l12Place.calls kj13 _ _ x7_2 (rd (rd_L1 l1 x8_2) 0) t712 _ ?side1 ?side2 A25.out).mono ?_); (case side1 => repeat (first | exact (Kd.R_reads' HO_7.out).2.2 | (with_reducible refine Kd.C_alloc ?_ _) | (with_reducible refine Kd.C_drewN ?_ _) | (with_reducible refine Kd.C_drew ?_))); (case side2 => exact (Kd.R_reads' HO_7.out).2.1); rintro e w' ⟨rfl, ⟨nd, rfl⟩⟩; (try first | exact ⟨rfl, _, World.drewN_drewN _ _ _⟩ | exact ⟨rfl, _, Eq.trans (World.drewN_drewN _ _ _) (congrArg (World.drewN _) (Nat.add_assoc _ _ _))⟩)) | ((with_reducible refine gate_dst (N := 85) rfl ?_); (try (refine gate_guard (by rfl) ?_; dsimp only)); refine Kd.R_lit (Kd.int .i64) _ 3 ?hg (N := 85) ?hd (xs := ([] : List Int)) (inner := []) (ok := fun _ => True) (okp := fun _ => True) ?hr ?hp (fun _ hk => hk) trivial (Below.refl _ _) (Nat.le_refl _) (by simp) ?_; (case hd => rfl); (case hg => rfl); (case hr => first | (go_simp; done) | (go_simp; rfl)); (case hp => exact (Reps.none _ _)); intro v717 w32 ho33 hb hg_ hnew_; clear hg_ hnew_; (first | rw [← Ny716.out] at ho33 | (simp only [Int.reduceToNat] at ho33; rw [← Ny716.out] at ho33)); have n0_ := Aside0.mk (Kd.R_elder' (rr HO_6) (Kd.R_base ho33) hb); have n1_ := Aside0.mk (Kd.R_elder' (rr HO_7) (Kd.R_base ho33) hb); have n2_ := Aside0.mk (Kd.R_lower (Kd.R_new' (Kd.R_new' ho33 (Kd.R_lt (rr HO_6))) (Kd.R_lt (rr HO_7))) (below_size (bl HB))); have n3_ := bs HB hb; clear HO_6; clear HO_7; clear HB; have HO_6 := n0_; have HO_7 := n1_; have HO718 := n2_; have HB := n3_; clear n0_ n1_ n2_ n3_; clear hb ho33)))
               go_ret2
               exact ⟨_, by first | rfl | (simp [errW_none, errW_some] <;> rfl) | (simp [*, errW_none, errW_some] <;> rfl), by (with_reducible repeat (first | apply Kd.R_alloc | apply Kd.R_drewN | apply Kd.R_drew)); exact Kd.R_mono HO718.out (fun _ hk => trivial), (bl HB)⟩
              ·rw [if_neg c30] at H
               have c30b0 : decide (a0 ≤ (wrap64 (t712 + 1))) = false := decide_eq_false c30
               clear c30
               obtain ⟨ji34, hji34⟩ : ∃ j_ : Int, (wrap64 (t712 + 1)) = j_ := ⟨_, rfl⟩
               replace H : (if 0 ≤ (ji34) then (if (ji34) < (x7_2.length : Int) then (if 1 < ((rd_L1 l1 x8_2).length : Int) then (if (rd x7_2 (ji34)) = (rd (rd_L1 l1 x8_2) 1) then ((spec_l12Swap.f x7_2 t712).bind fun bt722 => (if x6_2.length < 17592186044416 then (spec_WiringFrom.l0 kj13 a0 l1 (x6_2 ++ [t712]) bt722.2 (wrap64 (x8_2 + 1))) else (none))) else (some ((([] : List Int)), false))) else (none)) else (none)) else (none)) = some (r1, r2) := by first | (rw [hji34] at H; exact H) | (simp only [hji34] at H ⊢; exact H)
               (try rw [hji34] at c30b0)
               (try rw [hji34] at A25)
               have hji34w : (IntKind.i64.wrap (t712 + 1)) = ji34 := (i64_w _).trans hji34
               by_cases c35 : 0 ≤ (ji34)
               ·rw [if_pos c35] at H
                have c35b0 : decide (0 ≤ (ji34)) = true := decide_eq_true c35
                clear c35
                by_cases c36 : (ji34) < (x7_2.length : Int)
                ·rw [if_pos c36] at H
                 have c36b0 : decide ((ji34) < (x7_2.length : Int)) = true := decide_eq_true c36
                 clear c36
                 by_cases c37 : 1 < ((rd_L1 l1 x8_2).length : Int)
                 ·rw [if_pos c37] at H
                  have c37b0 : decide (1 < ((rd_L1 l1 x8_2).length : Int)) = true := decide_eq_true c37
                  have c37b1 : decide (1 < (rd_L1 l1 x8_2).length) = true := decide_eq_true (by omega)
                  clear c37
                  by_cases c38 : (rd x7_2 (ji34)) = (rd (rd_L1 l1 x8_2) 1)
                  ·rw [if_pos c38] at H
                   have c38b0 : ((rd x7_2 (ji34)) == (rd (rd_L1 l1 x8_2) 1)) = true := beq_iff_eq.mpr c38
                   have c38b1 : ((rd x7_2 (ji34)) != (rd (rd_L1 l1 x8_2) 1)) = false := bne_eq_false_iff_eq.mpr c38
                   clear c38
                   replace H := Option.bind_eq_some_iff.mp H
                   obtain ⟨⟨t722, t723⟩, A390, H⟩ := H
                   (try dsimp only at H)
                   have A39 := Aside0.mk A390
                   clear A390
                   by_cases c40 : x6_2.length < 17592186044416
                   ·rw [if_pos c40] at H
                    have LMc40 := Aside0.mk c40
                    clear c40
                    obtain ⟨y724, hy724⟩ : ∃ y_ : List Int, y_ = (x6_2 ++ [t712]) := ⟨_, rfl⟩
                    replace H : (spec_WiringFrom.l0 kj13 a0 l1 y724 t723 (wrap64 (x8_2 + 1))) = some (r1, r2) := by first | (rw [hy724]; with_reducible exact H) | (have H2_ := (Option.bind_some _ _).symm.trans H; rw [hy724]; with_reducible exact H2_) | (have H2_ := (Option.bind_some _ _).symm.trans H; with_reducible exact H2_) | with_reducible exact H | (rw [hy724]; exact H) | exact H
                    have Ny724 := Aside0.mk hy724
                    clear hy724
                    have H' := Aside0.mk H
                    clear H
                    have p710 : 0 ≤ (x8_2 : Int) := of_decide_eq_true (by first | (with_reducible assumption) | assumption)
                    have q710 : x8_2 < (l1.length : Int) := of_decide_eq_true (by first | (with_reducible assumption) | assumption)
                    obtain ⟨ad710, A710_0, c710_0, e710, hx710_0, hl710_0, hi710_0⟩ := at_L1 HR1.out x8_2 p710 q710
                    cases e710
                    replace hx710_0 := (HB.out.cell (World.block_lt_of_cell? w _ hx710_0)).trans hx710_0
                    have HR710_0 := Aside0.mk hi710_0
                    have HC710_0 := Aside0.mk hl710_0
                    clear hi710_0 hl710_0
                    replace p710 := eq_true p710
                    replace q710 := eq_true q710
                    have p711 : 0 ≤ (0 : Int) := (by omega)
                    have q711 : 0 < ((rd_L1 l1 x8_2).length : Int) := of_decide_eq_true (by first | (with_reducible assumption) | assumption)
                    obtain ⟨ad711, e711, hx711_0⟩ := Kd.at_int HR710_0.out 0 p711 q711
                    cases e711
                    have qi711 : (0 < (rd_L1 l1 x8_2).length) = True := eq_true (by omega)
                    (try rw [show ((0 : Int)).toNat = 0 from rfl] at hx711_0)
                    (try rw [Addr.add_zero'] at hx711_0)
                    replace hx711_0 := (HB.out.cell (World.block_lt_of_cell? w _ hx711_0)).trans hx711_0
                    replace p711 := eq_true p711
                    replace q711 := eq_true q711
                    obtain ⟨Ao41, co41, eo41⟩ := Kd.R_slice HO_7.out
                    subst eo41
                    go_wp2_with (first | (go_at_call 65; (with_reducible refine (spec_l12Place.calls kj13 _ _ x7_2 (rd (rd_L1 l1 x8_2) 0) t712 _ ?side1 ?side2 A25.out).mono ?_); (case side1 => repeat (first | exact (Kd.R_reads' HO_7.out).2.2 | (with_reducible refine Kd.C_alloc ?_ _) | (with_reducible refine Kd.C_drewN ?_ _) | (with_reducible refine Kd.C_drew ?_))); (case side2 => exact (Kd.R_reads' HO_7.out).2.1); rintro e w' ⟨rfl, ⟨nd, rfl⟩⟩; (try first | exact ⟨rfl, _, World.drewN_drewN _ _ _⟩ | exact ⟨rfl, _, Eq.trans (World.drewN_drewN _ _ _) (congrArg (World.drewN _) (Nat.add_assoc _ _ _))⟩); have p719 : 0 ≤ ((ji34) : Int) := of_decide_eq_true (by first | (with_reducible assumption) | assumption); have q719 : (ji34) < (x7_2.length : Int) := of_decide_eq_true (by first | (with_reducible assumption) | assumption); obtain ⟨ad719, e719, hx719_0⟩ := Kd.at_int (Kd.R_reads' HO_7.out).2.2 (ji34) p719 q719; cases e719; replace p719 := eq_true p719; replace q719 := eq_true q719; have p720 : 0 ≤ (x8_2 : Int) := of_decide_eq_true (by first | (with_reducible assumption) | assumption); have q720 : x8_2 < (l1.length : Int) := of_decide_eq_true (by first | (with_reducible assumption) | assumption); obtain ⟨ad720, A720_0, c720_0, e720, hx720_0, hl720_0, hi720_0⟩ := at_L1 HR1.out x8_2 p720 q720; obtain rfl : ad710 = ad720 := (by injection e720); replace hx720_0 := (HB.out.cell (World.block_lt_of_cell? w _ hx720_0)).trans hx720_0; have HR720_0 := Aside0.mk hi720_0; have HC720_0 := Aside0.mk hl720_0; clear hi720_0 hl720_0; replace p720 := eq_true p720; replace q720 := eq_true q720; have ea_ := Option.some.inj (hx710_0.symm.trans hx720_0); injection ea_ with ea_ en_ ec_; subst ea_; subst ec_; clear en_; have p721 : 0 ≤ (1 : Int) := (by omega); have q721 : 1 < ((rd_L1 l1 x8_2).length : Int) := of_decide_eq_true (by first | (with_reducible assumption) | assumption); obtain ⟨ad721, e721, hx721_0⟩ := Kd.at_int HR720_0.out 1 p721 q721; cases e721; (try simp only [show (1 : Int).toNat = 1 from rfl, Nat.reduceMul, Nat.reduceEqDiff, Go.Addr.add, ↓reduceIte] at hx721_0); have qi721 : (1 < (rd_L1 l1 x8_2).length) = True := eq_true (by omega); (try rw [show ((1 : Int)).toNat = 1 from rfl] at hx721_0); replace hx721_0 := (HB.out.cell (World.block_lt_of_cell? w _ hx721_0)).trans hx721_0; replace p721 := eq_true p721; replace q721 := eq_true q721) | (go_at_call 50; (with_reducible refine (spec_l12Swap.calls (fun k_ => some k_ = (.slice (some ad719) x7_2.length co41 : Value).ownBlock) (.slice (some ad719) x7_2.length co41) x7_2 t712 t722 t723 w _ ?side1 ?side2 A39.out).mono ?_); (case side1 => repeat (first | (with_reducible first | exact HB.out | apply below_alloc | apply pw_below_drewN | apply below_drew1) | exact HB.out)); (case side2 => exact Kd.R_tight rfl HO_7.out); rintro e w42 ⟨rfl, hy0, hb, hkp⟩; have n0_ := Aside0.mk (Kd.R_mono (ok' := fun k_ => some k_ ≠ (.slice (some ad719) x7_2.length co41 : Value).ownBlock) (Kd.R_keptB (HO_6.out) hkp (fun k_ hk_ hs_ => (hk_) hs_)) (fun k_ hk_ => hk_.1)); have n1_ := Aside0.mk (Kd.R_reok rfl hy0 (fun k_ e_ => HO_7.out.1 k_ e_)); have n2_ := Aside0.mk (hb); clear HO_6; clear HO_7; clear HB; have HO_6 := n0_; have HO_7 := n1_; have HB := n2_; clear n0_ n1_ n2_; (try clear hb); (try clear hkp); (try clear hy0)) | ((with_reducible refine gate_builtin (b := .append) (xs := #[.tmp 89, .tmp 91]) rfl ?_); (try (refine gate_guard (by rfl) ?_; dsimp only)); at_builtin; refine Kd.R_append (Kd.int .i64) (w0 := w) w.heap.size rfl (.tmp 89) (.tmp 91) 22 3 (.int .i64 0) 8 rfl Try.underlying22 info3 rfl (by decide) (by omega) u6 x6_2 t712 [.int .i64 t712] (fun k_ => some k_ ≠ (.slice (some ad719) x7_2.length co41 : Value).ownBlock) (fun _ => False) rfl rfl ?aP (fun _ hk => hk.elim) ?aF ?aO ?aB ?aS ?aL ?_; (case aP => exact rfl); (case aB => exact (bl HB)); (case aF => exact (fun k_ hk => Kd.fresh' (Kd.R_lt (rr HO_7)) k_ hk)); (case aO => exact (rr HO_6)); (case aS => exact (below_size (bl HB))); (case aL => have := LMc40.out; omega); intro v725 w43 ho hb hg hat; rw [← Ny724.out] at ho; have n0_ := Aside0.mk (Kd.R_after (ok := (fun _ => True)) (by (with_reducible repeat (first | apply Kd.R_alloc | apply Kd.R_drewN | apply Kd.R_drew)); exact Kd.R_mono HO_7.out (fun _ hk => ⟨trivial, hk⟩)) hg hat); have n1_ := Aside0.mk (hb); have n2_ := Aside0.mk (ho); clear HO_7; clear HB; clear HO_6; have HO_7 := n0_; have HB := n1_; have HO726 := n2_; clear n0_ n1_ n2_; clear ho hb hg hat))
                    repeat (go_quiet (first | (go_at_call 65; (with_reducible refine (spec_l12Place.calls kj13 _ _ x7_2 (rd (rd_L1 l1 x8_2) 0) t712 _ ?side1 ?side2 A25.out).mono ?_); (case side1 => repeat (first | exact (Kd.R_reads' HO_7.out).2.2 | (with_reducible refine Kd.C_alloc ?_ _) | (with_reducible refine Kd.C_drewN ?_ _) | (with_reducible refine Kd.C_drew ?_))); (case side2 => exact (Kd.R_reads' HO_7.out).2.1); rintro e w' ⟨rfl, ⟨nd, rfl⟩⟩; (try first | exact ⟨rfl, _, World.drewN_drewN _ _ _⟩ | exact ⟨rfl, _, Eq.trans (World.drewN_drewN _ _ _) (congrArg (World.drewN _) (Nat.add_assoc _ _ _))⟩); have p719 : 0 ≤ ((ji34) : Int) := of_decide_eq_true (by first | (with_reducible assumption) | assumption); have q719 : (ji34) < (x7_2.length : Int) := of_decide_eq_true (by first | (with_reducible assumption) | assumption); obtain ⟨ad719, e719, hx719_0⟩ := Kd.at_int (Kd.R_reads' HO_7.out).2.2 (ji34) p719 q719; cases e719; replace p719 := eq_true p719; replace q719 := eq_true q719; have p720 : 0 ≤ (x8_2 : Int) := of_decide_eq_true (by first | (with_reducible assumption) | assumption); have q720 : x8_2 < (l1.length : Int) := of_decide_eq_true (by first | (with_reducible assumption) | assumption); obtain ⟨ad720, A720_0, c720_0, e720, hx720_0, hl720_0, hi720_0⟩ := at_L1 HR1.out x8_2 p720 q720; obtain rfl : ad710 = ad720 := (by injection e720); replace hx720_0 := (HB.out.cell (World.block_lt_of_cell? w _ hx720_0)).trans hx720_0; have HR720_0 := Aside0.mk hi720_0; have HC720_0 := Aside0.mk hl720_0; clear hi720_0 hl720_0; replace p720 := eq_true p720; replace q720 := eq_true q720; have ea_ := Option.some.inj (hx710_0.symm.trans hx720_0); injection ea_ with ea_ en_ ec_; subst ea_; subst ec_; clear en_; have p721 : 0 ≤ (1 : Int) := (by omega); have q721 : 1 < ((rd_L1 l1 x8_2).length : Int) := of_decide_eq_true (by first | (with_reducible assumption) | assumption); obtain ⟨ad721, e721, hx721_0⟩ := Kd.at_int HR720_0.out 1 p721 q721; cases e721; (try simp only [show (1 : Int).toNat = 1 from rfl, Nat.reduceMul, Nat.reduceEqDiff, Go.Addr.add, ↓reduceIte] at hx721_0); have qi721 : (1 < (rd_L1 l1 x8_2).length) = True := eq_true (by omega); (try rw [show ((1 : Int)).toNat = 1 from rfl] at hx721_0); replace hx721_0 := (HB.out.cell (World.block_lt_of_cell? w _ hx721_0)).trans hx721_0; replace p721 := eq_true p721; replace q721 := eq_true q721) | (go_at_call 50; (with_reducible refine (spec_l12Swap.calls (fun k_ => some k_ = (.slice (some ad719) x7_2.length co41 : Value).ownBlock) (.slice (some ad719) x7_2.length co41) x7_2 t712 t722 t723 w _ ?side1 ?side2 A39.out).mono ?_); (case side1 => repeat (first | (with_reducible first | exact HB.out | apply below_alloc | apply pw_below_drewN | apply below_drew1) | exact HB.out)); (case side2 => exact Kd.R_tight rfl HO_7.out); rintro e w42 ⟨rfl, hy0, hb, hkp⟩; have n0_ := Aside0.mk (Kd.R_mono (ok' := fun k_ => some k_ ≠ (.slice (some ad719) x7_2.length co41 : Value).ownBlock) (Kd.R_keptB (HO_6.out) hkp (fun k_ hk_ hs_ => (hk_) hs_)) (fun k_ hk_ => hk_.1)); have n1_ := Aside0.mk (Kd.R_reok rfl hy0 (fun k_ e_ => HO_7.out.1 k_ e_)); have n2_ := Aside0.mk (hb); clear HO_6; clear HO_7; clear HB; have HO_6 := n0_; have HO_7 := n1_; have HB := n2_; clear n0_ n1_ n2_; (try clear hb); (try clear hkp); (try clear hy0)) | ((with_reducible refine gate_builtin (b := .append) (xs := #[.tmp 89, .tmp 91]) rfl ?_); (try (refine gate_guard (by rfl) ?_; dsimp only)); at_builtin; refine Kd.R_append (Kd.int .i64) (w0 := w) w.heap.size rfl (.tmp 89) (.tmp 91) 22 3 (.int .i64 0) 8 rfl Try.underlying22 info3 rfl (by decide) (by omega) u6 x6_2 t712 [.int .i64 t712] (fun k_ => some k_ ≠ (.slice (some ad719) x7_2.length co41 : Value).ownBlock) (fun _ => False) rfl rfl ?aP (fun _ hk => hk.elim) ?aF ?aO ?aB ?aS ?aL ?_; (case aP => exact rfl); (case aB => exact (bl HB)); (case aF => exact (fun k_ hk => Kd.fresh' (Kd.R_lt (rr HO_7)) k_ hk)); (case aO => exact (rr HO_6)); (case aS => exact (below_size (bl HB))); (case aL => have := LMc40.out; omega); intro v725 w43 ho hb hg hat; rw [← Ny724.out] at ho; have n0_ := Aside0.mk (Kd.R_after (ok := (fun _ => True)) (by (with_reducible repeat (first | apply Kd.R_alloc | apply Kd.R_drewN | apply Kd.R_drew)); exact Kd.R_mono HO_7.out (fun _ hk => ⟨trivial, hk⟩)) hg hat); have n1_ := Aside0.mk (hb); have n2_ := Aside0.mk (ho); clear HO_7; clear HB; clear HO_6; have HO_7 := n0_; have HB := n1_; have HO726 := n2_; clear n0_ n1_ n2_; clear ho hb hg hat)); try go_wp2_with (first | (go_at_call 65; (with_reducible refine (spec_l12Place.calls kj13 _ _ x7_2 (rd (rd_L1 l1 x8_2) 0) t712 _ ?side1 ?side2 A25.out).mono ?_); (case side1 => repeat (first | exact (Kd.R_reads' HO_7.out).2.2 | (with_reducible refine Kd.C_alloc ?_ _) | (with_reducible refine Kd.C_drewN ?_ _) | (with_reducible refine Kd.C_drew ?_))); (case side2 => exact (Kd.R_reads' HO_7.out).2.1); rintro e w' ⟨rfl, ⟨nd, rfl⟩⟩; (try first | exact ⟨rfl, _, World.drewN_drewN _ _ _⟩ | exact ⟨rfl, _, Eq.trans (World.drewN_drewN _ _ _) (congrArg (World.drewN _) (Nat.add_assoc _ _ _))⟩); have p719 : 0 ≤ ((ji34) : Int) := of_decide_eq_true (by first | (with_reducible assumption) | assumption); have q719 : (ji34) < (x7_2.length : Int) := of_decide_eq_true (by first | (with_reducible assumption) | assumption); obtain ⟨ad719, e719, hx719_0⟩ := Kd.at_int (Kd.R_reads' HO_7.out).2.2 (ji34) p719 q719; cases e719; replace p719 := eq_true p719; replace q719 := eq_true q719; have p720 : 0 ≤ (x8_2 : Int) := of_decide_eq_true (by first | (with_reducible assumption) | assumption); have q720 : x8_2 < (l1.length : Int) := of_decide_eq_true (by first | (with_reducible assumption) | assumption); obtain ⟨ad720, A720_0, c720_0, e720, hx720_0, hl720_0, hi720_0⟩ := at_L1 HR1.out x8_2 p720 q720; obtain rfl : ad710 = ad720 := (by injection e720); replace hx720_0 := (HB.out.cell (World.block_lt_of_cell? w _ hx720_0)).trans hx720_0; have HR720_0 := Aside0.mk hi720_0; have HC720_0 := Aside0.mk hl720_0; clear hi720_0 hl720_0; replace p720 := eq_true p720; replace q720 := eq_true q720; have ea_ := Option.some.inj (hx710_0.symm.trans hx720_0); injection ea_ with ea_ en_ ec_; subst ea_; subst ec_; clear en_; have p721 : 0 ≤ (1 : Int) := (by omega); have q721 : 1 < ((rd_L1 l1 x8_2).length : Int) := of_decide_eq_true (by first | (with_reducible assumption) | assumption); obtain ⟨ad721, e721, hx721_0⟩ := Kd.at_int HR720_0.out 1 p721 q721; cases e721; (try simp only [show (1 : Int).toNat = 1 from rfl, Nat.reduceMul, Nat.reduceEqDiff, Go.Addr.add, ↓reduceIte] at hx721_0); have qi721 : (1 < (rd_L1 l1 x8_2).length) = True := eq_true (by omega); (try rw [show ((1 : Int)).toNat = 1 from rfl] at hx721_0); replace hx721_0 := (HB.out.cell (World.block_lt_of_cell? w _ hx721_0)).trans hx721_0; replace p721 := eq_true p721; replace q721 := eq_true q721) | (go_at_call 50; (with_reducible refine (spec_l12Swap.calls (fun k_ => some k_ = (.slice (some ad719) x7_2.length co41 : Value).ownBlock) (.slice (some ad719) x7_2.length co41) x7_2 t712 t722 t723 w _ ?side1 ?side2 A39.out).mono ?_); (case side1 => repeat (first | (with_reducible first | exact HB.out | apply below_alloc | apply pw_below_drewN | apply below_drew1) | exact HB.out)); (case side2 => exact Kd.R_tight rfl HO_7.out); rintro e w42 ⟨rfl, hy0, hb, hkp⟩; have n0_ := Aside0.mk (Kd.R_mono (ok' := fun k_ => some k_ ≠ (.slice (some ad719) x7_2.length co41 : Value).ownBlock) (Kd.R_keptB (HO_6.out) hkp (fun k_ hk_ hs_ => (hk_) hs_)) (fun k_ hk_ => hk_.1)); have n1_ := Aside0.mk (Kd.R_reok rfl hy0 (fun k_ e_ => HO_7.out.1 k_ e_)); have n2_ := Aside0.mk (hb); clear HO_6; clear HO_7; clear HB; have HO_6 := n0_; have HO_7 := n1_; have HB := n2_; clear n0_ n1_ n2_; (try clear hb); (try clear hkp); (try clear hy0)) | ((with_reducible refine gate_builtin (b := .append) (xs := #[.tmp 89, .tmp 91]) rfl ?_); (try (refine gate_guard (by rfl) ?_; dsimp only)); at_builtin; refine Kd.R_append (Kd.int .i64) (w0 := w) w.heap.size rfl (.tmp 89) (.tmp 91) 22 3 (.int .i64 0) 8 rfl Try.underlying22 info3 rfl (by decide) (by omega) u6 x6_2 t712 [.int .i64 t712] (fun k_ => some k_ ≠ (.slice (some ad719) x7_2.length co41 : Value).ownBlock) (fun _ => False) rfl rfl ?aP (fun _ hk => hk.elim) ?aF ?aO ?aB ?aS ?aL ?_; (case aP => exact rfl); (case aB => exact (bl HB)); (case aF => exact (fun k_ hk => Kd.fresh' (Kd.R_lt (rr HO_7)) k_ hk)); (case aO => exact (rr HO_6)); (case aS => exact (below_size (bl HB))); (case aL => have := LMc40.out; omega); intro v725 w43 ho hb hg hat; rw [← Ny724.out] at ho; have n0_ := Aside0.mk (Kd.R_after (ok := (fun _ => True)) (by (with_reducible repeat (first | apply Kd.R_alloc | apply Kd.R_drewN | apply Kd.R_drew)); exact Kd.R_mono HO_7.out (fun _ hk => ⟨trivial, hk⟩)) hg hat); have n1_ := Aside0.mk (hb); have n2_ := Aside0.mk (ho); clear HO_7; clear HB; clear HO_6; have HO_7 := n0_; have HB := n1_; have HO726 := n2_; clear n0_ n1_ n2_; clear ho hb hg hat)))
                    go_roundg kj13
                    case measure => have := HJ2.out; have := HK2.out; have := HJ13.out; omega
                    case rel => exact ⟨(y724), (t723), (wrap64 (x8_2 + 1)), (by first | rfl | (simp; done) | (simp [*]; done)), H', ⟨by have := HJ2.out; have := HK2.out; have := HJ13.out; omega⟩, ⟨by (with_reducible repeat (first | apply Kd.R_alloc | apply Kd.R_drewN | apply Kd.R_drew)); exact HO726.out⟩, ⟨by (with_reducible repeat (first | apply Kd.R_alloc | apply Kd.R_drewN | apply Kd.R_drew)); exact Kd.R_mono HO_7.out (fun _ hk => hk.2)⟩, ⟨(bl HB)⟩⟩
                   ·rw [if_neg c40] at H
                    exact absurd H (by simp)
                  ·rw [if_neg c38] at H
                   have c38b0 : ((rd x7_2 (ji34)) == (rd (rd_L1 l1 x8_2) 1)) = false := beq_eq_false_iff_ne.mpr c38
                   have c38b1 : ((rd x7_2 (ji34)) != (rd (rd_L1 l1 x8_2) 1)) = true := bne_iff_ne.mpr c38
                   obtain ⟨y727, hy727⟩ : ∃ y_ : List Int, y_ = (([] : List Int)) := ⟨_, rfl⟩
                   replace H : (some (y727, false)) = some (r1, r2) := by first | (rw [hy727]; with_reducible exact H) | (have H2_ := (Option.bind_some _ _).symm.trans H; rw [hy727]; with_reducible exact H2_) | (have H2_ := (Option.bind_some _ _).symm.trans H; with_reducible exact H2_) | with_reducible exact H | (rw [hy727]; exact H) | exact H
                   have Ny727 := Aside0.mk hy727
                   clear hy727
                   simp only [Option.some.injEq, Prod.mk.injEq] at H
                   obtain ⟨rfl, rfl⟩ := H
                   have p710 : 0 ≤ (x8_2 : Int) := of_decide_eq_true (by first | (with_reducible assumption) | assumption)
                   have q710 : x8_2 < (l1.length : Int) := of_decide_eq_true (by first | (with_reducible assumption) | assumption)
                   obtain ⟨ad710, A710_0, c710_0, e710, hx710_0, hl710_0, hi710_0⟩ := at_L1 HR1.out x8_2 p710 q710
                   cases e710
                   replace hx710_0 := (HB.out.cell (World.block_lt_of_cell? w _ hx710_0)).trans hx710_0
                   have HR710_0 := Aside0.mk hi710_0
                   have HC710_0 := Aside0.mk hl710_0
                   clear hi710_0 hl710_0
                   replace p710 := eq_true p710
                   replace q710 := eq_true q710
                   have p711 : 0 ≤ (0 : Int) := (by omega)
                   have q711 : 0 < ((rd_L1 l1 x8_2).length : Int) := of_decide_eq_true (by first | (with_reducible assumption) | assumption)
                   obtain ⟨ad711, e711, hx711_0⟩ := Kd.at_int HR710_0.out 0 p711 q711
                   cases e711
                   have qi711 : (0 < (rd_L1 l1 x8_2).length) = True := eq_true (by omega)
                   (try rw [show ((0 : Int)).toNat = 0 from rfl] at hx711_0)
                   (try rw [Addr.add_zero'] at hx711_0)
                   replace hx711_0 := (HB.out.cell (World.block_lt_of_cell? w _ hx711_0)).trans hx711_0
                   replace p711 := eq_true p711
                   replace q711 := eq_true q711
                   obtain ⟨Ao44, co44, eo44⟩ := Kd.R_slice HO_7.out
                   subst eo44
                   go_wp2_with (first | (go_at_call 65; (with_reducible refine (spec_l12Place.calls kj13 _ _ x7_2 (rd (rd_L1 l1 x8_2) 0) t712 _ ?side1 ?side2 A25.out).mono ?_); (case side1 => repeat (first | exact (Kd.R_reads' HO_7.out).2.2 | (with_reducible refine Kd.C_alloc ?_ _) | (with_reducible refine Kd.C_drewN ?_ _) | (with_reducible refine Kd.C_drew ?_))); (case side2 => exact (Kd.R_reads' HO_7.out).2.1); rintro e w' ⟨rfl, ⟨nd, rfl⟩⟩; (try first | exact ⟨rfl, _, World.drewN_drewN _ _ _⟩ | exact ⟨rfl, _, Eq.trans (World.drewN_drewN _ _ _) (congrArg (World.drewN _) (Nat.add_assoc _ _ _))⟩); have p719 : 0 ≤ ((ji34) : Int) := of_decide_eq_true (by first | (with_reducible assumption) | assumption); have q719 : (ji34) < (x7_2.length : Int) := of_decide_eq_true (by first | (with_reducible assumption) | assumption); obtain ⟨ad719, e719, hx719_0⟩ := Kd.at_int (Kd.R_reads' HO_7.out).2.2 (ji34) p719 q719; cases e719; replace p719 := eq_true p719; replace q719 := eq_true q719; have p720 : 0 ≤ (x8_2 : Int) := of_decide_eq_true (by first | (with_reducible assumption) | assumption); have q720 : x8_2 < (l1.length : Int) := of_decide_eq_true (by first | (with_reducible assumption) | assumption); obtain ⟨ad720, A720_0, c720_0, e720, hx720_0, hl720_0, hi720_0⟩ := at_L1 HR1.out x8_2 p720 q720; obtain rfl : ad710 = ad720 := (by injection e720); replace hx720_0 := (HB.out.cell (World.block_lt_of_cell? w _ hx720_0)).trans hx720_0; have HR720_0 := Aside0.mk hi720_0; have HC720_0 := Aside0.mk hl720_0; clear hi720_0 hl720_0; replace p720 := eq_true p720; replace q720 := eq_true q720; have ea_ := Option.some.inj (hx710_0.symm.trans hx720_0); injection ea_ with ea_ en_ ec_; subst ea_; subst ec_; clear en_; have p721 : 0 ≤ (1 : Int) := (by omega); have q721 : 1 < ((rd_L1 l1 x8_2).length : Int) := of_decide_eq_true (by first | (with_reducible assumption) | assumption); obtain ⟨ad721, e721, hx721_0⟩ := Kd.at_int HR720_0.out 1 p721 q721; cases e721; (try simp only [show (1 : Int).toNat = 1 from rfl, Nat.reduceMul, Nat.reduceEqDiff, Go.Addr.add, ↓reduceIte] at hx721_0); have qi721 : (1 < (rd_L1 l1 x8_2).length) = True := eq_true (by omega); (try rw [show ((1 : Int)).toNat = 1 from rfl] at hx721_0); replace hx721_0 := (HB.out.cell (World.block_lt_of_cell? w _ hx721_0)).trans hx721_0; replace p721 := eq_true p721; replace q721 := eq_true q721) | ((with_reducible refine gate_dst (N := 85) rfl ?_); (try (refine gate_guard (by rfl) ?_; dsimp only)); refine Kd.R_lit (Kd.int .i64) _ 3 ?hg (N := 85) ?hd (xs := ([] : List Int)) (inner := []) (ok := fun _ => True) (okp := fun _ => True) ?hr ?hp (fun _ hk => hk) trivial (Below.refl _ _) (Nat.le_refl _) (by simp) ?_; (case hd => rfl); (case hg => rfl); (case hr => first | (go_simp; done) | (go_simp; rfl)); (case hp => exact (Reps.none _ _)); intro v728 w45 ho46 hb hg_ hnew_; clear hg_ hnew_; (first | rw [← Ny727.out] at ho46 | (simp only [Int.reduceToNat] at ho46; rw [← Ny727.out] at ho46)); have n0_ := Aside0.mk (Kd.R_elder' (rr HO_6) (Kd.R_base ho46) hb); have n1_ := Aside0.mk (Kd.R_elder' (rr HO_7) (Kd.R_base ho46) hb); have n2_ := Aside0.mk (Kd.R_lower (Kd.R_new' (Kd.R_new' ho46 (Kd.R_lt (rr HO_6))) (Kd.R_lt (rr HO_7))) (below_size (bl HB))); have n3_ := bs HB hb; clear HO_6; clear HO_7; clear HB; have HO_6 := n0_; have HO_7 := n1_; have HO729 := n2_; have HB := n3_; clear n0_ n1_ n2_ n3_; clear hb ho46))
                   repeat (go_quiet (first | (go_at_call 65; (with_reducible refine (spec_l12Place.calls kj13 _ _ x7_2 (rd (rd_L1 l1 x8_2) 0) t712 _ ?side1 ?side2 A25.out).mono ?_); (case side1 => repeat (first | exact (Kd.R_reads' HO_7.out).2.2 | (with_reducible refine Kd.C_alloc ?_ _) | (with_reducible refine Kd.C_drewN ?_ _) | (with_reducible refine Kd.C_drew ?_))); (case side2 => exact (Kd.R_reads' HO_7.out).2.1); rintro e w' ⟨rfl, ⟨nd, rfl⟩⟩; (try first | exact ⟨rfl, _, World.drewN_drewN _ _ _⟩ | exact ⟨rfl, _, Eq.trans (World.drewN_drewN _ _ _) (congrArg (World.drewN _) (Nat.add_assoc _ _ _))⟩); have p719 : 0 ≤ ((ji34) : Int) := of_decide_eq_true (by first | (with_reducible assumption) | assumption); have q719 : (ji34) < (x7_2.length : Int) := of_decide_eq_true (by first | (with_reducible assumption) | assumption); obtain ⟨ad719, e719, hx719_0⟩ := Kd.at_int (Kd.R_reads' HO_7.out).2.2 (ji34) p719 q719; cases e719; replace p719 := eq_true p719; replace q719 := eq_true q719; have p720 : 0 ≤ (x8_2 : Int) := of_decide_eq_true (by first | (with_reducible assumption) | assumption); have q720 : x8_2 < (l1.length : Int) := of_decide_eq_true (by first | (with_reducible assumption) | assumption); obtain ⟨ad720, A720_0, c720_0, e720, hx720_0, hl720_0, hi720_0⟩ := at_L1 HR1.out x8_2 p720 q720; obtain rfl : ad710 = ad720 := (by injection e720); replace hx720_0 := (HB.out.cell (World.block_lt_of_cell? w _ hx720_0)).trans hx720_0; have HR720_0 := Aside0.mk hi720_0; have HC720_0 := Aside0.mk hl720_0; clear hi720_0 hl720_0; replace p720 := eq_true p720; replace q720 := eq_true q720; have ea_ := Option.some.inj (hx710_0.symm.trans hx720_0); injection ea_ with ea_ en_ ec_; subst ea_; subst ec_; clear en_; have p721 : 0 ≤ (1 : Int) := (by omega); have q721 : 1 < ((rd_L1 l1 x8_2).length : Int) := of_decide_eq_true (by first | (with_reducible assumption) | assumption); obtain ⟨ad721, e721, hx721_0⟩ := Kd.at_int HR720_0.out 1 p721 q721; cases e721; (try simp only [show (1 : Int).toNat = 1 from rfl, Nat.reduceMul, Nat.reduceEqDiff, Go.Addr.add, ↓reduceIte] at hx721_0); have qi721 : (1 < (rd_L1 l1 x8_2).length) = True := eq_true (by omega); (try rw [show ((1 : Int)).toNat = 1 from rfl] at hx721_0); replace hx721_0 := (HB.out.cell (World.block_lt_of_cell? w _ hx721_0)).trans hx721_0; replace p721 := eq_true p721; replace q721 := eq_true q721) | ((with_reducible refine gate_dst (N := 85) rfl ?_); (try (refine gate_guard (by rfl) ?_; dsimp only)); refine Kd.R_lit (Kd.int .i64) _ 3 ?hg (N := 85) ?hd (xs := ([] : List Int)) (inner := []) (ok := fun _ => True) (okp := fun _ => True) ?hr ?hp (fun _ hk => hk) trivial (Below.refl _ _) (Nat.le_refl _) (by simp) ?_; (case hd => rfl); (case hg => rfl); (case hr => first | (go_simp; done) | (go_simp; rfl)); (case hp => exact (Reps.none _ _)); intro v728 w45 ho46 hb hg_ hnew_; clear hg_ hnew_; (first | rw [← Ny727.out] at ho46 | (simp only [Int.reduceToNat] at ho46; rw [← Ny727.out] at ho46)); have n0_ := Aside0.mk (Kd.R_elder' (rr HO_6) (Kd.R_base ho46) hb); have n1_ := Aside0.mk (Kd.R_elder' (rr HO_7) (Kd.R_base ho46) hb); have n2_ := Aside0.mk (Kd.R_lower (Kd.R_new' (Kd.R_new' ho46 (Kd.R_lt (rr HO_6))) (Kd.R_lt (rr HO_7))) (below_size (bl HB))); have n3_ := bs HB hb; clear HO_6; clear HO_7; clear HB; have HO_6 := n0_; have HO_7 := n1_; have HO729 := n2_; have HB := n3_; clear n0_ n1_ n2_ n3_; clear hb ho46)); try go_wp2_with (first | (go_at_call 65; (with_reducible refine (spec_l12Place.calls kj13 _ _ x7_2 (rd (rd_L1 l1 x8_2) 0) t712 _ ?side1 ?side2 A25.out).mono ?_); (case side1 => repeat (first | exact (Kd.R_reads' HO_7.out).2.2 | (with_reducible refine Kd.C_alloc ?_ _) | (with_reducible refine Kd.C_drewN ?_ _) | (with_reducible refine Kd.C_drew ?_))); (case side2 => exact (Kd.R_reads' HO_7.out).2.1); rintro e w' ⟨rfl, ⟨nd, rfl⟩⟩; (try first | exact ⟨rfl, _, World.drewN_drewN _ _ _⟩ | exact ⟨rfl, _, Eq.trans (World.drewN_drewN _ _ _) (congrArg (World.drewN _) (Nat.add_assoc _ _ _))⟩); have p719 : 0 ≤ ((ji34) : Int) := of_decide_eq_true (by first | (with_reducible assumption) | assumption); have q719 : (ji34) < (x7_2.length : Int) := of_decide_eq_true (by first | (with_reducible assumption) | assumption); obtain ⟨ad719, e719, hx719_0⟩ := Kd.at_int (Kd.R_reads' HO_7.out).2.2 (ji34) p719 q719; cases e719; replace p719 := eq_true p719; replace q719 := eq_true q719; have p720 : 0 ≤ (x8_2 : Int) := of_decide_eq_true (by first | (with_reducible assumption) | assumption); have q720 : x8_2 < (l1.length : Int) := of_decide_eq_true (by first | (with_reducible assumption) | assumption); obtain ⟨ad720, A720_0, c720_0, e720, hx720_0, hl720_0, hi720_0⟩ := at_L1 HR1.out x8_2 p720 q720; obtain rfl : ad710 = ad720 := (by injection e720); replace hx720_0 := (HB.out.cell (World.block_lt_of_cell? w _ hx720_0)).trans hx720_0; have HR720_0 := Aside0.mk hi720_0; have HC720_0 := Aside0.mk hl720_0; clear hi720_0 hl720_0; replace p720 := eq_true p720; replace q720 := eq_true q720; have ea_ := Option.some.inj (hx710_0.symm.trans hx720_0); injection ea_ with ea_ en_ ec_; subst ea_; subst ec_; clear en_; have p721 : 0 ≤ (1 : Int) := (by omega); have q721 : 1 < ((rd_L1 l1 x8_2).length : Int) := of_decide_eq_true (by first | (with_reducible assumption) | assumption); obtain ⟨ad721, e721, hx721_0⟩ := Kd.at_int HR720_0.out 1 p721 q721; cases e721; (try simp only [show (1 : Int).toNat = 1 from rfl, Nat.reduceMul, Nat.reduceEqDiff, Go.Addr.add, ↓reduceIte] at hx721_0); have qi721 : (1 < (rd_L1 l1 x8_2).length) = True := eq_true (by omega); (try rw [show ((1 : Int)).toNat = 1 from rfl] at hx721_0); replace hx721_0 := (HB.out.cell (World.block_lt_of_cell? w _ hx721_0)).trans hx721_0; replace p721 := eq_true p721; replace q721 := eq_true q721) | ((with_reducible refine gate_dst (N := 85) rfl ?_); (try (refine gate_guard (by rfl) ?_; dsimp only)); refine Kd.R_lit (Kd.int .i64) _ 3 ?hg (N := 85) ?hd (xs := ([] : List Int)) (inner := []) (ok := fun _ => True) (okp := fun _ => True) ?hr ?hp (fun _ hk => hk) trivial (Below.refl _ _) (Nat.le_refl _) (by simp) ?_; (case hd => rfl); (case hg => rfl); (case hr => first | (go_simp; done) | (go_simp; rfl)); (case hp => exact (Reps.none _ _)); intro v728 w45 ho46 hb hg_ hnew_; clear hg_ hnew_; (first | rw [← Ny727.out] at ho46 | (simp only [Int.reduceToNat] at ho46; rw [← Ny727.out] at ho46)); have n0_ := Aside0.mk (Kd.R_elder' (rr HO_6) (Kd.R_base ho46) hb); have n1_ := Aside0.mk (Kd.R_elder' (rr HO_7) (Kd.R_base ho46) hb); have n2_ := Aside0.mk (Kd.R_lower (Kd.R_new' (Kd.R_new' ho46 (Kd.R_lt (rr HO_6))) (Kd.R_lt (rr HO_7))) (below_size (bl HB))); have n3_ := bs HB hb; clear HO_6; clear HO_7; clear HB; have HO_6 := n0_; have HO_7 := n1_; have HO729 := n2_; have HB := n3_; clear n0_ n1_ n2_ n3_; clear hb ho46)))
                   go_ret2
                   exact ⟨_, by first | rfl | (simp [errW_none, errW_some] <;> rfl) | (simp only [← hji34]; first | rfl | (simp [errW_none, errW_some] <;> rfl)) | (simp [*, errW_none, errW_some] <;> rfl), by (with_reducible repeat (first | apply Kd.R_alloc | apply Kd.R_drewN | apply Kd.R_drew)); exact Kd.R_mono HO729.out (fun _ hk => trivial), (bl HB)⟩
                 ·rw [if_neg c37] at H
                  exact absurd H (by simp)
                ·rw [if_neg c36] at H
                 exact absurd H (by simp)
               ·rw [if_neg c35] at H
                exact absurd H (by simp)
            ·rw [if_neg c24] at H
             exact absurd H (by simp)
           ·rw [if_neg c23] at H
            exact absurd H (by simp)
          ·rw [if_neg c22] at H
           exact absurd H (by simp)
      ·rw [if_neg c13] at H
       have c13b0 : decide (x8_2 < (l1.length : Int)) = false := decide_eq_false c13
       clear c13
       simp only [Option.some.injEq, Prod.mk.injEq] at H
       obtain ⟨rfl, rfl⟩ := H
       go_wp2
       repeat (go_quiet (fail); try go_wp2)
       go_ret2
       exact ⟨_, by first | rfl | (simp [errW_none, errW_some] <;> rfl) | (simp [*, errW_none, errW_some] <;> rfl), by (with_reducible repeat (first | apply Kd.R_alloc | apply Kd.R_drewN | apply Kd.R_drew)); exact Kd.R_mono HO_6.out (fun _ hk => trivial), (bl HB)⟩

end Go.Proofs.Ytdjaiedfcmjblaa.P
