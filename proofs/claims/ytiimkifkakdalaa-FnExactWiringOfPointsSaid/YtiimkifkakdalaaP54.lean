-- Printed by a program of this session (wip/tools/myprint.py, over the kit's print.py); not trusted: Lean checks it.
import Derived.Test.YtiimkifkakdalaaWAll2
import Derived.Test.YtiimkifkakdalaaP0
import Derived.Test.YtiimkifkakdalaaOPts
import Derived.Test.YtiimkifkakdalaaOSwap
import Derived.Test.YtiimkifkakdalaaP53
import Derived.Test.YtiimkifkakdalaaP68
namespace Go.Proofs.Ytiimkifkakdalaa.P
open Go.RowKit Go.Proofs.YtiimkifkakdalaaW.PrintWords Go.Proofs.YtiimkifkakdalaaW.PrintLast Go.Proofs.YtiimkifkakdalaaW.PrintMore
attribute [local go_sem] max2_int min2_int max_two min_two max_three min_three max_four min_four   -- for this text's walks alone
set_option linter.unusedVariables false
set_option linter.unusedSimpArgs false

/-! ### spec_WiringFrom: function 54 -/
mutual
def spec_WiringFrom.j0 : Nat → Int → List (List Int) → Bool → Option (List Int × Bool)
 | 0, _, _, _ => none
 | k + 1, x0, x1, x22 => if x22 = true then (some ((([] : List Int)), false)) else ((spec_l12Start.f k x0).bind fun t744 => (spec_WiringFrom.l0 k x0 x1 (([] : List Int)) t744 0))
def spec_WiringFrom.l0 : Nat → Int → List (List Int) → List Int → List Int → Int → Option (List Int × Bool)
 | 0, _, _, _, _, _ => none
 | k + 1, x0, x1, x6, x7, x8 => if x8 < (x1.length : Int) then (if 0 ≤ x8 then (if ((rd_L8 x1 x8).length : Int) = 2 then (if 0 < ((rd_L8 x1 x8).length : Int) then (if 1 < ((rd_L8 x1 x8).length : Int) then (spec_WiringFrom.j2 k x0 x1 x6 x7 x8 (decide ((rd (rd_L8 x1 x8) 0) ≥ (rd (rd_L8 x1 x8) 1)))) else (none)) else (none)) else (spec_WiringFrom.j2 k x0 x1 x6 x7 x8 true)) else (none)) else (some (x6, true))
def spec_WiringFrom.j2 : Nat → Int → List (List Int) → List Int → List Int → Int → Bool → Option (List Int × Bool)
 | 0, _, _, _, _, _, _ => none
 | k + 1, x0, x1, x6, x7, x8, x53 => if x53 = true then (some ((([] : List Int)), false)) else (if 0 ≤ x8 then (if x8 < (x1.length : Int) then (if 0 < ((rd_L8 x1 x8).length : Int) then ((spec_l12Place.f k x7 (rd (rd_L8 x1 x8) 0)).bind fun t757 => (if t757 < 0 then (some ((([] : List Int)), false)) else (if (wrap64 (t757 + 1)) ≥ x0 then (some ((([] : List Int)), false)) else (if 0 ≤ (wrap64 (t757 + 1)) then (if (wrap64 (t757 + 1)) < (x7.length : Int) then (if 1 < ((rd_L8 x1 x8).length : Int) then (if (rd x7 (wrap64 (t757 + 1))) = (rd (rd_L8 x1 x8) 1) then ((spec_l12Swap.f x7 t757).bind fun bt767 => (if x6.length < 17592186044416 then (spec_WiringFrom.l0 k x0 x1 (x6 ++ [t757]) bt767.2 (wrap64 (x8 + 1))) else (none))) else (some ((([] : List Int)), false))) else (none)) else (none)) else (none))))) else (none)) else (none)) else (none))
end
def spec_WiringFrom.f (k : Nat) (a0 : Int) (l1 : List (List Int)) : Option (List Int × Bool) := (spec_l1In.f a0 3 6).bind fun t737 => (if t737 = true then (spec_WiringFrom.j0 k a0 l1 ((l1.length : Int) != (wrap64 (Int.tdiv (wrap64 (a0 * (wrap64 (a0 - 1)))) 2)))) else (spec_WiringFrom.j0 k a0 l1 true))
theorem spec_WiringFrom.mono_l : ∀ k, (∀ y0 y1 y2, LeO (spec_WiringFrom.j0 k y0 y1 y2) (spec_WiringFrom.j0 (k + 1) y0 y1 y2)) ∧ (∀ y0 y1 y2 y3 y4, LeO (spec_WiringFrom.l0 k y0 y1 y2 y3 y4) (spec_WiringFrom.l0 (k + 1) y0 y1 y2 y3 y4)) ∧ (∀ y0 y1 y2 y3 y4 y5, LeO (spec_WiringFrom.j2 k y0 y1 y2 y3 y4 y5) (spec_WiringFrom.j2 (k + 1) y0 y1 y2 y3 y4 y5))
 | 0 => ⟨fun _ _ _ r h => by simp [spec_WiringFrom.j0] at h, fun _ _ _ _ _ r h => by simp [spec_WiringFrom.l0] at h, fun _ _ _ _ _ _ r h => by simp [spec_WiringFrom.j2] at h⟩
 | k + 1 => by
  obtain ⟨ih0, ih1, ih2⟩ := spec_WiringFrom.mono_l k
  refine ⟨?_, ?_, ?_⟩
  ·intro y0 y1 y2
   unfold spec_WiringFrom.j0
   repeat' first
   | (with_reducible exact ih0 _ _ _)
   | (with_reducible exact ih1 _ _ _ _ _)
   | (with_reducible exact ih2 _ _ _ _ _ _)
   | (with_reducible exact spec_l12Place.mono _ _ _)
   | (with_reducible exact spec_l12Start.mono _ _)
   | (with_reducible exact LeO.refl _)
   | (with_reducible exact LeO.none _)
   | (with_reducible refine LeO.ite ?_ ?_)
   | (with_reducible refine LeO.bind ?_ (fun _ => ?_))
   | exact ih0 _ _ _
   | exact ih1 _ _ _ _ _
   | exact ih2 _ _ _ _ _ _
   | exact spec_l12Place.mono _ _ _
   | exact spec_l12Start.mono _ _
   | exact LeO.none _
   | refine LeO.ite ?_ ?_
   | refine LeO.bind ?_ (fun _ => ?_)
  ·intro y0 y1 y2 y3 y4
   unfold spec_WiringFrom.l0
   repeat' first
   | (with_reducible exact ih0 _ _ _)
   | (with_reducible exact ih1 _ _ _ _ _)
   | (with_reducible exact ih2 _ _ _ _ _ _)
   | (with_reducible exact spec_l12Place.mono _ _ _)
   | (with_reducible exact spec_l12Start.mono _ _)
   | (with_reducible exact LeO.refl _)
   | (with_reducible exact LeO.none _)
   | (with_reducible refine LeO.ite ?_ ?_)
   | (with_reducible refine LeO.bind ?_ (fun _ => ?_))
   | exact ih0 _ _ _
   | exact ih1 _ _ _ _ _
   | exact ih2 _ _ _ _ _ _
   | exact spec_l12Place.mono _ _ _
   | exact spec_l12Start.mono _ _
   | exact LeO.none _
   | refine LeO.ite ?_ ?_
   | refine LeO.bind ?_ (fun _ => ?_)
  ·intro y0 y1 y2 y3 y4 y5
   unfold spec_WiringFrom.j2
   repeat' first
   | (with_reducible exact ih0 _ _ _)
   | (with_reducible exact ih1 _ _ _ _ _)
   | (with_reducible exact ih2 _ _ _ _ _ _)
   | (with_reducible exact spec_l12Place.mono _ _ _)
   | (with_reducible exact spec_l12Start.mono _ _)
   | (with_reducible exact LeO.refl _)
   | (with_reducible exact LeO.none _)
   | (with_reducible refine LeO.ite ?_ ?_)
   | (with_reducible refine LeO.bind ?_ (fun _ => ?_))
   | exact ih0 _ _ _
   | exact ih1 _ _ _ _ _
   | exact ih2 _ _ _ _ _ _
   | exact spec_l12Place.mono _ _ _
   | exact spec_l12Start.mono _ _
   | exact LeO.none _
   | refine LeO.ite ?_ ?_
   | refine LeO.bind ?_ (fun _ => ?_)
theorem spec_WiringFrom.mono : ∀ a0 a1 k, LeO (spec_WiringFrom.f k a0 a1) (spec_WiringFrom.f (k + 1) a0 a1) := by
 intro a0 a1 k
 obtain ⟨ih0, ih1, ih2⟩ := spec_WiringFrom.mono_l k
 unfold spec_WiringFrom.f
 repeat' first
   | (with_reducible exact ih0 _ _ _)
   | (with_reducible exact ih1 _ _ _ _ _)
   | (with_reducible exact ih2 _ _ _ _ _ _)
   | (with_reducible exact spec_l12Place.mono _ _ _)
   | (with_reducible exact spec_l12Start.mono _ _)
   | (with_reducible exact LeO.refl _)
   | (with_reducible exact LeO.none _)
   | (with_reducible refine LeO.ite ?_ ?_)
   | (with_reducible refine LeO.bind ?_ (fun _ => ?_))
   | exact ih0 _ _ _
   | exact ih1 _ _ _ _ _
   | exact ih2 _ _ _ _ _ _
   | exact spec_l12Place.mono _ _ _
   | exact spec_l12Start.mono _ _
   | exact LeO.none _
   | refine LeO.ite ?_ ?_
   | refine LeO.bind ?_ (fun _ => ?_)
set_option maxHeartbeats 8000000 in
set_option maxRecDepth 100000 in
theorem spec_WiringFrom.calls (k : Nat) (a0 : Int) (A1 : Option Addr) (c1 : Nat) (l1 : List (List Int)) (r1 : List Int) (r2 : Bool) (w : World) (hr1 : Kd.C (Kd.slice 3 (Kd.int .i64)) w A1 l1.length l1) (hc1 : l1.length ≤ c1) (h : spec_WiringFrom.f k a0 l1 = some (r1, r2)) :
  Calls Try.prog 54 #[.int .i64 a0, .slice A1 l1.length c1] w fun e w' => ∃ v0_ : Value, e = .returned (.tuple #[v0_, .bool r2]) ∧ Kd.R (Kd.int .i64) 3 w' w.heap.size (fun _ => True) v0_ r1 ∧ Below w.heap.size w w' := by
 have HR1 := Aside0.mk hr1
 have HC1 := Aside0.mk hc1
 clear hr1 hc1
 have HB := Aside0.mk (Below.refl w.heap.size w)
 have H : ((spec_l1In.f a0 3 6).bind fun t737 => (if t737 = true then (spec_WiringFrom.j0 k a0 l1 ((l1.length : Int) != (wrap64 (Int.tdiv (wrap64 (a0 * (wrap64 (a0 - 1)))) 2)))) else (spec_WiringFrom.j0 k a0 l1 true))) = some (r1, r2) := h
 clear h
 have HC3 := Aside0.mk H
 clear H
 go_enter Try.func54, Try.ntmps54
 go_upto_region 1 with (fail)
 repeat (go_quiet (fail); go_upto_region 1 with (fail))
 go_cut [22] (fun v22 wc => ∃ (kq : Nat) (x22_2 : Bool), v22 = .bool x22_2 ∧ Aside0 (spec_WiringFrom.j0 kq a0 l1 x22_2 = some (r1, r2)) ∧ Aside0 (kq ≤ k) ∧ Aside0 (Below w.heap.size w wc))
 case first =>
  have H := HC3.out
  clear HC3
  replace H := Option.bind_eq_some_iff.mp H
  obtain ⟨t737, A40, H⟩ := H
  (try dsimp only at H)
  have A4 := Aside0.mk A40
  clear A40
  by_cases c5 : t737 = true
  ·subst c5
   have H1 : (spec_WiringFrom.j0 k a0 l1 ((l1.length : Int) != (wrap64 (Int.tdiv (wrap64 (a0 * (wrap64 (a0 - 1)))) 2)))) = some (r1, r2) := by rw [if_pos rfl] at H; exact H
   clear H
   have H := H1
   clear H1
   have H' := Aside0.mk H
   clear H
   go_wp2_with (first | (go_at_call 68; (with_reducible refine (spec_l1In.calls a0 3 6 true _ A4.out).mono ?_); rintro e w' ⟨rfl, ⟨nd, rfl⟩⟩; (try first | exact ⟨rfl, _, World.drewN_drewN _ _ _⟩ | exact ⟨rfl, _, Eq.trans (World.drewN_drewN _ _ _) (congrArg (World.drewN _) (Nat.add_assoc _ _ _))⟩)))
   repeat (go_quiet (first | (go_at_call 68; (with_reducible refine (spec_l1In.calls a0 3 6 true _ A4.out).mono ?_); rintro e w' ⟨rfl, ⟨nd, rfl⟩⟩; (try first | exact ⟨rfl, _, World.drewN_drewN _ _ _⟩ | exact ⟨rfl, _, Eq.trans (World.drewN_drewN _ _ _) (congrArg (World.drewN _) (Nat.add_assoc _ _ _))⟩))); try go_wp2_with (first | (go_at_call 68; (with_reducible refine (spec_l1In.calls a0 3 6 true _ A4.out).mono ?_); rintro e w' ⟨rfl, ⟨nd, rfl⟩⟩; (try first | exact ⟨rfl, _, World.drewN_drewN _ _ _⟩ | exact ⟨rfl, _, Eq.trans (World.drewN_drewN _ _ _) (congrArg (World.drewN _) (Nat.add_assoc _ _ _))⟩))))
   go_meet
   case rel => exact ⟨_, (((l1.length : Int) != (wrap64 (Int.tdiv (wrap64 (a0 * (wrap64 (a0 - 1)))) 2)))), (by first | rfl | (simp; done) | (simp [*]; done)), H', ⟨by first | omega | exact Nat.le_refl _⟩, ⟨(bl HB)⟩⟩
  ·replace c5 := Bool.eq_false_iff.mpr c5
   subst c5
   have H1 : (spec_WiringFrom.j0 k a0 l1 true) = some (r1, r2) := by rw [if_neg (show ¬ (false = true) by decide)] at H; exact H
   clear H
   have H := H1
   clear H1
   have H' := Aside0.mk H
   clear H
   go_wp2_with (first | (go_at_call 68; (with_reducible refine (spec_l1In.calls a0 3 6 false _ A4.out).mono ?_); rintro e w' ⟨rfl, ⟨nd, rfl⟩⟩; (try first | exact ⟨rfl, _, World.drewN_drewN _ _ _⟩ | exact ⟨rfl, _, Eq.trans (World.drewN_drewN _ _ _) (congrArg (World.drewN _) (Nat.add_assoc _ _ _))⟩)))
   repeat (go_quiet (first | (go_at_call 68; (with_reducible refine (spec_l1In.calls a0 3 6 false _ A4.out).mono ?_); rintro e w' ⟨rfl, ⟨nd, rfl⟩⟩; (try first | exact ⟨rfl, _, World.drewN_drewN _ _ _⟩ | exact ⟨rfl, _, Eq.trans (World.drewN_drewN _ _ _) (congrArg (World.drewN _) (Nat.add_assoc _ _ _))⟩))); try go_wp2_with (first | (go_at_call 68; (with_reducible refine (spec_l1In.calls a0 3 6 false _ A4.out).mono ?_); rintro e w' ⟨rfl, ⟨nd, rfl⟩⟩; (try first | exact ⟨rfl, _, World.drewN_drewN _ _ _⟩ | exact ⟨rfl, _, Eq.trans (World.drewN_drewN _ _ _) (congrArg (World.drewN _) (Nat.add_assoc _ _ _))⟩))))
   go_meet
   case rel => exact ⟨_, (true), (by first | rfl | (simp; done) | (simp [*]; done)), H', ⟨by first | omega | exact Nat.le_refl _⟩, ⟨(bl HB)⟩⟩
 case rest =>
  clear HC3
  try clear c1
  try clear p2
  try clear c5
  obtain ⟨kq, x22_2, rfl, HA, HJ2, HB⟩ := hcut
  cases kq with
  | zero => exact absurd HA.out (by simp [spec_WiringFrom.j0])
  | succ kj2 =>
   have H := HA.out
   clear HA
   simp only [spec_WiringFrom.j0] at H
   by_cases c6 : x22_2 = true
   ·subst c6
    have H1 : (some ((([] : List Int)), false)) = some (r1, r2) := by rw [if_pos rfl] at H; exact H
    clear H
    have H := H1
    clear H1
    obtain ⟨y738, hy738⟩ : ∃ y_ : List Int, y_ = (([] : List Int)) := ⟨_, rfl⟩
    replace H : (some (y738, false)) = some (r1, r2) := by first | (rw [hy738]; with_reducible exact H) | (have H2_ := (Option.bind_some _ _).symm.trans H; rw [hy738]; with_reducible exact H2_) | (have H2_ := (Option.bind_some _ _).symm.trans H; with_reducible exact H2_) | with_reducible exact H | (rw [hy738]; exact H) | exact H
    have Ny738 := Aside0.mk hy738
    clear hy738
    simp only [Option.some.injEq, Prod.mk.injEq] at H
    obtain ⟨rfl, rfl⟩ := H
    go_wp2_with (first | ((with_reducible refine gate_dst (N := 23) rfl ?_); (try (refine gate_guard (by rfl) ?_; dsimp only)); refine Kd.R_lit (Kd.int .i64) _ 3 ?hg (N := 23) ?hd (xs := ([] : List Int)) (inner := []) (ok := fun _ => True) (okp := fun _ => True) ?hr ?hp (fun _ hk => hk) trivial (Below.refl _ _) (Nat.le_refl _) (by simp) ?_; (case hd => rfl); (case hg => rfl); (case hr => first | (go_simp; done) | (go_simp; rfl)); (case hp => exact (Reps.none _ _)); intro v739 w7 ho8 hb hg_ hnew_; clear hg_ hnew_; (first | rw [← Ny738.out] at ho8 | (simp only [Int.reduceToNat] at ho8; rw [← Ny738.out] at ho8)); have n0_ := Aside0.mk (Kd.R_lower ho8 (below_size (bl HB))); have n1_ := bs HB hb; clear HB; have HO740 := n0_; have HB := n1_; clear n0_ n1_; clear hb ho8))
    repeat (go_quiet (first | ((with_reducible refine gate_dst (N := 23) rfl ?_); (try (refine gate_guard (by rfl) ?_; dsimp only)); refine Kd.R_lit (Kd.int .i64) _ 3 ?hg (N := 23) ?hd (xs := ([] : List Int)) (inner := []) (ok := fun _ => True) (okp := fun _ => True) ?hr ?hp (fun _ hk => hk) trivial (Below.refl _ _) (Nat.le_refl _) (by simp) ?_; (case hd => rfl); (case hg => rfl); (case hr => first | (go_simp; done) | (go_simp; rfl)); (case hp => exact (Reps.none _ _)); intro v739 w7 ho8 hb hg_ hnew_; clear hg_ hnew_; (first | rw [← Ny738.out] at ho8 | (simp only [Int.reduceToNat] at ho8; rw [← Ny738.out] at ho8)); have n0_ := Aside0.mk (Kd.R_lower ho8 (below_size (bl HB))); have n1_ := bs HB hb; clear HB; have HO740 := n0_; have HB := n1_; clear n0_ n1_; clear hb ho8)); try go_wp2_with (first | ((with_reducible refine gate_dst (N := 23) rfl ?_); (try (refine gate_guard (by rfl) ?_; dsimp only)); refine Kd.R_lit (Kd.int .i64) _ 3 ?hg (N := 23) ?hd (xs := ([] : List Int)) (inner := []) (ok := fun _ => True) (okp := fun _ => True) ?hr ?hp (fun _ hk => hk) trivial (Below.refl _ _) (Nat.le_refl _) (by simp) ?_; (case hd => rfl); (case hg => rfl); (case hr => first | (go_simp; done) | (go_simp; rfl)); (case hp => exact (Reps.none _ _)); intro v739 w7 ho8 hb hg_ hnew_; clear hg_ hnew_; (first | rw [← Ny738.out] at ho8 | (simp only [Int.reduceToNat] at ho8; rw [← Ny738.out] at ho8)); have n0_ := Aside0.mk (Kd.R_lower ho8 (below_size (bl HB))); have n1_ := bs HB hb; clear HB; have HO740 := n0_; have HB := n1_; clear n0_ n1_; clear hb ho8)))
    go_ret2
    exact ⟨_, by first | rfl | (simp [errW_none, errW_some] <;> rfl) | (simp [*, errW_none, errW_some] <;> rfl), by (with_reducible repeat (first | apply Kd.R_alloc | apply Kd.R_drewN | apply Kd.R_drew)); exact HO740.out, (bl HB)⟩
   ·replace c6 := Bool.eq_false_iff.mpr c6
    subst c6
    have H1 : ((spec_l12Start.f kj2 a0).bind fun t744 => (spec_WiringFrom.l0 kj2 a0 l1 (([] : List Int)) t744 0)) = some (r1, r2) := by rw [if_neg (show ¬ (false = true) by decide)] at H; exact H
    clear H
    have H := H1
    clear H1
    obtain ⟨y741, hy741⟩ : ∃ y_ : List Int, y_ = (([] : List Int)) := ⟨_, rfl⟩
    replace H : ((spec_l12Start.f kj2 a0).bind fun t744 => (spec_WiringFrom.l0 kj2 a0 l1 y741 t744 0)) = some (r1, r2) := by first | (rw [hy741]; with_reducible exact H) | (have H2_ := (Option.bind_some _ _).symm.trans H; rw [hy741]; with_reducible exact H2_) | (have H2_ := (Option.bind_some _ _).symm.trans H; with_reducible exact H2_) | with_reducible exact H | (rw [hy741]; exact H) | exact H
    have Ny741 := Aside0.mk hy741
    clear hy741
    replace H := Option.bind_eq_some_iff.mp H
    obtain ⟨t744, A90, H⟩ := H
    (try dsimp only at H)
    have A9 := Aside0.mk A90
    clear A90
    have H' := Aside0.mk H
    clear H
    go_wp2_with (first | ((with_reducible refine gate_dst (N := 24) rfl ?_); (try (refine gate_guard (by rfl) ?_; dsimp only)); refine Kd.R_lit (Kd.int .i64) _ 3 ?hg (N := 24) ?hd (xs := ([] : List Int)) (inner := []) (ok := fun _ => True) (okp := fun _ => True) ?hr ?hp (fun _ hk => hk) trivial (Below.refl _ _) (Nat.le_refl _) (by simp) ?_; (case hd => rfl); (case hg => rfl); (case hr => first | (go_simp; done) | (go_simp; rfl)); (case hp => exact (Reps.none _ _)); intro v742 w10 ho11 hb hg_ hnew_; clear hg_ hnew_; (first | rw [← Ny741.out] at ho11 | (simp only [Int.reduceToNat] at ho11; rw [← Ny741.out] at ho11)); have n0_ := Aside0.mk (Kd.R_lower ho11 (below_size (bl HB))); have n1_ := bs HB hb; clear HB; have HO743 := n0_; have HB := n1_; clear n0_ n1_; clear hb ho11) | (go_at_call 93; (with_reducible refine (spec_l12Start.calls kj2 a0 t744 _ A9.out).mono ?_); rintro e w12 ⟨v745, rfl, ho0, hb⟩; have n0_ := Aside0.mk (Kd.R_elder' (rr HO743) (Kd.R_base ho0) hb); have n1_ := Aside0.mk (Kd.R_lower (Kd.R_new' ho0 (Kd.R_lt (rr HO743))) (below_size (bl HB))); have n2_ := bs HB hb; clear HO743; clear HB; have HO743 := n0_; have HO746 := n1_; have HB := n2_; clear n0_ n1_ n2_; (try clear hb); (try clear hb2); (try clear hk); (try clear hi); (try clear ho0)))
    repeat (go_quiet (first | ((with_reducible refine gate_dst (N := 24) rfl ?_); (try (refine gate_guard (by rfl) ?_; dsimp only)); refine Kd.R_lit (Kd.int .i64) _ 3 ?hg (N := 24) ?hd (xs := ([] : List Int)) (inner := []) (ok := fun _ => True) (okp := fun _ => True) ?hr ?hp (fun _ hk => hk) trivial (Below.refl _ _) (Nat.le_refl _) (by simp) ?_; (case hd => rfl); (case hg => rfl); (case hr => first | (go_simp; done) | (go_simp; rfl)); (case hp => exact (Reps.none _ _)); intro v742 w10 ho11 hb hg_ hnew_; clear hg_ hnew_; (first | rw [← Ny741.out] at ho11 | (simp only [Int.reduceToNat] at ho11; rw [← Ny741.out] at ho11)); have n0_ := Aside0.mk (Kd.R_lower ho11 (below_size (bl HB))); have n1_ := bs HB hb; clear HB; have HO743 := n0_; have HB := n1_; clear n0_ n1_; clear hb ho11) | (go_at_call 93; (with_reducible refine (spec_l12Start.calls kj2 a0 t744 _ A9.out).mono ?_); rintro e w12 ⟨v745, rfl, ho0, hb⟩; have n0_ := Aside0.mk (Kd.R_elder' (rr HO743) (Kd.R_base ho0) hb); have n1_ := Aside0.mk (Kd.R_lower (Kd.R_new' ho0 (Kd.R_lt (rr HO743))) (below_size (bl HB))); have n2_ := bs HB hb; clear HO743; clear HB; have HO743 := n0_; have HO746 := n1_; have HB := n2_; clear n0_ n1_ n2_; (try clear hb); (try clear hb2); (try clear hk); (try clear hi); (try clear ho0))); try go_wp2_with (first | ((with_reducible refine gate_dst (N := 24) rfl ?_); (try (refine gate_guard (by rfl) ?_; dsimp only)); refine Kd.R_lit (Kd.int .i64) _ 3 ?hg (N := 24) ?hd (xs := ([] : List Int)) (inner := []) (ok := fun _ => True) (okp := fun _ => True) ?hr ?hp (fun _ hk => hk) trivial (Below.refl _ _) (Nat.le_refl _) (by simp) ?_; (case hd => rfl); (case hg => rfl); (case hr => first | (go_simp; done) | (go_simp; rfl)); (case hp => exact (Reps.none _ _)); intro v742 w10 ho11 hb hg_ hnew_; clear hg_ hnew_; (first | rw [← Ny741.out] at ho11 | (simp only [Int.reduceToNat] at ho11; rw [← Ny741.out] at ho11)); have n0_ := Aside0.mk (Kd.R_lower ho11 (below_size (bl HB))); have n1_ := bs HB hb; clear HB; have HO743 := n0_; have HB := n1_; clear n0_ n1_; clear hb ho11) | (go_at_call 93; (with_reducible refine (spec_l12Start.calls kj2 a0 t744 _ A9.out).mono ?_); rintro e w12 ⟨v745, rfl, ho0, hb⟩; have n0_ := Aside0.mk (Kd.R_elder' (rr HO743) (Kd.R_base ho0) hb); have n1_ := Aside0.mk (Kd.R_lower (Kd.R_new' ho0 (Kd.R_lt (rr HO743))) (below_size (bl HB))); have n2_ := bs HB hb; clear HO743; clear HB; have HO743 := n0_; have HO746 := n1_; have HB := n2_; clear n0_ n1_ n2_; (try clear hb); (try clear hb2); (try clear hk); (try clear hi); (try clear ho0))))
    go_loopg [6, 8] kj2 (fun kq v6 v8 w' => ∃ (x6_2 : List Int) (x7_2 : List Int) (x8_2 : Int), v8 = .int .i64 x8_2 ∧ Aside0 (spec_WiringFrom.l0 kq a0 l1 x6_2 x7_2 x8_2 = some (r1, r2)) ∧ Aside0 (kq ≤ kj2) ∧ Aside0 (Kd.R (Kd.int .i64) 3 w' w.heap.size (fun k_ => some k_ ≠ (v745 : Value).ownBlock) v6 x6_2) ∧ Aside0 (Kd.R (Kd.int .i64) 3 w' w.heap.size (fun k_ => some k_ ≠ (v6 : Value).ownBlock) v745 x7_2) ∧ Aside0 (Below w.heap.size w w'))
    case atStart => exact ⟨(y741), (t744), (0), (by first | rfl | (simp; done) | (simp [*]; done)), H', ⟨Nat.le_refl _⟩, ⟨by (with_reducible repeat (first | apply Kd.R_alloc | apply Kd.R_drewN | apply Kd.R_drew)); exact Kd.R_mono HO743.out (fun _ hk => hk.2)⟩, ⟨by (with_reducible repeat (first | apply Kd.R_alloc | apply Kd.R_drewN | apply Kd.R_drew)); exact Kd.R_mono HO746.out (fun _ hk => hk.2)⟩, ⟨(bl HB)⟩⟩
    case round =>
     clear H'
     try clear c1
     try clear p2
     try clear c5
     try clear c6
     try clear p6
     try clear p2
     obtain ⟨x6_2, x7_2, x8_2, rfl, HA, HK2, HO_6, HO_7, HB⟩ := hrel
     cases gk with
     | zero => exact absurd HA.out (by simp [spec_WiringFrom.l0])
     | succ k2 =>
      have H := HA.out
      clear HA
      simp only [spec_WiringFrom.l0] at H
      by_cases c13 : x8_2 < (l1.length : Int)
      ·rw [if_pos c13] at H
       have c13b0 : decide (x8_2 < (l1.length : Int)) = true := decide_eq_true c13
       clear c13
       have HC14 := Aside0.mk H
       clear H
       go_upto_region 8 with (fail)
       repeat (go_quiet (fail); go_upto_region 8 with (fail))
       go_cut [53] (fun v53 wc => ∃ (kq : Nat) (x53_13 : Bool), v53 = .bool x53_13 ∧ Aside0 (spec_WiringFrom.j2 kq a0 l1 x6_2 x7_2 x8_2 x53_13 = some (r1, r2)) ∧ Aside0 (kq ≤ k2) ∧ Aside0 (Kd.R (Kd.int .i64) 3 wc w.heap.size (fun k_ => some k_ ≠ (v745 : Value).ownBlock) u6 x6_2) ∧ Aside0 (Kd.R (Kd.int .i64) 3 wc w.heap.size (fun k_ => some k_ ≠ (u6 : Value).ownBlock) v745 x7_2) ∧ Aside0 (Below w.heap.size w wc))
       case first =>
        have H := HC14.out
        clear HC14
        by_cases c15 : 0 ≤ x8_2
        ·rw [if_pos c15] at H
         have c15b0 : decide (0 ≤ x8_2) = true := decide_eq_true c15
         clear c15
         (first | rw [c15b0] | (simp only [i64_w, i32_w]; rw [c15b0]) | skip)
         by_cases c16 : ((rd_L8 l1 x8_2).length : Int) = 2
         ·rw [if_pos c16] at H
          have c16b0 : (((rd_L8 l1 x8_2).length : Int) == 2) = true := beq_iff_eq.mpr c16
          have c16b1 : (((rd_L8 l1 x8_2).length : Int) != 2) = false := bne_eq_false_iff_eq.mpr c16
          clear c16
          by_cases c17 : 0 < ((rd_L8 l1 x8_2).length : Int)
          ·rw [if_pos c17] at H
           have c17b0 : decide (0 < ((rd_L8 l1 x8_2).length : Int)) = true := decide_eq_true c17
           have c17b1 : decide (0 < (rd_L8 l1 x8_2).length) = true := decide_eq_true (by omega)
           clear c17
           by_cases c18 : 1 < ((rd_L8 l1 x8_2).length : Int)
           ·rw [if_pos c18] at H
            have c18b0 : decide (1 < ((rd_L8 l1 x8_2).length : Int)) = true := decide_eq_true c18
            have c18b1 : decide (1 < (rd_L8 l1 x8_2).length) = true := decide_eq_true (by omega)
            clear c18
            have H' := Aside0.mk H
            clear H
            have p747 : 0 ≤ (x8_2 : Int) := of_decide_eq_true (by first | (with_reducible assumption) | assumption)
            have q747 : x8_2 < (l1.length : Int) := of_decide_eq_true (by first | (with_reducible assumption) | assumption)
            obtain ⟨ad747, A747_0, c747_0, e747, hx747_0, hl747_0, hi747_0⟩ := at_L8 HR1.out x8_2 p747 q747
            cases e747
            replace hx747_0 := (HB.out.cell (World.block_lt_of_cell? w _ hx747_0)).trans hx747_0
            have HR747_0 := Aside0.mk hi747_0
            have HC747_0 := Aside0.mk hl747_0
            clear hi747_0 hl747_0
            replace p747 := eq_true p747
            replace q747 := eq_true q747
            have p748 : 0 ≤ (x8_2 : Int) := of_decide_eq_true (by first | (with_reducible assumption) | assumption)
            have q748 : x8_2 < (l1.length : Int) := of_decide_eq_true (by first | (with_reducible assumption) | assumption)
            obtain ⟨ad748, A748_0, c748_0, e748, hx748_0, hl748_0, hi748_0⟩ := at_L8 HR1.out x8_2 p748 q748
            obtain rfl : ad747 = ad748 := (by injection e748)
            replace hx748_0 := (HB.out.cell (World.block_lt_of_cell? w _ hx748_0)).trans hx748_0
            have HR748_0 := Aside0.mk hi748_0
            have HC748_0 := Aside0.mk hl748_0
            clear hi748_0 hl748_0
            replace p748 := eq_true p748
            replace q748 := eq_true q748
            have ea_ := Option.some.inj (hx747_0.symm.trans hx748_0)
            injection ea_ with ea_ en_ ec_
            subst ea_
            subst ec_
            clear en_
            have p749 : 0 ≤ (0 : Int) := (by omega)
            have q749 : 0 < ((rd_L8 l1 x8_2).length : Int) := of_decide_eq_true (by first | (with_reducible assumption) | assumption)
            obtain ⟨ad749, e749, hx749_0⟩ := Kd.at_int HR748_0.out 0 p749 q749
            cases e749
            have qi749 : (0 < (rd_L8 l1 x8_2).length) = True := eq_true (by omega)
            (try rw [show ((0 : Int)).toNat = 0 from rfl] at hx749_0)
            (try rw [Addr.add_zero'] at hx749_0)
            replace hx749_0 := (HB.out.cell (World.block_lt_of_cell? w _ hx749_0)).trans hx749_0
            replace p749 := eq_true p749
            replace q749 := eq_true q749
            have p750 : 0 ≤ (x8_2 : Int) := of_decide_eq_true (by first | (with_reducible assumption) | assumption)
            have q750 : x8_2 < (l1.length : Int) := of_decide_eq_true (by first | (with_reducible assumption) | assumption)
            obtain ⟨ad750, A750_0, c750_0, e750, hx750_0, hl750_0, hi750_0⟩ := at_L8 HR1.out x8_2 p750 q750
            obtain rfl : ad747 = ad750 := (by injection e750)
            replace hx750_0 := (HB.out.cell (World.block_lt_of_cell? w _ hx750_0)).trans hx750_0
            have HR750_0 := Aside0.mk hi750_0
            have HC750_0 := Aside0.mk hl750_0
            clear hi750_0 hl750_0
            replace p750 := eq_true p750
            replace q750 := eq_true q750
            have ea_ := Option.some.inj (hx747_0.symm.trans hx750_0)
            injection ea_ with ea_ en_ ec_
            subst ea_
            subst ec_
            clear en_
            have p751 : 0 ≤ (1 : Int) := (by omega)
            have q751 : 1 < ((rd_L8 l1 x8_2).length : Int) := of_decide_eq_true (by first | (with_reducible assumption) | assumption)
            obtain ⟨ad751, e751, hx751_0⟩ := Kd.at_int HR750_0.out 1 p751 q751
            cases e751
            (try simp only [show (1 : Int).toNat = 1 from rfl, Nat.reduceMul, Nat.reduceEqDiff, Go.Addr.add, ↓reduceIte] at hx751_0)
            have qi751 : (1 < (rd_L8 l1 x8_2).length) = True := eq_true (by omega)
            (try rw [show ((1 : Int)).toNat = 1 from rfl] at hx751_0)
            replace hx751_0 := (HB.out.cell (World.block_lt_of_cell? w _ hx751_0)).trans hx751_0
            replace p751 := eq_true p751
            replace q751 := eq_true q751
            go_wp2
            repeat (go_quiet (fail); try go_wp2)
            go_meet
            case rel => exact ⟨_, (decide ((rd (rd_L8 l1 x8_2) 0) ≥ (rd (rd_L8 l1 x8_2) 1))), (by first | rfl | (simp; done) | (simp [*]; done)), H', ⟨by have := HJ2.out; have := HK2.out; first | omega | exact Nat.le_refl _⟩, ⟨by (with_reducible repeat (first | apply Kd.R_alloc | apply Kd.R_drewN | apply Kd.R_drew)); exact HO_6.out⟩, ⟨by (with_reducible repeat (first | apply Kd.R_alloc | apply Kd.R_drewN | apply Kd.R_drew)); exact HO_7.out⟩, ⟨(bl HB)⟩⟩
           ·rw [if_neg c18] at H
            exact absurd H (by simp)
          ·rw [if_neg c17] at H
           exact absurd H (by simp)
         ·rw [if_neg c16] at H
          have c16b0 : (((rd_L8 l1 x8_2).length : Int) == 2) = false := beq_eq_false_iff_ne.mpr c16
          have c16b1 : (((rd_L8 l1 x8_2).length : Int) != 2) = true := bne_iff_ne.mpr c16
          have H' := Aside0.mk H
          clear H
          have p747 : 0 ≤ (x8_2 : Int) := of_decide_eq_true (by first | (with_reducible assumption) | assumption)
          have q747 : x8_2 < (l1.length : Int) := of_decide_eq_true (by first | (with_reducible assumption) | assumption)
          obtain ⟨ad747, A747_0, c747_0, e747, hx747_0, hl747_0, hi747_0⟩ := at_L8 HR1.out x8_2 p747 q747
          cases e747
          replace hx747_0 := (HB.out.cell (World.block_lt_of_cell? w _ hx747_0)).trans hx747_0
          have HR747_0 := Aside0.mk hi747_0
          have HC747_0 := Aside0.mk hl747_0
          clear hi747_0 hl747_0
          replace p747 := eq_true p747
          replace q747 := eq_true q747
          go_wp2
          repeat (go_quiet (fail); try go_wp2)
          go_meet
          case rel => exact ⟨_, (true), (by first | rfl | (simp; done) | (simp [*]; done)), H', ⟨by have := HJ2.out; have := HK2.out; first | omega | exact Nat.le_refl _⟩, ⟨by (with_reducible repeat (first | apply Kd.R_alloc | apply Kd.R_drewN | apply Kd.R_drew)); exact HO_6.out⟩, ⟨by (with_reducible repeat (first | apply Kd.R_alloc | apply Kd.R_drewN | apply Kd.R_drew)); exact HO_7.out⟩, ⟨(bl HB)⟩⟩
        ·rw [if_neg c15] at H
         exact absurd H (by simp)
       case rest =>
        clear HC14
        try clear c1
        try clear p2
        try clear c5
        try clear c6
        try clear p6
        try clear c7
        try clear p7
        try clear q7
        try clear hx7
        try clear qi7
        try clear c13
        try clear c13b0
        try clear c15
        try clear c15b0
        try clear c16
        try clear c16b0
        try clear c16b1
        try clear c17
        try clear c17b0
        try clear c17b1
        try clear c18
        try clear c18b0
        try clear c18b1
        try clear hx747_0
        try clear hx748_0
        try clear hx749_0
        try clear hx750_0
        try clear hx751_0
        try clear p2
        try clear p6
        try clear p747
        try clear p748
        try clear p749
        try clear p750
        try clear p751
        try clear q747
        try clear q748
        try clear q749
        try clear q750
        try clear q751
        obtain ⟨kq, x53_13, rfl, HA, HJ13, HO_6, HO_7, HB⟩ := hcut
        cases kq with
        | zero => exact absurd HA.out (by simp [spec_WiringFrom.j2])
        | succ kj13 =>
         have H := HA.out
         clear HA
         simp only [spec_WiringFrom.j2] at H
         by_cases c19 : x53_13 = true
         ·subst c19
          have H1 : (some ((([] : List Int)), false)) = some (r1, r2) := by rw [if_pos rfl] at H; exact H
          clear H
          have H := H1
          clear H1
          obtain ⟨y752, hy752⟩ : ∃ y_ : List Int, y_ = (([] : List Int)) := ⟨_, rfl⟩
          replace H : (some (y752, false)) = some (r1, r2) := by first | (rw [hy752]; with_reducible exact H) | (have H2_ := (Option.bind_some _ _).symm.trans H; rw [hy752]; with_reducible exact H2_) | (have H2_ := (Option.bind_some _ _).symm.trans H; with_reducible exact H2_) | with_reducible exact H | (rw [hy752]; exact H) | exact H
          have Ny752 := Aside0.mk hy752
          clear hy752
          simp only [Option.some.injEq, Prod.mk.injEq] at H
          obtain ⟨rfl, rfl⟩ := H
          go_wp2_with (first | ((with_reducible refine gate_dst (N := 54) rfl ?_); (try (refine gate_guard (by rfl) ?_; dsimp only)); refine Kd.R_lit (Kd.int .i64) _ 3 ?hg (N := 54) ?hd (xs := ([] : List Int)) (inner := []) (ok := fun _ => True) (okp := fun _ => True) ?hr ?hp (fun _ hk => hk) trivial (Below.refl _ _) (Nat.le_refl _) (by simp) ?_; (case hd => rfl); (case hg => rfl); (case hr => first | (go_simp; done) | (go_simp; rfl)); (case hp => exact (Reps.none _ _)); intro v753 w20 ho21 hb hg_ hnew_; clear hg_ hnew_; (first | rw [← Ny752.out] at ho21 | (simp only [Int.reduceToNat] at ho21; rw [← Ny752.out] at ho21)); have n0_ := Aside0.mk (Kd.R_elder' (rr HO_6) (Kd.R_base ho21) hb); have n1_ := Aside0.mk (Kd.R_elder' (rr HO_7) (Kd.R_base ho21) hb); have n2_ := Aside0.mk (Kd.R_lower (Kd.R_new' (Kd.R_new' ho21 (Kd.R_lt (rr HO_6))) (Kd.R_lt (rr HO_7))) (below_size (bl HB))); have n3_ := bs HB hb; clear HO_6; clear HO_7; clear HB; have HO_6 := n0_; have HO_7 := n1_; have HO754 := n2_; have HB := n3_; clear n0_ n1_ n2_ n3_; clear hb ho21))
          repeat (go_quiet (first | ((with_reducible refine gate_dst (N := 54) rfl ?_); (try (refine gate_guard (by rfl) ?_; dsimp only)); refine Kd.R_lit (Kd.int .i64) _ 3 ?hg (N := 54) ?hd (xs := ([] : List Int)) (inner := []) (ok := fun _ => True) (okp := fun _ => True) ?hr ?hp (fun _ hk => hk) trivial (Below.refl _ _) (Nat.le_refl _) (by simp) ?_; (case hd => rfl); (case hg => rfl); (case hr => first | (go_simp; done) | (go_simp; rfl)); (case hp => exact (Reps.none _ _)); intro v753 w20 ho21 hb hg_ hnew_; clear hg_ hnew_; (first | rw [← Ny752.out] at ho21 | (simp only [Int.reduceToNat] at ho21; rw [← Ny752.out] at ho21)); have n0_ := Aside0.mk (Kd.R_elder' (rr HO_6) (Kd.R_base ho21) hb); have n1_ := Aside0.mk (Kd.R_elder' (rr HO_7) (Kd.R_base ho21) hb); have n2_ := Aside0.mk (Kd.R_lower (Kd.R_new' (Kd.R_new' ho21 (Kd.R_lt (rr HO_6))) (Kd.R_lt (rr HO_7))) (below_size (bl HB))); have n3_ := bs HB hb; clear HO_6; clear HO_7; clear HB; have HO_6 := n0_; have HO_7 := n1_; have HO754 := n2_; have HB := n3_; clear n0_ n1_ n2_ n3_; clear hb ho21)); try go_wp2_with (first | ((with_reducible refine gate_dst (N := 54) rfl ?_); (try (refine gate_guard (by rfl) ?_; dsimp only)); refine Kd.R_lit (Kd.int .i64) _ 3 ?hg (N := 54) ?hd (xs := ([] : List Int)) (inner := []) (ok := fun _ => True) (okp := fun _ => True) ?hr ?hp (fun _ hk => hk) trivial (Below.refl _ _) (Nat.le_refl _) (by simp) ?_; (case hd => rfl); (case hg => rfl); (case hr => first | (go_simp; done) | (go_simp; rfl)); (case hp => exact (Reps.none _ _)); intro v753 w20 ho21 hb hg_ hnew_; clear hg_ hnew_; (first | rw [← Ny752.out] at ho21 | (simp only [Int.reduceToNat] at ho21; rw [← Ny752.out] at ho21)); have n0_ := Aside0.mk (Kd.R_elder' (rr HO_6) (Kd.R_base ho21) hb); have n1_ := Aside0.mk (Kd.R_elder' (rr HO_7) (Kd.R_base ho21) hb); have n2_ := Aside0.mk (Kd.R_lower (Kd.R_new' (Kd.R_new' ho21 (Kd.R_lt (rr HO_6))) (Kd.R_lt (rr HO_7))) (below_size (bl HB))); have n3_ := bs HB hb; clear HO_6; clear HO_7; clear HB; have HO_6 := n0_; have HO_7 := n1_; have HO754 := n2_; have HB := n3_; clear n0_ n1_ n2_ n3_; clear hb ho21)))
          go_ret2
          exact ⟨_, by first | rfl | (simp [errW_none, errW_some] <;> rfl) | (simp [*, errW_none, errW_some] <;> rfl), by (with_reducible repeat (first | apply Kd.R_alloc | apply Kd.R_drewN | apply Kd.R_drew)); exact Kd.R_mono HO754.out (fun _ hk => trivial), (bl HB)⟩
         ·replace c19 := Bool.eq_false_iff.mpr c19
          subst c19
          have H1 : (if 0 ≤ x8_2 then (if x8_2 < (l1.length : Int) then (if 0 < ((rd_L8 l1 x8_2).length : Int) then ((spec_l12Place.f kj13 x7_2 (rd (rd_L8 l1 x8_2) 0)).bind fun t757 => (if t757 < 0 then (some ((([] : List Int)), false)) else (if (wrap64 (t757 + 1)) ≥ a0 then (some ((([] : List Int)), false)) else (if 0 ≤ (wrap64 (t757 + 1)) then (if (wrap64 (t757 + 1)) < (x7_2.length : Int) then (if 1 < ((rd_L8 l1 x8_2).length : Int) then (if (rd x7_2 (wrap64 (t757 + 1))) = (rd (rd_L8 l1 x8_2) 1) then ((spec_l12Swap.f x7_2 t757).bind fun bt767 => (if x6_2.length < 17592186044416 then (spec_WiringFrom.l0 kj13 a0 l1 (x6_2 ++ [t757]) bt767.2 (wrap64 (x8_2 + 1))) else (none))) else (some ((([] : List Int)), false))) else (none)) else (none)) else (none))))) else (none)) else (none)) else (none)) = some (r1, r2) := by rw [if_neg (show ¬ (false = true) by decide)] at H; exact H
          clear H
          have H := H1
          clear H1
          by_cases c22 : 0 ≤ x8_2
          ·rw [if_pos c22] at H
           have c22b0 : decide (0 ≤ x8_2) = true := decide_eq_true c22
           clear c22
           by_cases c23 : x8_2 < (l1.length : Int)
           ·rw [if_pos c23] at H
            have c23b0 : decide (x8_2 < (l1.length : Int)) = true := decide_eq_true c23
            clear c23
            by_cases c24 : 0 < ((rd_L8 l1 x8_2).length : Int)
            ·rw [if_pos c24] at H
             have c24b0 : decide (0 < ((rd_L8 l1 x8_2).length : Int)) = true := decide_eq_true c24
             have c24b1 : decide (0 < (rd_L8 l1 x8_2).length) = true := decide_eq_true (by omega)
             clear c24
             replace H := Option.bind_eq_some_iff.mp H
             obtain ⟨t757, A250, H⟩ := H
             (try dsimp only at H)
             have A25 := Aside0.mk A250
             clear A250
             by_cases c26 : t757 < 0
             ·rw [if_pos c26] at H
              have c26b0 : decide (t757 < 0) = true := decide_eq_true c26
              clear c26
              obtain ⟨y758, hy758⟩ : ∃ y_ : List Int, y_ = (([] : List Int)) := ⟨_, rfl⟩
              replace H : (some (y758, false)) = some (r1, r2) := by first | (rw [hy758]; with_reducible exact H) | (have H2_ := (Option.bind_some _ _).symm.trans H; rw [hy758]; with_reducible exact H2_) | (have H2_ := (Option.bind_some _ _).symm.trans H; with_reducible exact H2_) | with_reducible exact H | (rw [hy758]; exact H) | exact H
              have Ny758 := Aside0.mk hy758
              clear hy758
              simp only [Option.some.injEq, Prod.mk.injEq] at H
              obtain ⟨rfl, rfl⟩ := H
              have p755 : 0 ≤ (x8_2 : Int) := of_decide_eq_true (by first | (with_reducible assumption) | assumption)
              have q755 : x8_2 < (l1.length : Int) := of_decide_eq_true (by first | (with_reducible assumption) | assumption)
              obtain ⟨ad755, A755_0, c755_0, e755, hx755_0, hl755_0, hi755_0⟩ := at_L8 HR1.out x8_2 p755 q755
              cases e755
              replace hx755_0 := (HB.out.cell (World.block_lt_of_cell? w _ hx755_0)).trans hx755_0
              have HR755_0 := Aside0.mk hi755_0
              have HC755_0 := Aside0.mk hl755_0
              clear hi755_0 hl755_0
              replace p755 := eq_true p755
              replace q755 := eq_true q755
              have p756 : 0 ≤ (0 : Int) := (by omega)
              have q756 : 0 < ((rd_L8 l1 x8_2).length : Int) := of_decide_eq_true (by first | (with_reducible assumption) | assumption)
              obtain ⟨ad756, e756, hx756_0⟩ := Kd.at_int HR755_0.out 0 p756 q756
              cases e756
              have qi756 : (0 < (rd_L8 l1 x8_2).length) = True := eq_true (by omega)
              (try rw [show ((0 : Int)).toNat = 0 from rfl] at hx756_0)
              (try rw [Addr.add_zero'] at hx756_0)
              replace hx756_0 := (HB.out.cell (World.block_lt_of_cell? w _ hx756_0)).trans hx756_0
              replace p756 := eq_true p756
              replace q756 := eq_true q756
              obtain ⟨Ao27, co27, eo27⟩ := Kd.R_slice HO_7.out
              subst eo27
              go_wp2_with (first | (go_at_call 94; (with_reducible refine (spec_l12Place.calls kj13 _ _ x7_2 (rd (rd_L8 l1 x8_2) 0) t757 _ ?side1 ?side2 A25.out).mono ?_); (case side1 => repeat (first | exact (Kd.R_reads' HO_7.out).2.2 | (with_reducible refine Kd.C_alloc ?_ _) | (with_reducible refine Kd.C_drewN ?_ _) | (with_reducible refine Kd.C_drew ?_))); (case side2 => exact (Kd.R_reads' HO_7.out).2.1); rintro e w' ⟨rfl, ⟨nd, rfl⟩⟩; (try first | exact ⟨rfl, _, World.drewN_drewN _ _ _⟩ | exact ⟨rfl, _, Eq.trans (World.drewN_drewN _ _ _) (congrArg (World.drewN _) (Nat.add_assoc _ _ _))⟩)) | ((with_reducible refine gate_dst (N := 85) rfl ?_); (try (refine gate_guard (by rfl) ?_; dsimp only)); refine Kd.R_lit (Kd.int .i64) _ 3 ?hg (N := 85) ?hd (xs := ([] : List Int)) (inner := []) (ok := fun _ => True) (okp := fun _ => True) ?hr ?hp (fun _ hk => hk) trivial (Below.refl _ _) (Nat.le_refl _) (by simp) ?_; (case hd => rfl); (case hg => rfl); (case hr => first | (go_simp; done) | (go_simp; rfl)); (case hp => exact (Reps.none _ _)); intro v759 w28 ho29 hb hg_ hnew_; clear hg_ hnew_; (first | rw [← Ny758.out] at ho29 | (simp only [Int.reduceToNat] at ho29; rw [← Ny758.out] at ho29)); have n0_ := Aside0.mk (Kd.R_elder' (rr HO_6) (Kd.R_base ho29) hb); have n1_ := Aside0.mk (Kd.R_elder' (rr HO_7) (Kd.R_base ho29) hb); have n2_ := Aside0.mk (Kd.R_lower (Kd.R_new' (Kd.R_new' ho29 (Kd.R_lt (rr HO_6))) (Kd.R_lt (rr HO_7))) (below_size (bl HB))); have n3_ := bs HB hb; clear HO_6; clear HO_7; clear HB; have HO_6 := n0_; have HO_7 := n1_; have HO760 := n2_; have HB := n3_; clear n0_ n1_ n2_ n3_; clear hb ho29))
              repeat (go_quiet (first | (go_at_call 94; (with_reducible refine (spec_l12Place.calls kj13 _ _ x7_2 (rd (rd_L8 l1 x8_2) 0) t757 _ ?side1 ?side2 A25.out).mono ?_); (case side1 => repeat (first | exact (Kd.R_reads' HO_7.out).2.2 | (with_reducible refine Kd.C_alloc ?_ _) | (with_reducible refine Kd.C_drewN ?_ _) | (with_reducible refine Kd.C_drew ?_))); (case side2 => exact (Kd.R_reads' HO_7.out).2.1); rintro e w' ⟨rfl, ⟨nd, rfl⟩⟩; (try first | exact ⟨rfl, _, World.drewN_drewN _ _ _⟩ | exact ⟨rfl, _, Eq.trans (World.drewN_drewN _ _ _) (congrArg (World.drewN _) (Nat.add_assoc _ _ _))⟩)) | ((with_reducible refine gate_dst (N := 85) rfl ?_); (try (refine gate_guard (by rfl) ?_; dsimp only)); refine Kd.R_lit (Kd.int .i64) _ 3 ?hg (N := 85) ?hd (xs := ([] : List Int)) (inner := []) (ok := fun _ => True) (okp := fun _ => True) ?hr ?hp (fun _ hk => hk) trivial (Below.refl _ _) (Nat.le_refl _) (by simp) ?_; (case hd => rfl); (case hg => rfl); (case hr => first | (go_simp; done) | (go_simp; rfl)); (case hp => exact (Reps.none _ _)); intro v759 w28 ho29 hb hg_ hnew_; clear hg_ hnew_; (first | rw [← Ny758.out] at ho29 | (simp only [Int.reduceToNat] at ho29; rw [← Ny758.out] at ho29)); have n0_ := Aside0.mk (Kd.R_elder' (rr HO_6) (Kd.R_base ho29) hb); have n1_ := Aside0.mk (Kd.R_elder' (rr HO_7) (Kd.R_base ho29) hb); have n2_ := Aside0.mk (Kd.R_lower (Kd.R_new' (Kd.R_new' ho29 (Kd.R_lt (rr HO_6))) (Kd.R_lt (rr HO_7))) (below_size (bl HB))); have n3_ := bs HB hb; clear HO_6; clear HO_7; clear HB; have HO_6 := n0_; have HO_7 := n1_; have HO760 := n2_; have HB := n3_; clear n0_ n1_ n2_ n3_; clear hb ho29)); try go_wp2_with (first | (go_at_call 94; (with_reducible refine (spec_l12Place.calls kj13 _ _ x7_2 (rd (rd_L8 l1 x8_2) 0) t757 _ ?side1 ?side2 A25.out).mono ?_); (case side1 => repeat (first | exact (Kd.R_reads' HO_7.out).2.2 | (with_reducible refine Kd.C_alloc ?_ _) | (with_reducible refine Kd.C_drewN ?_ _) | (with_reducible refine Kd.C_drew ?_))); (case side2 => exact (Kd.R_reads' HO_7.out).2.1); rintro e w' ⟨rfl, ⟨nd, rfl⟩⟩; (try first | exact ⟨rfl, _, World.drewN_drewN _ _ _⟩ | exact ⟨rfl, _, Eq.trans (World.drewN_drewN _ _ _) (congrArg (World.drewN _) (Nat.add_assoc _ _ _))⟩)) | ((with_reducible refine gate_dst (N := 85) rfl ?_); (try (refine gate_guard (by rfl) ?_; dsimp only)); refine Kd.R_lit (Kd.int .i64) _ 3 ?hg (N := 85) ?hd (xs := ([] : List Int)) (inner := []) (ok := fun _ => True) (okp := fun _ => True) ?hr ?hp (fun _ hk => hk) trivial (Below.refl _ _) (Nat.le_refl _) (by simp) ?_; (case hd => rfl); (case hg => rfl); (case hr => first | (go_simp; done) | (go_simp; rfl)); (case hp => exact (Reps.none _ _)); intro v759 w28 ho29 hb hg_ hnew_; clear hg_ hnew_; (first | rw [← Ny758.out] at ho29 | (simp only [Int.reduceToNat] at ho29; rw [← Ny758.out] at ho29)); have n0_ := Aside0.mk (Kd.R_elder' (rr HO_6) (Kd.R_base ho29) hb); have n1_ := Aside0.mk (Kd.R_elder' (rr HO_7) (Kd.R_base ho29) hb); have n2_ := Aside0.mk (Kd.R_lower (Kd.R_new' (Kd.R_new' ho29 (Kd.R_lt (rr HO_6))) (Kd.R_lt (rr HO_7))) (below_size (bl HB))); have n3_ := bs HB hb; clear HO_6; clear HO_7; clear HB; have HO_6 := n0_; have HO_7 := n1_; have HO760 := n2_; have HB := n3_; clear n0_ n1_ n2_ n3_; clear hb ho29)))
              go_ret2
              exact ⟨_, by first | rfl | (simp [errW_none, errW_some] <;> rfl) | (simp [*, errW_none, errW_some] <;> rfl), by (with_reducible repeat (first | apply Kd.R_alloc | apply Kd.R_drewN | apply Kd.R_drew)); exact Kd.R_mono HO760.out (fun _ hk => trivial), (bl HB)⟩
             ·rw [if_neg c26] at H
              have c26b0 : decide (t757 < 0) = false := decide_eq_false c26
              clear c26
              by_cases c30 : (wrap64 (t757 + 1)) ≥ a0
              ·rw [if_pos c30] at H
               have c30b0 : decide (a0 ≤ (wrap64 (t757 + 1))) = true := decide_eq_true c30
               clear c30
               obtain ⟨y761, hy761⟩ : ∃ y_ : List Int, y_ = (([] : List Int)) := ⟨_, rfl⟩
               replace H : (some (y761, false)) = some (r1, r2) := by first | (rw [hy761]; with_reducible exact H) | (have H2_ := (Option.bind_some _ _).symm.trans H; rw [hy761]; with_reducible exact H2_) | (have H2_ := (Option.bind_some _ _).symm.trans H; with_reducible exact H2_) | with_reducible exact H | (rw [hy761]; exact H) | exact H
               have Ny761 := Aside0.mk hy761
               clear hy761
               simp only [Option.some.injEq, Prod.mk.injEq] at H
               obtain ⟨rfl, rfl⟩ := H
               have p755 : 0 ≤ (x8_2 : Int) := of_decide_eq_true (by first | (with_reducible assumption) | assumption)
               have q755 : x8_2 < (l1.length : Int) := of_decide_eq_true (by first | (with_reducible assumption) | assumption)
               obtain ⟨ad755, A755_0, c755_0, e755, hx755_0, hl755_0, hi755_0⟩ := at_L8 HR1.out x8_2 p755 q755
               cases e755
               replace hx755_0 := (HB.out.cell (World.block_lt_of_cell? w _ hx755_0)).trans hx755_0
               have HR755_0 := Aside0.mk hi755_0
               have HC755_0 := Aside0.mk hl755_0
               clear hi755_0 hl755_0
               replace p755 := eq_true p755
               replace q755 := eq_true q755
               have p756 : 0 ≤ (0 : Int) := (by omega)
               have q756 : 0 < ((rd_L8 l1 x8_2).length : Int) := of_decide_eq_true (by first | (with_reducible assumption) | assumption)
               obtain ⟨ad756, e756, hx756_0⟩ := Kd.at_int HR755_0.out 0 p756 q756
               cases e756
               have qi756 : (0 < (rd_L8 l1 x8_2).length) = True := eq_true (by omega)
               (try rw [show ((0 : Int)).toNat = 0 from rfl] at hx756_0)
               (try rw [Addr.add_zero'] at hx756_0)
               replace hx756_0 := (HB.out.cell (World.block_lt_of_cell? w _ hx756_0)).trans hx756_0
               replace p756 := eq_true p756
               replace q756 := eq_true q756
               obtain ⟨Ao31, co31, eo31⟩ := Kd.R_slice HO_7.out
               subst eo31
               go_wp2_with (first | (go_at_call 94; (with_reducible refine (spec_l12Place.calls kj13 _ _ x7_2 (rd (rd_L8 l1 x8_2) 0) t757 _ ?side1 ?side2 A25.out).mono ?_); (case side1 => repeat (first | exact (Kd.R_reads' HO_7.out).2.2 | (with_reducible refine Kd.C_alloc ?_ _) | (with_reducible refine Kd.C_drewN ?_ _) | (with_reducible refine Kd.C_drew ?_))); (case side2 => exact (Kd.R_reads' HO_7.out).2.1); rintro e w' ⟨rfl, ⟨nd, rfl⟩⟩; (try first | exact ⟨rfl, _, World.drewN_drewN _ _ _⟩ | exact ⟨rfl, _, Eq.trans (World.drewN_drewN _ _ _) (congrArg (World.drewN _) (Nat.add_assoc _ _ _))⟩)) | ((with_reducible refine gate_dst (N := 85) rfl ?_); (try (refine gate_guard (by rfl) ?_; dsimp only)); refine Kd.R_lit (Kd.int .i64) _ 3 ?hg (N := 85) ?hd (xs := ([] : List Int)) (inner := []) (ok := fun _ => True) (okp := fun _ => True) ?hr ?hp (fun _ hk => hk) trivial (Below.refl _ _) (Nat.le_refl _) (by simp) ?_; (case hd => rfl); (case hg => rfl); (case hr => first | (go_simp; done) | (go_simp; rfl)); (case hp => exact (Reps.none _ _)); intro v762 w32 ho33 hb hg_ hnew_; clear hg_ hnew_; (first | rw [← Ny761.out] at ho33 | (simp only [Int.reduceToNat] at ho33; rw [← Ny761.out] at ho33)); have n0_ := Aside0.mk (Kd.R_elder' (rr HO_6) (Kd.R_base ho33) hb); have n1_ := Aside0.mk (Kd.R_elder' (rr HO_7) (Kd.R_base ho33) hb); have n2_ := Aside0.mk (Kd.R_lower (Kd.R_new' (Kd.R_new' ho33 (Kd.R_lt (rr HO_6))) (Kd.R_lt (rr HO_7))) (below_size (bl HB))); have n3_ := bs HB hb; clear HO_6; clear HO_7; clear HB; have HO_6 := n0_; have HO_7 := n1_; have HO763 := n2_; have HB := n3_; clear n0_ n1_ n2_ n3_; clear hb ho33))
               repeat (go_quiet (first | (go_at_call 94; (with_reducible refine (spec_l12Place.calls kj13 _ _ x7_2 (rd (rd_L8 l1 x8_2) 0) t757 _ ?side1 ?side2 A25.out).mono ?_); (case side1 => repeat (first | exact (Kd.R_reads' HO_7.out).2.2 | (with_reducible refine Kd.C_alloc ?_ _) | (with_reducible refine Kd.C_drewN ?_ _) | (with_reducible refine Kd.C_drew ?_))); (case side2 => exact (Kd.R_reads' HO_7.out).2.1); rintro e w' ⟨rfl, ⟨nd, rfl⟩⟩; (try first | exact ⟨rfl, _, World.drewN_drewN _ _ _⟩ | exact ⟨rfl, _, Eq.trans (World.drewN_drewN _ _ _) (congrArg (World.drewN _) (Nat.add_assoc _ _ _))⟩)) | ((with_reducible refine gate_dst (N := 85) rfl ?_); (try (refine gate_guard (by rfl) ?_; dsimp only)); refine Kd.R_lit (Kd.int .i64) _ 3 ?hg (N := 85) ?hd (xs := ([] : List Int)) (inner := []) (ok := fun _ => True) (okp := fun _ => True) ?hr ?hp (fun _ hk => hk) trivial (Below.refl _ _) (Nat.le_refl _) (by simp) ?_; (case hd => rfl); (case hg => rfl); (case hr => first | (go_simp; done) | (go_simp; rfl)); (case hp => exact (Reps.none _ _)); intro v762 w32 ho33 hb hg_ hnew_; clear hg_ hnew_; (first | rw [← Ny761.out] at ho33 | (simp only [Int.reduceToNat] at ho33; rw [← Ny761.out] at ho33)); have n0_ := Aside0.mk (Kd.R_elder' (rr HO_6) (Kd.R_base ho33) hb); have n1_ := Aside0.mk (Kd.R_elder' (rr HO_7) (Kd.R_base ho33) hb); have n2_ := Aside0.mk (Kd.R_lower (Kd.R_new' (Kd.R_new' ho33 (Kd.R_lt (rr HO_6))) (Kd.R_lt (rr HO_7))) (below_size (bl HB))); have n3_ := bs HB hb; clear HO_6; clear HO_7; clear HB; have HO_6 := n0_; have HO_7 := n1_; have HO763 := n2_; have HB := n3_; clear n0_ n1_ n2_ n3_; clear hb ho33)); try go_wp2_with (first | (go_at_call 94; (with_reducible refine (spec_l12Place.calls kj13 _ _ x7_2 (rd (rd_L8 l1 x8_2) 0) t757 _ ?side1 ?side2 A25.out).mono ?_); (case side1 => repeat (first | exact (Kd.R_reads' HO_7.out).2.2 | (with_reducible refine Kd.C_alloc ?_ _) | (with_reducible refine Kd.C_drewN ?_ _) | (with_reducible refine Kd.C_drew ?_))); (case side2 => exact (Kd.R_reads' HO_7.out).2.1); rintro e w' ⟨rfl, ⟨nd, rfl⟩⟩; (try first | exact ⟨rfl, _, World.drewN_drewN _ _ _⟩ | exact ⟨rfl, _, Eq.trans (World.drewN_drewN _ _ _) (congrArg (World.drewN _) (Nat.add_assoc _ _ _))⟩)) | ((with_reducible refine gate_dst (N := 85) rfl ?_); (try (refine gate_guard (by rfl) ?_; dsimp only)); refine Kd.R_lit (Kd.int .i64) _ 3 ?hg (N := 85) ?hd (xs := ([] : List Int)) (inner := []) (ok := fun _ => True) (okp := fun _ => True) ?hr ?hp (fun _ hk => hk) trivial (Below.refl _ _) (Nat.le_refl _) (by simp) ?_; (case hd => rfl); (case hg => rfl); (case hr => first | (go_simp; done) | (go_simp; rfl)); (case hp => exact (Reps.none _ _)); intro v762 w32 ho33 hb hg_ hnew_; clear hg_ hnew_; (first | rw [← Ny761.out] at ho33 | (simp only [Int.reduceToNat] at ho33; rw [← Ny761.out] at ho33)); have n0_ := Aside0.mk (Kd.R_elder' (rr HO_6) (Kd.R_base ho33) hb); have n1_ := Aside0.mk (Kd.R_elder' (rr HO_7) (Kd.R_base ho33) hb); have n2_ := Aside0.mk (Kd.R_lower (Kd.R_new' (Kd.R_new' ho33 (Kd.R_lt (rr HO_6))) (Kd.R_lt (rr HO_7))) (below_size (bl HB))); have n3_ := bs HB hb; clear HO_6; clear HO_7; clear HB; have HO_6 := n0_; have HO_7 := n1_; have HO763 := n2_; have HB := n3_; clear n0_ n1_ n2_ n3_; clear hb ho33)))
               go_ret2
               exact ⟨_, by first | rfl | (simp [errW_none, errW_some] <;> rfl) | (simp [*, errW_none, errW_some] <;> rfl), by (with_reducible repeat (first | apply Kd.R_alloc | apply Kd.R_drewN | apply Kd.R_drew)); exact Kd.R_mono HO763.out (fun _ hk => trivial), (bl HB)⟩
              ·rw [if_neg c30] at H
               have c30b0 : decide (a0 ≤ (wrap64 (t757 + 1))) = false := decide_eq_false c30
               clear c30
               obtain ⟨ji34, hji34⟩ : ∃ j_ : Int, (wrap64 (t757 + 1)) = j_ := ⟨_, rfl⟩
               replace H : (if 0 ≤ (ji34) then (if (ji34) < (x7_2.length : Int) then (if 1 < ((rd_L8 l1 x8_2).length : Int) then (if (rd x7_2 (ji34)) = (rd (rd_L8 l1 x8_2) 1) then ((spec_l12Swap.f x7_2 t757).bind fun bt767 => (if x6_2.length < 17592186044416 then (spec_WiringFrom.l0 kj13 a0 l1 (x6_2 ++ [t757]) bt767.2 (wrap64 (x8_2 + 1))) else (none))) else (some ((([] : List Int)), false))) else (none)) else (none)) else (none)) = some (r1, r2) := by first | (rw [hji34] at H; exact H) | (simp only [hji34] at H ⊢; exact H)
               (try rw [hji34] at c30b0)
               (try rw [hji34] at A25)
               have hji34w : (IntKind.i64.wrap (t757 + 1)) = ji34 := (i64_w _).trans hji34
               by_cases c35 : 0 ≤ (ji34)
               ·rw [if_pos c35] at H
                have c35b0 : decide (0 ≤ (ji34)) = true := decide_eq_true c35
                clear c35
                by_cases c36 : (ji34) < (x7_2.length : Int)
                ·rw [if_pos c36] at H
                 have c36b0 : decide ((ji34) < (x7_2.length : Int)) = true := decide_eq_true c36
                 clear c36
                 by_cases c37 : 1 < ((rd_L8 l1 x8_2).length : Int)
                 ·rw [if_pos c37] at H
                  have c37b0 : decide (1 < ((rd_L8 l1 x8_2).length : Int)) = true := decide_eq_true c37
                  have c37b1 : decide (1 < (rd_L8 l1 x8_2).length) = true := decide_eq_true (by omega)
                  clear c37
                  by_cases c38 : (rd x7_2 (ji34)) = (rd (rd_L8 l1 x8_2) 1)
                  ·rw [if_pos c38] at H
                   have c38b0 : ((rd x7_2 (ji34)) == (rd (rd_L8 l1 x8_2) 1)) = true := beq_iff_eq.mpr c38
                   have c38b1 : ((rd x7_2 (ji34)) != (rd (rd_L8 l1 x8_2) 1)) = false := bne_eq_false_iff_eq.mpr c38
                   clear c38
                   replace H := Option.bind_eq_some_iff.mp H
                   obtain ⟨⟨t767, t768⟩, A390, H⟩ := H
                   (try dsimp only at H)
                   have A39 := Aside0.mk A390
                   clear A390
                   by_cases c40 : x6_2.length < 17592186044416
                   ·rw [if_pos c40] at H
                    have LMc40 := Aside0.mk c40
                    clear c40
                    obtain ⟨y769, hy769⟩ : ∃ y_ : List Int, y_ = (x6_2 ++ [t757]) := ⟨_, rfl⟩
                    replace H : (spec_WiringFrom.l0 kj13 a0 l1 y769 t768 (wrap64 (x8_2 + 1))) = some (r1, r2) := by first | (rw [hy769]; with_reducible exact H) | (have H2_ := (Option.bind_some _ _).symm.trans H; rw [hy769]; with_reducible exact H2_) | (have H2_ := (Option.bind_some _ _).symm.trans H; with_reducible exact H2_) | with_reducible exact H | (rw [hy769]; exact H) | exact H
                    have Ny769 := Aside0.mk hy769
                    clear hy769
                    have H' := Aside0.mk H
                    clear H
                    have p755 : 0 ≤ (x8_2 : Int) := of_decide_eq_true (by first | (with_reducible assumption) | assumption)
                    have q755 : x8_2 < (l1.length : Int) := of_decide_eq_true (by first | (with_reducible assumption) | assumption)
                    obtain ⟨ad755, A755_0, c755_0, e755, hx755_0, hl755_0, hi755_0⟩ := at_L8 HR1.out x8_2 p755 q755
                    cases e755
                    replace hx755_0 := (HB.out.cell (World.block_lt_of_cell? w _ hx755_0)).trans hx755_0
                    have HR755_0 := Aside0.mk hi755_0
                    have HC755_0 := Aside0.mk hl755_0
                    clear hi755_0 hl755_0
                    replace p755 := eq_true p755
                    replace q755 := eq_true q755
                    have p756 : 0 ≤ (0 : Int) := (by omega)
                    have q756 : 0 < ((rd_L8 l1 x8_2).length : Int) := of_decide_eq_true (by first | (with_reducible assumption) | assumption)
                    obtain ⟨ad756, e756, hx756_0⟩ := Kd.at_int HR755_0.out 0 p756 q756
                    cases e756
                    have qi756 : (0 < (rd_L8 l1 x8_2).length) = True := eq_true (by omega)
                    (try rw [show ((0 : Int)).toNat = 0 from rfl] at hx756_0)
                    (try rw [Addr.add_zero'] at hx756_0)
                    replace hx756_0 := (HB.out.cell (World.block_lt_of_cell? w _ hx756_0)).trans hx756_0
                    replace p756 := eq_true p756
                    replace q756 := eq_true q756
                    obtain ⟨Ao41, co41, eo41⟩ := Kd.R_slice HO_7.out
                    subst eo41
                    go_wp2_with (first | (go_at_call 94; (with_reducible refine (spec_l12Place.calls kj13 _ _ x7_2 (rd (rd_L8 l1 x8_2) 0) t757 _ ?side1 ?side2 A25.out).mono ?_); (case side1 => repeat (first | exact (Kd.R_reads' HO_7.out).2.2 | (with_reducible refine Kd.C_alloc ?_ _) | (with_reducible refine Kd.C_drewN ?_ _) | (with_reducible refine Kd.C_drew ?_))); (case side2 => exact (Kd.R_reads' HO_7.out).2.1); rintro e w' ⟨rfl, ⟨nd, rfl⟩⟩; (try first | exact ⟨rfl, _, World.drewN_drewN _ _ _⟩ | exact ⟨rfl, _, Eq.trans (World.drewN_drewN _ _ _) (congrArg (World.drewN _) (Nat.add_assoc _ _ _))⟩); have p764 : 0 ≤ ((ji34) : Int) := of_decide_eq_true (by first | (with_reducible assumption) | assumption); have q764 : (ji34) < (x7_2.length : Int) := of_decide_eq_true (by first | (with_reducible assumption) | assumption); obtain ⟨ad764, e764, hx764_0⟩ := Kd.at_int (Kd.R_reads' HO_7.out).2.2 (ji34) p764 q764; cases e764; replace p764 := eq_true p764; replace q764 := eq_true q764; have p765 : 0 ≤ (x8_2 : Int) := of_decide_eq_true (by first | (with_reducible assumption) | assumption); have q765 : x8_2 < (l1.length : Int) := of_decide_eq_true (by first | (with_reducible assumption) | assumption); obtain ⟨ad765, A765_0, c765_0, e765, hx765_0, hl765_0, hi765_0⟩ := at_L8 HR1.out x8_2 p765 q765; obtain rfl : ad755 = ad765 := (by injection e765); replace hx765_0 := (HB.out.cell (World.block_lt_of_cell? w _ hx765_0)).trans hx765_0; have HR765_0 := Aside0.mk hi765_0; have HC765_0 := Aside0.mk hl765_0; clear hi765_0 hl765_0; replace p765 := eq_true p765; replace q765 := eq_true q765; have ea_ := Option.some.inj (hx755_0.symm.trans hx765_0); injection ea_ with ea_ en_ ec_; subst ea_; subst ec_; clear en_; have p766 : 0 ≤ (1 : Int) := (by omega); have q766 : 1 < ((rd_L8 l1 x8_2).length : Int) := of_decide_eq_true (by first | (with_reducible assumption) | assumption); obtain ⟨ad766, e766, hx766_0⟩ := Kd.at_int HR765_0.out 1 p766 q766; cases e766; (try simp only [show (1 : Int).toNat = 1 from rfl, Nat.reduceMul, Nat.reduceEqDiff, Go.Addr.add, ↓reduceIte] at hx766_0); have qi766 : (1 < (rd_L8 l1 x8_2).length) = True := eq_true (by omega); (try rw [show ((1 : Int)).toNat = 1 from rfl] at hx766_0); replace hx766_0 := (HB.out.cell (World.block_lt_of_cell? w _ hx766_0)).trans hx766_0; replace p766 := eq_true p766; replace q766 := eq_true q766) | (go_at_call 95; (with_reducible refine (spec_l12Swap.calls (fun k_ => some k_ = (.slice (some ad764) x7_2.length co41 : Value).ownBlock) (.slice (some ad764) x7_2.length co41) x7_2 t757 t767 t768 w _ ?side1 ?side2 A39.out).mono ?_); (case side1 => repeat (first | (with_reducible first | exact HB.out | apply below_alloc | apply pw_below_drewN | apply below_drew1) | exact HB.out)); (case side2 => exact Kd.R_tight rfl HO_7.out); rintro e w42 ⟨rfl, hy0, hb, hkp⟩; have n0_ := Aside0.mk (Kd.R_mono (ok' := fun k_ => some k_ ≠ (.slice (some ad764) x7_2.length co41 : Value).ownBlock) (Kd.R_keptB (HO_6.out) hkp (fun k_ hk_ hs_ => (hk_) hs_)) (fun k_ hk_ => hk_.1)); have n1_ := Aside0.mk (Kd.R_reok rfl hy0 (fun k_ e_ => HO_7.out.1 k_ e_)); have n2_ := Aside0.mk (hb); clear HO_6; clear HO_7; clear HB; have HO_6 := n0_; have HO_7 := n1_; have HB := n2_; clear n0_ n1_ n2_; (try clear hb); (try clear hkp); (try clear hy0)) | ((with_reducible refine gate_builtin (b := .append) (xs := #[.tmp 89, .tmp 91]) rfl ?_); (try (refine gate_guard (by rfl) ?_; dsimp only)); at_builtin; refine Kd.R_append (Kd.int .i64) (w0 := w) w.heap.size rfl (.tmp 89) (.tmp 91) 25 3 (.int .i64 0) 8 rfl Try.underlying25 info3 rfl (by decide) (by omega) u6 x6_2 t757 [.int .i64 t757] (fun k_ => some k_ ≠ (.slice (some ad764) x7_2.length co41 : Value).ownBlock) (fun _ => False) rfl rfl ?aP (fun _ hk => hk.elim) ?aF ?aO ?aB ?aS ?aL ?_; (case aP => exact rfl); (case aB => exact (bl HB)); (case aF => exact (fun k_ hk => Kd.fresh' (Kd.R_lt (rr HO_7)) k_ hk)); (case aO => exact (rr HO_6)); (case aS => exact (below_size (bl HB))); (case aL => have := LMc40.out; omega); intro v770 w43 ho hb hg hat; rw [← Ny769.out] at ho; have n0_ := Aside0.mk (Kd.R_after (ok := (fun _ => True)) (by (with_reducible repeat (first | apply Kd.R_alloc | apply Kd.R_drewN | apply Kd.R_drew)); exact Kd.R_mono HO_7.out (fun _ hk => ⟨trivial, hk⟩)) hg hat); have n1_ := Aside0.mk (hb); have n2_ := Aside0.mk (ho); clear HO_7; clear HB; clear HO_6; have HO_7 := n0_; have HB := n1_; have HO771 := n2_; clear n0_ n1_ n2_; clear ho hb hg hat))
                    repeat (go_quiet (first | (go_at_call 94; (with_reducible refine (spec_l12Place.calls kj13 _ _ x7_2 (rd (rd_L8 l1 x8_2) 0) t757 _ ?side1 ?side2 A25.out).mono ?_); (case side1 => repeat (first | exact (Kd.R_reads' HO_7.out).2.2 | (with_reducible refine Kd.C_alloc ?_ _) | (with_reducible refine Kd.C_drewN ?_ _) | (with_reducible refine Kd.C_drew ?_))); (case side2 => exact (Kd.R_reads' HO_7.out).2.1); rintro e w' ⟨rfl, ⟨nd, rfl⟩⟩; (try first | exact ⟨rfl, _, World.drewN_drewN _ _ _⟩ | exact ⟨rfl, _, Eq.trans (World.drewN_drewN _ _ _) (congrArg (World.drewN _) (Nat.add_assoc _ _ _))⟩); have p764 : 0 ≤ ((ji34) : Int) := of_decide_eq_true (by first | (with_reducible assumption) | assumption); have q764 : (ji34) < (x7_2.length : Int) := of_decide_eq_true (by first | (with_reducible assumption) | assumption); obtain ⟨ad764, e764, hx764_0⟩ := Kd.at_int (Kd.R_reads' HO_7.out).2.2 (ji34) p764 q764; cases e764; replace p764 := eq_true p764; replace q764 := eq_true q764; have p765 : 0 ≤ (x8_2 : Int) := of_decide_eq_true (by first | (with_reducible assumption) | assumption); have q765 : x8_2 < (l1.length : Int) := of_decide_eq_true (by first | (with_reducible assumption) | assumption); obtain ⟨ad765, A765_0, c765_0, e765, hx765_0, hl765_0, hi765_0⟩ := at_L8 HR1.out x8_2 p765 q765; obtain rfl : ad755 = ad765 := (by injection e765); replace hx765_0 := (HB.out.cell (World.block_lt_of_cell? w _ hx765_0)).trans hx765_0; have HR765_0 := Aside0.mk hi765_0; have HC765_0 := Aside0.mk hl765_0; clear hi765_0 hl765_0; replace p765 := eq_true p765; replace q765 := eq_true q765; have ea_ := Option.some.inj (hx755_0.symm.trans hx765_0); injection ea_ with ea_ en_ ec_; subst ea_; subst ec_; clear en_; have p766 : 0 ≤ (1 : Int) := (by omega); have q766 : 1 < ((rd_L8 l1 x8_2).length : Int) := of_decide_eq_true (by first | (with_reducible assumption) | assumption); obtain ⟨ad766, e766, hx766_0⟩ := Kd.at_int HR765_0.out 1 p766 q766; cases e766; (try simp only [show (1 : Int).toNat = 1 from rfl, Nat.reduceMul, Nat.reduceEqDiff, Go.Addr.add, ↓reduceIte] at hx766_0); have qi766 : (1 < (rd_L8 l1 x8_2).length) = True := eq_true (by omega); (try rw [show ((1 : Int)).toNat = 1 from rfl] at hx766_0); replace hx766_0 := (HB.out.cell (World.block_lt_of_cell? w _ hx766_0)).trans hx766_0; replace p766 := eq_true p766; replace q766 := eq_true q766) | (go_at_call 95; (with_reducible refine (spec_l12Swap.calls (fun k_ => some k_ = (.slice (some ad764) x7_2.length co41 : Value).ownBlock) (.slice (some ad764) x7_2.length co41) x7_2 t757 t767 t768 w _ ?side1 ?side2 A39.out).mono ?_); (case side1 => repeat (first | (with_reducible first | exact HB.out | apply below_alloc | apply pw_below_drewN | apply below_drew1) | exact HB.out)); (case side2 => exact Kd.R_tight rfl HO_7.out); rintro e w42 ⟨rfl, hy0, hb, hkp⟩; have n0_ := Aside0.mk (Kd.R_mono (ok' := fun k_ => some k_ ≠ (.slice (some ad764) x7_2.length co41 : Value).ownBlock) (Kd.R_keptB (HO_6.out) hkp (fun k_ hk_ hs_ => (hk_) hs_)) (fun k_ hk_ => hk_.1)); have n1_ := Aside0.mk (Kd.R_reok rfl hy0 (fun k_ e_ => HO_7.out.1 k_ e_)); have n2_ := Aside0.mk (hb); clear HO_6; clear HO_7; clear HB; have HO_6 := n0_; have HO_7 := n1_; have HB := n2_; clear n0_ n1_ n2_; (try clear hb); (try clear hkp); (try clear hy0)) | ((with_reducible refine gate_builtin (b := .append) (xs := #[.tmp 89, .tmp 91]) rfl ?_); (try (refine gate_guard (by rfl) ?_; dsimp only)); at_builtin; refine Kd.R_append (Kd.int .i64) (w0 := w) w.heap.size rfl (.tmp 89) (.tmp 91) 25 3 (.int .i64 0) 8 rfl Try.underlying25 info3 rfl (by decide) (by omega) u6 x6_2 t757 [.int .i64 t757] (fun k_ => some k_ ≠ (.slice (some ad764) x7_2.length co41 : Value).ownBlock) (fun _ => False) rfl rfl ?aP (fun _ hk => hk.elim) ?aF ?aO ?aB ?aS ?aL ?_; (case aP => exact rfl); (case aB => exact (bl HB)); (case aF => exact (fun k_ hk => Kd.fresh' (Kd.R_lt (rr HO_7)) k_ hk)); (case aO => exact (rr HO_6)); (case aS => exact (below_size (bl HB))); (case aL => have := LMc40.out; omega); intro v770 w43 ho hb hg hat; rw [← Ny769.out] at ho; have n0_ := Aside0.mk (Kd.R_after (ok := (fun _ => True)) (by (with_reducible repeat (first | apply Kd.R_alloc | apply Kd.R_drewN | apply Kd.R_drew)); exact Kd.R_mono HO_7.out (fun _ hk => ⟨trivial, hk⟩)) hg hat); have n1_ := Aside0.mk (hb); have n2_ := Aside0.mk (ho); clear HO_7; clear HB; clear HO_6; have HO_7 := n0_; have HB := n1_; have HO771 := n2_; clear n0_ n1_ n2_; clear ho hb hg hat)); try go_wp2_with (first | (go_at_call 94; (with_reducible refine (spec_l12Place.calls kj13 _ _ x7_2 (rd (rd_L8 l1 x8_2) 0) t757 _ ?side1 ?side2 A25.out).mono ?_); (case side1 => repeat (first | exact (Kd.R_reads' HO_7.out).2.2 | (with_reducible refine Kd.C_alloc ?_ _) | (with_reducible refine Kd.C_drewN ?_ _) | (with_reducible refine Kd.C_drew ?_))); (case side2 => exact (Kd.R_reads' HO_7.out).2.1); rintro e w' ⟨rfl, ⟨nd, rfl⟩⟩; (try first | exact ⟨rfl, _, World.drewN_drewN _ _ _⟩ | exact ⟨rfl, _, Eq.trans (World.drewN_drewN _ _ _) (congrArg (World.drewN _) (Nat.add_assoc _ _ _))⟩); have p764 : 0 ≤ ((ji34) : Int) := of_decide_eq_true (by first | (with_reducible assumption) | assumption); have q764 : (ji34) < (x7_2.length : Int) := of_decide_eq_true (by first | (with_reducible assumption) | assumption); obtain ⟨ad764, e764, hx764_0⟩ := Kd.at_int (Kd.R_reads' HO_7.out).2.2 (ji34) p764 q764; cases e764; replace p764 := eq_true p764; replace q764 := eq_true q764; have p765 : 0 ≤ (x8_2 : Int) := of_decide_eq_true (by first | (with_reducible assumption) | assumption); have q765 : x8_2 < (l1.length : Int) := of_decide_eq_true (by first | (with_reducible assumption) | assumption); obtain ⟨ad765, A765_0, c765_0, e765, hx765_0, hl765_0, hi765_0⟩ := at_L8 HR1.out x8_2 p765 q765; obtain rfl : ad755 = ad765 := (by injection e765); replace hx765_0 := (HB.out.cell (World.block_lt_of_cell? w _ hx765_0)).trans hx765_0; have HR765_0 := Aside0.mk hi765_0; have HC765_0 := Aside0.mk hl765_0; clear hi765_0 hl765_0; replace p765 := eq_true p765; replace q765 := eq_true q765; have ea_ := Option.some.inj (hx755_0.symm.trans hx765_0); injection ea_ with ea_ en_ ec_; subst ea_; subst ec_; clear en_; have p766 : 0 ≤ (1 : Int) := (by omega); have q766 : 1 < ((rd_L8 l1 x8_2).length : Int) := of_decide_eq_true (by first | (with_reducible assumption) | assumption); obtain ⟨ad766, e766, hx766_0⟩ := Kd.at_int HR765_0.out 1 p766 q766; cases e766; (try simp only [show (1 : Int).toNat = 1 from rfl, Nat.reduceMul, Nat.reduceEqDiff, Go.Addr.add, ↓reduceIte] at hx766_0); have qi766 : (1 < (rd_L8 l1 x8_2).length) = True := eq_true (by omega); (try rw [show ((1 : Int)).toNat = 1 from rfl] at hx766_0); replace hx766_0 := (HB.out.cell (World.block_lt_of_cell? w _ hx766_0)).trans hx766_0; replace p766 := eq_true p766; replace q766 := eq_true q766) | (go_at_call 95; (with_reducible refine (spec_l12Swap.calls (fun k_ => some k_ = (.slice (some ad764) x7_2.length co41 : Value).ownBlock) (.slice (some ad764) x7_2.length co41) x7_2 t757 t767 t768 w _ ?side1 ?side2 A39.out).mono ?_); (case side1 => repeat (first | (with_reducible first | exact HB.out | apply below_alloc | apply pw_below_drewN | apply below_drew1) | exact HB.out)); (case side2 => exact Kd.R_tight rfl HO_7.out); rintro e w42 ⟨rfl, hy0, hb, hkp⟩; have n0_ := Aside0.mk (Kd.R_mono (ok' := fun k_ => some k_ ≠ (.slice (some ad764) x7_2.length co41 : Value).ownBlock) (Kd.R_keptB (HO_6.out) hkp (fun k_ hk_ hs_ => (hk_) hs_)) (fun k_ hk_ => hk_.1)); have n1_ := Aside0.mk (Kd.R_reok rfl hy0 (fun k_ e_ => HO_7.out.1 k_ e_)); have n2_ := Aside0.mk (hb); clear HO_6; clear HO_7; clear HB; have HO_6 := n0_; have HO_7 := n1_; have HB := n2_; clear n0_ n1_ n2_; (try clear hb); (try clear hkp); (try clear hy0)) | ((with_reducible refine gate_builtin (b := .append) (xs := #[.tmp 89, .tmp 91]) rfl ?_); (try (refine gate_guard (by rfl) ?_; dsimp only)); at_builtin; refine Kd.R_append (Kd.int .i64) (w0 := w) w.heap.size rfl (.tmp 89) (.tmp 91) 25 3 (.int .i64 0) 8 rfl Try.underlying25 info3 rfl (by decide) (by omega) u6 x6_2 t757 [.int .i64 t757] (fun k_ => some k_ ≠ (.slice (some ad764) x7_2.length co41 : Value).ownBlock) (fun _ => False) rfl rfl ?aP (fun _ hk => hk.elim) ?aF ?aO ?aB ?aS ?aL ?_; (case aP => exact rfl); (case aB => exact (bl HB)); (case aF => exact (fun k_ hk => Kd.fresh' (Kd.R_lt (rr HO_7)) k_ hk)); (case aO => exact (rr HO_6)); (case aS => exact (below_size (bl HB))); (case aL => have := LMc40.out; omega); intro v770 w43 ho hb hg hat; rw [← Ny769.out] at ho; have n0_ := Aside0.mk (Kd.R_after (ok := (fun _ => True)) (by (with_reducible repeat (first | apply Kd.R_alloc | apply Kd.R_drewN | apply Kd.R_drew)); exact Kd.R_mono HO_7.out (fun _ hk => ⟨trivial, hk⟩)) hg hat); have n1_ := Aside0.mk (hb); have n2_ := Aside0.mk (ho); clear HO_7; clear HB; clear HO_6; have HO_7 := n0_; have HB := n1_; have HO771 := n2_; clear n0_ n1_ n2_; clear ho hb hg hat)))
                    go_roundg kj13
                    case measure => have := HJ2.out; have := HK2.out; have := HJ13.out; omega
                    case rel => exact ⟨(y769), (t768), (wrap64 (x8_2 + 1)), (by first | rfl | (simp; done) | (simp [*]; done)), H', ⟨by have := HJ2.out; have := HK2.out; have := HJ13.out; omega⟩, ⟨by (with_reducible repeat (first | apply Kd.R_alloc | apply Kd.R_drewN | apply Kd.R_drew)); exact HO771.out⟩, ⟨by (with_reducible repeat (first | apply Kd.R_alloc | apply Kd.R_drewN | apply Kd.R_drew)); exact Kd.R_mono HO_7.out (fun _ hk => hk.2)⟩, ⟨(bl HB)⟩⟩
                   ·rw [if_neg c40] at H
                    exact absurd H (by simp)
                  ·rw [if_neg c38] at H
                   have c38b0 : ((rd x7_2 (ji34)) == (rd (rd_L8 l1 x8_2) 1)) = false := beq_eq_false_iff_ne.mpr c38
                   have c38b1 : ((rd x7_2 (ji34)) != (rd (rd_L8 l1 x8_2) 1)) = true := bne_iff_ne.mpr c38
                   obtain ⟨y772, hy772⟩ : ∃ y_ : List Int, y_ = (([] : List Int)) := ⟨_, rfl⟩
                   replace H : (some (y772, false)) = some (r1, r2) := by first | (rw [hy772]; with_reducible exact H) | (have H2_ := (Option.bind_some _ _).symm.trans H; rw [hy772]; with_reducible exact H2_) | (have H2_ := (Option.bind_some _ _).symm.trans H; with_reducible exact H2_) | with_reducible exact H | (rw [hy772]; exact H) | exact H
                   have Ny772 := Aside0.mk hy772
                   clear hy772
                   simp only [Option.some.injEq, Prod.mk.injEq] at H
                   obtain ⟨rfl, rfl⟩ := H
                   have p755 : 0 ≤ (x8_2 : Int) := of_decide_eq_true (by first | (with_reducible assumption) | assumption)
                   have q755 : x8_2 < (l1.length : Int) := of_decide_eq_true (by first | (with_reducible assumption) | assumption)
                   obtain ⟨ad755, A755_0, c755_0, e755, hx755_0, hl755_0, hi755_0⟩ := at_L8 HR1.out x8_2 p755 q755
                   cases e755
                   replace hx755_0 := (HB.out.cell (World.block_lt_of_cell? w _ hx755_0)).trans hx755_0
                   have HR755_0 := Aside0.mk hi755_0
                   have HC755_0 := Aside0.mk hl755_0
                   clear hi755_0 hl755_0
                   replace p755 := eq_true p755
                   replace q755 := eq_true q755
                   have p756 : 0 ≤ (0 : Int) := (by omega)
                   have q756 : 0 < ((rd_L8 l1 x8_2).length : Int) := of_decide_eq_true (by first | (with_reducible assumption) | assumption)
                   obtain ⟨ad756, e756, hx756_0⟩ := Kd.at_int HR755_0.out 0 p756 q756
                   cases e756
                   have qi756 : (0 < (rd_L8 l1 x8_2).length) = True := eq_true (by omega)
                   (try rw [show ((0 : Int)).toNat = 0 from rfl] at hx756_0)
                   (try rw [Addr.add_zero'] at hx756_0)
                   replace hx756_0 := (HB.out.cell (World.block_lt_of_cell? w _ hx756_0)).trans hx756_0
                   replace p756 := eq_true p756
                   replace q756 := eq_true q756
                   obtain ⟨Ao44, co44, eo44⟩ := Kd.R_slice HO_7.out
                   subst eo44
                   go_wp2_with (first | (go_at_call 94; (with_reducible refine (spec_l12Place.calls kj13 _ _ x7_2 (rd (rd_L8 l1 x8_2) 0) t757 _ ?side1 ?side2 A25.out).mono ?_); (case side1 => repeat (first | exact (Kd.R_reads' HO_7.out).2.2 | (with_reducible refine Kd.C_alloc ?_ _) | (with_reducible refine Kd.C_drewN ?_ _) | (with_reducible refine Kd.C_drew ?_))); (case side2 => exact (Kd.R_reads' HO_7.out).2.1); rintro e w' ⟨rfl, ⟨nd, rfl⟩⟩; (try first | exact ⟨rfl, _, World.drewN_drewN _ _ _⟩ | exact ⟨rfl, _, Eq.trans (World.drewN_drewN _ _ _) (congrArg (World.drewN _) (Nat.add_assoc _ _ _))⟩); have p764 : 0 ≤ ((ji34) : Int) := of_decide_eq_true (by first | (with_reducible assumption) | assumption); have q764 : (ji34) < (x7_2.length : Int) := of_decide_eq_true (by first | (with_reducible assumption) | assumption); obtain ⟨ad764, e764, hx764_0⟩ := Kd.at_int (Kd.R_reads' HO_7.out).2.2 (ji34) p764 q764; cases e764; replace p764 := eq_true p764; replace q764 := eq_true q764; have p765 : 0 ≤ (x8_2 : Int) := of_decide_eq_true (by first | (with_reducible assumption) | assumption); have q765 : x8_2 < (l1.length : Int) := of_decide_eq_true (by first | (with_reducible assumption) | assumption); obtain ⟨ad765, A765_0, c765_0, e765, hx765_0, hl765_0, hi765_0⟩ := at_L8 HR1.out x8_2 p765 q765; obtain rfl : ad755 = ad765 := (by injection e765); replace hx765_0 := (HB.out.cell (World.block_lt_of_cell? w _ hx765_0)).trans hx765_0; have HR765_0 := Aside0.mk hi765_0; have HC765_0 := Aside0.mk hl765_0; clear hi765_0 hl765_0; replace p765 := eq_true p765; replace q765 := eq_true q765; have ea_ := Option.some.inj (hx755_0.symm.trans hx765_0); injection ea_ with ea_ en_ ec_; subst ea_; subst ec_; clear en_; have p766 : 0 ≤ (1 : Int) := (by omega); have q766 : 1 < ((rd_L8 l1 x8_2).length : Int) := of_decide_eq_true (by first | (with_reducible assumption) | assumption); obtain ⟨ad766, e766, hx766_0⟩ := Kd.at_int HR765_0.out 1 p766 q766; cases e766; (try simp only [show (1 : Int).toNat = 1 from rfl, Nat.reduceMul, Nat.reduceEqDiff, Go.Addr.add, ↓reduceIte] at hx766_0); have qi766 : (1 < (rd_L8 l1 x8_2).length) = True := eq_true (by omega); (try rw [show ((1 : Int)).toNat = 1 from rfl] at hx766_0); replace hx766_0 := (HB.out.cell (World.block_lt_of_cell? w _ hx766_0)).trans hx766_0; replace p766 := eq_true p766; replace q766 := eq_true q766) | ((with_reducible refine gate_dst (N := 85) rfl ?_); (try (refine gate_guard (by rfl) ?_; dsimp only)); refine Kd.R_lit (Kd.int .i64) _ 3 ?hg (N := 85) ?hd (xs := ([] : List Int)) (inner := []) (ok := fun _ => True) (okp := fun _ => True) ?hr ?hp (fun _ hk => hk) trivial (Below.refl _ _) (Nat.le_refl _) (by simp) ?_; (case hd => rfl); (case hg => rfl); (case hr => first | (go_simp; done) | (go_simp; rfl)); (case hp => exact (Reps.none _ _)); intro v773 w45 ho46 hb hg_ hnew_; clear hg_ hnew_; (first | rw [← Ny772.out] at ho46 | (simp only [Int.reduceToNat] at ho46; rw [← Ny772.out] at ho46)); have n0_ := Aside0.mk (Kd.R_elder' (rr HO_6) (Kd.R_base ho46) hb); have n1_ := Aside0.mk (Kd.R_elder' (rr HO_7) (Kd.R_base ho46) hb); have n2_ := Aside0.mk (Kd.R_lower (Kd.R_new' (Kd.R_new' ho46 (Kd.R_lt (rr HO_6))) (Kd.R_lt (rr HO_7))) (below_size (bl HB))); have n3_ := bs HB hb; clear HO_6; clear HO_7; clear HB; have HO_6 := n0_; have HO_7 := n1_; have HO774 := n2_; have HB := n3_; clear n0_ n1_ n2_ n3_; clear hb ho46))
                   repeat (go_quiet (first | (go_at_call 94; (with_reducible refine (spec_l12Place.calls kj13 _ _ x7_2 (rd (rd_L8 l1 x8_2) 0) t757 _ ?side1 ?side2 A25.out).mono ?_); (case side1 => repeat (first | exact (Kd.R_reads' HO_7.out).2.2 | (with_reducible refine Kd.C_alloc ?_ _) | (with_reducible refine Kd.C_drewN ?_ _) | (with_reducible refine Kd.C_drew ?_))); (case side2 => exact (Kd.R_reads' HO_7.out).2.1); rintro e w' ⟨rfl, ⟨nd, rfl⟩⟩; (try first | exact ⟨rfl, _, World.drewN_drewN _ _ _⟩ | exact ⟨rfl, _, Eq.trans (World.drewN_drewN _ _ _) (congrArg (World.drewN _) (Nat.add_assoc _ _ _))⟩); have p764 : 0 ≤ ((ji34) : Int) := of_decide_eq_true (by first | (with_reducible assumption) | assumption); have q764 : (ji34) < (x7_2.length : Int) := of_decide_eq_true (by first | (with_reducible assumption) | assumption); obtain ⟨ad764, e764, hx764_0⟩ := Kd.at_int (Kd.R_reads' HO_7.out).2.2 (ji34) p764 q764; cases e764; replace p764 := eq_true p764; replace q764 := eq_true q764; have p765 : 0 ≤ (x8_2 : Int) := of_decide_eq_true (by first | (with_reducible assumption) | assumption); have q765 : x8_2 < (l1.length : Int) := of_decide_eq_true (by first | (with_reducible assumption) | assumption); obtain ⟨ad765, A765_0, c765_0, e765, hx765_0, hl765_0, hi765_0⟩ := at_L8 HR1.out x8_2 p765 q765; obtain rfl : ad755 = ad765 := (by injection e765); replace hx765_0 := (HB.out.cell (World.block_lt_of_cell? w _ hx765_0)).trans hx765_0; have HR765_0 := Aside0.mk hi765_0; have HC765_0 := Aside0.mk hl765_0; clear hi765_0 hl765_0; replace p765 := eq_true p765; replace q765 := eq_true q765; have ea_ := Option.some.inj (hx755_0.symm.trans hx765_0); injection ea_ with ea_ en_ ec_; subst ea_; subst ec_; clear en_; have p766 : 0 ≤ (1 : Int) := (by omega); have q766 : 1 < ((rd_L8 l1 x8_2).length : Int) := of_decide_eq_true (by first | (with_reducible assumption) | assumption); obtain ⟨ad766, e766, hx766_0⟩ := Kd.at_int HR765_0.out 1 p766 q766; cases e766; (try simp only [show (1 : Int).toNat = 1 from rfl, Nat.reduceMul, Nat.reduceEqDiff, Go.Addr.add, ↓reduceIte] at hx766_0); have qi766 : (1 < (rd_L8 l1 x8_2).length) = True := eq_true (by omega); (try rw [show ((1 : Int)).toNat = 1 from rfl] at hx766_0); replace hx766_0 := (HB.out.cell (World.block_lt_of_cell? w _ hx766_0)).trans hx766_0; replace p766 := eq_true p766; replace q766 := eq_true q766) | ((with_reducible refine gate_dst (N := 85) rfl ?_); (try (refine gate_guard (by rfl) ?_; dsimp only)); refine Kd.R_lit (Kd.int .i64) _ 3 ?hg (N := 85) ?hd (xs := ([] : List Int)) (inner := []) (ok := fun _ => True) (okp := fun _ => True) ?hr ?hp (fun _ hk => hk) trivial (Below.refl _ _) (Nat.le_refl _) (by simp) ?_; (case hd => rfl); (case hg => rfl); (case hr => first | (go_simp; done) | (go_simp; rfl)); (case hp => exact (Reps.none _ _)); intro v773 w45 ho46 hb hg_ hnew_; clear hg_ hnew_; (first | rw [← Ny772.out] at ho46 | (simp only [Int.reduceToNat] at ho46; rw [← Ny772.out] at ho46)); have n0_ := Aside0.mk (Kd.R_elder' (rr HO_6) (Kd.R_base ho46) hb); have n1_ := Aside0.mk (Kd.R_elder' (rr HO_7) (Kd.R_base ho46) hb); have n2_ := Aside0.mk (Kd.R_lower (Kd.R_new' (Kd.R_new' ho46 (Kd.R_lt (rr HO_6))) (Kd.R_lt (rr HO_7))) (below_size (bl HB))); have n3_ := bs HB hb; clear HO_6; clear HO_7; clear HB; have HO_6 := n0_; have HO_7 := n1_; have HO774 := n2_; have HB := n3_; clear n0_ n1_ n2_ n3_; clear hb ho46)); try go_wp2_with (first | (go_at_call 94; (with_reducible refine (spec_l12Place.calls kj13 _ _ x7_2 (rd (rd_L8 l1 x8_2) 0) t757 _ ?side1 ?side2 A25.out).mono ?_); (case side1 => repeat (first | exact (Kd.R_reads' HO_7.out).2.2 | (with_reducible refine Kd.C_alloc ?_ _) | (with_reducible refine Kd.C_drewN ?_ _) | (with_reducible refine Kd.C_drew ?_))); (case side2 => exact (Kd.R_reads' HO_7.out).2.1); rintro e w' ⟨rfl, ⟨nd, rfl⟩⟩; (try first | exact ⟨rfl, _, World.drewN_drewN _ _ _⟩ | exact ⟨rfl, _, Eq.trans (World.drewN_drewN _ _ _) (congrArg (World.drewN _) (Nat.add_assoc _ _ _))⟩); have p764 : 0 ≤ ((ji34) : Int) := of_decide_eq_true (by first | (with_reducible assumption) | assumption); have q764 : (ji34) < (x7_2.length : Int) := of_decide_eq_true (by first | (with_reducible assumption) | assumption); obtain ⟨ad764, e764, hx764_0⟩ := Kd.at_int (Kd.R_reads' HO_7.out).2.2 (ji34) p764 q764; cases e764; replace p764 := eq_true p764; replace q764 := eq_true q764; have p765 : 0 ≤ (x8_2 : Int) := of_decide_eq_true (by first | (with_reducible assumption) | assumption); have q765 : x8_2 < (l1.length : Int) := of_decide_eq_true (by first | (with_reducible assumption) | assumption); obtain ⟨ad765, A765_0, c765_0, e765, hx765_0, hl765_0, hi765_0⟩ := at_L8 HR1.out x8_2 p765 q765; obtain rfl : ad755 = ad765 := (by injection e765); replace hx765_0 := (HB.out.cell (World.block_lt_of_cell? w _ hx765_0)).trans hx765_0; have HR765_0 := Aside0.mk hi765_0; have HC765_0 := Aside0.mk hl765_0; clear hi765_0 hl765_0; replace p765 := eq_true p765; replace q765 := eq_true q765; have ea_ := Option.some.inj (hx755_0.symm.trans hx765_0); injection ea_ with ea_ en_ ec_; subst ea_; subst ec_; clear en_; have p766 : 0 ≤ (1 : Int) := (by omega); have q766 : 1 < ((rd_L8 l1 x8_2).length : Int) := of_decide_eq_true (by first | (with_reducible assumption) | assumption); obtain ⟨ad766, e766, hx766_0⟩ := Kd.at_int HR765_0.out 1 p766 q766; cases e766; (try simp only [show (1 : Int).toNat = 1 from rfl, Nat.reduceMul, Nat.reduceEqDiff, Go.Addr.add, ↓reduceIte] at hx766_0); have qi766 : (1 < (rd_L8 l1 x8_2).length) = True := eq_true (by omega); (try rw [show ((1 : Int)).toNat = 1 from rfl] at hx766_0); replace hx766_0 := (HB.out.cell (World.block_lt_of_cell? w _ hx766_0)).trans hx766_0; replace p766 := eq_true p766; replace q766 := eq_true q766) | ((with_reducible refine gate_dst (N := 85) rfl ?_); (try (refine gate_guard (by rfl) ?_; dsimp only)); refine Kd.R_lit (Kd.int .i64) _ 3 ?hg (N := 85) ?hd (xs := ([] : List Int)) (inner := []) (ok := fun _ => True) (okp := fun _ => True) ?hr ?hp (fun _ hk => hk) trivial (Below.refl _ _) (Nat.le_refl _) (by simp) ?_; (case hd => rfl); (case hg => rfl); (case hr => first | (go_simp; done) | (go_simp; rfl)); (case hp => exact (Reps.none _ _)); intro v773 w45 ho46 hb hg_ hnew_; clear hg_ hnew_; (first | rw [← Ny772.out] at ho46 | (simp only [Int.reduceToNat] at ho46; rw [← Ny772.out] at ho46)); have n0_ := Aside0.mk (Kd.R_elder' (rr HO_6) (Kd.R_base ho46) hb); have n1_ := Aside0.mk (Kd.R_elder' (rr HO_7) (Kd.R_base ho46) hb); have n2_ := Aside0.mk (Kd.R_lower (Kd.R_new' (Kd.R_new' ho46 (Kd.R_lt (rr HO_6))) (Kd.R_lt (rr HO_7))) (below_size (bl HB))); have n3_ := bs HB hb; clear HO_6; clear HO_7; clear HB; have HO_6 := n0_; have HO_7 := n1_; have HO774 := n2_; have HB := n3_; clear n0_ n1_ n2_ n3_; clear hb ho46)))
                   go_ret2
                   exact ⟨_, by first | rfl | (simp [errW_none, errW_some] <;> rfl) | (simp only [← hji34]; first | rfl | (simp [errW_none, errW_some] <;> rfl)) | (simp [*, errW_none, errW_some] <;> rfl), by (with_reducible repeat (first | apply Kd.R_alloc | apply Kd.R_drewN | apply Kd.R_drew)); exact Kd.R_mono HO774.out (fun _ hk => trivial), (bl HB)⟩
                 ·rw [if_neg c37] at H
                  exact absurd H (by simp)
                ·rw [if_neg c36] at H
                 exact absurd H (by simp)
               ·rw [if_neg c35] at H
                exact absurd H (by simp)
            ·rw [if_neg c24] at H
             exact absurd H (by simp)
           ·rw [if_neg c23] at H
            exact absurd H (by simp)
          ·rw [if_neg c22] at H
           exact absurd H (by simp)
      ·rw [if_neg c13] at H
       have c13b0 : decide (x8_2 < (l1.length : Int)) = false := decide_eq_false c13
       clear c13
       simp only [Option.some.injEq, Prod.mk.injEq] at H
       obtain ⟨rfl, rfl⟩ := H
       go_wp2
       repeat (go_quiet (fail); try go_wp2)
       go_ret2
       exact ⟨_, by first | rfl | (simp [errW_none, errW_some] <;> rfl) | (simp [*, errW_none, errW_some] <;> rfl), by (with_reducible repeat (first | apply Kd.R_alloc | apply Kd.R_drewN | apply Kd.R_drew)); exact Kd.R_mono HO_6.out (fun _ hk => trivial), (bl HB)⟩

/-! ### impl_ArePoints: function 56 -/
mutual
def impl_ArePoints.j0 : Nat → List (S64) → Bool → Option (Bool)
 | 0, _, _ => none
 | k + 1, x0, x17 => if x17 = true then (some false) else ((impl_triplesOf.f k (x0.length : Int)).bind fun t792 => (impl_ArePoints.l0 k x0 t792 (t792.length : Int) 0))
def impl_ArePoints.l0 : Nat → List (S64) → List (S101) → Int → Int → Option (Bool)
 | 0, _, _, _, _ => none
 | k + 1, x0, x20, x21, x22 => if x22 < x21 then (if 0 ≤ x22 then (if x22 < (x20.length : Int) then (if 0 ≤ ((rd_T101 x20 x22).f0) then (if ((rd_T101 x20 x22).f0) < (x0.length : Int) then (if 0 ≤ ((rd_T101 x20 x22).f1) then (if ((rd_T101 x20 x22).f1) < (x0.length : Int) then (if 0 ≤ ((rd_T101 x20 x22).f2) then (if ((rd_T101 x20 x22).f2) < (x0.length : Int) then ((impl_TurnOf.f ((rd_T64 x0 ((rd_T101 x20 x22).f0)).f0) ((rd_T64 x0 ((rd_T101 x20 x22).f0)).f1) ((rd_T64 x0 ((rd_T101 x20 x22).f1)).f0) ((rd_T64 x0 ((rd_T101 x20 x22).f1)).f1) ((rd_T64 x0 ((rd_T101 x20 x22).f2)).f0) ((rd_T64 x0 ((rd_T101 x20 x22).f2)).f1)).bind fun t800 => (if t800 = 0 then (some false) else (impl_ArePoints.l0 k x0 x20 x21 (wrap64 (x22 + 1))))) else (none)) else (none)) else (none)) else (none)) else (none)) else (none)) else (none)) else (none)) else (some true)
end
def impl_ArePoints.f (k : Nat) (l0 : List (S64)) : Option (Bool) := if (l0.length : Int) < 3 then (impl_ArePoints.j0 k l0 true) else (if (l0.length : Int) > 7 then (impl_ArePoints.j0 k l0 true) else ((impl_areNear.f 50 l0).bind fun t791 => (impl_ArePoints.j0 k l0 (!t791))))
theorem impl_ArePoints.mono_l : ∀ k, (∀ y0 y1, LeO (impl_ArePoints.j0 k y0 y1) (impl_ArePoints.j0 (k + 1) y0 y1)) ∧ (∀ y0 y1 y2 y3, LeO (impl_ArePoints.l0 k y0 y1 y2 y3) (impl_ArePoints.l0 (k + 1) y0 y1 y2 y3))
 | 0 => ⟨fun _ _ r h => by simp [impl_ArePoints.j0] at h, fun _ _ _ _ r h => by simp [impl_ArePoints.l0] at h⟩
 | k + 1 => by
  obtain ⟨ih0, ih1⟩ := impl_ArePoints.mono_l k
  refine ⟨?_, ?_⟩
  ·intro y0 y1
   unfold impl_ArePoints.j0
   repeat' first
   | (with_reducible exact ih0 _ _)
   | (with_reducible exact ih1 _ _ _ _)
   | (with_reducible exact impl_triplesOf.mono _ _)
   | (with_reducible exact LeO.refl _)
   | (with_reducible exact LeO.none _)
   | (with_reducible refine LeO.ite ?_ ?_)
   | (with_reducible refine LeO.bind ?_ (fun _ => ?_))
   | exact ih0 _ _
   | exact ih1 _ _ _ _
   | exact impl_triplesOf.mono _ _
   | exact LeO.none _
   | refine LeO.ite ?_ ?_
   | refine LeO.bind ?_ (fun _ => ?_)
  ·intro y0 y1 y2 y3
   unfold impl_ArePoints.l0
   repeat' first
   | (with_reducible exact ih0 _ _)
   | (with_reducible exact ih1 _ _ _ _)
   | (with_reducible exact impl_triplesOf.mono _ _)
   | (with_reducible exact LeO.refl _)
   | (with_reducible exact LeO.none _)
   | (with_reducible refine LeO.ite ?_ ?_)
   | (with_reducible refine LeO.bind ?_ (fun _ => ?_))
   | exact ih0 _ _
   | exact ih1 _ _ _ _
   | exact impl_triplesOf.mono _ _
   | exact LeO.none _
   | refine LeO.ite ?_ ?_
   | refine LeO.bind ?_ (fun _ => ?_)
theorem impl_ArePoints.mono : ∀ a0 k, LeO (impl_ArePoints.f k a0) (impl_ArePoints.f (k + 1) a0) := by
 intro a0 k
 obtain ⟨ih0, ih1⟩ := impl_ArePoints.mono_l k
 unfold impl_ArePoints.f
 repeat' first
   | (with_reducible exact ih0 _ _)
   | (with_reducible exact ih1 _ _ _ _)
   | (with_reducible exact impl_triplesOf.mono _ _)
   | (with_reducible exact LeO.refl _)
   | (with_reducible exact LeO.none _)
   | (with_reducible refine LeO.ite ?_ ?_)
   | (with_reducible refine LeO.bind ?_ (fun _ => ?_))
   | exact ih0 _ _
   | exact ih1 _ _ _ _
   | exact impl_triplesOf.mono _ _
   | exact LeO.none _
   | refine LeO.ite ?_ ?_
   | refine LeO.bind ?_ (fun _ => ?_)
def impl_ArePoints.T6 : Bool × List (List Nat × List Nat) := (true, [([], []), ([], []), ([1], [1]), ([0, 2], [0, 2]), ([3], [3]), ([], []), ([], []), ([6], [6]), ([5, 7], [5, 7]), ([8], [8]), ([], []), ([], []), ([11], [11]), ([10, 12], [10, 12]), ([13], [13]), ([4, 9, 14], [4, 9, 14]), ([15], [15])])
def impl_ArePoints.B6 : List Nat := [0, 0, 2, 7, 15, 0, 0, 64, 224, 480, 0, 0, 2048, 7168, 15360, 32767, 65535]
theorem impl_ArePoints.tab6 : rtab .any (opsOf Try.f56 6) = impl_ArePoints.T6 := by kernel_rfl
theorem impl_ArePoints.bits6 : waitsOk impl_ArePoints.T6.2 impl_ArePoints.B6 = true := by kernel_rfl
set_option maxHeartbeats 8000000 in
set_option maxRecDepth 100000 in
theorem impl_ArePoints.calls (k : Nat) (A0 : Option Addr) (c0 : Nat) (l0 : List (S64)) (r : Bool) (w : World) (hr0 : Kd.C k64 w A0 l0.length l0) (hc0 : l0.length ≤ c0) (h : impl_ArePoints.f k l0 = some r) :
  Calls Try.prog 56 #[.slice A0 l0.length c0] w fun e w' => e = .returned (.bool r) ∧ Below w.heap.size w w' := by
 have hu101 := Try.underlying101
 have hu64 := Try.underlying64
 have HR0 := Aside0.mk hr0
 have HC0 := Aside0.mk hc0
 clear hr0 hc0
 have HB := Aside0.mk (Below.refl w.heap.size w)
 have H : (if (l0.length : Int) < 3 then (impl_ArePoints.j0 k l0 true) else (if (l0.length : Int) > 7 then (impl_ArePoints.j0 k l0 true) else ((impl_areNear.f 50 l0).bind fun t791 => (impl_ArePoints.j0 k l0 (!t791))))) = some r := h
 clear h
 have HC2 := Aside0.mk H
 clear H
 go_enter Try.func56, Try.ntmps56
 go_upto_region 1 with (fail)
 go_cut [17] (fun v17 wc => ∃ (kq : Nat) (x17_1 : Bool), v17 = .bool x17_1 ∧ Aside0 (impl_ArePoints.j0 kq l0 x17_1 = some r) ∧ Aside0 (kq ≤ k) ∧ Aside0 (Below w.heap.size w wc))
 case first =>
  have H := HC2.out
  clear HC2
  by_cases c3 : (l0.length : Int) < 3
  ·rw [if_pos c3] at H
   have c3b0 : decide ((l0.length : Int) < 3) = true := decide_eq_true c3
   have c3b1 : decide (l0.length < 3) = true := decide_eq_true (by omega)
   clear c3
   (first | rw [c3b0] | (simp only [i64_w, i32_w]; rw [c3b0]) | skip)
   have H' := Aside0.mk H
   clear H
   go_wp2
   go_meet
   case rel => exact ⟨_, (true), (by first | rfl | (simp; done) | (simp [*]; done)), H', ⟨by first | omega | exact Nat.le_refl _⟩, ⟨(bl HB)⟩⟩
  ·rw [if_neg c3] at H
   have c3b0 : decide ((l0.length : Int) < 3) = false := decide_eq_false c3
   have c3b1 : decide (l0.length < 3) = false := decide_eq_false (by omega)
   clear c3
   (first | rw [c3b0] | (simp only [i64_w, i32_w]; rw [c3b0]) | skip)
   by_cases c4 : (l0.length : Int) > 7
   ·rw [if_pos c4] at H
    have c4b0 : decide (7 < (l0.length : Int)) = true := decide_eq_true c4
    have c4b1 : decide (7 < l0.length) = true := decide_eq_true (by omega)
    clear c4
    have H' := Aside0.mk H
    clear H
    go_wp2
    go_meet
    case rel => exact ⟨_, (true), (by first | rfl | (simp; done) | (simp [*]; done)), H', ⟨by first | omega | exact Nat.le_refl _⟩, ⟨(bl HB)⟩⟩
   ·rw [if_neg c4] at H
    have c4b0 : decide (7 < (l0.length : Int)) = false := decide_eq_false c4
    have c4b1 : decide (7 < l0.length) = false := decide_eq_false (by omega)
    clear c4
    replace H := Option.bind_eq_some_iff.mp H
    obtain ⟨t791, A50, H⟩ := H
    (try dsimp only at H)
    have A5 := Aside0.mk A50
    clear A50
    have H' := Aside0.mk H
    clear H
    go_wp2_with (first | (go_at_call 96; (with_reducible refine (impl_areNear.calls 50 _ _ l0 t791 _ ?side1 ?side2 A5.out).mono ?_); (case side1 => repeat (first | exact (Kd.C_below HR0.out HB.out) | (with_reducible refine Kd.C_alloc ?_ _) | (with_reducible refine Kd.C_drewN ?_ _) | (with_reducible refine Kd.C_drew ?_))); (case side2 => exact HC0.out); rintro e w6 ⟨rfl, hb⟩; have n0_ := bs HB hb; clear HB; have HB := n0_; clear n0_; (try clear hb); (try clear hb2); (try clear hk); (try clear hi)))
    go_meet
    case rel => exact ⟨_, (!t791), (by first | rfl | (simp; done) | (simp [*]; done)), H', ⟨by first | omega | exact Nat.le_refl _⟩, ⟨(bl HB)⟩⟩
 case rest =>
  clear HC2
  try clear p2
  try clear c3
  try clear c3b0
  try clear c3b1
  try clear c4
  try clear c4b0
  try clear c4b1
  try clear c5
  obtain ⟨kq, x17_1, rfl, HA, HJ1, HB⟩ := hcut
  cases kq with
  | zero => exact absurd HA.out (by simp [impl_ArePoints.j0])
  | succ kj1 =>
   have H := HA.out
   clear HA
   simp only [impl_ArePoints.j0] at H
   by_cases c7 : x17_1 = true
   ·subst c7
    have H1 : (some false) = some r := by rw [if_pos rfl] at H; exact H
    clear H
    have H := H1
    clear H1
    obtain rfl := Option.some.inj H
    go_wp2
    go_ret
    exact ⟨by first | rfl | (simp [errW_none, errW_some] <;> rfl) | (simp [*, errW_none, errW_some] <;> rfl), (bl HB)⟩
   ·replace c7 := Bool.eq_false_iff.mpr c7
    subst c7
    have H1 : ((impl_triplesOf.f kj1 (l0.length : Int)).bind fun t792 => (impl_ArePoints.l0 kj1 l0 t792 (t792.length : Int) 0)) = some r := by rw [if_neg (show ¬ (false = true) by decide)] at H; exact H
    clear H
    have H := H1
    clear H1
    replace H := Option.bind_eq_some_iff.mp H
    obtain ⟨t792, A80, H⟩ := H
    (try dsimp only at H)
    have A8 := Aside0.mk A80
    clear A80
    have H' := Aside0.mk H
    clear H
    go_wp2_with (first | ((with_reducible refine gate_callee (f := 97) rfl ?_); refine gL (some 20) rfl rfl Try.func97 (by kernel_rfl) rfl #[.int .i64 (l0.length : Int)] rfl ?_; (with_reducible refine (impl_triplesOf.calls kj1 (l0.length : Int) t792 _ A8.out).mono ?_); rintro e w9 ⟨v793, rfl, ho0, hb⟩; refine ⟨_, rfl, ?_⟩; have n0_ := Aside0.mk (Kd.R_lower ho0 (below_size (bl HB))); have n1_ := bs HB hb; clear HB; have HO794 := n0_; have HB := n1_; clear n0_ n1_; (try clear hb); (try clear hb2); (try clear hk); (try clear hi); (try clear ho0); obtain ⟨Ao10, co10, eo10⟩ := Kd.R_slice HO794.out; subst eo10))
    go_loopg [22] kj1 (fun kq v22 w' => ∃ (x22_2 : Int), v22 = .int .i64 x22_2 ∧ Aside0 (impl_ArePoints.l0 kq l0 t792 (t792.length : Int) x22_2 = some r) ∧ Aside0 (kq ≤ kj1) ∧ Aside0 (Kd.R k101 101 w' w.heap.size (fun _ => True) (.slice Ao10 t792.length co10) t792) ∧ Aside0 (Below w.heap.size w w'))
    case atStart => exact ⟨(0), (by first | rfl | (simp; done) | (simp [*]; done)), H', ⟨Nat.le_refl _⟩, ⟨by (with_reducible repeat (first | apply Kd.R_alloc | apply Kd.R_drewN | apply Kd.R_drew)); exact HO794.out⟩, ⟨(bl HB)⟩⟩
    case round =>
     clear H'
     try clear p2
     try clear c3
     try clear c3b0
     try clear c3b1
     try clear c4
     try clear c4b0
     try clear c4b1
     try clear c5
     try clear c7
     try clear c9
     try clear p2
     obtain ⟨x22_2, rfl, HA, HK2, HO_20, HB⟩ := hrel
     cases gk with
     | zero => exact absurd HA.out (by simp [impl_ArePoints.l0])
     | succ k2 =>
      have H := HA.out
      clear HA
      simp only [impl_ArePoints.l0] at H
      by_cases c11 : x22_2 < (t792.length : Int)
      ·rw [if_pos c11] at H
       have c11b0 : decide (x22_2 < (t792.length : Int)) = true := decide_eq_true c11
       clear c11
       by_cases c12 : 0 ≤ x22_2
       ·rw [if_pos c12] at H
        have c12b0 : decide (0 ≤ x22_2) = true := decide_eq_true c12
        clear c12
        by_cases c13 : x22_2 < (t792.length : Int)
        ·rw [if_pos c13] at H
         have c13b0 : decide (x22_2 < (t792.length : Int)) = true := decide_eq_true c13
         clear c13
         by_cases c14 : 0 ≤ ((rd_T101 t792 x22_2).f0)
         ·rw [if_pos c14] at H
          have c14b0 : decide (0 ≤ ((rd_T101 t792 x22_2).f0)) = true := decide_eq_true c14
          clear c14
          by_cases c15 : ((rd_T101 t792 x22_2).f0) < (l0.length : Int)
          ·rw [if_pos c15] at H
           have c15b0 : decide (((rd_T101 t792 x22_2).f0) < (l0.length : Int)) = true := decide_eq_true c15
           clear c15
           by_cases c16 : 0 ≤ ((rd_T101 t792 x22_2).f1)
           ·rw [if_pos c16] at H
            have c16b0 : decide (0 ≤ ((rd_T101 t792 x22_2).f1)) = true := decide_eq_true c16
            clear c16
            by_cases c17 : ((rd_T101 t792 x22_2).f1) < (l0.length : Int)
            ·rw [if_pos c17] at H
             have c17b0 : decide (((rd_T101 t792 x22_2).f1) < (l0.length : Int)) = true := decide_eq_true c17
             clear c17
             by_cases c18 : 0 ≤ ((rd_T101 t792 x22_2).f2)
             ·rw [if_pos c18] at H
              have c18b0 : decide (0 ≤ ((rd_T101 t792 x22_2).f2)) = true := decide_eq_true c18
              clear c18
              by_cases c19 : ((rd_T101 t792 x22_2).f2) < (l0.length : Int)
              ·rw [if_pos c19] at H
               have c19b0 : decide (((rd_T101 t792 x22_2).f2) < (l0.length : Int)) = true := decide_eq_true c19
               clear c19
               replace H := Option.bind_eq_some_iff.mp H
               obtain ⟨t800, A200, H⟩ := H
               (try dsimp only at H)
               have A20 := Aside0.mk A200
               clear A200
               by_cases c21 : t800 = 0
               ·rw [if_pos c21] at H
                have c21b0 : (t800 == 0) = true := beq_iff_eq.mpr c21
                have c21b1 : (t800 != 0) = false := bne_eq_false_iff_eq.mpr c21
                clear c21
                obtain rfl := Option.some.inj H
                have p795 : 0 ≤ (x22_2 : Int) := of_decide_eq_true (by first | (with_reducible assumption) | assumption)
                have q795 : x22_2 < (t792.length : Int) := of_decide_eq_true (by first | (with_reducible assumption) | assumption)
                obtain ⟨ad795, e795, hx795_0, hx795_1, hx795_2⟩ := at_T101 (Kd.R_reads' HO_20.out).2.2 x22_2 p795 q795
                cases e795
                replace p795 := eq_true p795
                replace q795 := eq_true q795
                try go_wp2_with (first | ((with_reducible refine gate_dst (N := 4) rfl ?_); (try (refine gate_guard (by rfl) ?_; dsimp only)); refine bx 4 #[.int .i64 0, .int .i64 0, .int .i64 0] 101 ?_; intro gb796 hg w22 hbox hb; have n0_ := Aside0.mk (Kd.R_below (Kd.R_elderB (rr HO_20) gb796 (Nat.le_of_eq hg.symm)) hb); have n1_ := bs HB hb; have n2_ := Aside0.mk (hbox); have n3_ := Aside0.mk ((by rw [hg]; exact (below_size (bl HB)) : w.heap.size ≤ gb796)); have n4_ := Aside0.mk ((by rw [hg]; exact (below_size (bl HB)) : w.heap.size ≤ gb796)); clear HO_20; clear HB; have HO_20 := n0_; have HB := n1_; have BK796 := n2_; have GW796 := n3_; have GE796 := n4_; clear n0_ n1_ n2_ n3_ n4_; clear hb hbox hg; have hcz23_0 := bc BK796 0; have hcz23_1 := bc BK796 1; have hcz23_2 := bc BK796 2; have hfz23_0 := bf BK796 0; have hfz23_1 := bf BK796 1; have hfz23_2 := bf BK796 2))
                have n0_ : Aside0 (Kd.R k101 101 (((w22.setCell ⟨gb796, 0, none⟩ (.int .i64 ((rd_T101 t792 x22_2).f0))).setCell ⟨gb796, 1, none⟩ (.int .i64 ((rd_T101 t792 x22_2).f1))).setCell ⟨gb796, 2, none⟩ (.int .i64 ((rd_T101 t792 x22_2).f2))) w.heap.size (fun k_ => k_ ≠ gb796) (.slice (some ad795) t792.length co10) t792) := ⟨by (with_reducible repeat (first | apply Kd.R_alloc | apply Kd.R_drewN | apply Kd.R_drew)); exact Kd.R_mono (Kd.R_far (p := ⟨gb796, 2, none⟩) (Kd.R_far (p := ⟨gb796, 1, none⟩) (Kd.R_far (p := ⟨gb796, 0, none⟩) (Kd.R_mono HO_20.out (fun k_ hk => (⟨hk, hk.2⟩ : _ ∧ k_ ≠ gb796))) (fun _ hk => hk.2) (.int .i64 ((rd_T101 t792 x22_2).f0))) (fun _ hk => hk.2) (.int .i64 ((rd_T101 t792 x22_2).f1))) (fun _ hk => hk.2) (.int .i64 ((rd_T101 t792 x22_2).f2))) (fun _ hk => hk.1.2)⟩
                have n1_ : Aside0 ((((w22.setCell ⟨gb796, 0, none⟩ (.int .i64 ((rd_T101 t792 x22_2).f0))).setCell ⟨gb796, 1, none⟩ (.int .i64 ((rd_T101 t792 x22_2).f1))).setCell ⟨gb796, 2, none⟩ (.int .i64 ((rd_T101 t792 x22_2).f2))).heap[gb796]? = some (.cells #[.int .i64 ((rd_T101 t792 x22_2).f0), .int .i64 ((rd_T101 t792 x22_2).f1), .int .i64 ((rd_T101 t792 x22_2).f2)] 101 (0, 0))) := ⟨by (with_reducible repeat (first | refine blk_drewN ?_ _ | refine blk_drew ?_ | refine blk_alloc ?_ _)); refine blk_put (cs := #[.int .i64 ((rd_T101 t792 x22_2).f0), .int .i64 ((rd_T101 t792 x22_2).f1), .int .i64 0]) ?_ 2 _ rfl; (with_reducible repeat (first | refine blk_drewN ?_ _ | refine blk_drew ?_ | refine blk_alloc ?_ _)); refine blk_put (cs := #[.int .i64 ((rd_T101 t792 x22_2).f0), .int .i64 0, .int .i64 0]) ?_ 1 _ rfl; (with_reducible repeat (first | refine blk_drewN ?_ _ | refine blk_drew ?_ | refine blk_alloc ?_ _)); refine blk_put (cs := #[.int .i64 0, .int .i64 0, .int .i64 0]) ?_ 0 _ rfl; (with_reducible repeat (first | refine blk_drewN ?_ _ | refine blk_drew ?_ | refine blk_alloc ?_ _)); exact BK796.out⟩
                have n2_ : Aside0 (Below w.heap.size w (((w22.setCell ⟨gb796, 0, none⟩ (.int .i64 ((rd_T101 t792 x22_2).f0))).setCell ⟨gb796, 1, none⟩ (.int .i64 ((rd_T101 t792 x22_2).f1))).setCell ⟨gb796, 2, none⟩ (.int .i64 ((rd_T101 t792 x22_2).f2)))) := ⟨(bg HB GE796)⟩
                (try clear HO_20)
                (try clear BK796)
                (try clear HB)
                generalize (((w22.setCell ⟨gb796, 0, none⟩ (.int .i64 ((rd_T101 t792 x22_2).f0))).setCell ⟨gb796, 1, none⟩ (.int .i64 ((rd_T101 t792 x22_2).f1))).setCell ⟨gb796, 2, none⟩ (.int .i64 ((rd_T101 t792 x22_2).f2))) = w24 at n0_ n1_ n2_ ⊢
                have HO_20 := n0_
                have BK796 := n1_
                have HB := n2_
                clear n0_ n1_ n2_
                have n0_ := Aside0.mk (Kd.R_drew HO_20.out)
                have n1_ := Aside0.mk (blk_drew BK796.out)
                have n2_ := Aside0.mk (below_drew1 HB.out)
                clear HO_20
                clear BK796
                clear HB
                have HO_20 := n0_
                have BK796 := n1_
                have HB := n2_
                clear n0_ n1_ n2_
                have p797 : 0 ≤ (((rd_T101 t792 x22_2).f0) : Int) := of_decide_eq_true (by first | (with_reducible assumption) | assumption)
                have q797 : ((rd_T101 t792 x22_2).f0) < (l0.length : Int) := of_decide_eq_true (by first | (with_reducible assumption) | assumption)
                obtain ⟨ad797, e797, hx797_0, hx797_1⟩ := at_T64 HR0.out ((rd_T101 t792 x22_2).f0) p797 q797
                have hw797_1 := hx797_1
                have hw797_0 := hx797_0
                cases e797
                replace hx797_0 := (HB.out.cell (World.block_lt_of_cell? w _ hx797_0)).trans hx797_0
                replace hx797_1 := (HB.out.cell (World.block_lt_of_cell? w _ hx797_1)).trans hx797_1
                replace p797 := eq_true p797
                replace q797 := eq_true q797
                have p798 : 0 ≤ (((rd_T101 t792 x22_2).f1) : Int) := of_decide_eq_true (by first | (with_reducible assumption) | assumption)
                have q798 : ((rd_T101 t792 x22_2).f1) < (l0.length : Int) := of_decide_eq_true (by first | (with_reducible assumption) | assumption)
                obtain ⟨ad798, e798, hx798_0, hx798_1⟩ := at_T64 HR0.out ((rd_T101 t792 x22_2).f1) p798 q798
                have hw798_1 := hx798_1
                have hw798_0 := hx798_0
                obtain rfl : ad797 = ad798 := (by injection e798)
                replace hx798_0 := (HB.out.cell (World.block_lt_of_cell? w _ hx798_0)).trans hx798_0
                replace hx798_1 := (HB.out.cell (World.block_lt_of_cell? w _ hx798_1)).trans hx798_1
                replace p798 := eq_true p798
                replace q798 := eq_true q798
                have p799 : 0 ≤ (((rd_T101 t792 x22_2).f2) : Int) := of_decide_eq_true (by first | (with_reducible assumption) | assumption)
                have q799 : ((rd_T101 t792 x22_2).f2) < (l0.length : Int) := of_decide_eq_true (by first | (with_reducible assumption) | assumption)
                obtain ⟨ad799, e799, hx799_0, hx799_1⟩ := at_T64 HR0.out ((rd_T101 t792 x22_2).f2) p799 q799
                have hw799_1 := hx799_1
                have hw799_0 := hx799_0
                obtain rfl : ad797 = ad799 := (by injection e799)
                replace hx799_0 := (HB.out.cell (World.block_lt_of_cell? w _ hx799_0)).trans hx799_0
                replace hx799_1 := (HB.out.cell (World.block_lt_of_cell? w _ hx799_1)).trans hx799_1
                replace p799 := eq_true p799
                replace q799 := eq_true q799
                refine start_ (n := 17) (S := fun w' => w'.cell? ⟨gb796, 0, none⟩ = some (.int .i64 ((rd_T101 t792 x22_2).f0)) ∧ w'.cell? ⟨gb796, 1, none⟩ = some (.int .i64 ((rd_T101 t792 x22_2).f1)) ∧ w'.cell? ⟨gb796, 2, none⟩ = some (.int .i64 ((rd_T101 t792 x22_2).f2)) ∧ w'.cell? (ad797.add ((((rd_T101 t792 x22_2).f0)).toNat * 2)) = some (.int .i64 ((rd_T64 l0 ((rd_T101 t792 x22_2).f0)).f0)) ∧ w'.cell? ⟨(ad797.add ((((rd_T101 t792 x22_2).f0)).toNat * 2)).block, (ad797.add ((((rd_T101 t792 x22_2).f0)).toNat * 2)).off + 1, none⟩ = some (.int .i64 ((rd_T64 l0 ((rd_T101 t792 x22_2).f0)).f1)) ∧ w'.cell? (ad797.add ((((rd_T101 t792 x22_2).f1)).toNat * 2)) = some (.int .i64 ((rd_T64 l0 ((rd_T101 t792 x22_2).f1)).f0)) ∧ w'.cell? ⟨(ad797.add ((((rd_T101 t792 x22_2).f1)).toNat * 2)).block, (ad797.add ((((rd_T101 t792 x22_2).f1)).toNat * 2)).off + 1, none⟩ = some (.int .i64 ((rd_T64 l0 ((rd_T101 t792 x22_2).f1)).f1)) ∧ w'.cell? (ad797.add ((((rd_T101 t792 x22_2).f2)).toNat * 2)) = some (.int .i64 ((rd_T64 l0 ((rd_T101 t792 x22_2).f2)).f0)) ∧ w'.cell? ⟨(ad797.add ((((rd_T101 t792 x22_2).f2)).toNat * 2)).block, (ad797.add ((((rd_T101 t792 x22_2).f2)).toNat * 2)).off + 1, none⟩ = some (.int .i64 ((rd_T64 l0 ((rd_T101 t792 x22_2).f2)).f1))) (ds := []) #[false, false, false, false, false, false, false, false, false, false, false, false, false, false, false, false, false] (by kernel_rfl) rfl rfl ⟨(blk_cell BK796.out 0).trans rfl, (blk_cell BK796.out 1).trans rfl, (blk_cell BK796.out 2).trans rfl, ((HB.out.cell (World.block_lt_of_cell? w _ hw797_0)).trans hw797_0), ((HB.out.cell (World.block_lt_of_cell? w _ hw797_1)).trans hw797_1), ((HB.out.cell (World.block_lt_of_cell? w _ hw798_0)).trans hw798_0), ((HB.out.cell (World.block_lt_of_cell? w _ hw798_1)).trans hw798_1), ((HB.out.cell (World.block_lt_of_cell? w _ hw799_0)).trans hw799_0), ((HB.out.cell (World.block_lt_of_cell? w _ hw799_1)).trans hw799_1)⟩ (fun hHeld => ?_); refine with_tabW impl_ArePoints.tab6 impl_ArePoints.bits6 (fun HT_ HW_ => ?_)
                generalize w24.drew = w25 at HO_20 BK796 HB hx797_0 hx797_1 hx798_0 hx798_1 hx799_0 hx799_1 hHeld ⊢
                refine pu 0 26 HT_ ?_
                refine pu 1 27 HT_ ?_
                refine pu 5 31 HT_ ?_
                refine pu 6 32 HT_ ?_
                refine pu 10 36 HT_ ?_
                refine pu 11 37 HT_ ?_
                refine take_ (i := 2) (N := some 28) (v := ?_) (a' := ?_) #[true, true, true, false, false, true, true, false, false, false, true, true, false, false, false, false, false] rfl rfl (take_ofW HT_.out HW_.out (by kernel_rfl)) (fun _ _ _ h => h) (Or.inl ⟨by rfl, ?_⟩) hHeld ?_ ?_
                rotate_left
                ·rintro w' ⟨s0, s1, s2, s3, s4, s5, s6, s7, s8⟩
                 go_simp
                 with_reducible rfl
                rotate_left
                ·simp only [Act.put, List.setIfInBounds_toArray, List.set_cons_zero, List.set_cons_succ, i64_w, i32_w]
                 rfl
                refine pu 3 29 HT_ ?_
                refine take_ (i := 4) (N := some 30) (v := ?_) (a' := ?_) #[true, true, true, true, true, true, true, false, false, false, true, true, false, false, false, false, false] rfl rfl (take_ofW HT_.out HW_.out (by kernel_rfl)) (fun _ _ _ h => h) (Or.inl ⟨by rfl, ?_⟩) hHeld ?_ ?_
                rotate_left
                ·rintro w' ⟨s0, s1, s2, s3, s4, s5, s6, s7, s8⟩
                 go_simp
                 with_reducible rfl
                rotate_left
                ·simp only [Act.put, List.setIfInBounds_toArray, List.set_cons_zero, List.set_cons_succ, i64_w, i32_w]
                 rfl
                refine take_ (i := 7) (N := some 33) (v := ?_) (a' := ?_) #[true, true, true, true, true, true, true, true, false, false, true, true, false, false, false, false, false] rfl rfl (take_ofW HT_.out HW_.out (by kernel_rfl)) (fun _ _ _ h => h) (Or.inl ⟨by rfl, ?_⟩) hHeld ?_ ?_
                rotate_left
                ·rintro w' ⟨s0, s1, s2, s3, s4, s5, s6, s7, s8⟩
                 go_simp
                 with_reducible rfl
                rotate_left
                ·simp only [Act.put, List.setIfInBounds_toArray, List.set_cons_zero, List.set_cons_succ, i64_w, i32_w]
                 rfl
                refine pu 8 34 HT_ ?_
                refine take_ (i := 9) (N := some 35) (v := ?_) (a' := ?_) #[true, true, true, true, true, true, true, true, true, true, true, true, false, false, false, false, false] rfl rfl (take_ofW HT_.out HW_.out (by kernel_rfl)) (fun _ _ _ h => h) (Or.inl ⟨by rfl, ?_⟩) hHeld ?_ ?_
                rotate_left
                ·rintro w' ⟨s0, s1, s2, s3, s4, s5, s6, s7, s8⟩
                 go_simp
                 with_reducible rfl
                rotate_left
                ·simp only [Act.put, List.setIfInBounds_toArray, List.set_cons_zero, List.set_cons_succ, i64_w, i32_w]
                 rfl
                refine take_ (i := 12) (N := some 38) (v := ?_) (a' := ?_) #[true, true, true, true, true, true, true, true, true, true, true, true, true, false, false, false, false] rfl rfl (take_ofW HT_.out HW_.out (by kernel_rfl)) (fun _ _ _ h => h) (Or.inl ⟨by rfl, ?_⟩) hHeld ?_ ?_
                rotate_left
                ·rintro w' ⟨s0, s1, s2, s3, s4, s5, s6, s7, s8⟩
                 go_simp
                 with_reducible rfl
                rotate_left
                ·simp only [Act.put, List.setIfInBounds_toArray, List.set_cons_zero, List.set_cons_succ, i64_w, i32_w]
                 rfl
                refine pu 13 39 HT_ ?_
                refine take_ (i := 14) (N := some 40) (v := ?_) (a' := ?_) #[true, true, true, true, true, true, true, true, true, true, true, true, true, true, true, false, false] rfl rfl (take_ofW HT_.out HW_.out (by kernel_rfl)) (fun _ _ _ h => h) (Or.inl ⟨by rfl, ?_⟩) hHeld ?_ ?_
                rotate_left
                ·rintro w' ⟨s0, s1, s2, s3, s4, s5, s6, s7, s8⟩
                 go_simp
                 with_reducible rfl
                rotate_left
                ·simp only [Act.put, List.setIfInBounds_toArray, List.set_cons_zero, List.set_cons_succ, i64_w, i32_w]
                 rfl
                refine one_ (i := 15) (N := some 41) #[true, true, true, true, true, true, true, true, true, true, true, true, true, true, true, true, false] rfl rfl (one_of HT_.out (by kernel_rfl)) (by decide) (fun K hK => ?_)
                refine goes_ Try.func98 (by kernel_rfl) rfl #[.agg #[.int .i64 ((rd_T64 l0 ((rd_T101 t792 x22_2).f0)).f0), .int .i64 ((rd_T64 l0 ((rd_T101 t792 x22_2).f0)).f1)], .agg #[.int .i64 ((rd_T64 l0 ((rd_T101 t792 x22_2).f1)).f0), .int .i64 ((rd_T64 l0 ((rd_T101 t792 x22_2).f1)).f1)], .agg #[.int .i64 ((rd_T64 l0 ((rd_T101 t792 x22_2).f2)).f0), .int .i64 ((rd_T64 l0 ((rd_T101 t792 x22_2).f2)).f1)]] (by rfl) rfl rfl (by (try simp only [List.map_toArray, List.map_cons, List.map_nil]); first | done | rfl | (simp only [List.length_drop, List.length_take]; rfl)) ?_
                with_reducible refine (impl_TurnOf.calls ((rd_T64 l0 ((rd_T101 t792 x22_2).f0)).f0) ((rd_T64 l0 ((rd_T101 t792 x22_2).f0)).f1) ((rd_T64 l0 ((rd_T101 t792 x22_2).f1)).f0) ((rd_T64 l0 ((rd_T101 t792 x22_2).f1)).f1) ((rd_T64 l0 ((rd_T101 t792 x22_2).f2)).f0) ((rd_T64 l0 ((rd_T101 t792 x22_2).f2)).f1) t800 _ A20.out).mono ?_
                rintro e w26 ⟨rfl, hb⟩
                refine ⟨_, rfl, ?_⟩
                have n0_ := Aside0.mk (Kd.R_below (rr HO_20) hb)
                have n1_ := Aside0.mk (blk_below (g := gb796) (o := .cells #[.int .i64 ((rd_T101 t792 x22_2).f0), .int .i64 ((rd_T101 t792 x22_2).f1), .int .i64 ((rd_T101 t792 x22_2).f2)] 101 (0, 0)) (bk BK796) hb)
                have n2_ := bsg HB GE796 hb
                clear HO_20
                clear BK796
                clear HB
                have HO_20 := n0_
                have BK796 := n1_
                have HB := n2_
                clear n0_ n1_ n2_
                (try clear hb)
                (try clear hb2)
                (try clear hk)
                (try clear hi)
                refine hK.out _ _ ⟨(blk_cell BK796.out 0).trans rfl, (blk_cell BK796.out 1).trans rfl, (blk_cell BK796.out 2).trans rfl, ((HB.out.cell (World.block_lt_of_cell? w _ hw797_0)).trans hw797_0), ((HB.out.cell (World.block_lt_of_cell? w _ hw797_1)).trans hw797_1), ((HB.out.cell (World.block_lt_of_cell? w _ hw798_0)).trans hw798_0), ((HB.out.cell (World.block_lt_of_cell? w _ hw798_1)).trans hw798_1), ((HB.out.cell (World.block_lt_of_cell? w _ hw799_0)).trans hw799_0), ((HB.out.cell (World.block_lt_of_cell? w _ hw799_1)).trans hw799_1)⟩ (fun hHeld => ?_)
                clear hK K
                refine norm_ (a' := ?_) ?_ ?_
                rotate_left
                ·show Act.put _ (some 41) _ = _
                 simp only [Act.put, List.setIfInBounds_toArray, List.set_cons_zero, List.set_cons_succ, i64_w, i32_w]
                 rfl
                refine pu 16 42 HT_ ?_
                refine done_ (done_of HT_.out (by kernel_rfl)) ?_
                try go_wp2
                go_ret
                exact ⟨by first | rfl | (simp [errW_none, errW_some] <;> rfl) | (simp [*, errW_none, errW_some] <;> rfl), (bg HB GE796)⟩
               ·rw [if_neg c21] at H
                have c21b0 : (t800 == 0) = false := beq_eq_false_iff_ne.mpr c21
                have c21b1 : (t800 != 0) = true := bne_iff_ne.mpr c21
                have H' := Aside0.mk H
                clear H
                have p795 : 0 ≤ (x22_2 : Int) := of_decide_eq_true (by first | (with_reducible assumption) | assumption)
                have q795 : x22_2 < (t792.length : Int) := of_decide_eq_true (by first | (with_reducible assumption) | assumption)
                obtain ⟨ad795, e795, hx795_0, hx795_1, hx795_2⟩ := at_T101 (Kd.R_reads' HO_20.out).2.2 x22_2 p795 q795
                cases e795
                replace p795 := eq_true p795
                replace q795 := eq_true q795
                try go_wp2_with (first | ((with_reducible refine gate_dst (N := 4) rfl ?_); (try (refine gate_guard (by rfl) ?_; dsimp only)); refine bx 4 #[.int .i64 0, .int .i64 0, .int .i64 0] 101 ?_; intro gb796 hg w27 hbox hb; have n0_ := Aside0.mk (Kd.R_below (Kd.R_elderB (rr HO_20) gb796 (Nat.le_of_eq hg.symm)) hb); have n1_ := bs HB hb; have n2_ := Aside0.mk (hbox); have n3_ := Aside0.mk ((by rw [hg]; exact (below_size (bl HB)) : w.heap.size ≤ gb796)); have n4_ := Aside0.mk ((by rw [hg]; exact (below_size (bl HB)) : w.heap.size ≤ gb796)); clear HO_20; clear HB; have HO_20 := n0_; have HB := n1_; have BK796 := n2_; have GW796 := n3_; have GE796 := n4_; clear n0_ n1_ n2_ n3_ n4_; clear hb hbox hg; have hcz28_0 := bc BK796 0; have hcz28_1 := bc BK796 1; have hcz28_2 := bc BK796 2; have hfz28_0 := bf BK796 0; have hfz28_1 := bf BK796 1; have hfz28_2 := bf BK796 2))
                have n0_ : Aside0 (Kd.R k101 101 (((w27.setCell ⟨gb796, 0, none⟩ (.int .i64 ((rd_T101 t792 x22_2).f0))).setCell ⟨gb796, 1, none⟩ (.int .i64 ((rd_T101 t792 x22_2).f1))).setCell ⟨gb796, 2, none⟩ (.int .i64 ((rd_T101 t792 x22_2).f2))) w.heap.size (fun k_ => k_ ≠ gb796) (.slice (some ad795) t792.length co10) t792) := ⟨by (with_reducible repeat (first | apply Kd.R_alloc | apply Kd.R_drewN | apply Kd.R_drew)); exact Kd.R_mono (Kd.R_far (p := ⟨gb796, 2, none⟩) (Kd.R_far (p := ⟨gb796, 1, none⟩) (Kd.R_far (p := ⟨gb796, 0, none⟩) (Kd.R_mono HO_20.out (fun k_ hk => (⟨hk, hk.2⟩ : _ ∧ k_ ≠ gb796))) (fun _ hk => hk.2) (.int .i64 ((rd_T101 t792 x22_2).f0))) (fun _ hk => hk.2) (.int .i64 ((rd_T101 t792 x22_2).f1))) (fun _ hk => hk.2) (.int .i64 ((rd_T101 t792 x22_2).f2))) (fun _ hk => hk.1.2)⟩
                have n1_ : Aside0 ((((w27.setCell ⟨gb796, 0, none⟩ (.int .i64 ((rd_T101 t792 x22_2).f0))).setCell ⟨gb796, 1, none⟩ (.int .i64 ((rd_T101 t792 x22_2).f1))).setCell ⟨gb796, 2, none⟩ (.int .i64 ((rd_T101 t792 x22_2).f2))).heap[gb796]? = some (.cells #[.int .i64 ((rd_T101 t792 x22_2).f0), .int .i64 ((rd_T101 t792 x22_2).f1), .int .i64 ((rd_T101 t792 x22_2).f2)] 101 (0, 0))) := ⟨by (with_reducible repeat (first | refine blk_drewN ?_ _ | refine blk_drew ?_ | refine blk_alloc ?_ _)); refine blk_put (cs := #[.int .i64 ((rd_T101 t792 x22_2).f0), .int .i64 ((rd_T101 t792 x22_2).f1), .int .i64 0]) ?_ 2 _ rfl; (with_reducible repeat (first | refine blk_drewN ?_ _ | refine blk_drew ?_ | refine blk_alloc ?_ _)); refine blk_put (cs := #[.int .i64 ((rd_T101 t792 x22_2).f0), .int .i64 0, .int .i64 0]) ?_ 1 _ rfl; (with_reducible repeat (first | refine blk_drewN ?_ _ | refine blk_drew ?_ | refine blk_alloc ?_ _)); refine blk_put (cs := #[.int .i64 0, .int .i64 0, .int .i64 0]) ?_ 0 _ rfl; (with_reducible repeat (first | refine blk_drewN ?_ _ | refine blk_drew ?_ | refine blk_alloc ?_ _)); exact BK796.out⟩
                have n2_ : Aside0 (Below w.heap.size w (((w27.setCell ⟨gb796, 0, none⟩ (.int .i64 ((rd_T101 t792 x22_2).f0))).setCell ⟨gb796, 1, none⟩ (.int .i64 ((rd_T101 t792 x22_2).f1))).setCell ⟨gb796, 2, none⟩ (.int .i64 ((rd_T101 t792 x22_2).f2)))) := ⟨(bg HB GE796)⟩
                (try clear HO_20)
                (try clear BK796)
                (try clear HB)
                generalize (((w27.setCell ⟨gb796, 0, none⟩ (.int .i64 ((rd_T101 t792 x22_2).f0))).setCell ⟨gb796, 1, none⟩ (.int .i64 ((rd_T101 t792 x22_2).f1))).setCell ⟨gb796, 2, none⟩ (.int .i64 ((rd_T101 t792 x22_2).f2))) = w29 at n0_ n1_ n2_ ⊢
                have HO_20 := n0_
                have BK796 := n1_
                have HB := n2_
                clear n0_ n1_ n2_
                have n0_ := Aside0.mk (Kd.R_drew HO_20.out)
                have n1_ := Aside0.mk (blk_drew BK796.out)
                have n2_ := Aside0.mk (below_drew1 HB.out)
                clear HO_20
                clear BK796
                clear HB
                have HO_20 := n0_
                have BK796 := n1_
                have HB := n2_
                clear n0_ n1_ n2_
                have p797 : 0 ≤ (((rd_T101 t792 x22_2).f0) : Int) := of_decide_eq_true (by first | (with_reducible assumption) | assumption)
                have q797 : ((rd_T101 t792 x22_2).f0) < (l0.length : Int) := of_decide_eq_true (by first | (with_reducible assumption) | assumption)
                obtain ⟨ad797, e797, hx797_0, hx797_1⟩ := at_T64 HR0.out ((rd_T101 t792 x22_2).f0) p797 q797
                have hw797_1 := hx797_1
                have hw797_0 := hx797_0
                cases e797
                replace hx797_0 := (HB.out.cell (World.block_lt_of_cell? w _ hx797_0)).trans hx797_0
                replace hx797_1 := (HB.out.cell (World.block_lt_of_cell? w _ hx797_1)).trans hx797_1
                replace p797 := eq_true p797
                replace q797 := eq_true q797
                have p798 : 0 ≤ (((rd_T101 t792 x22_2).f1) : Int) := of_decide_eq_true (by first | (with_reducible assumption) | assumption)
                have q798 : ((rd_T101 t792 x22_2).f1) < (l0.length : Int) := of_decide_eq_true (by first | (with_reducible assumption) | assumption)
                obtain ⟨ad798, e798, hx798_0, hx798_1⟩ := at_T64 HR0.out ((rd_T101 t792 x22_2).f1) p798 q798
                have hw798_1 := hx798_1
                have hw798_0 := hx798_0
                obtain rfl : ad797 = ad798 := (by injection e798)
                replace hx798_0 := (HB.out.cell (World.block_lt_of_cell? w _ hx798_0)).trans hx798_0
                replace hx798_1 := (HB.out.cell (World.block_lt_of_cell? w _ hx798_1)).trans hx798_1
                replace p798 := eq_true p798
                replace q798 := eq_true q798
                have p799 : 0 ≤ (((rd_T101 t792 x22_2).f2) : Int) := of_decide_eq_true (by first | (with_reducible assumption) | assumption)
                have q799 : ((rd_T101 t792 x22_2).f2) < (l0.length : Int) := of_decide_eq_true (by first | (with_reducible assumption) | assumption)
                obtain ⟨ad799, e799, hx799_0, hx799_1⟩ := at_T64 HR0.out ((rd_T101 t792 x22_2).f2) p799 q799
                have hw799_1 := hx799_1
                have hw799_0 := hx799_0
                obtain rfl : ad797 = ad799 := (by injection e799)
                replace hx799_0 := (HB.out.cell (World.block_lt_of_cell? w _ hx799_0)).trans hx799_0
                replace hx799_1 := (HB.out.cell (World.block_lt_of_cell? w _ hx799_1)).trans hx799_1
                replace p799 := eq_true p799
                replace q799 := eq_true q799
                refine start_ (n := 17) (S := fun w' => w'.cell? ⟨gb796, 0, none⟩ = some (.int .i64 ((rd_T101 t792 x22_2).f0)) ∧ w'.cell? ⟨gb796, 1, none⟩ = some (.int .i64 ((rd_T101 t792 x22_2).f1)) ∧ w'.cell? ⟨gb796, 2, none⟩ = some (.int .i64 ((rd_T101 t792 x22_2).f2)) ∧ w'.cell? (ad797.add ((((rd_T101 t792 x22_2).f0)).toNat * 2)) = some (.int .i64 ((rd_T64 l0 ((rd_T101 t792 x22_2).f0)).f0)) ∧ w'.cell? ⟨(ad797.add ((((rd_T101 t792 x22_2).f0)).toNat * 2)).block, (ad797.add ((((rd_T101 t792 x22_2).f0)).toNat * 2)).off + 1, none⟩ = some (.int .i64 ((rd_T64 l0 ((rd_T101 t792 x22_2).f0)).f1)) ∧ w'.cell? (ad797.add ((((rd_T101 t792 x22_2).f1)).toNat * 2)) = some (.int .i64 ((rd_T64 l0 ((rd_T101 t792 x22_2).f1)).f0)) ∧ w'.cell? ⟨(ad797.add ((((rd_T101 t792 x22_2).f1)).toNat * 2)).block, (ad797.add ((((rd_T101 t792 x22_2).f1)).toNat * 2)).off + 1, none⟩ = some (.int .i64 ((rd_T64 l0 ((rd_T101 t792 x22_2).f1)).f1)) ∧ w'.cell? (ad797.add ((((rd_T101 t792 x22_2).f2)).toNat * 2)) = some (.int .i64 ((rd_T64 l0 ((rd_T101 t792 x22_2).f2)).f0)) ∧ w'.cell? ⟨(ad797.add ((((rd_T101 t792 x22_2).f2)).toNat * 2)).block, (ad797.add ((((rd_T101 t792 x22_2).f2)).toNat * 2)).off + 1, none⟩ = some (.int .i64 ((rd_T64 l0 ((rd_T101 t792 x22_2).f2)).f1))) (ds := []) #[false, false, false, false, false, false, false, false, false, false, false, false, false, false, false, false, false] (by kernel_rfl) rfl rfl ⟨(blk_cell BK796.out 0).trans rfl, (blk_cell BK796.out 1).trans rfl, (blk_cell BK796.out 2).trans rfl, ((HB.out.cell (World.block_lt_of_cell? w _ hw797_0)).trans hw797_0), ((HB.out.cell (World.block_lt_of_cell? w _ hw797_1)).trans hw797_1), ((HB.out.cell (World.block_lt_of_cell? w _ hw798_0)).trans hw798_0), ((HB.out.cell (World.block_lt_of_cell? w _ hw798_1)).trans hw798_1), ((HB.out.cell (World.block_lt_of_cell? w _ hw799_0)).trans hw799_0), ((HB.out.cell (World.block_lt_of_cell? w _ hw799_1)).trans hw799_1)⟩ (fun hHeld => ?_); refine with_tabW impl_ArePoints.tab6 impl_ArePoints.bits6 (fun HT_ HW_ => ?_)
                generalize w29.drew = w30 at HO_20 BK796 HB hx797_0 hx797_1 hx798_0 hx798_1 hx799_0 hx799_1 hHeld ⊢
                refine pu 0 26 HT_ ?_
                refine pu 1 27 HT_ ?_
                refine pu 5 31 HT_ ?_
                refine pu 6 32 HT_ ?_
                refine pu 10 36 HT_ ?_
                refine pu 11 37 HT_ ?_
                refine take_ (i := 2) (N := some 28) (v := ?_) (a' := ?_) #[true, true, true, false, false, true, true, false, false, false, true, true, false, false, false, false, false] rfl rfl (take_ofW HT_.out HW_.out (by kernel_rfl)) (fun _ _ _ h => h) (Or.inl ⟨by rfl, ?_⟩) hHeld ?_ ?_
                rotate_left
                ·rintro w' ⟨s0, s1, s2, s3, s4, s5, s6, s7, s8⟩
                 go_simp
                 with_reducible rfl
                rotate_left
                ·simp only [Act.put, List.setIfInBounds_toArray, List.set_cons_zero, List.set_cons_succ, i64_w, i32_w]
                 rfl
                refine pu 3 29 HT_ ?_
                refine take_ (i := 4) (N := some 30) (v := ?_) (a' := ?_) #[true, true, true, true, true, true, true, false, false, false, true, true, false, false, false, false, false] rfl rfl (take_ofW HT_.out HW_.out (by kernel_rfl)) (fun _ _ _ h => h) (Or.inl ⟨by rfl, ?_⟩) hHeld ?_ ?_
                rotate_left
                ·rintro w' ⟨s0, s1, s2, s3, s4, s5, s6, s7, s8⟩
                 go_simp
                 with_reducible rfl
                rotate_left
                ·simp only [Act.put, List.setIfInBounds_toArray, List.set_cons_zero, List.set_cons_succ, i64_w, i32_w]
                 rfl
                refine take_ (i := 7) (N := some 33) (v := ?_) (a' := ?_) #[true, true, true, true, true, true, true, true, false, false, true, true, false, false, false, false, false] rfl rfl (take_ofW HT_.out HW_.out (by kernel_rfl)) (fun _ _ _ h => h) (Or.inl ⟨by rfl, ?_⟩) hHeld ?_ ?_
                rotate_left
                ·rintro w' ⟨s0, s1, s2, s3, s4, s5, s6, s7, s8⟩
                 go_simp
                 with_reducible rfl
                rotate_left
                ·simp only [Act.put, List.setIfInBounds_toArray, List.set_cons_zero, List.set_cons_succ, i64_w, i32_w]
                 rfl
                refine pu 8 34 HT_ ?_
                refine take_ (i := 9) (N := some 35) (v := ?_) (a' := ?_) #[true, true, true, true, true, true, true, true, true, true, true, true, false, false, false, false, false] rfl rfl (take_ofW HT_.out HW_.out (by kernel_rfl)) (fun _ _ _ h => h) (Or.inl ⟨by rfl, ?_⟩) hHeld ?_ ?_
                rotate_left
                ·rintro w' ⟨s0, s1, s2, s3, s4, s5, s6, s7, s8⟩
                 go_simp
                 with_reducible rfl
                rotate_left
                ·simp only [Act.put, List.setIfInBounds_toArray, List.set_cons_zero, List.set_cons_succ, i64_w, i32_w]
                 rfl
                refine take_ (i := 12) (N := some 38) (v := ?_) (a' := ?_) #[true, true, true, true, true, true, true, true, true, true, true, true, true, false, false, false, false] rfl rfl (take_ofW HT_.out HW_.out (by kernel_rfl)) (fun _ _ _ h => h) (Or.inl ⟨by rfl, ?_⟩) hHeld ?_ ?_
                rotate_left
                ·rintro w' ⟨s0, s1, s2, s3, s4, s5, s6, s7, s8⟩
                 go_simp
                 with_reducible rfl
                rotate_left
                ·simp only [Act.put, List.setIfInBounds_toArray, List.set_cons_zero, List.set_cons_succ, i64_w, i32_w]
                 rfl
                refine pu 13 39 HT_ ?_
                refine take_ (i := 14) (N := some 40) (v := ?_) (a' := ?_) #[true, true, true, true, true, true, true, true, true, true, true, true, true, true, true, false, false] rfl rfl (take_ofW HT_.out HW_.out (by kernel_rfl)) (fun _ _ _ h => h) (Or.inl ⟨by rfl, ?_⟩) hHeld ?_ ?_
                rotate_left
                ·rintro w' ⟨s0, s1, s2, s3, s4, s5, s6, s7, s8⟩
                 go_simp
                 with_reducible rfl
                rotate_left
                ·simp only [Act.put, List.setIfInBounds_toArray, List.set_cons_zero, List.set_cons_succ, i64_w, i32_w]
                 rfl
                refine one_ (i := 15) (N := some 41) #[true, true, true, true, true, true, true, true, true, true, true, true, true, true, true, true, false] rfl rfl (one_of HT_.out (by kernel_rfl)) (by decide) (fun K hK => ?_)
                refine goes_ Try.func98 (by kernel_rfl) rfl #[.agg #[.int .i64 ((rd_T64 l0 ((rd_T101 t792 x22_2).f0)).f0), .int .i64 ((rd_T64 l0 ((rd_T101 t792 x22_2).f0)).f1)], .agg #[.int .i64 ((rd_T64 l0 ((rd_T101 t792 x22_2).f1)).f0), .int .i64 ((rd_T64 l0 ((rd_T101 t792 x22_2).f1)).f1)], .agg #[.int .i64 ((rd_T64 l0 ((rd_T101 t792 x22_2).f2)).f0), .int .i64 ((rd_T64 l0 ((rd_T101 t792 x22_2).f2)).f1)]] (by rfl) rfl rfl (by (try simp only [List.map_toArray, List.map_cons, List.map_nil]); first | done | rfl | (simp only [List.length_drop, List.length_take]; rfl)) ?_
                with_reducible refine (impl_TurnOf.calls ((rd_T64 l0 ((rd_T101 t792 x22_2).f0)).f0) ((rd_T64 l0 ((rd_T101 t792 x22_2).f0)).f1) ((rd_T64 l0 ((rd_T101 t792 x22_2).f1)).f0) ((rd_T64 l0 ((rd_T101 t792 x22_2).f1)).f1) ((rd_T64 l0 ((rd_T101 t792 x22_2).f2)).f0) ((rd_T64 l0 ((rd_T101 t792 x22_2).f2)).f1) t800 _ A20.out).mono ?_
                rintro e w31 ⟨rfl, hb⟩
                refine ⟨_, rfl, ?_⟩
                have n0_ := Aside0.mk (Kd.R_below (rr HO_20) hb)
                have n1_ := Aside0.mk (blk_below (g := gb796) (o := .cells #[.int .i64 ((rd_T101 t792 x22_2).f0), .int .i64 ((rd_T101 t792 x22_2).f1), .int .i64 ((rd_T101 t792 x22_2).f2)] 101 (0, 0)) (bk BK796) hb)
                have n2_ := bsg HB GE796 hb
                clear HO_20
                clear BK796
                clear HB
                have HO_20 := n0_
                have BK796 := n1_
                have HB := n2_
                clear n0_ n1_ n2_
                (try clear hb)
                (try clear hb2)
                (try clear hk)
                (try clear hi)
                refine hK.out _ _ ⟨(blk_cell BK796.out 0).trans rfl, (blk_cell BK796.out 1).trans rfl, (blk_cell BK796.out 2).trans rfl, ((HB.out.cell (World.block_lt_of_cell? w _ hw797_0)).trans hw797_0), ((HB.out.cell (World.block_lt_of_cell? w _ hw797_1)).trans hw797_1), ((HB.out.cell (World.block_lt_of_cell? w _ hw798_0)).trans hw798_0), ((HB.out.cell (World.block_lt_of_cell? w _ hw798_1)).trans hw798_1), ((HB.out.cell (World.block_lt_of_cell? w _ hw799_0)).trans hw799_0), ((HB.out.cell (World.block_lt_of_cell? w _ hw799_1)).trans hw799_1)⟩ (fun hHeld => ?_)
                clear hK K
                refine norm_ (a' := ?_) ?_ ?_
                rotate_left
                ·show Act.put _ (some 41) _ = _
                 simp only [Act.put, List.setIfInBounds_toArray, List.set_cons_zero, List.set_cons_succ, i64_w, i32_w]
                 rfl
                refine pu 16 42 HT_ ?_
                refine done_ (done_of HT_.out (by kernel_rfl)) ?_
                try go_wp2
                go_roundg k2
                case measure => have := HJ1.out; have := HK2.out; omega
                case rel => exact ⟨(wrap64 (x22_2 + 1)), (by first | rfl | (simp; done) | (simp [*]; done)), H', ⟨by have := HJ1.out; have := HK2.out; omega⟩, ⟨by (with_reducible repeat (first | apply Kd.R_alloc | apply Kd.R_drewN | apply Kd.R_drew)); exact Kd.R_mono HO_20.out (fun _ hk => trivial)⟩, ⟨(bg HB GE796)⟩⟩
              ·rw [if_neg c19] at H
               exact absurd H (by simp)
             ·rw [if_neg c18] at H
              exact absurd H (by simp)
            ·rw [if_neg c17] at H
             exact absurd H (by simp)
           ·rw [if_neg c16] at H
            exact absurd H (by simp)
          ·rw [if_neg c15] at H
           exact absurd H (by simp)
         ·rw [if_neg c14] at H
          exact absurd H (by simp)
        ·rw [if_neg c13] at H
         exact absurd H (by simp)
       ·rw [if_neg c12] at H
        exact absurd H (by simp)
      ·rw [if_neg c11] at H
       have c11b0 : decide (x22_2 < (t792.length : Int)) = false := decide_eq_false c11
       clear c11
       obtain rfl := Option.some.inj H
       go_wp2
       go_ret
       exact ⟨by first | rfl | (simp [errW_none, errW_some] <;> rfl) | (simp [*, errW_none, errW_some] <;> rfl), (bl HB)⟩

end Go.Proofs.Ytiimkifkakdalaa.P
