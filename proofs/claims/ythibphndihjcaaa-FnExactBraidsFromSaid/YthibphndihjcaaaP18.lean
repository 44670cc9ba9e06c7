-- Printed by a program of this session (wip/tools/myprint.py, over the kit's print.py); not trusted: Lean checks it.
import Derived.Test.YthibphndihjcaaaWAll2
import Derived.Test.YthibphndihjcaaaP0
import Derived.Test.YthibphndihjcaaaP46
import Derived.Test.YthibphndihjcaaaP55
import Derived.Test.YthibphndihjcaaaP56
import Derived.Test.YthibphndihjcaaaP57
namespace Go.Proofs.Ythibphndihjcaaa.P
open Go.RowKit Go.Proofs.YthibphndihjcaaaW.PrintWords Go.Proofs.YthibphndihjcaaaW.PrintLast Go.Proofs.YthibphndihjcaaaW.PrintMore
attribute [local go_sem] max2_int min2_int max_two min_two max_three min_three max_four min_four   -- for this text's walks alone
set_option linter.unusedVariables false
set_option linter.unusedSimpArgs false

/-! ### spec_SignsOfWiring: function 18 -/
mutual
def spec_SignsOfWiring.l0 : Nat → Int → List (List Int) → List Int → Int → Option (Int × ByteArray × Bool)
 | 0, _, _, _, _ => none
 | k + 1, x0, x6, x7, x8 => if x8 < (x6.length : Int) then (if 0 ≤ x8 then (if 0 < ((rd_L1 x6 x8).length : Int) then (if 1 < ((rd_L1 x6 x8).length : Int) then (if 0 ≤ (wrap64 ((wrap64 ((rd (rd_L1 x6 x8) 0) * x0)) + (rd (rd_L1 x6 x8) 1))) then (if (wrap64 ((wrap64 ((rd (rd_L1 x6 x8) 0) * x0)) + (rd (rd_L1 x6 x8) 1))) < (x7.length : Int) then (spec_SignsOfWiring.l0 k x0 x6 (x7.set ((wrap64 ((wrap64 ((rd (rd_L1 x6 x8) 0) * x0)) + (rd (rd_L1 x6 x8) 1))) : Int).toNat x8) (wrap64 (x8 + 1))) else (none)) else (none)) else (none)) else (none)) else (none)) else (spec_SignsOfWiring.l1 k x0 x7 0 x0 (⟨#[]⟩ : ByteArray))
def spec_SignsOfWiring.l1 : Nat → Int → List Int → Int → Int → ByteArray → Option (Int × ByteArray × Bool)
 | 0, _, _, _, _, _ => none
 | k + 1, x0, x7, x10, x225000, x225001 => if x10 < x0 then (spec_SignsOfWiring.l2 k x0 x7 x10 (wrap64 (x10 + 1)) x225000 x225001) else (some (x225000, x225001, true))
def spec_SignsOfWiring.l2 : Nat → Int → List Int → Int → Int → Int → ByteArray → Option (Int × ByteArray × Bool)
 | 0, _, _, _, _, _, _ => none
 | k + 1, x0, x7, x10, x11, x225000, x225001 => if x11 < x0 then (spec_SignsOfWiring.l3 k x0 x7 x10 x11 (wrap64 (x11 + 1)) x225000 x225001) else (spec_SignsOfWiring.l1 k x0 x7 (wrap64 (x10 + 1)) x225000 x225001)
def spec_SignsOfWiring.l3 : Nat → Int → List Int → Int → Int → Int → Int → ByteArray → Option (Int × ByteArray × Bool)
 | 0, _, _, _, _, _, _, _ => none
 | k + 1, x0, x7, x10, x11, x12, x225000, x225001 => if x12 < x0 then (if 0 ≤ (wrap64 ((wrap64 (x10 * x0)) + x11)) then (if (wrap64 ((wrap64 (x10 * x0)) + x11)) < (x7.length : Int) then (if 0 ≤ (wrap64 ((wrap64 (x11 * x0)) + x12)) then (if (wrap64 ((wrap64 (x11 * x0)) + x12)) < (x7.length : Int) then ((spec_l1Bit.f (decide ((rd x7 (wrap64 ((wrap64 (x10 * x0)) + x11))) < (rd x7 (wrap64 ((wrap64 (x11 * x0)) + x12)))))).bind fun t227 => ((spec_l3Byte.f t227).bind fun t228 => (if x225001.size + t228.size ≤ 9223372036854775807 then (spec_SignsOfWiring.l3 k x0 x7 x10 x11 (wrap64 (x12 + 1)) x225000 (x225001 ++ t228)) else (none)))) else (none)) else (none)) else (none)) else (none)) else (spec_SignsOfWiring.l2 k x0 x7 x10 (wrap64 (x11 + 1)) x225000 x225001)
end
def spec_SignsOfWiring.f (k : Nat) (a0 : Int) (l1 : List Int) : Option (Int × ByteArray × Bool) := (spec_IsWiring.f k a0 l1).bind fun t212 => (if t212 = true then ((spec_l12Swaps.f k a0 l1).bind fun t213 => (if 0 ≤ (wrap64 (a0 * a0)) then (if (wrap64 (a0 * a0) : Int).toNat ≤ 35184372088832 then (spec_SignsOfWiring.l0 k a0 t213 (List.replicate (wrap64 (a0 * a0) : Int).toNat 0) 0) else (none)) else (none))) else (some (0, (⟨#[]⟩ : ByteArray), false)))
theorem spec_SignsOfWiring.mono_l : ∀ k, (∀ y0 y1 y2 y3, LeO (spec_SignsOfWiring.l0 k y0 y1 y2 y3) (spec_SignsOfWiring.l0 (k + 1) y0 y1 y2 y3)) ∧ (∀ y0 y1 y2 y3 y4, LeO (spec_SignsOfWiring.l1 k y0 y1 y2 y3 y4) (spec_SignsOfWiring.l1 (k + 1) y0 y1 y2 y3 y4)) ∧ (∀ y0 y1 y2 y3 y4 y5, LeO (spec_SignsOfWiring.l2 k y0 y1 y2 y3 y4 y5) (spec_SignsOfWiring.l2 (k + 1) y0 y1 y2 y3 y4 y5)) ∧ (∀ y0 y1 y2 y3 y4 y5 y6, LeO (spec_SignsOfWiring.l3 k y0 y1 y2 y3 y4 y5 y6) (spec_SignsOfWiring.l3 (k + 1) y0 y1 y2 y3 y4 y5 y6))
 | 0 => ⟨fun _ _ _ _ r h => by simp [spec_SignsOfWiring.l0] at h, fun _ _ _ _ _ r h => by simp [spec_SignsOfWiring.l1] at h, fun _ _ _ _ _ _ r h => by simp [spec_SignsOfWiring.l2] at h, fun _ _ _ _ _ _ _ r h => by simp [spec_SignsOfWiring.l3] at h⟩
 | k + 1 => by
  obtain ⟨ih0, ih1, ih2, ih3⟩ := spec_SignsOfWiring.mono_l k
  refine ⟨?_, ?_, ?_, ?_⟩
  ·intro y0 y1 y2 y3
   unfold spec_SignsOfWiring.l0
   repeat' first
   | (with_reducible exact ih0 _ _ _ _)
   | (with_reducible exact ih1 _ _ _ _ _)
   | (with_reducible exact ih2 _ _ _ _ _ _)
   | (with_reducible exact ih3 _ _ _ _ _ _ _)
   | (with_reducible exact spec_IsWiring.mono _ _ _)
   | (with_reducible exact spec_l12Swaps.mono _ _ _)
   | (with_reducible exact LeO.refl _)
   | (with_reducible exact LeO.none _)
   | (with_reducible refine LeO.ite ?_ ?_)
   | (with_reducible refine LeO.bind ?_ (fun _ => ?_))
   | exact ih0 _ _ _ _
   | exact ih1 _ _ _ _ _
   | exact ih2 _ _ _ _ _ _
   | exact ih3 _ _ _ _ _ _ _
   | exact spec_IsWiring.mono _ _ _
   | exact spec_l12Swaps.mono _ _ _
   | exact LeO.none _
   | refine LeO.ite ?_ ?_
   | refine LeO.bind ?_ (fun _ => ?_)
  ·intro y0 y1 y2 y3 y4
   unfold spec_SignsOfWiring.l1
   repeat' first
   | (with_reducible exact ih0 _ _ _ _)
   | (with_reducible exact ih1 _ _ _ _ _)
   | (with_reducible exact ih2 _ _ _ _ _ _)
   | (with_reducible exact ih3 _ _ _ _ _ _ _)
   | (with_reducible exact spec_IsWiring.mono _ _ _)
   | (with_reducible exact spec_l12Swaps.mono _ _ _)
   | (with_reducible exact LeO.refl _)
   | (with_reducible exact LeO.none _)
   | (with_reducible refine LeO.ite ?_ ?_)
   | (with_reducible refine LeO.bind ?_ (fun _ => ?_))
   | exact ih0 _ _ _ _
   | exact ih1 _ _ _ _ _
   | exact ih2 _ _ _ _ _ _
   | exact ih3 _ _ _ _ _ _ _
   | exact spec_IsWiring.mono _ _ _
   | exact spec_l12Swaps.mono _ _ _
   | exact LeO.none _
   | refine LeO.ite ?_ ?_
   | refine LeO.bind ?_ (fun _ => ?_)
  ·intro y0 y1 y2 y3 y4 y5
   unfold spec_SignsOfWiring.l2
   repeat' first
   | (with_reducible exact ih0 _ _ _ _)
   | (with_reducible exact ih1 _ _ _ _ _)
   | (with_reducible exact ih2 _ _ _ _ _ _)
   | (with_reducible exact ih3 _ _ _ _ _ _ _)
   | (with_reducible exact spec_IsWiring.mono _ _ _)
   | (with_reducible exact spec_l12Swaps.mono _ _ _)
   | (with_reducible exact LeO.refl _)
   | (with_reducible exact LeO.none _)
   | (with_reducible refine LeO.ite ?_ ?_)
   | (with_reducible refine LeO.bind ?_ (fun _ => ?_))
   | exact ih0 _ _ _ _
   | exact ih1 _ _ _ _ _
   | exact ih2 _ _ _ _ _ _
   | exact ih3 _ _ _ _ _ _ _
   | exact spec_IsWiring.mono _ _ _
   | exact spec_l12Swaps.mono _ _ _
   | exact LeO.none _
   | refine LeO.ite ?_ ?_
   | refine LeO.bind ?_ (fun _ => ?_)
  ·intro y0 y1 y2 y3 y4 y5 y6
   unfold spec_SignsOfWiring.l3
   repeat' first
   | (with_reducible exact ih0 _ _ _ _)
   | (with_reducible exact ih1 _ _ _ _ _)
   | (with_reducible exact ih2 _ _ _ _ _ _)
   | (with_reducible exact ih3 _ _ _ _ _ _ _)
   | (with_reducible exact spec_IsWiring.mono _ _ _)
   | (with_reducible exact spec_l12Swaps.mono _ _ _)
   | (with_reducible exact LeO.refl _)
   | (with_reducible exact LeO.none _)
   | (with_reducible refine LeO.ite ?_ ?_)
   | (with_reducible refine LeO.bind ?_ (fun _ => ?_))
   | exact ih0 _ _ _ _
   | exact ih1 _ _ _ _ _
   | exact ih2 _ _ _ _ _ _
   | exact ih3 _ _ _ _ _ _ _
   | exact spec_IsWiring.mono _ _ _
   | exact spec_l12Swaps.mono _ _ _
   | exact LeO.none _
   | refine LeO.ite ?_ ?_
   | refine LeO.bind ?_ (fun _ => ?_)
theorem spec_SignsOfWiring.mono : ∀ a0 a1 k, LeO (spec_SignsOfWiring.f k a0 a1) (spec_SignsOfWiring.f (k + 1) a0 a1) := by
 intro a0 a1 k
 obtain ⟨ih0, ih1, ih2, ih3⟩ := spec_SignsOfWiring.mono_l k
 unfold spec_SignsOfWiring.f
 repeat' first
   | (with_reducible exact ih0 _ _ _ _)
   | (with_reducible exact ih1 _ _ _ _ _)
   | (with_reducible exact ih2 _ _ _ _ _ _)
   | (with_reducible exact ih3 _ _ _ _ _ _ _)
   | (with_reducible exact spec_IsWiring.mono _ _ _)
   | (with_reducible exact spec_l12Swaps.mono _ _ _)
   | (with_reducible exact LeO.refl _)
   | (with_reducible exact LeO.none _)
   | (with_reducible refine LeO.ite ?_ ?_)
   | (with_reducible refine LeO.bind ?_ (fun _ => ?_))
   | exact ih0 _ _ _ _
   | exact ih1 _ _ _ _ _
   | exact ih2 _ _ _ _ _ _
   | exact ih3 _ _ _ _ _ _ _
   | exact spec_IsWiring.mono _ _ _
   | exact spec_l12Swaps.mono _ _ _
   | exact LeO.none _
   | refine LeO.ite ?_ ?_
   | refine LeO.bind ?_ (fun _ => ?_)
def spec_SignsOfWiring.T8 : Bool × List (List Nat × List Nat) := (true, [([], []), ([], []), ([], []), ([1, 2], [1, 2]), ([3], [3]), ([4], [4]), ([5], [5]), ([], []), ([6, 7], [6, 7]), ([], []), ([], []), ([9, 10], [9, 10]), ([11], [11]), ([12], [12]), ([13], [13]), ([8, 14], [8, 14]), ([], []), ([0, 15, 0, 1, 2, 3, 4, 5, 6, 7, 8, 9, 10, 11, 12, 13, 14, 15, 16], [0, 15]), ([17, 16, 0, 1, 2, 3, 4, 5, 6, 7, 8, 9, 10, 11, 12, 13, 14, 15, 16], [16, 17])])
def spec_SignsOfWiring.B8 : List Nat := [0, 0, 0, 6, 14, 30, 62, 0, 254, 0, 0, 1536, 3584, 7680, 15872, 32766, 0, 131071, 262143]
theorem spec_SignsOfWiring.tab8 : rtab .any (opsOf Try.f18 8) = spec_SignsOfWiring.T8 := by kernel_rfl
theorem spec_SignsOfWiring.bits8 : waitsOk spec_SignsOfWiring.T8.2 spec_SignsOfWiring.B8 = true := by kernel_rfl
def spec_SignsOfWiring.T19 : Bool × List (List Nat × List Nat) := (true, [([], []), ([0], [0]), ([], []), ([], []), ([], []), ([3, 4], [3, 4]), ([], []), ([5, 6], [5, 6]), ([2, 7], [2, 7]), ([8], [8]), ([], []), ([], []), ([], []), ([11, 12], [11, 12]), ([], []), ([13, 14], [13, 14]), ([10, 15], [10, 15]), ([16], [16]), ([9, 17], [9, 17]), ([18], [18]), ([19, 19], [19]), ([1, 20], [1, 20]), ([0, 1, 2, 3, 4, 5, 6, 7, 8, 9, 10, 11, 12, 13, 14, 15, 16, 17, 18, 19, 20, 21], []), ([22, 21, 20, 0, 1, 2, 3, 4, 5, 6, 7, 8, 9, 10, 11, 12, 13, 14, 15, 16, 17, 18, 19, 20, 21], [21, 22])])
def spec_SignsOfWiring.B19 : List Nat := [0, 1, 0, 0, 0, 24, 0, 120, 252, 508, 0, 0, 0, 6144, 0, 30720, 64512, 130048, 262140, 524284, 1048572, 2097151, 4194303, 8388607]
theorem spec_SignsOfWiring.tab19 : rtab .any (opsOf Try.f18 19) = spec_SignsOfWiring.T19 := by kernel_rfl
theorem spec_SignsOfWiring.bits19 : waitsOk spec_SignsOfWiring.T19.2 spec_SignsOfWiring.B19 = true := by kernel_rfl
set_option maxHeartbeats 8000000 in
set_option maxRecDepth 100000 in
theorem spec_SignsOfWiring.calls (k : Nat) (a0 : Int) (A1 : Option Addr) (c1 : Nat) (l1 : List Int) (r1 : Int) (r2 : ByteArray) (r3 : Bool) (w : World) (hr1 : Kd.C (Kd.int .i64) w A1 l1.length l1) (hc1 : l1.length ≤ c1) (h : spec_SignsOfWiring.f k a0 l1 = some (r1, r2, r3)) :
  Calls Try.prog 18 #[.int .i64 a0, .slice A1 l1.length c1] w fun e w' => e = .returned (.tuple #[.agg #[.int .i64 r1, .string r2], .bool r3]) ∧ Below w.heap.size w w' := by
 have hu28 := Try.underlying28
 have HR1 := Aside0.mk hr1
 have HC1 := Aside0.mk hc1
 clear hr1 hc1
 have HB := Aside0.mk (Below.refl w.heap.size w)
 have H : ((spec_IsWiring.f k a0 l1).bind fun t212 => (if t212 = true then ((spec_l12Swaps.f k a0 l1).bind fun t213 => (if 0 ≤ (wrap64 (a0 * a0)) then (if (wrap64 (a0 * a0) : Int).toNat ≤ 35184372088832 then (spec_SignsOfWiring.l0 k a0 t213 (List.replicate (wrap64 (a0 * a0) : Int).toNat 0) 0) else (none)) else (none))) else (some (0, (⟨#[]⟩ : ByteArray), false)))) = some (r1, r2, r3) := h
 clear h
 replace H := Option.bind_eq_some_iff.mp H
 obtain ⟨t212, A30, H⟩ := H
 (try dsimp only at H)
 have A3 := Aside0.mk A30
 clear A30
 by_cases c4 : t212 = true
 ·subst c4
  have H1 : ((spec_l12Swaps.f k a0 l1).bind fun t213 => (if 0 ≤ (wrap64 (a0 * a0)) then (if (wrap64 (a0 * a0) : Int).toNat ≤ 35184372088832 then (spec_SignsOfWiring.l0 k a0 t213 (List.replicate (wrap64 (a0 * a0) : Int).toNat 0) 0) else (none)) else (none))) = some (r1, r2, r3) := by rw [if_pos rfl] at H; exact H
  clear H
  have H := H1
  clear H1
  replace H := Option.bind_eq_some_iff.mp H
  obtain ⟨t213, A50, H⟩ := H
  (try dsimp only at H)
  have A5 := Aside0.mk A50
  clear A50
  obtain ⟨ji6, hji6⟩ : ∃ j_ : Int, (wrap64 (a0 * a0)) = j_ := ⟨_, rfl⟩
  replace H : (if 0 ≤ (ji6) then (if (ji6 : Int).toNat ≤ 35184372088832 then (spec_SignsOfWiring.l0 k a0 t213 (List.replicate (ji6 : Int).toNat 0) 0) else (none)) else (none)) = some (r1, r2, r3) := by first | (rw [hji6] at H; exact H) | (simp only [hji6] at H ⊢; exact H)
  (try rw [hji6] at A3)
  (try rw [hji6] at A5)
  have hji6w : (IntKind.i64.wrap (a0 * a0)) = ji6 := (i64_w _).trans hji6
  by_cases c7 : 0 ≤ (ji6)
  ·rw [if_pos c7] at H
   have c7b0 := eq_true c7
   have c7b1 : decide (0 ≤ (ji6)) = true := decide_eq_true c7
   clear c7
   by_cases c8 : (ji6 : Int).toNat ≤ 35184372088832
   ·rw [if_pos c8] at H
    have c8b0 := eq_true c8
    have c8b1 : decide ((ji6 : Int).toNat ≤ 35184372088832) = true := decide_eq_true c8
    clear c8
    obtain ⟨y216, hy216⟩ : ∃ y_ : List Int, y_ = (List.replicate (ji6 : Int).toNat 0) := ⟨_, rfl⟩
    replace H : (spec_SignsOfWiring.l0 k a0 t213 y216 0) = some (r1, r2, r3) := by first | (rw [hy216]; with_reducible exact H) | (have H2_ := (Option.bind_some _ _).symm.trans H; rw [hy216]; with_reducible exact H2_) | (have H2_ := (Option.bind_some _ _).symm.trans H; with_reducible exact H2_) | with_reducible exact H | (rw [hy216]; exact H) | exact H
    have Ny216 := Aside0.mk hy216
    clear hy216
    have H' := Aside0.mk H
    clear H
    go_enter Try.func18, Try.ntmps18
    go_wp2_with (first | ((with_reducible refine gate_dst (N := 4) rfl ?_); refine bx 4 #[.int .i64 0, .string (⟨#[]⟩ : ByteArray)] 28 ?_; intro gb211 hg w9 hbox hb; have BK211 := Aside0.mk hbox; have GE211 := gs HB hg; have GW211 := GE211; replace HB := bs HB hb; clear hb hbox hg) | ((with_reducible refine gate_callee (f := 46) rfl ?_); refine gL (some 15) rfl rfl Try.func46 (by kernel_rfl) rfl #[.int .i64 a0, .slice A1 l1.length c1] rfl ?_; (with_reducible refine (spec_IsWiring.calls k a0 _ _ l1 true _ ?side1 ?side2 A3.out).mono ?_); (case side1 => repeat (first | exact (Kd.C_below HR1.out HB.out) | (with_reducible refine Kd.C_alloc ?_ _) | (with_reducible refine Kd.C_drewN ?_ _) | (with_reducible refine Kd.C_drew ?_))); (case side2 => exact HC1.out); rintro e w10 ⟨rfl, hb⟩; refine ⟨_, rfl, ?_⟩; have n0_ := Aside0.mk (blk_below (g := gb211) (o := .cells #[.int .i64 0, .string (⟨#[]⟩ : ByteArray)] 28 (0, 0)) (bk BK211) hb); have n1_ := bsg HB GE211 hb; clear BK211; clear HB; have BK211 := n0_; have HB := n1_; clear n0_ n1_; (try clear hb); (try clear hb2); (try clear hk); (try clear hi)) | ((with_reducible refine gate_callee (f := 55) rfl ?_); refine gL (some 20) rfl rfl Try.func55 (by kernel_rfl) rfl #[.int .i64 a0, .slice A1 l1.length c1] rfl ?_; (with_reducible refine (spec_l12Swaps.calls k a0 _ _ l1 t213 _ ?side1 ?side2 A5.out).mono ?_); (case side1 => repeat (first | exact (Kd.C_below HR1.out HB.out) | (with_reducible refine Kd.C_alloc ?_ _) | (with_reducible refine Kd.C_drewN ?_ _) | (with_reducible refine Kd.C_drew ?_))); (case side2 => exact HC1.out); rintro e w11 ⟨v214, rfl, ho0, hb⟩; refine ⟨_, rfl, ?_⟩; have n0_ := Aside0.mk (Kd.S_lower ho0 (below_size (bg HB GE211))); have n1_ := Aside0.mk (blk_below (g := gb211) (o := .cells #[.int .i64 0, .string (⟨#[]⟩ : ByteArray)] 28 (0, 0)) (bk BK211) hb); have n2_ := bsg HB GE211 hb; clear BK211; clear HB; have HO215 := n0_; have BK211 := n1_; have HB := n2_; clear n0_ n1_ n2_; (try clear hb); (try clear hb2); (try clear hk); (try clear hi); (try clear ho0)) | ((with_reducible refine gate_dst (N := 24) rfl ?_); refine Kd.R_make (Kd.int .i64) _ 3 rfl (N := 24) rfl 22 _ _ rfl ji6 rfl rfl Try.underlying22 (.int .i64 0) 8 info3 rfl (by decide) (by omega) 0 (ok := fun _ => True) (okp := fun _ => True) rfl (fun _ hk => hk) trivial (of_decide_eq_true (by first | (with_reducible assumption) | assumption)) (Nat.le_trans (Nat.mul_le_mul_right _ (of_decide_eq_true (by first | (with_reducible assumption) | assumption) : ji6.toNat ≤ 35184372088832)) (by omega)) (Below.refl _ _) (Nat.le_refl _) ?_; intro v217 w12 ho13 hb hg_ hnew_; clear hg_ hnew_; (first | rw [← Ny216.out] at ho13 | (simp only [Int.reduceToNat] at ho13; rw [← Ny216.out] at ho13)); have n0_ := Aside0.mk (Kd.S_elder' (by (with_reducible repeat (first | apply Kd.S_alloc | apply Kd.S_drewN | apply Kd.S_drew)); exact HO215.out) (Kd.R_base ho13) hb); have n1_ := Aside0.mk (Kd.R_lower ho13 (below_size (bg HB GE211))); have n2_ := Aside0.mk (blk_below (g := gb211) (o := .cells #[.int .i64 0, .string (⟨#[]⟩ : ByteArray)] 28 (0, 0)) (bk BK211) hb); have n3_ := bsg HB GE211 hb; clear HO215; clear BK211; clear HB; have HO215 := n0_; have HO218 := n1_; have BK211 := n2_; have HB := n3_; clear n0_ n1_ n2_ n3_; clear hb ho13))
    go_loopg [8] k (fun kq v8 w' => ∃ (x7_1 : List Int) (x8_1 : Int), v8 = .int .i64 x8_1 ∧ Aside0 (spec_SignsOfWiring.l0 kq a0 t213 x7_1 x8_1 = some (r1, r2, r3)) ∧ Aside0 (kq ≤ k) ∧ Aside0 (Kd.S (Kd.slice 3 (Kd.int .i64)) 22 w' w.heap.size (fun k_ => some k_ ≠ (v217 : Value).ownBlock) v214 t213) ∧ Aside0 (Kd.R (Kd.int .i64) 3 w' w.heap.size (fun _ => True) v217 x7_1) ∧ Aside0 (w'.heap[gb211]? = some (.cells #[.int .i64 0, .string (⟨#[]⟩ : ByteArray)] 28 (0, 0))) ∧ Aside0 (Below w.heap.size w w'))
    case atStart => exact ⟨(y216), (0), (by first | rfl | (simp; done) | (simp [*]; done)), H', ⟨Nat.le_refl _⟩, ⟨by (with_reducible repeat (first | apply Kd.S_alloc | apply Kd.S_drewN | apply Kd.S_drew)); exact Kd.S_mono HO215.out (fun _ hk => hk.2)⟩, ⟨by (with_reducible repeat (first | apply Kd.R_alloc | apply Kd.R_drewN | apply Kd.R_drew)); exact HO218.out⟩, ⟨by (with_reducible repeat (first | refine blk_drewN ?_ _ | refine blk_drew ?_ | refine blk_alloc ?_ _)); exact BK211.out⟩, ⟨(bg HB GE211)⟩⟩
    case round =>
     clear H'
     try clear c1
     try clear p2
     try clear c4
     try clear c5
     try clear p6
     try clear c7
     try clear c7b0
     try clear c7b1
     try clear c8
     try clear c8b0
     try clear c8b1
     obtain ⟨x7_1, x8_1, rfl, HA, HK1, HO_6, HO_7, BK211, HB⟩ := hrel
     cases gk with
     | zero => exact absurd HA.out (by simp [spec_SignsOfWiring.l0])
     | succ k1 =>
      have H := HA.out
      clear HA
      simp only [spec_SignsOfWiring.l0] at H
      by_cases c14 : x8_1 < (t213.length : Int)
      ·rw [if_pos c14] at H
       have c14b0 : decide (x8_1 < (t213.length : Int)) = true := decide_eq_true c14
       clear c14
       by_cases c15 : 0 ≤ x8_1
       ·rw [if_pos c15] at H
        have c15b0 : decide (0 ≤ x8_1) = true := decide_eq_true c15
        clear c15
        by_cases c16 : 0 < ((rd_L1 t213 x8_1).length : Int)
        ·rw [if_pos c16] at H
         have c16b0 : decide (0 < ((rd_L1 t213 x8_1).length : Int)) = true := decide_eq_true c16
         have c16b1 : decide (0 < (rd_L1 t213 x8_1).length) = true := decide_eq_true (by omega)
         clear c16
         by_cases c17 : 1 < ((rd_L1 t213 x8_1).length : Int)
         ·rw [if_pos c17] at H
          have c17b0 : decide (1 < ((rd_L1 t213 x8_1).length : Int)) = true := decide_eq_true c17
          have c17b1 : decide (1 < (rd_L1 t213 x8_1).length) = true := decide_eq_true (by omega)
          clear c17
          obtain ⟨ji18, hji18⟩ : ∃ j_ : Int, (wrap64 ((wrap64 ((rd (rd_L1 t213 x8_1) 0) * a0)) + (rd (rd_L1 t213 x8_1) 1))) = j_ := ⟨_, rfl⟩
          replace H : (if 0 ≤ (ji18) then (if (ji18) < (x7_1.length : Int) then (spec_SignsOfWiring.l0 k1 a0 t213 (x7_1.set ((ji18) : Int).toNat x8_1) (wrap64 (x8_1 + 1))) else (none)) else (none)) = some (r1, r2, r3) := by first | (rw [hji18] at H; exact H) | (simp only [hji18] at H ⊢; exact H)
          have hji18w : (IntKind.i64.wrap ((wrap64 ((rd (rd_L1 t213 x8_1) 0) * a0)) + (rd (rd_L1 t213 x8_1) 1))) = ji18 := (i64_w _).trans hji18
          by_cases c19 : 0 ≤ (ji18)
          ·rw [if_pos c19] at H
           have c19b0 : decide (0 ≤ (ji18)) = true := decide_eq_true c19
           clear c19
           by_cases c20 : (ji18) < (x7_1.length : Int)
           ·rw [if_pos c20] at H
            have c20b0 : decide ((ji18) < (x7_1.length : Int)) = true := decide_eq_true c20
            clear c20
            obtain ⟨y223, hy223⟩ : ∃ y_ : List Int, y_ = (x7_1.set ((ji18) : Int).toNat x8_1) := ⟨_, rfl⟩
            replace H : (spec_SignsOfWiring.l0 k1 a0 t213 y223 (wrap64 (x8_1 + 1))) = some (r1, r2, r3) := by first | (rw [hy223]; with_reducible exact H) | (have H2_ := (Option.bind_some _ _).symm.trans H; rw [hy223]; with_reducible exact H2_) | (have H2_ := (Option.bind_some _ _).symm.trans H; with_reducible exact H2_) | with_reducible exact H | (rw [hy223]; exact H) | exact H
            have Ny223 := Aside0.mk hy223
            clear hy223
            have H' := Aside0.mk H
            clear H
            obtain ⟨Ao22, co22, eo22⟩ := Kd.S_slice HO_6.out
            subst eo22
            try go_wp2
            have n0_ := Aside0.mk (Kd.S_drew HO_6.out)
            have n1_ := Aside0.mk (Kd.R_drew HO_7.out)
            have n2_ := Aside0.mk (blk_drew BK211.out)
            have n3_ := Aside0.mk (below_drew1 HB.out)
            clear HO_6
            clear HO_7
            clear BK211
            clear HB
            have HO_6 := n0_
            have HO_7 := n1_
            have BK211 := n2_
            have HB := n3_
            clear n0_ n1_ n2_ n3_
            have p219 : 0 ≤ (x8_1 : Int) := of_decide_eq_true (by first | (with_reducible assumption) | assumption)
            have q219 : x8_1 < (t213.length : Int) := of_decide_eq_true (by first | (with_reducible assumption) | assumption)
            obtain ⟨ad219, A219_0, c219_0, e219, hx219_0, hl219_0, hi219_0⟩ := at_L1 (Kd.S_reads' HO_6.out).2.2 x8_1 p219 q219
            cases e219
            obtain ⟨ce219, hce219, hMe219, hcc219⟩ := Kd.S_get HO_6.out [] x8_1 p219 (by first | exact q219 | exact of_decide_eq_true (by first | (with_reducible assumption) | assumption) | (have e_ := (Kd.S_reads' HO_6.out).1; omega))
            obtain ⟨ve219_0, rfl, ge219_0⟩ := hMe219
            have hv219_0 := hcc219 0 _ rfl
            rw [Nat.add_zero, show ((Kd.slice 3 (Kd.int .i64))).sz = 1 from rfl, Nat.mul_one] at hv219_0
            replace hv219_0 := Option.some.inj (hv219_0.symm.trans hx219_0)
            rw [hv219_0] at ge219_0
            have HL219_0 := Aside0.mk (show Kd.R (Kd.int .i64) 3 _ _ _ _ (rd_L1 t213 x8_1) from ge219_0)
            clear hv219_0 ge219_0
            clear hcc219 hce219
            have HR219_0 := Aside0.mk hi219_0
            have HC219_0 := Aside0.mk hl219_0
            clear hi219_0 hl219_0
            replace p219 := eq_true p219
            replace q219 := eq_true q219
            have p220 : 0 ≤ (0 : Int) := (by omega)
            have q220 : 0 < ((rd_L1 t213 x8_1).length : Int) := of_decide_eq_true (by first | (with_reducible assumption) | assumption)
            obtain ⟨ad220, e220, hx220_0⟩ := Kd.at_int (by repeat (first | (with_reducible exact HR219_0.out) | (with_reducible refine Kd.C_alloc ?_ _) | (with_reducible refine Kd.C_drewN ?_ _) | (with_reducible refine Kd.C_drew ?_) | exact HR219_0.out)) 0 p220 q220
            cases e220
            have qi220 : (0 < (rd_L1 t213 x8_1).length) = True := eq_true (by omega)
            (try rw [show ((0 : Int)).toNat = 0 from rfl] at hx220_0)
            (try rw [Addr.add_zero'] at hx220_0)
            replace p220 := eq_true p220
            replace q220 := eq_true q220
            have p221 : 0 ≤ (x8_1 : Int) := of_decide_eq_true (by first | (with_reducible assumption) | assumption)
            have q221 : x8_1 < (t213.length : Int) := of_decide_eq_true (by first | (with_reducible assumption) | assumption)
            obtain ⟨ad221, A221_0, c221_0, e221, hx221_0, hl221_0, hi221_0⟩ := at_L1 (Kd.S_reads' HO_6.out).2.2 x8_1 p221 q221
            obtain rfl : ad219 = ad221 := (by injection e221)
            obtain ⟨ce221, hce221, hMe221, hcc221⟩ := Kd.S_get HO_6.out [] x8_1 p221 (by first | exact q221 | exact of_decide_eq_true (by first | (with_reducible assumption) | assumption) | (have e_ := (Kd.S_reads' HO_6.out).1; omega))
            obtain ⟨ve221_0, rfl, ge221_0⟩ := hMe221
            have hv221_0 := hcc221 0 _ rfl
            rw [Nat.add_zero, show ((Kd.slice 3 (Kd.int .i64))).sz = 1 from rfl, Nat.mul_one] at hv221_0
            replace hv221_0 := Option.some.inj (hv221_0.symm.trans hx221_0)
            rw [hv221_0] at ge221_0
            have HL221_0 := Aside0.mk (show Kd.R (Kd.int .i64) 3 _ _ _ _ (rd_L1 t213 x8_1) from ge221_0)
            clear hv221_0 ge221_0
            clear hcc221 hce221
            have HR221_0 := Aside0.mk hi221_0
            have HC221_0 := Aside0.mk hl221_0
            clear hi221_0 hl221_0
            replace p221 := eq_true p221
            replace q221 := eq_true q221
            have ea_ := Option.some.inj (hx219_0.symm.trans hx221_0)
            injection ea_ with ea_ en_ ec_
            subst ea_
            subst ec_
            clear en_
            have p222 : 0 ≤ (1 : Int) := (by omega)
            have q222 : 1 < ((rd_L1 t213 x8_1).length : Int) := of_decide_eq_true (by first | (with_reducible assumption) | assumption)
            obtain ⟨ad222, e222, hx222_0⟩ := Kd.at_int (by repeat (first | (with_reducible exact HR221_0.out) | (with_reducible refine Kd.C_alloc ?_ _) | (with_reducible refine Kd.C_drewN ?_ _) | (with_reducible refine Kd.C_drew ?_) | exact HR221_0.out)) 1 p222 q222
            cases e222
            (try simp only [show (1 : Int).toNat = 1 from rfl, Nat.reduceMul, Nat.reduceEqDiff, Go.Addr.add, ↓reduceIte] at hx222_0)
            have qi222 : (1 < (rd_L1 t213 x8_1).length) = True := eq_true (by omega)
            (try rw [show ((1 : Int)).toNat = 1 from rfl] at hx222_0)
            replace p222 := eq_true p222
            replace q222 := eq_true q222
            have p21 : 0 ≤ ((ji18) : Int) := of_decide_eq_true (by first | (with_reducible assumption) | assumption)
            have q21 : ((ji18) : Int) < ((x7_1.length : Int) : Int) := of_decide_eq_true (by first | (with_reducible assumption) | assumption)
            obtain ⟨go21, co21, eo21, gb21, gl21, cl21, HG21⟩ := Kd.R_form HO_7.out (by omega)
            (first | cases eo21 | (injection eo21 with ea_ en_ ec_; (first | subst ea_ | (injection ea_ with ea_; subst ea_)); subst ec_; clear en_))
            have GB21 := Aside0.mk gb21
            have GG21 := Aside0.mk HG21
            clear gb21 gl21 HG21
            obtain ⟨hx21_0, hf21_0⟩ := Kd.R_celln 0 HO_7.out ((ji18) : Int) p21 q21
            replace p21 := eq_true p21
            replace q21 := eq_true q21
            have HP24 := Kd.R_putn HO_7.out ((ji18) : Int) x8_1
            rw [← Ny223.out] at HP24
            have HQ24 := Aside0.mk HP24
            clear HP24
            refine start_ (n := 19) (S := fun w' => w'.cell? (ad219.add (x8_1).toNat) = some (.slice (some ad220) (rd_L1 t213 x8_1).length c219_0) ∧ w'.cell? ad220 = some (.int .i64 (rd (rd_L1 t213 x8_1) 0)) ∧ w'.cell? (ad219.add (x8_1).toNat) = some (.slice (some ad220) (rd_L1 t213 x8_1).length c219_0) ∧ w'.cell? ⟨ad220.block, ad220.off + 1, none⟩ = some (.int .i64 (rd (rd_L1 t213 x8_1) 1))) (ds := [18]) #[false, false, false, false, false, false, false, false, false, false, false, false, false, false, false, false, false, false, false] (by kernel_rfl) rfl rfl ⟨hx219_0, hx220_0, hx221_0, hx222_0⟩ (fun hHeld => ?_); refine with_tabW spec_SignsOfWiring.tab8 spec_SignsOfWiring.bits8 (fun HT_ HW_ => ?_)
            generalize wr.drew = w23 at HO_6 HO_7 BK211 HB GG21 HL219_0 HL221_0 HQ24 HR219_0 HR221_0 hf21_0 hx219_0 hx21_0 hx220_0 hx221_0 hx222_0 hHeld ⊢
            refine pu 0 31 HT_ ?_
            refine pu 1 32 HT_ ?_
            refine pu 2 33 HT_ ?_
            refine pu 3 34 HT_ ?_
            refine pu 7 38 HT_ ?_
            refine pu 9 40 HT_ ?_
            refine pu 10 41 HT_ ?_
            refine pu 11 42 HT_ ?_
            refine pu 16 47 HT_ ?_
            refine take_ (i := 4) (N := some 35) (v := ?_) (a' := ?_) #[true, true, true, true, true, false, false, true, false, true, true, true, false, false, false, false, true, false, false] rfl rfl (take_ofW HT_.out HW_.out (by kernel_rfl)) (fun _ _ _ h => h) (Or.inl ⟨by rfl, ?_⟩) hHeld ?_ ?_
            rotate_left
            ·rintro w' ⟨s0, s1, s2, s3⟩
             go_simp
             with_reducible rfl
            rotate_left
            ·simp only [Act.put, List.setIfInBounds_toArray, List.set_cons_zero, List.set_cons_succ, i64_w, i32_w]
             rfl
            refine pu 5 36 HT_ ?_
            refine take_ (i := 6) (N := some 37) (v := ?_) (a' := ?_) #[true, true, true, true, true, true, true, true, false, true, true, true, false, false, false, false, true, false, false] rfl rfl (take_ofW HT_.out HW_.out (by kernel_rfl)) (fun _ _ _ h => h) (Or.inl ⟨by rfl, ?_⟩) hHeld ?_ ?_
            rotate_left
            ·rintro w' ⟨s0, s1, s2, s3⟩
             go_simp
             with_reducible rfl
            rotate_left
            ·simp only [Act.put, List.setIfInBounds_toArray, List.set_cons_zero, List.set_cons_succ, i64_w, i32_w]
             rfl
            refine pu 8 39 HT_ ?_
            refine take_ (i := 12) (N := some 43) (v := ?_) (a' := ?_) #[true, true, true, true, true, true, true, true, true, true, true, true, true, false, false, false, true, false, false] rfl rfl (take_ofW HT_.out HW_.out (by kernel_rfl)) (fun _ _ _ h => h) (Or.inl ⟨by rfl, ?_⟩) hHeld ?_ ?_
            rotate_left
            ·rintro w' ⟨s0, s1, s2, s3⟩
             go_simp
             with_reducible rfl
            rotate_left
            ·simp only [Act.put, List.setIfInBounds_toArray, List.set_cons_zero, List.set_cons_succ, i64_w, i32_w]
             rfl
            refine pu 13 44 HT_ ?_
            refine take_ (i := 14) (N := some 45) (v := ?_) (a' := ?_) #[true, true, true, true, true, true, true, true, true, true, true, true, true, true, true, false, true, false, false] rfl rfl (take_ofW HT_.out HW_.out (by kernel_rfl)) (fun _ _ _ h => h) (Or.inl ⟨by rfl, ?_⟩) hHeld ?_ ?_
            rotate_left
            ·rintro w' ⟨s0, s1, s2, s3⟩
             go_simp
             with_reducible rfl
            rotate_left
            ·simp only [Act.put, List.setIfInBounds_toArray, List.set_cons_zero, List.set_cons_succ, i64_w, i32_w]
             rfl
            refine pu 15 46 HT_ ?_
            refine pu 17 48 HT_ ?_
            refine last_ (i := 18) (N := none) #[true, true, true, true, true, true, true, true, true, true, true, true, true, true, true, true, true, true, true] rfl rfl (one_of HT_.out (by kernel_rfl)) (by decide) (fun K hK => ?_)
            refine skip_ (w1 := ?_) (by rfl) rfl ?_ ?_
            rotate_left
            ·go_simp
             rfl
            refine hK.out _ _ ?_
            clear hK K
            refine done_ (done_of HT_.out (by kernel_rfl)) ?_
            try go_wp2
            go_roundg k1
            case measure => have := HK1.out; omega
            case rel => exact ⟨(y223), (wrap64 (x8_1 + 1)), (by first | rfl | (simp; done) | (simp [*]; done)), H', ⟨by have := HK1.out; omega⟩, ⟨by (with_reducible repeat (first | apply Kd.S_alloc | apply Kd.S_drewN | apply Kd.S_drew)); exact Kd.S_mono (Kd.S_far (p := ⟨go21, ((ji18) : Int).toNat, none⟩) (Kd.S_mono HO_6.out (fun k_ hk => (⟨hk, fun e_ => hk (by rw [e_]; rfl)⟩ : _ ∧ k_ ≠ go21))) (fun _ hk => hk.2) (.int .i64 x8_1)) (fun _ hk => hk.1)⟩, ⟨by (with_reducible repeat (first | apply Kd.R_alloc | apply Kd.R_drewN | apply Kd.R_drew)); exact HQ24.out⟩, ⟨by (with_reducible repeat (first | refine blk_drewN ?_ _ | refine blk_drew ?_ | refine blk_alloc ?_ _)); refine blk_far ?_ (by have h_ := Kd.R_ne HO_7.out BK211.out (by decide); intro e_; exact h_ (by rw [e_]; rfl)) _; (with_reducible repeat (first | refine blk_drewN ?_ _ | refine blk_drew ?_ | refine blk_alloc ?_ _)); exact BK211.out⟩, ⟨by repeat (first | (with_reducible first | exact HB.out | apply below_alloc | apply pw_below_drewN | apply below_drew1 | refine below_set ?_ GB21.out | refine below_set ?_ GE211.out) | exact HB.out)⟩⟩
           ·rw [if_neg c20] at H
            exact absurd H (by simp)
          ·rw [if_neg c19] at H
           exact absurd H (by simp)
         ·rw [if_neg c17] at H
          exact absurd H (by simp)
        ·rw [if_neg c16] at H
         exact absurd H (by simp)
       ·rw [if_neg c15] at H
        exact absurd H (by simp)
      ·rw [if_neg c14] at H
       have c14b0 : decide (x8_1 < (t213.length : Int)) = false := decide_eq_false c14
       clear c14
       have H' := Aside0.mk H
       clear H
       obtain ⟨Ao25, co25, eo25⟩ := Kd.S_slice HO_6.out
       subst eo25
       go_wp2_with (first | ((with_reducible refine gate_dst (N := 9) rfl ?_); refine bx 9 #[.int .i64 0, .string (⟨#[]⟩ : ByteArray)] 28 ?_; intro gb224 hg w26 hbox hb; have n0_ := Aside0.mk (Kd.S_below (by (with_reducible repeat (first | apply Kd.S_alloc | apply Kd.S_drewN | apply Kd.S_drew)); exact HO_6.out) hb); have n1_ := Aside0.mk (Kd.R_below (rr HO_7) hb); have n2_ := Aside0.mk (blk_below (g := gb211) (o := .cells #[.int .i64 0, .string (⟨#[]⟩ : ByteArray)] 28 (0, 0)) (bk BK211) hb); have n3_ := bsg HB GE211 hb; have n4_ := Aside0.mk (hbox); have n5_ := Aside0.mk ((by rw [hg]; exact (below_size (bg HB GE211)) : w.heap.size ≤ gb224)); have n6_ := Aside0.mk ((by rw [hg]; exact (below_size (bg HB GE211)) : w.heap.size ≤ gb224)); have n7_ := Aside0.mk ((by rw [hg]; exact Nat.ne_of_lt (blk_lt (g := gb211) (o := .cells #[.int .i64 0, .string (⟨#[]⟩ : ByteArray)] 28 (0, 0)) (bk BK211)) : gb211 ≠ gb224)); have n8_ := Aside0.mk ((by rw [hg]; exact Nat.ne_of_gt (blk_lt (g := gb211) (o := .cells #[.int .i64 0, .string (⟨#[]⟩ : ByteArray)] 28 (0, 0)) (bk BK211)) : gb224 ≠ gb211)); clear HO_6; clear HO_7; clear BK211; clear HB; have HO_6 := n0_; have HO_7 := n1_; have BK211 := n2_; have HB := n3_; have BK224 := n4_; have GW224 := n5_; have GE224 := n6_; have NB211_224 := n7_; have NB224_211 := n8_; clear n0_ n1_ n2_ n3_ n4_ n5_ n6_ n7_ n8_; clear hb hbox hg; have hnb27 := NB224_211.out; have hnc27 := NB211_224.out; have hcz28_0 := bc BK224 0; have hcz28_1 := bc BK224 1; have hfz28_0 := bf BK224 0; have hfz28_1 := bf BK224 1))
       go_loopg [10] k1 (fun kq v10 w' => ∃ (x10_2 : Int) (x225001_2 : ByteArray), v10 = .int .i64 x10_2 ∧ Aside0 (spec_SignsOfWiring.l1 kq a0 x7_1 x10_2 a0 x225001_2 = some (r1, r2, r3)) ∧ Aside0 (kq ≤ k1) ∧ Aside0 (Kd.R (Kd.int .i64) 3 w' w.heap.size (fun _ => True) v217 x7_1) ∧ Aside0 (w'.heap[gb211]? = some (.cells #[.int .i64 0, .string (⟨#[]⟩ : ByteArray)] 28 (0, 0))) ∧ Aside0 (w'.heap[gb224]? = some (.cells #[.int .i64 a0, .string x225001_2] 28 (0, 0))) ∧ Aside0 (Below w.heap.size w w'))
       case atStart => exact ⟨(0), ((⟨#[]⟩ : ByteArray)), (by first | rfl | (simp; done) | (simp [*]; done)), H', ⟨Nat.le_refl _⟩, ⟨by (with_reducible repeat (first | apply Kd.R_alloc | apply Kd.R_drewN | apply Kd.R_drew)); exact Kd.R_mono (Kd.R_far (p := ⟨gb224, 1, none⟩) (Kd.R_far (p := ⟨gb224, 0, none⟩) (Kd.R_types HO_7.out BK224.out (by decide)) (fun _ hk => hk.2) (.int .i64 a0)) (fun _ hk => hk.2) (.string (⟨#[]⟩ : ByteArray))) (fun _ hk => trivial)⟩, ⟨by (with_reducible repeat (first | refine blk_drewN ?_ _ | refine blk_drew ?_ | refine blk_alloc ?_ _)); refine blk_far ?_ NB211_224.out _; (with_reducible repeat (first | refine blk_drewN ?_ _ | refine blk_drew ?_ | refine blk_alloc ?_ _)); refine blk_far ?_ NB211_224.out _; (with_reducible repeat (first | refine blk_drewN ?_ _ | refine blk_drew ?_ | refine blk_alloc ?_ _)); exact BK211.out⟩, ⟨by (with_reducible repeat (first | refine blk_drewN ?_ _ | refine blk_drew ?_ | refine blk_alloc ?_ _)); refine blk_put (cs := #[.int .i64 a0, .string (⟨#[]⟩ : ByteArray)]) ?_ 1 _ rfl; (with_reducible repeat (first | refine blk_drewN ?_ _ | refine blk_drew ?_ | refine blk_alloc ?_ _)); refine blk_put (cs := #[.int .i64 0, .string (⟨#[]⟩ : ByteArray)]) ?_ 0 _ rfl; (with_reducible repeat (first | refine blk_drewN ?_ _ | refine blk_drew ?_ | refine blk_alloc ?_ _)); exact BK224.out⟩, ⟨by repeat (first | (with_reducible first | exact HB.out | apply below_alloc | apply pw_below_drewN | apply below_drew1 | refine below_set ?_ GE211.out | refine below_set ?_ GE224.out) | exact HB.out)⟩⟩
       case round =>
        clear H'
        try clear c1
        try clear c2
        try clear p2
        try clear q2
        try clear hx2
        try clear qi2
        try clear hf2
        try clear c4
        try clear c5
        try clear p6
        try clear c7
        try clear c7b0
        try clear c7b1
        try clear c8
        try clear c8b0
        try clear c8b1
        try clear c14
        try clear c14b0
        try clear c15
        try clear c15b0
        try clear c16
        try clear c16b0
        try clear c16b1
        try clear c17
        try clear c17b0
        try clear c17b1
        try clear c18
        try clear c19
        try clear c19b0
        try clear c20
        try clear c20b0
        try clear c21
        try clear p21
        try clear q21
        try clear hx21
        try clear hf21
        try clear c22
        try clear p22
        try clear q22
        try clear hx22
        try clear qi22
        try clear c27
        try clear hcz28_0
        try clear hcz28_1
        try clear hfz28_0
        try clear hfz28_1
        try clear hx219_0
        try clear hx21_0
        try clear hx220_0
        try clear hx221_0
        try clear hx222_0
        try clear p2
        try clear p21
        try clear p219
        try clear p220
        try clear p221
        try clear p222
        try clear p6
        try clear q21
        try clear q219
        try clear q220
        try clear q221
        try clear q222
        obtain ⟨x10_2, x225001_2, rfl, HA, HK2, HO_7, BK211, BK224, HB⟩ := hrel
        cases gk with
        | zero => exact absurd HA.out (by simp [spec_SignsOfWiring.l1])
        | succ k2 =>
         have H := HA.out
         clear HA
         simp only [spec_SignsOfWiring.l1] at H
         by_cases c29 : x10_2 < a0
         ·rw [if_pos c29] at H
          have c29b0 : decide (x10_2 < a0) = true := decide_eq_true c29
          clear c29
          have H' := Aside0.mk H
          clear H
          go_wp2
          go_loopg [11] k2 (fun kq v11 w' => ∃ (x11_3 : Int) (x225001_3 : ByteArray), v11 = .int .i64 x11_3 ∧ Aside0 (spec_SignsOfWiring.l2 kq a0 x7_1 x10_2 x11_3 a0 x225001_3 = some (r1, r2, r3)) ∧ Aside0 (kq ≤ k2) ∧ Aside0 (Kd.R (Kd.int .i64) 3 w' w.heap.size (fun _ => True) v217 x7_1) ∧ Aside0 (w'.heap[gb211]? = some (.cells #[.int .i64 0, .string (⟨#[]⟩ : ByteArray)] 28 (0, 0))) ∧ Aside0 (w'.heap[gb224]? = some (.cells #[.int .i64 a0, .string x225001_3] 28 (0, 0))) ∧ Aside0 (Below w.heap.size w w'))
          case atStart => exact ⟨(wrap64 (x10_2 + 1)), (x225001_2), (by first | rfl | (simp; done) | (simp [*]; done)), H', ⟨Nat.le_refl _⟩, ⟨by (with_reducible repeat (first | apply Kd.R_alloc | apply Kd.R_drewN | apply Kd.R_drew)); exact HO_7.out⟩, ⟨by (with_reducible repeat (first | refine blk_drewN ?_ _ | refine blk_drew ?_ | refine blk_alloc ?_ _)); exact BK211.out⟩, ⟨by (with_reducible repeat (first | refine blk_drewN ?_ _ | refine blk_drew ?_ | refine blk_alloc ?_ _)); exact BK224.out⟩, ⟨by repeat (first | (with_reducible first | exact HB.out | apply below_alloc | apply pw_below_drewN | apply below_drew1 | refine below_set ?_ GE211.out | refine below_set ?_ GE224.out) | exact HB.out)⟩⟩
          case round =>
           clear H'
           try clear c1
           try clear c2
           try clear p2
           try clear q2
           try clear hx2
           try clear qi2
           try clear hf2
           try clear c4
           try clear c5
           try clear p6
           try clear c7
           try clear c7b0
           try clear c7b1
           try clear c8
           try clear c8b0
           try clear c8b1
           try clear c14
           try clear c14b0
           try clear c15
           try clear c15b0
           try clear c16
           try clear c16b0
           try clear c16b1
           try clear c17
           try clear c17b0
           try clear c17b1
           try clear c18
           try clear c19
           try clear c19b0
           try clear c20
           try clear c20b0
           try clear c21
           try clear p21
           try clear q21
           try clear hx21
           try clear hf21
           try clear c22
           try clear p22
           try clear q22
           try clear hx22
           try clear qi22
           try clear c27
           try clear c29
           try clear c29b0
           try clear hcz28_0
           try clear hcz28_1
           try clear hfz28_0
           try clear hfz28_1
           try clear hx219_0
           try clear hx21_0
           try clear hx220_0
           try clear hx221_0
           try clear hx222_0
           try clear p2
           try clear p21
           try clear p219
           try clear p22
           try clear p220
           try clear p221
           try clear p222
           try clear p6
           try clear q2
           try clear q21
           try clear q219
           try clear q22
           try clear q220
           try clear q221
           try clear q222
           obtain ⟨x11_3, x225001_3, rfl, HA, HK3, HO_7, BK211, BK224, HB⟩ := hrel
           cases gk with
           | zero => exact absurd HA.out (by simp [spec_SignsOfWiring.l2])
           | succ k3 =>
            have H := HA.out
            clear HA
            simp only [spec_SignsOfWiring.l2] at H
            by_cases c30 : x11_3 < a0
            ·rw [if_pos c30] at H
             have c30b0 : decide (x11_3 < a0) = true := decide_eq_true c30
             clear c30
             have H' := Aside0.mk H
             clear H
             go_wp2
             go_loopg [12] k3 (fun kq v12 w' => ∃ (x12_4 : Int) (x225001_4 : ByteArray), v12 = .int .i64 x12_4 ∧ Aside0 (spec_SignsOfWiring.l3 kq a0 x7_1 x10_2 x11_3 x12_4 a0 x225001_4 = some (r1, r2, r3)) ∧ Aside0 (kq ≤ k3) ∧ Aside0 (Kd.R (Kd.int .i64) 3 w' w.heap.size (fun _ => True) v217 x7_1) ∧ Aside0 (w'.heap[gb211]? = some (.cells #[.int .i64 0, .string (⟨#[]⟩ : ByteArray)] 28 (0, 0))) ∧ Aside0 (w'.heap[gb224]? = some (.cells #[.int .i64 a0, .string x225001_4] 28 (0, 0))) ∧ Aside0 (Below w.heap.size w w'))
             case atStart => exact ⟨(wrap64 (x11_3 + 1)), (x225001_3), (by first | rfl | (simp; done) | (simp [*]; done)), H', ⟨Nat.le_refl _⟩, ⟨by (with_reducible repeat (first | apply Kd.R_alloc | apply Kd.R_drewN | apply Kd.R_drew)); exact HO_7.out⟩, ⟨by (with_reducible repeat (first | refine blk_drewN ?_ _ | refine blk_drew ?_ | refine blk_alloc ?_ _)); exact BK211.out⟩, ⟨by (with_reducible repeat (first | refine blk_drewN ?_ _ | refine blk_drew ?_ | refine blk_alloc ?_ _)); exact BK224.out⟩, ⟨by repeat (first | (with_reducible first | exact HB.out | apply below_alloc | apply pw_below_drewN | apply below_drew1 | refine below_set ?_ GE211.out | refine below_set ?_ GE224.out) | exact HB.out)⟩⟩
             case round =>
              clear H'
              try clear c1
              try clear c2
              try clear p2
              try clear q2
              try clear hx2
              try clear qi2
              try clear hf2
              try clear c3
              try clear c4
              try clear c5
              try clear p6
              try clear c7
              try clear c7b0
              try clear c7b1
              try clear c8
              try clear c8b0
              try clear c8b1
              try clear c14
              try clear c14b0
              try clear c15
              try clear c15b0
              try clear c16
              try clear c16b0
              try clear c16b1
              try clear c17
              try clear c17b0
              try clear c17b1
              try clear c18
              try clear c19
              try clear c19b0
              try clear c20
              try clear c20b0
              try clear c21
              try clear p21
              try clear q21
              try clear hx21
              try clear hf21
              try clear c22
              try clear p22
              try clear q22
              try clear hx22
              try clear qi22
              try clear c27
              try clear c29
              try clear c29b0
              try clear c30
              try clear c30b0
              try clear hcz28_0
              try clear hcz28_1
              try clear hfz28_0
              try clear hfz28_1
              try clear hx219_0
              try clear hx21_0
              try clear hx220_0
              try clear hx221_0
              try clear hx222_0
              try clear p2
              try clear p21
              try clear p219
              try clear p22
              try clear p220
              try clear p221
              try clear p222
              try clear p6
              try clear q2
              try clear q21
              try clear q219
              try clear q22
              try clear q220
              try clear q221
              try clear q222
              obtain ⟨x12_4, x225001_4, rfl, HA, HK4, HO_7, BK211, BK224, HB⟩ := hrel
              cases gk with
              | zero => exact absurd HA.out (by simp [spec_SignsOfWiring.l3])
              | succ k4 =>
               have H := HA.out
               clear HA
               simp only [spec_SignsOfWiring.l3] at H
               by_cases c31 : x12_4 < a0
               ·rw [if_pos c31] at H
                have c31b0 : decide (x12_4 < a0) = true := decide_eq_true c31
                clear c31
                obtain ⟨ji32, hji32⟩ : ∃ j_ : Int, (wrap64 ((wrap64 (x10_2 * a0)) + x11_3)) = j_ := ⟨_, rfl⟩
                replace H : (if 0 ≤ (ji32) then (if (ji32) < (x7_1.length : Int) then (if 0 ≤ (wrap64 ((wrap64 (x11_3 * a0)) + x12_4)) then (if (wrap64 ((wrap64 (x11_3 * a0)) + x12_4)) < (x7_1.length : Int) then ((spec_l1Bit.f (decide ((rd x7_1 (ji32)) < (rd x7_1 (wrap64 ((wrap64 (x11_3 * a0)) + x12_4)))))).bind fun t227 => ((spec_l3Byte.f t227).bind fun t228 => (if x225001_4.size + t228.size ≤ 9223372036854775807 then (spec_SignsOfWiring.l3 k4 a0 x7_1 x10_2 x11_3 (wrap64 (x12_4 + 1)) a0 (x225001_4 ++ t228)) else (none)))) else (none)) else (none)) else (none)) else (none)) = some (r1, r2, r3) := by first | (rw [hji32] at H; exact H) | (simp only [hji32] at H ⊢; exact H)
                have hji32w : (IntKind.i64.wrap ((wrap64 (x10_2 * a0)) + x11_3)) = ji32 := (i64_w _).trans hji32
                by_cases c33 : 0 ≤ (ji32)
                ·rw [if_pos c33] at H
                 have c33b0 : decide (0 ≤ (ji32)) = true := decide_eq_true c33
                 clear c33
                 by_cases c34 : (ji32) < (x7_1.length : Int)
                 ·rw [if_pos c34] at H
                  have c34b0 : decide ((ji32) < (x7_1.length : Int)) = true := decide_eq_true c34
                  clear c34
                  obtain ⟨ji35, hji35⟩ : ∃ j_ : Int, (wrap64 ((wrap64 (x11_3 * a0)) + x12_4)) = j_ := ⟨_, rfl⟩
                  replace H : (if 0 ≤ (ji35) then (if (ji35) < (x7_1.length : Int) then ((spec_l1Bit.f (decide ((rd x7_1 (ji32)) < (rd x7_1 (ji35))))).bind fun t227 => ((spec_l3Byte.f t227).bind fun t228 => (if x225001_4.size + t228.size ≤ 9223372036854775807 then (spec_SignsOfWiring.l3 k4 a0 x7_1 x10_2 x11_3 (wrap64 (x12_4 + 1)) a0 (x225001_4 ++ t228)) else (none)))) else (none)) else (none)) = some (r1, r2, r3) := by first | (rw [hji35] at H; exact H) | (simp only [hji35] at H ⊢; exact H)
                  have hji35w : (IntKind.i64.wrap ((wrap64 (x11_3 * a0)) + x12_4)) = ji35 := (i64_w _).trans hji35
                  by_cases c36 : 0 ≤ (ji35)
                  ·rw [if_pos c36] at H
                   have c36b0 : decide (0 ≤ (ji35)) = true := decide_eq_true c36
                   clear c36
                   by_cases c37 : (ji35) < (x7_1.length : Int)
                   ·rw [if_pos c37] at H
                    have c37b0 : decide ((ji35) < (x7_1.length : Int)) = true := decide_eq_true c37
                    clear c37
                    replace H := Option.bind_eq_some_iff.mp H
                    obtain ⟨t227, A380, H⟩ := H
                    (try dsimp only at H)
                    have A38 := Aside0.mk A380
                    clear A380
                    replace H := Option.bind_eq_some_iff.mp H
                    obtain ⟨t228, A390, H⟩ := H
                    (try dsimp only at H)
                    have A39 := Aside0.mk A390
                    clear A390
                    by_cases c40 : x225001_4.size + t228.size ≤ 9223372036854775807
                    ·rw [if_pos c40] at H
                     have c40b0 := eq_true c40
                     have c40b1 : decide (x225001_4.size + t228.size ≤ 9223372036854775807) = true := decide_eq_true c40
                     try have c40b2 : (9223372036854775807 < x225001_4.size + t228.size) = False := eq_false (Nat.not_lt.2 c40)
                     have H' := Aside0.mk H
                     clear H
                     try go_wp2
                     have n0_ := Aside0.mk (Kd.R_drew HO_7.out)
                     have n1_ := Aside0.mk (blk_drew BK211.out)
                     have n2_ := Aside0.mk (blk_drew BK224.out)
                     have n3_ := Aside0.mk (below_drew1 HB.out)
                     clear HO_7
                     clear BK211
                     clear BK224
                     clear HB
                     have HO_7 := n0_
                     have BK211 := n1_
                     have BK224 := n2_
                     have HB := n3_
                     clear n0_ n1_ n2_ n3_
                     obtain ⟨Ao42, co42, eo42⟩ := Kd.R_slice HO_7.out
                     (first | subst eo42 | (injection eo42 with f1_ f2_ f3_; have f4_ := f1_.symm; have f5_ := f3_.symm; clear f1_ f2_ f3_; subst f4_; subst f5_))
                     have p225 : 0 ≤ ((ji32) : Int) := of_decide_eq_true (by first | (with_reducible assumption) | assumption)
                     have q225 : (ji32) < (x7_1.length : Int) := of_decide_eq_true (by first | (with_reducible assumption) | assumption)
                     obtain ⟨ad225, e225, hx225_0⟩ := Kd.at_int (Kd.R_reads' HO_7.out).2.2 (ji32) p225 q225
                     cases e225
                     replace p225 := eq_true p225
                     replace q225 := eq_true q225
                     have p226 : 0 ≤ ((ji35) : Int) := of_decide_eq_true (by first | (with_reducible assumption) | assumption)
                     have q226 : (ji35) < (x7_1.length : Int) := of_decide_eq_true (by first | (with_reducible assumption) | assumption)
                     obtain ⟨ad226, e226, hx226_0⟩ := Kd.at_int (Kd.R_reads' HO_7.out).2.2 (ji35) p226 q226
                     obtain rfl : ad225 = ad226 := (by injection e226)
                     replace p226 := eq_true p226
                     replace q226 := eq_true q226
                     refine start_ (n := 24) (S := fun w' => w'.cell? ⟨gb224, 0, none⟩ = some (.int .i64 a0) ∧ w'.cell? ⟨gb224, 1, none⟩ = some (.string x225001_4) ∧ w'.cell? (ad225.add ((ji32)).toNat) = some (.int .i64 (rd x7_1 (ji32))) ∧ w'.cell? (ad225.add ((ji35)).toNat) = some (.int .i64 (rd x7_1 (ji35)))) (ds := [23]) #[false, false, false, false, false, false, false, false, false, false, false, false, false, false, false, false, false, false, false, false, false, false, false, false] (by kernel_rfl) rfl rfl ⟨(blk_cell BK224.out 0).trans rfl, (blk_cell BK224.out 1).trans rfl, hx225_0, hx226_0⟩ (fun hHeld => ?_); refine with_tabW spec_SignsOfWiring.tab19 spec_SignsOfWiring.bits19 (fun HT_ HW_ => ?_)
                     generalize wr.drew = w41 at HO_7 BK211 BK224 HB hx225_0 hx226_0 hHeld ⊢
                     refine pu 0 70 HT_ ?_
                     refine pu 2 72 HT_ ?_
                     refine pu 3 73 HT_ ?_
                     refine pu 4 74 HT_ ?_
                     refine pu 5 75 HT_ ?_
                     refine pu 6 76 HT_ ?_
                     refine pu 7 77 HT_ ?_
                     refine pu 8 78 HT_ ?_
                     refine pu 10 80 HT_ ?_
                     refine pu 11 81 HT_ ?_
                     refine pu 12 82 HT_ ?_
                     refine pu 13 83 HT_ ?_
                     refine pu 14 84 HT_ ?_
                     refine pu 15 85 HT_ ?_
                     refine pu 16 86 HT_ ?_
                     refine take_ (i := 1) (N := some 71) (v := ?_) (a' := ?_) #[true, true, true, true, true, true, true, true, true, false, true, true, true, true, true, true, true, false, false, false, false, false, false, false] rfl rfl (take_ofW HT_.out HW_.out (by kernel_rfl)) (fun _ _ _ h => h) (Or.inl ⟨by rfl, ?_⟩) hHeld ?_ ?_
                     rotate_left
                     ·rintro w' ⟨s0, s1, s2, s3⟩
                      go_simp
                      with_reducible rfl
                     rotate_left
                     ·simp only [Act.put, List.setIfInBounds_toArray, List.set_cons_zero, List.set_cons_succ, i64_w, i32_w]
                      rfl
                     refine take_ (i := 9) (N := some 79) (v := ?_) (a' := ?_) #[true, true, true, true, true, true, true, true, true, true, true, true, true, true, true, true, true, false, false, false, false, false, false, false] rfl rfl (take_ofW HT_.out HW_.out (by kernel_rfl)) (fun _ _ _ h => h) (Or.inl ⟨by rfl, ?_⟩) hHeld ?_ ?_
                     rotate_left
                     ·rintro w' ⟨s0, s1, s2, s3⟩
                      go_simp
                      with_reducible rfl
                     rotate_left
                     ·simp only [Act.put, List.setIfInBounds_toArray, List.set_cons_zero, List.set_cons_succ, i64_w, i32_w]
                      rfl
                     refine take_ (i := 17) (N := some 87) (v := ?_) (a' := ?_) #[true, true, true, true, true, true, true, true, true, true, true, true, true, true, true, true, true, true, false, false, false, false, false, false] rfl rfl (take_ofW HT_.out HW_.out (by kernel_rfl)) (fun _ _ _ h => h) (Or.inl ⟨by rfl, ?_⟩) hHeld ?_ ?_
                     rotate_left
                     ·rintro w' ⟨s0, s1, s2, s3⟩
                      go_simp
                      with_reducible rfl
                     rotate_left
                     ·simp only [Act.put, List.setIfInBounds_toArray, List.set_cons_zero, List.set_cons_succ, i64_w, i32_w]
                      rfl
                     refine pu 18 88 HT_ ?_
                     refine one_ (i := 19) (N := some 89) #[true, true, true, true, true, true, true, true, true, true, true, true, true, true, true, true, true, true, true, true, false, false, false, false] rfl rfl (one_of HT_.out (by kernel_rfl)) (by decide) (fun K hK => ?_)
                     refine goes_ Try.func57 (by kernel_rfl) rfl #[.bool (decide ((rd x7_1 (ji32)) < (rd x7_1 (ji35))))] (by rfl) rfl rfl (by (try simp only [List.map_toArray, List.map_cons, List.map_nil]); first | done | (simp only [hji32, hji35]; rfl) | rfl | (simp only [List.length_drop, List.length_take]; rfl)) ?_
                     with_reducible refine (spec_l1Bit.calls (decide ((rd x7_1 (ji32)) < (rd x7_1 (ji35)))) t227 _ A38.out).mono ?_
                     rintro e w' ⟨rfl, ⟨nd, rfl⟩⟩
                     refine ⟨_, rfl, ?_⟩
                     refine hK.out _ _ ⟨(blk_cell BK224.out 0).trans rfl, (blk_cell BK224.out 1).trans rfl, hHeld.2.2.1, hHeld.2.2.2⟩ (fun hHeld => ?_)
                     clear hK K
                     refine norm_ (a' := ?_) ?_ ?_
                     rotate_left
                     ·show Act.put _ (some 89) _ = _
                      simp only [Act.put, List.setIfInBounds_toArray, List.set_cons_zero, List.set_cons_succ, i64_w, i32_w]
                      rfl
                     refine one_ (i := 20) (N := some 90) #[true, true, true, true, true, true, true, true, true, true, true, true, true, true, true, true, true, true, true, true, true, false, false, false] rfl rfl (one_of HT_.out (by kernel_rfl)) (by decide) (fun K hK => ?_)
                     refine goes_ Try.func56 (by kernel_rfl) rfl #[.int .i64 t227] (by rfl) rfl rfl (by (try simp only [List.map_toArray, List.map_cons, List.map_nil]); first | done | rfl | (simp only [List.length_drop, List.length_take]; rfl)) ?_
                     with_reducible refine (spec_l3Byte.calls t227 t228 _ A39.out).mono ?_
                     rintro e w' ⟨rfl, ⟨nd, rfl⟩⟩
                     refine ⟨_, rfl, ?_⟩
                     refine hK.out _ _ ⟨(blk_cell BK224.out 0).trans rfl, (blk_cell BK224.out 1).trans rfl, hHeld.2.2.1, hHeld.2.2.2⟩ (fun hHeld => ?_)
                     clear hK K
                     refine norm_ (a' := ?_) ?_ ?_
                     rotate_left
                     ·show Act.put _ (some 90) _ = _
                      simp only [Act.put, List.setIfInBounds_toArray, List.set_cons_zero, List.set_cons_succ, i64_w, i32_w]
                      rfl
                     refine pu 21 91 HT_ ?_
                     refine pu 22 92 HT_ ?_
                     refine last_ (i := 23) (N := none) #[true, true, true, true, true, true, true, true, true, true, true, true, true, true, true, true, true, true, true, true, true, true, true, true] rfl rfl (one_of HT_.out (by kernel_rfl)) (by decide) (fun K hK => ?_)
                     have hs43 : w41.cell? ⟨gb224, 1, none⟩ = some (.string x225001_4) := (blk_cell BK224.out 1).trans rfl
                     have hfs43 := blk_frozen BK224.out 1
                     have hns43_0 := NB211_224.out
                     have hms43_0 := NB224_211.out
                     refine skip_ (w1 := ?_) (by rfl) rfl ?_ ?_
                     rotate_left
                     ·go_simp
                      rfl
                     refine hK.out _ _ ?_
                     clear hK K
                     refine done_ (done_of HT_.out (by kernel_rfl)) ?_
                     try go_wp2
                     go_roundg k4
                     case measure => have := HK1.out; have := HK2.out; have := HK3.out; have := HK4.out; omega
                     case rel => exact ⟨(wrap64 (x12_4 + 1)), (x225001_4 ++ t228), (by first | rfl | (simp; done) | (simp [*]; done)), H', ⟨by have := HK1.out; have := HK2.out; have := HK3.out; have := HK4.out; omega⟩, ⟨by (with_reducible repeat (first | apply Kd.R_alloc | apply Kd.R_drewN | apply Kd.R_drew)); exact Kd.R_mono (Kd.R_far (p := ⟨gb224, 1, none⟩) (Kd.R_types HO_7.out BK224.out (by decide)) (fun _ hk => hk.2) (.string (x225001_4 ++ t228))) (fun _ hk => trivial)⟩, ⟨by (with_reducible repeat (first | refine blk_drewN ?_ _ | refine blk_drew ?_ | refine blk_alloc ?_ _)); refine blk_far ?_ NB211_224.out _; (with_reducible repeat (first | refine blk_drewN ?_ _ | refine blk_drew ?_ | refine blk_alloc ?_ _)); exact BK211.out⟩, ⟨by (with_reducible repeat (first | refine blk_drewN ?_ _ | refine blk_drew ?_ | refine blk_alloc ?_ _)); refine blk_put (cs := #[.int .i64 a0, .string x225001_4]) ?_ 1 _ rfl; (with_reducible repeat (first | refine blk_drewN ?_ _ | refine blk_drew ?_ | refine blk_alloc ?_ _)); exact BK224.out⟩, ⟨by repeat (first | (with_reducible first | exact HB.out | apply below_alloc | apply pw_below_drewN | apply below_drew1 | refine below_set ?_ GE211.out | refine below_set ?_ GE224.out) | exact HB.out)⟩⟩
                    ·rw [if_neg c40] at H
                     exact absurd H (by simp)
                   ·rw [if_neg c37] at H
                    exact absurd H (by simp)
                  ·rw [if_neg c36] at H
                   exact absurd H (by simp)
                 ·rw [if_neg c34] at H
                  exact absurd H (by simp)
                ·rw [if_neg c33] at H
                 exact absurd H (by simp)
               ·rw [if_neg c31] at H
                have c31b0 : decide (x12_4 < a0) = false := decide_eq_false c31
                clear c31
                have H' := Aside0.mk H
                clear H
                go_wp2
                go_roundg k4
                case measure => have := HK1.out; have := HK2.out; have := HK3.out; have := HK4.out; omega
                case rel => exact ⟨(wrap64 (x11_3 + 1)), (x225001_4), (by first | rfl | (simp; done) | (simp [*]; done)), H', ⟨by have := HK1.out; have := HK2.out; have := HK3.out; have := HK4.out; omega⟩, ⟨by (with_reducible repeat (first | apply Kd.R_alloc | apply Kd.R_drewN | apply Kd.R_drew)); exact HO_7.out⟩, ⟨by (with_reducible repeat (first | refine blk_drewN ?_ _ | refine blk_drew ?_ | refine blk_alloc ?_ _)); exact BK211.out⟩, ⟨by (with_reducible repeat (first | refine blk_drewN ?_ _ | refine blk_drew ?_ | refine blk_alloc ?_ _)); exact BK224.out⟩, ⟨by repeat (first | (with_reducible first | exact HB.out | apply below_alloc | apply pw_below_drewN | apply below_drew1 | refine below_set ?_ GE211.out | refine below_set ?_ GE224.out) | exact HB.out)⟩⟩
            ·rw [if_neg c30] at H
             have c30b0 : decide (x11_3 < a0) = false := decide_eq_false c30
             clear c30
             have H' := Aside0.mk H
             clear H
             go_wp2
             go_roundg k3
             case measure => have := HK1.out; have := HK2.out; have := HK3.out; omega
             case rel => exact ⟨(wrap64 (x10_2 + 1)), (x225001_3), (by first | rfl | (simp; done) | (simp [*]; done)), H', ⟨by have := HK1.out; have := HK2.out; have := HK3.out; omega⟩, ⟨by (with_reducible repeat (first | apply Kd.R_alloc | apply Kd.R_drewN | apply Kd.R_drew)); exact HO_7.out⟩, ⟨by (with_reducible repeat (first | refine blk_drewN ?_ _ | refine blk_drew ?_ | refine blk_alloc ?_ _)); exact BK211.out⟩, ⟨by (with_reducible repeat (first | refine blk_drewN ?_ _ | refine blk_drew ?_ | refine blk_alloc ?_ _)); exact BK224.out⟩, ⟨by repeat (first | (with_reducible first | exact HB.out | apply below_alloc | apply pw_below_drewN | apply below_drew1 | refine below_set ?_ GE211.out | refine below_set ?_ GE224.out) | exact HB.out)⟩⟩
         ·rw [if_neg c29] at H
          have c29b0 : decide (x10_2 < a0) = false := decide_eq_false c29
          clear c29
          simp only [Option.some.injEq, Prod.mk.injEq] at H
          obtain ⟨rfl, rfl, rfl⟩ := H
          have hnb44 := NB224_211.out
          have hnc44 := NB211_224.out
          have hcz45_0 := bc BK224 0
          have hcz45_1 := bc BK224 1
          have hfz45_0 := bf BK224 0
          have hfz45_1 := bf BK224 1
          have hcz46_0 := bc BK211 0
          have hcz46_1 := bc BK211 1
          have hfz46_0 := bf BK211 0
          have hfz46_1 := bf BK211 1
          go_wp2
          refine bodyPost_ret (results_ct rfl _ _ gb211 28 #[.int .i64 a0, .string x225001_2] (0, 0) _ rfl (by (with_reducible repeat (first | refine blk_drewN ?_ _ | refine blk_drew ?_ | refine blk_alloc ?_ _)); refine blk_put (cs := #[.int .i64 a0, .string (⟨#[]⟩ : ByteArray)]) ?_ 1 _ rfl; (with_reducible repeat (first | refine blk_drewN ?_ _ | refine blk_drew ?_ | refine blk_alloc ?_ _)); refine blk_put (cs := #[.int .i64 0, .string (⟨#[]⟩ : ByteArray)]) ?_ 0 _ rfl; (with_reducible repeat (first | refine blk_drewN ?_ _ | refine blk_drew ?_ | refine blk_alloc ?_ _)); exact BK211.out) Try.underlying28 rfl (by kernel_rfl)) rfl ?_
          exact ⟨by first | rfl | (simp [errW_none, errW_some] <;> rfl) | (simp only [← hji6]; first | rfl | (simp [errW_none, errW_some] <;> rfl)) | (simp [*, errW_none, errW_some] <;> rfl), by repeat (first | (with_reducible first | exact HB.out | apply below_alloc | apply pw_below_drewN | apply below_drew1 | refine below_set ?_ GE211.out | refine below_set ?_ GE224.out) | exact HB.out)⟩
   ·rw [if_neg c8] at H
    exact absurd H (by simp)
  ·rw [if_neg c7] at H
   exact absurd H (by simp)
 ·replace c4 := Bool.eq_false_iff.mpr c4
  subst c4
  have H1 : (some (0, (⟨#[]⟩ : ByteArray), false)) = some (r1, r2, r3) := by rw [if_neg (show ¬ (false = true) by decide)] at H; exact H
  clear H
  have H := H1
  clear H1
  simp only [Option.some.injEq, Prod.mk.injEq] at H
  obtain ⟨rfl, rfl, rfl⟩ := H
  go_enter Try.func18, Try.ntmps18
  go_wp2_with (first | ((with_reducible refine gate_dst (N := 4) rfl ?_); refine bx 4 #[.int .i64 0, .string (⟨#[]⟩ : ByteArray)] 28 ?_; intro gb211 hg w47 hbox hb; have BK211 := Aside0.mk hbox; have GE211 := gs HB hg; have GW211 := GE211; replace HB := bs HB hb; clear hb hbox hg) | ((with_reducible refine gate_callee (f := 46) rfl ?_); refine gL (some 15) rfl rfl Try.func46 (by kernel_rfl) rfl #[.int .i64 a0, .slice A1 l1.length c1] rfl ?_; (with_reducible refine (spec_IsWiring.calls k a0 _ _ l1 false _ ?side1 ?side2 A3.out).mono ?_); (case side1 => repeat (first | exact (Kd.C_below HR1.out HB.out) | (with_reducible refine Kd.C_alloc ?_ _) | (with_reducible refine Kd.C_drewN ?_ _) | (with_reducible refine Kd.C_drew ?_))); (case side2 => exact HC1.out); rintro e w48 ⟨rfl, hb⟩; refine ⟨_, rfl, ?_⟩; have n0_ := Aside0.mk (blk_below (g := gb211) (o := .cells #[.int .i64 0, .string (⟨#[]⟩ : ByteArray)] 28 (0, 0)) (bk BK211) hb); have n1_ := bsg HB GE211 hb; clear BK211; clear HB; have BK211 := n0_; have HB := n1_; clear n0_ n1_; (try clear hb); (try clear hb2); (try clear hk); (try clear hi); have hcz49_0 := bc BK211 0; have hcz49_1 := bc BK211 1; have hfz49_0 := bf BK211 0; have hfz49_1 := bf BK211 1))
  refine bodyPost_ret (results_ct rfl _ _ gb211 28 #[.int .i64 0, .string (⟨#[]⟩ : ByteArray)] (0, 0) _ rfl (by (with_reducible repeat (first | refine blk_drewN ?_ _ | refine blk_drew ?_ | refine blk_alloc ?_ _)); refine blk_put (cs := #[.int .i64 0, .string (⟨#[]⟩ : ByteArray)]) ?_ 1 _ rfl; (with_reducible repeat (first | refine blk_drewN ?_ _ | refine blk_drew ?_ | refine blk_alloc ?_ _)); refine blk_put (cs := #[.int .i64 0, .string (⟨#[]⟩ : ByteArray)]) ?_ 0 _ rfl; (with_reducible repeat (first | refine blk_drewN ?_ _ | refine blk_drew ?_ | refine blk_alloc ?_ _)); exact BK211.out) Try.underlying28 rfl (by kernel_rfl)) rfl ?_
  exact ⟨by first | rfl | (simp [errW_none, errW_some] <;> rfl) | (simp [*, errW_none, errW_some] <;> rfl), (bg HB GE211)⟩

end Go.Proofs.Ythibphndihjcaaa.P
