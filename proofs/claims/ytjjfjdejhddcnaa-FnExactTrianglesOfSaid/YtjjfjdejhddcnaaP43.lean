-- Printed by a program of this session (wip/tools/myprint.py, over the kit's print.py); not trusted: Lean checks it.
import Derived.Test.YtjjfjdejhddcnaaP0
import Derived.Test.YtjjfjdejhddcnaaOTri
import Derived.Test.YtjjfjdejhddcnaaP102
import Derived.Test.YtjjfjdejhddcnaaP105
import Derived.Test.YtjjfjdejhddcnaaP15
import Derived.Test.YtjjfjdejhddcnaaP75
import Derived.Test.YtjjfjdejhddcnaaP79
namespace Go.Proofs.Ytjjfjdejhddcnaa.P
open Go.RowKit Go.Proofs.YtjjfjdejhddcnaaW.PrintWords Go.Proofs.YtjjfjdejhddcnaaW.PrintLast Go.Proofs.YtjjfjdejhddcnaaW.PrintMore
attribute [local go_sem] max2_int min2_int max_two min_two max_three min_three max_four min_four   -- for this text's walks alone
set_option linter.unusedVariables false
set_option linter.unusedSimpArgs false

/-! ### impl_TrianglesOf: function 43 -/
def impl_TrianglesOf.l0 : Nat → Int → List Int → Int → List (S83) → Int → Int → Int → ByteArray → Option (Int)
 | 0, _, _, _, _, _, _, _, _ => none
 | k + 1, x1, x5, x6, x18, x19, x20, x703000, x703001 => if x20 < x19 then (if 0 ≤ x20 then (if x20 < (x18.length : Int) then ((impl_EdgeIndex.f k x703000 ((rd_T83 x18 x20).f0) ((rd_T83 x18 x20).f1)).bind fun t712 => (if 0 ≤ t712 then ((impl_EdgeIndex.f k x703000 ((rd_T83 x18 x20).f0) ((rd_T83 x18 x20).f2)).bind fun t713 => (if 0 ≤ t713 then ((impl_EdgeIndex.f k x703000 ((rd_T83 x18 x20).f1) ((rd_T83 x18 x20).f2)).bind fun t714 => (if 0 ≤ t714 then (if (Go.bits .and .i64 x1 (Go.bits .or .i64 (Go.bits .or .i64 (shl .i64 1 t712) (shl .i64 1 t713)) (shl .i64 1 t714))) = (Go.bits .or .i64 (Go.bits .or .i64 (shl .i64 1 t712) (shl .i64 1 t713)) (shl .i64 1 t714)) then ((impl_chi_countInside.f k x5 ((rd_T83 x18 x20).f0) ((rd_T83 x18 x20).f1) ((rd_T83 x18 x20).f2)).bind fun t715 => (if t715 = 0 then (impl_TrianglesOf.l0 k x1 x5 (wrap64 (x6 + 1)) x18 x19 (wrap64 (x20 + 1)) x703000 x703001) else (impl_TrianglesOf.l0 k x1 x5 x6 x18 x19 (wrap64 (x20 + 1)) x703000 x703001))) else (impl_TrianglesOf.l0 k x1 x5 x6 x18 x19 (wrap64 (x20 + 1)) x703000 x703001)) else (none))) else (none))) else (none))) else (none)) else (none)) else (some x6)
def impl_TrianglesOf.f (k : Nat) (a0_0 : Int) (a0_1 : ByteArray) (a1 : Int) : Option (Int) := (impl_IsTriangulation.f k a0_0 a0_1 a1).bind fun t703 => (if t703 = true then ((impl_tableOf.f k a0_0 a0_1).bind fun t704 => ((impl_triplesOf.f k a0_0).bind fun t707 => (impl_TrianglesOf.l0 k a1 t704 0 t707 (t707.length : Int) 0 a0_0 a0_1))) else (some (-1)))
theorem impl_TrianglesOf.mono_l : ∀ k, (∀ y0 y1 y2 y3 y4 y5 y6 y7, LeO (impl_TrianglesOf.l0 k y0 y1 y2 y3 y4 y5 y6 y7) (impl_TrianglesOf.l0 (k + 1) y0 y1 y2 y3 y4 y5 y6 y7))
 | 0 => fun _ _ _ _ _ _ _ _ r h => by simp [impl_TrianglesOf.l0] at h
 | k + 1 => by
  have ih0 := impl_TrianglesOf.mono_l k
  ·intro y0 y1 y2 y3 y4 y5 y6 y7
   unfold impl_TrianglesOf.l0
   repeat' first
   | (with_reducible exact ih0 _ _ _ _ _ _ _ _)
   | (with_reducible exact impl_EdgeIndex.mono _ _ _ _)
   | (with_reducible exact impl_IsTriangulation.mono _ _ _ _)
   | (with_reducible exact impl_chi_countInside.mono _ _ _ _ _)
   | (with_reducible exact impl_tableOf.mono _ _ _)
   | (with_reducible exact impl_triplesOf.mono _ _)
   | (with_reducible exact LeO.refl _)
   | (with_reducible exact LeO.none _)
   | (with_reducible refine LeO.ite ?_ ?_)
   | (with_reducible refine LeO.bind ?_ (fun _ => ?_))
   | exact ih0 _ _ _ _ _ _ _ _
   | exact impl_EdgeIndex.mono _ _ _ _
   | exact impl_IsTriangulation.mono _ _ _ _
   | exact impl_chi_countInside.mono _ _ _ _ _
   | exact impl_tableOf.mono _ _ _
   | exact impl_triplesOf.mono _ _
   | exact LeO.none _
   | refine LeO.ite ?_ ?_
   | refine LeO.bind ?_ (fun _ => ?_)
theorem impl_TrianglesOf.mono : ∀ a0 a1 a2 k, LeO (impl_TrianglesOf.f k a0 a1 a2) (impl_TrianglesOf.f (k + 1) a0 a1 a2) := by
 intro a0 a1 a2 k
 have ih0 := impl_TrianglesOf.mono_l k
 unfold impl_TrianglesOf.f
 repeat' first
   | (with_reducible exact ih0 _ _ _ _ _ _ _ _)
   | (with_reducible exact impl_EdgeIndex.mono _ _ _ _)
   | (with_reducible exact impl_IsTriangulation.mono _ _ _ _)
   | (with_reducible exact impl_chi_countInside.mono _ _ _ _ _)
   | (with_reducible exact impl_tableOf.mono _ _ _)
   | (with_reducible exact impl_triplesOf.mono _ _)
   | (with_reducible exact LeO.refl _)
   | (with_reducible exact LeO.none _)
   | (with_reducible refine LeO.ite ?_ ?_)
   | (with_reducible refine LeO.bind ?_ (fun _ => ?_))
   | exact ih0 _ _ _ _ _ _ _ _
   | exact impl_EdgeIndex.mono _ _ _ _
   | exact impl_IsTriangulation.mono _ _ _ _
   | exact impl_chi_countInside.mono _ _ _ _ _
   | exact impl_tableOf.mono _ _ _
   | exact impl_triplesOf.mono _ _
   | exact LeO.none _
   | refine LeO.ite ?_ ?_
   | refine LeO.bind ?_ (fun _ => ?_)
def impl_TrianglesOf.T8 : Bool × List (List Nat × List Nat) := (true, [([], []), ([0], [0]), ([], []), ([2], [2]), ([], []), ([4], [4]), ([1, 3, 5], [1, 3, 5]), ([6], [6]), ([], []), ([8], [8]), ([], []), ([10], [10]), ([], []), ([12], [12]), ([9, 11, 13, 6], [9, 11, 13]), ([14], [14]), ([7, 15], [7, 15]), ([], []), ([17], [17]), ([], []), ([19], [19]), ([], []), ([21], [21]), ([18, 20, 22, 14], [18, 20, 22]), ([23], [23]), ([16, 24], [16, 24]), ([25, 23, 0, 1, 2, 3, 4, 5, 6, 7, 8, 9, 10, 11, 12, 13, 14, 15, 16, 17, 18, 19, 20, 21, 22, 23, 24, 25], [25])])
def impl_TrianglesOf.B8 : List Nat := [0, 1, 0, 4, 0, 16, 63, 127, 0, 256, 0, 1024, 0, 4096, 16255, 32639, 65535, 0, 131072, 0, 524288, 0, 2097152, 8290175, 16678783, 33554431, 67108863]
theorem impl_TrianglesOf.tab8 : rtab .any (opsOf Try.f43 8) = impl_TrianglesOf.T8 := by kernel_rfl
theorem impl_TrianglesOf.bits8 : waitsOk impl_TrianglesOf.T8.2 impl_TrianglesOf.B8 = true := by kernel_rfl
set_option maxHeartbeats 8000000 in
set_option maxRecDepth 100000 in
theorem impl_TrianglesOf.calls (k : Nat) (a0_0 : Int) (a0_1 : ByteArray) (a1 : Int) (r : Int) (w : World) (h : impl_TrianglesOf.f k a0_0 a0_1 a1 = some r) :
  Calls Try.prog 43 #[.agg #[.int .i64 a0_0, .string a0_1], .int .i64 a1] w fun e w' => e = .returned (.int .i64 r) ∧ Below w.heap.size w w' := by
 have hu26 := Try.underlying26
 have hu83 := Try.underlying83
 have HB := Aside0.mk (Below.refl w.heap.size w)
 have H : ((impl_IsTriangulation.f k a0_0 a0_1 a1).bind fun t703 => (if t703 = true then ((impl_tableOf.f k a0_0 a0_1).bind fun t704 => ((impl_triplesOf.f k a0_0).bind fun t707 => (impl_TrianglesOf.l0 k a1 t704 0 t707 (t707.length : Int) 0 a0_0 a0_1))) else (some (-1)))) = some r := h
 clear h
 replace H := Option.bind_eq_some_iff.mp H
 obtain ⟨t703, A30, H⟩ := H
 (try dsimp only at H)
 have A3 := Aside0.mk A30
 clear A30
 by_cases c4 : t703 = true
 ·subst c4
  have H1 : ((impl_tableOf.f k a0_0 a0_1).bind fun t704 => ((impl_triplesOf.f k a0_0).bind fun t707 => (impl_TrianglesOf.l0 k a1 t704 0 t707 (t707.length : Int) 0 a0_0 a0_1))) = some r := by rw [if_pos rfl] at H; exact H
  clear H
  have H := H1
  clear H1
  replace H := Option.bind_eq_some_iff.mp H
  obtain ⟨t704, A50, H⟩ := H
  (try dsimp only at H)
  have A5 := Aside0.mk A50
  clear A50
  replace H := Option.bind_eq_some_iff.mp H
  obtain ⟨t707, A60, H⟩ := H
  (try dsimp only at H)
  have A6 := Aside0.mk A60
  clear A60
  have H' := Aside0.mk H
  clear H
  go_enter Try.func43, Try.ntmps43
  go_wp2_with (first | ((with_reducible refine gate_dst (N := 2) rfl ?_); refine bx 2 #[.int .i64 a0_0, .string a0_1] 26 ?_; intro gb702 hg w7 hbox hb; have BK702 := Aside0.mk hbox; have GE702 := gs HB hg; have GW702 := GE702; replace HB := bs HB hb; clear hb hbox hg; have hcz8_0 := bc BK702 0; have hcz8_1 := bc BK702 1; have hfz8_0 := bf BK702 0; have hfz8_1 := bf BK702 1) | ((with_reducible refine gate_callee (f := 24) rfl ?_); refine gL (some 12) rfl rfl Try.func24 (by kernel_rfl) rfl #[.agg #[.int .i64 a0_0, .string a0_1], .int .i64 a1] rfl ?_; (with_reducible refine (impl_IsTriangulation.calls k a0_0 a0_1 a1 true _ A3.out).mono ?_); rintro e w9 ⟨rfl, hb⟩; refine ⟨_, rfl, ?_⟩; have n0_ := Aside0.mk (blk_below (g := gb702) (o := .cells #[.int .i64 a0_0, .string a0_1] 26 (0, 0)) (bk BK702) hb); have n1_ := bsg HB GE702 hb; clear BK702; clear HB; have BK702 := n0_; have HB := n1_; clear n0_ n1_; (try clear hb); (try clear hb2); (try clear hk); (try clear hi); have hcz10_0 := bc BK702 0; have hcz10_1 := bc BK702 1; have hfz10_0 := bf BK702 0; have hfz10_1 := bf BK702 1) | ((with_reducible refine gate_callee (f := 76) rfl ?_); refine gL (some 15) rfl rfl Try.func76 (by kernel_rfl) rfl #[.agg #[.int .i64 a0_0, .string a0_1]] rfl ?_; (with_reducible refine (impl_tableOf.calls k a0_0 a0_1 t704 _ A5.out).mono ?_); rintro e w11 ⟨v705, rfl, ho0, hb⟩; refine ⟨_, rfl, ?_⟩; have n0_ := Aside0.mk (Kd.R_lower ho0 (below_size (bg HB GE702))); have n1_ := Aside0.mk (blk_below (g := gb702) (o := .cells #[.int .i64 a0_0, .string a0_1] 26 (0, 0)) (bk BK702) hb); have n2_ := bsg HB GE702 hb; clear BK702; clear HB; have HO706 := n0_; have BK702 := n1_; have HB := n2_; clear n0_ n1_ n2_; (try clear hb); (try clear hb2); (try clear hk); (try clear hi); (try clear ho0); have hcz12_0 := bc BK702 0; have hcz12_1 := bc BK702 1; have hfz12_0 := bf BK702 0; have hfz12_1 := bf BK702 1) | ((with_reducible refine gate_callee (f := 77) rfl ?_); refine gL (some 18) rfl rfl Try.func77 (by kernel_rfl) rfl #[.int .i64 a0_0] rfl ?_; (with_reducible refine (impl_triplesOf.calls k a0_0 t707 _ A6.out).mono ?_); rintro e w13 ⟨v708, rfl, ho0, hb⟩; refine ⟨_, rfl, ?_⟩; have n0_ := Aside0.mk (Kd.R_below (rr HO706) hb); have n1_ := Aside0.mk (Kd.R_lower ho0 (below_size (bg HB GE702))); have n2_ := Aside0.mk (blk_below (g := gb702) (o := .cells #[.int .i64 a0_0, .string a0_1] 26 (0, 0)) (bk BK702) hb); have n3_ := bsg HB GE702 hb; clear HO706; clear BK702; clear HB; have HO706 := n0_; have HO709 := n1_; have BK702 := n2_; have HB := n3_; clear n0_ n1_ n2_ n3_; (try clear hb); (try clear hb2); (try clear hk); (try clear hi); (try clear ho0); obtain ⟨Ao14, co14, eo14⟩ := Kd.R_slice HO709.out; subst eo14))
  go_loopg [6, 20] k (fun kq v6 v20 w' => ∃ (x6_1 : Int) (x20_1 : Int), v6 = .int .i64 x6_1 ∧ v20 = .int .i64 x20_1 ∧ Aside0 (impl_TrianglesOf.l0 kq a1 t704 x6_1 t707 (t707.length : Int) x20_1 a0_0 a0_1 = some r) ∧ Aside0 (kq ≤ k) ∧ Aside0 (Kd.R (Kd.int .i64) 78 w' w.heap.size (fun _ => True) v705 t704) ∧ Aside0 (Kd.R k83 83 w' w.heap.size (fun _ => True) (.slice Ao14 t707.length co14) t707) ∧ Aside0 (w'.heap[gb702]? = some (.cells #[.int .i64 a0_0, .string a0_1] 26 (0, 0))) ∧ Aside0 (Below w.heap.size w w'))
  case atStart => exact ⟨(0), (0), (by first | rfl | (simp; done) | (simp [*]; done)), (by first | rfl | (simp; done) | (simp [*]; done)), H', ⟨Nat.le_refl _⟩, ⟨by (with_reducible repeat (first | apply Kd.R_alloc | apply Kd.R_drewN | apply Kd.R_drew)); exact HO706.out⟩, ⟨by (with_reducible repeat (first | apply Kd.R_alloc | apply Kd.R_drewN | apply Kd.R_drew)); exact HO709.out⟩, ⟨by (with_reducible repeat (first | refine blk_drewN ?_ _ | refine blk_drew ?_ | refine blk_alloc ?_ _)); exact BK702.out⟩, ⟨(bg HB GE702)⟩⟩
  case round =>
   clear H'
   try clear c2
   try clear p2
   try clear c4
   try clear c7
   try clear hcz10_0
   try clear hcz10_1
   try clear hcz12_0
   try clear hcz12_1
   try clear hcz8_0
   try clear hcz8_1
   try clear hfz10_0
   try clear hfz10_1
   try clear hfz12_0
   try clear hfz12_1
   try clear hfz8_0
   try clear hfz8_1
   obtain ⟨x6_1, x20_1, rfl, rfl, HA, HK1, HO_5, HO_18, BK702, HB⟩ := hrel
   cases gk with
   | zero => exact absurd HA.out (by simp [impl_TrianglesOf.l0])
   | succ k1 =>
    have H := HA.out
    clear HA
    simp only [impl_TrianglesOf.l0] at H
    by_cases c15 : x20_1 < (t707.length : Int)
    ·rw [if_pos c15] at H
     have c15b0 : decide (x20_1 < (t707.length : Int)) = true := decide_eq_true c15
     clear c15
     by_cases c16 : 0 ≤ x20_1
     ·rw [if_pos c16] at H
      have c16b0 : decide (0 ≤ x20_1) = true := decide_eq_true c16
      clear c16
      by_cases c17 : x20_1 < (t707.length : Int)
      ·rw [if_pos c17] at H
       have c17b0 : decide (x20_1 < (t707.length : Int)) = true := decide_eq_true c17
       clear c17
       replace H := Option.bind_eq_some_iff.mp H
       obtain ⟨t712, A180, H⟩ := H
       (try dsimp only at H)
       have A18 := Aside0.mk A180
       clear A180
       by_cases c19 : 0 ≤ t712
       ·rw [if_pos c19] at H
        have c19b0 := eq_true c19
        have c19b1 : decide (0 ≤ t712) = true := decide_eq_true c19
        clear c19
        obtain ⟨ji20, hji20⟩ : ∃ j_ : Int, (shl .i64 1 t712) = j_ := ⟨_, rfl⟩
        replace H : ((impl_EdgeIndex.f k1 a0_0 ((rd_T83 t707 x20_1).f0) ((rd_T83 t707 x20_1).f2)).bind fun t713 => (if 0 ≤ t713 then ((impl_EdgeIndex.f k1 a0_0 ((rd_T83 t707 x20_1).f1) ((rd_T83 t707 x20_1).f2)).bind fun t714 => (if 0 ≤ t714 then (if (Go.bits .and .i64 a1 (Go.bits .or .i64 (Go.bits .or .i64 (ji20) (shl .i64 1 t713)) (shl .i64 1 t714))) = (Go.bits .or .i64 (Go.bits .or .i64 (ji20) (shl .i64 1 t713)) (shl .i64 1 t714)) then ((impl_chi_countInside.f k1 t704 ((rd_T83 t707 x20_1).f0) ((rd_T83 t707 x20_1).f1) ((rd_T83 t707 x20_1).f2)).bind fun t715 => (if t715 = 0 then (impl_TrianglesOf.l0 k1 a1 t704 (wrap64 (x6_1 + 1)) t707 (t707.length : Int) (wrap64 (x20_1 + 1)) a0_0 a0_1) else (impl_TrianglesOf.l0 k1 a1 t704 x6_1 t707 (t707.length : Int) (wrap64 (x20_1 + 1)) a0_0 a0_1))) else (impl_TrianglesOf.l0 k1 a1 t704 x6_1 t707 (t707.length : Int) (wrap64 (x20_1 + 1)) a0_0 a0_1)) else (none))) else (none))) = some r := by first | (rw [hji20] at H; exact H) | (simp only [hji20] at H ⊢; exact H)
        (try rw [hji20] at A18)
        have hji20_ : (IntKind.i64.wrap (1 * 2 ^ min t712.toNat 64)) = ji20 := hji20
        have hji20z : t712 ≤ 64 → (IntKind.i64.wrap (1 * 2 ^ t712.toNat)) = ji20 := shl_small hji20
        have hji20u : (IntKind.i64.wrap (2 ^ min t712.toNat 64)) = ji20 := by have h_ := hji20_; rw [Int.one_mul] at h_; exact h_
        have hji20v : t712 ≤ 64 → (IntKind.i64.wrap (2 ^ t712.toNat)) = ji20 := fun hle_ => by have h_ := hji20z hle_; rw [Int.one_mul] at h_; exact h_
        have hji20y : (wrap64 (1 * 2 ^ min t712.toNat 64)) = ji20 := (i64_w _).symm.trans hji20_
        have hji20x : t712 ≤ 64 → (wrap64 (1 * 2 ^ t712.toNat)) = ji20 := fun h_ => (i64_w _).symm.trans (hji20z h_)
        replace H := Option.bind_eq_some_iff.mp H
        obtain ⟨t713, A210, H⟩ := H
        (try dsimp only at H)
        have A21 := Aside0.mk A210
        clear A210
        by_cases c22 : 0 ≤ t713
        ·rw [if_pos c22] at H
         have c22b0 := eq_true c22
         have c22b1 : decide (0 ≤ t713) = true := decide_eq_true c22
         clear c22
         obtain ⟨ji23, hji23⟩ : ∃ j_ : Int, (shl .i64 1 t713) = j_ := ⟨_, rfl⟩
         replace H : ((impl_EdgeIndex.f k1 a0_0 ((rd_T83 t707 x20_1).f1) ((rd_T83 t707 x20_1).f2)).bind fun t714 => (if 0 ≤ t714 then (if (Go.bits .and .i64 a1 (Go.bits .or .i64 (Go.bits .or .i64 (ji20) (ji23)) (shl .i64 1 t714))) = (Go.bits .or .i64 (Go.bits .or .i64 (ji20) (ji23)) (shl .i64 1 t714)) then ((impl_chi_countInside.f k1 t704 ((rd_T83 t707 x20_1).f0) ((rd_T83 t707 x20_1).f1) ((rd_T83 t707 x20_1).f2)).bind fun t715 => (if t715 = 0 then (impl_TrianglesOf.l0 k1 a1 t704 (wrap64 (x6_1 + 1)) t707 (t707.length : Int) (wrap64 (x20_1 + 1)) a0_0 a0_1) else (impl_TrianglesOf.l0 k1 a1 t704 x6_1 t707 (t707.length : Int) (wrap64 (x20_1 + 1)) a0_0 a0_1))) else (impl_TrianglesOf.l0 k1 a1 t704 x6_1 t707 (t707.length : Int) (wrap64 (x20_1 + 1)) a0_0 a0_1)) else (none))) = some r := by first | (rw [hji23] at H; exact H) | (simp only [hji23] at H ⊢; exact H)
         (try rw [hji23] at A18)
         (try rw [hji23] at A21)
         have hji23_ : (IntKind.i64.wrap (1 * 2 ^ min t713.toNat 64)) = ji23 := hji23
         have hji23z : t713 ≤ 64 → (IntKind.i64.wrap (1 * 2 ^ t713.toNat)) = ji23 := shl_small hji23
         have hji23u : (IntKind.i64.wrap (2 ^ min t713.toNat 64)) = ji23 := by have h_ := hji23_; rw [Int.one_mul] at h_; exact h_
         have hji23v : t713 ≤ 64 → (IntKind.i64.wrap (2 ^ t713.toNat)) = ji23 := fun hle_ => by have h_ := hji23z hle_; rw [Int.one_mul] at h_; exact h_
         have hji23y : (wrap64 (1 * 2 ^ min t713.toNat 64)) = ji23 := (i64_w _).symm.trans hji23_
         have hji23x : t713 ≤ 64 → (wrap64 (1 * 2 ^ t713.toNat)) = ji23 := fun h_ => (i64_w _).symm.trans (hji23z h_)
         replace H := Option.bind_eq_some_iff.mp H
         obtain ⟨t714, A240, H⟩ := H
         (try dsimp only at H)
         have A24 := Aside0.mk A240
         clear A240
         by_cases c25 : 0 ≤ t714
         ·rw [if_pos c25] at H
          have c25b0 := eq_true c25
          have c25b1 : decide (0 ≤ t714) = true := decide_eq_true c25
          clear c25
          obtain ⟨ji26, hji26⟩ : ∃ j_ : Int, (shl .i64 1 t714) = j_ := ⟨_, rfl⟩
          replace H : (if (Go.bits .and .i64 a1 (Go.bits .or .i64 (Go.bits .or .i64 (ji20) (ji23)) (ji26))) = (Go.bits .or .i64 (Go.bits .or .i64 (ji20) (ji23)) (ji26)) then ((impl_chi_countInside.f k1 t704 ((rd_T83 t707 x20_1).f0) ((rd_T83 t707 x20_1).f1) ((rd_T83 t707 x20_1).f2)).bind fun t715 => (if t715 = 0 then (impl_TrianglesOf.l0 k1 a1 t704 (wrap64 (x6_1 + 1)) t707 (t707.length : Int) (wrap64 (x20_1 + 1)) a0_0 a0_1) else (impl_TrianglesOf.l0 k1 a1 t704 x6_1 t707 (t707.length : Int) (wrap64 (x20_1 + 1)) a0_0 a0_1))) else (impl_TrianglesOf.l0 k1 a1 t704 x6_1 t707 (t707.length : Int) (wrap64 (x20_1 + 1)) a0_0 a0_1)) = some r := by first | (rw [hji26] at H; exact H) | (simp only [hji26] at H ⊢; exact H)
          (try rw [hji26] at A18)
          (try rw [hji26] at A21)
          (try rw [hji26] at A24)
          have hji26_ : (IntKind.i64.wrap (1 * 2 ^ min t714.toNat 64)) = ji26 := hji26
          have hji26z : t714 ≤ 64 → (IntKind.i64.wrap (1 * 2 ^ t714.toNat)) = ji26 := shl_small hji26
          have hji26u : (IntKind.i64.wrap (2 ^ min t714.toNat 64)) = ji26 := by have h_ := hji26_; rw [Int.one_mul] at h_; exact h_
          have hji26v : t714 ≤ 64 → (IntKind.i64.wrap (2 ^ t714.toNat)) = ji26 := fun hle_ => by have h_ := hji26z hle_; rw [Int.one_mul] at h_; exact h_
          have hji26y : (wrap64 (1 * 2 ^ min t714.toNat 64)) = ji26 := (i64_w _).symm.trans hji26_
          have hji26x : t714 ≤ 64 → (wrap64 (1 * 2 ^ t714.toNat)) = ji26 := fun h_ => (i64_w _).symm.trans (hji26z h_)
          by_cases c27 : (Go.bits .and .i64 a1 (Go.bits .or .i64 (Go.bits .or .i64 (ji20) (ji23)) (ji26))) = (Go.bits .or .i64 (Go.bits .or .i64 (ji20) (ji23)) (ji26))
          ·rw [if_pos c27] at H
           have c27b0 : ((Go.bits .and .i64 a1 (Go.bits .or .i64 (Go.bits .or .i64 (ji20) (ji23)) (ji26))) == (Go.bits .or .i64 (Go.bits .or .i64 (ji20) (ji23)) (ji26))) = true := beq_iff_eq.mpr c27
           have c27b1 : ((Go.bits .and .i64 a1 (Go.bits .or .i64 (Go.bits .or .i64 (ji20) (ji23)) (ji26))) != (Go.bits .or .i64 (Go.bits .or .i64 (ji20) (ji23)) (ji26))) = false := bne_eq_false_iff_eq.mpr c27
           clear c27
           replace H := Option.bind_eq_some_iff.mp H
           obtain ⟨t715, A280, H⟩ := H
           (try dsimp only at H)
           have A28 := Aside0.mk A280
           clear A280
           by_cases c29 : t715 = 0
           ·rw [if_pos c29] at H
            have c29b0 : (t715 == 0) = true := beq_iff_eq.mpr c29
            have c29b1 : (t715 != 0) = false := bne_eq_false_iff_eq.mpr c29
            clear c29
            have H' := Aside0.mk H
            clear H
            have p710 : 0 ≤ (x20_1 : Int) := of_decide_eq_true (by first | (with_reducible assumption) | assumption)
            have q710 : x20_1 < (t707.length : Int) := of_decide_eq_true (by first | (with_reducible assumption) | assumption)
            obtain ⟨ad710, e710, hx710_0, hx710_1, hx710_2⟩ := at_T83 (Kd.R_reads' HO_18.out).2.2 x20_1 p710 q710
            cases e710
            replace p710 := eq_true p710
            replace q710 := eq_true q710
            try go_wp2_with (first | ((with_reducible refine gate_dst (N := 8) rfl ?_); refine bx 8 #[.int .i64 0, .int .i64 0, .int .i64 0] 83 ?_; intro gb711 hg w30 hbox hb; have n0_ := Aside0.mk (Kd.R_below (rr HO_5) hb); have n1_ := Aside0.mk (Kd.R_below (Kd.R_elderB (rr HO_18) gb711 (Nat.le_of_eq hg.symm)) hb); have n2_ := Aside0.mk (blk_below (g := gb702) (o := .cells #[.int .i64 a0_0, .string a0_1] 26 (0, 0)) (bk BK702) hb); have n3_ := bsg HB GE702 hb; have n4_ := Aside0.mk (hbox); have n5_ := Aside0.mk ((by rw [hg]; exact (below_size (bg HB GE702)) : w.heap.size ≤ gb711)); have n6_ := Aside0.mk ((by rw [hg]; exact (below_size (bg HB GE702)) : w.heap.size ≤ gb711)); have n7_ := Aside0.mk ((by rw [hg]; exact Nat.ne_of_lt (blk_lt (g := gb702) (o := .cells #[.int .i64 a0_0, .string a0_1] 26 (0, 0)) (bk BK702)) : gb702 ≠ gb711)); have n8_ := Aside0.mk ((by rw [hg]; exact Nat.ne_of_gt (blk_lt (g := gb702) (o := .cells #[.int .i64 a0_0, .string a0_1] 26 (0, 0)) (bk BK702)) : gb711 ≠ gb702)); clear HO_5; clear HO_18; clear BK702; clear HB; have HO_5 := n0_; have HO_18 := n1_; have BK702 := n2_; have HB := n3_; have BK711 := n4_; have GW711 := n5_; have GE711 := n6_; have NB702_711 := n7_; have NB711_702 := n8_; clear n0_ n1_ n2_ n3_ n4_ n5_ n6_ n7_ n8_; clear hb hbox hg; have hnb31 := NB711_702.out; have hnc31 := NB702_711.out; have hcz32_0 := bc BK711 0; have hcz32_1 := bc BK711 1; have hcz32_2 := bc BK711 2; have hfz32_0 := bf BK711 0; have hfz32_1 := bf BK711 1; have hfz32_2 := bf BK711 2))
            have n0_ : Aside0 (Kd.R (Kd.int .i64) 78 (((w30.setCell ⟨gb711, 0, none⟩ (.int .i64 ((rd_T83 t707 x20_1).f0))).setCell ⟨gb711, 1, none⟩ (.int .i64 ((rd_T83 t707 x20_1).f1))).setCell ⟨gb711, 2, none⟩ (.int .i64 ((rd_T83 t707 x20_1).f2))) w.heap.size (fun _ => True) v705 t704) := ⟨by (with_reducible repeat (first | apply Kd.R_alloc | apply Kd.R_drewN | apply Kd.R_drew)); exact Kd.R_mono (Kd.R_far (p := ⟨gb711, 2, none⟩) (Kd.R_far (p := ⟨gb711, 1, none⟩) (Kd.R_far (p := ⟨gb711, 0, none⟩) (Kd.R_types HO_5.out BK711.out (by decide)) (fun _ hk => hk.2) (.int .i64 ((rd_T83 t707 x20_1).f0))) (fun _ hk => hk.2) (.int .i64 ((rd_T83 t707 x20_1).f1))) (fun _ hk => hk.2) (.int .i64 ((rd_T83 t707 x20_1).f2))) (fun _ hk => trivial)⟩
            have n1_ : Aside0 (Kd.R k83 83 (((w30.setCell ⟨gb711, 0, none⟩ (.int .i64 ((rd_T83 t707 x20_1).f0))).setCell ⟨gb711, 1, none⟩ (.int .i64 ((rd_T83 t707 x20_1).f1))).setCell ⟨gb711, 2, none⟩ (.int .i64 ((rd_T83 t707 x20_1).f2))) w.heap.size (fun k_ => k_ ≠ gb711) (.slice (some ad710) t707.length co14) t707) := ⟨by (with_reducible repeat (first | apply Kd.R_alloc | apply Kd.R_drewN | apply Kd.R_drew)); exact Kd.R_mono (Kd.R_far (p := ⟨gb711, 2, none⟩) (Kd.R_far (p := ⟨gb711, 1, none⟩) (Kd.R_far (p := ⟨gb711, 0, none⟩) (Kd.R_mono HO_18.out (fun k_ hk => (⟨hk, hk.2⟩ : _ ∧ k_ ≠ gb711))) (fun _ hk => hk.2) (.int .i64 ((rd_T83 t707 x20_1).f0))) (fun _ hk => hk.2) (.int .i64 ((rd_T83 t707 x20_1).f1))) (fun _ hk => hk.2) (.int .i64 ((rd_T83 t707 x20_1).f2))) (fun _ hk => hk.1.2)⟩
            have n2_ : Aside0 ((((w30.setCell ⟨gb711, 0, none⟩ (.int .i64 ((rd_T83 t707 x20_1).f0))).setCell ⟨gb711, 1, none⟩ (.int .i64 ((rd_T83 t707 x20_1).f1))).setCell ⟨gb711, 2, none⟩ (.int .i64 ((rd_T83 t707 x20_1).f2))).heap[gb702]? = some (.cells #[.int .i64 a0_0, .string a0_1] 26 (0, 0))) := ⟨by (with_reducible repeat (first | refine blk_drewN ?_ _ | refine blk_drew ?_ | refine blk_alloc ?_ _)); refine blk_far ?_ NB702_711.out _; (with_reducible repeat (first | refine blk_drewN ?_ _ | refine blk_drew ?_ | refine blk_alloc ?_ _)); refine blk_far ?_ NB702_711.out _; (with_reducible repeat (first | refine blk_drewN ?_ _ | refine blk_drew ?_ | refine blk_alloc ?_ _)); refine blk_far ?_ NB702_711.out _; (with_reducible repeat (first | refine blk_drewN ?_ _ | refine blk_drew ?_ | refine blk_alloc ?_ _)); exact BK702.out⟩
            have n3_ : Aside0 ((((w30.setCell ⟨gb711, 0, none⟩ (.int .i64 ((rd_T83 t707 x20_1).f0))).setCell ⟨gb711, 1, none⟩ (.int .i64 ((rd_T83 t707 x20_1).f1))).setCell ⟨gb711, 2, none⟩ (.int .i64 ((rd_T83 t707 x20_1).f2))).heap[gb711]? = some (.cells #[.int .i64 ((rd_T83 t707 x20_1).f0), .int .i64 ((rd_T83 t707 x20_1).f1), .int .i64 ((rd_T83 t707 x20_1).f2)] 83 (0, 0))) := ⟨by (with_reducible repeat (first | refine blk_drewN ?_ _ | refine blk_drew ?_ | refine blk_alloc ?_ _)); refine blk_put (cs := #[.int .i64 ((rd_T83 t707 x20_1).f0), .int .i64 ((rd_T83 t707 x20_1).f1), .int .i64 0]) ?_ 2 _ rfl; (with_reducible repeat (first | refine blk_drewN ?_ _ | refine blk_drew ?_ | refine blk_alloc ?_ _)); refine blk_put (cs := #[.int .i64 ((rd_T83 t707 x20_1).f0), .int .i64 0, .int .i64 0]) ?_ 1 _ rfl; (with_reducible repeat (first | refine blk_drewN ?_ _ | refine blk_drew ?_ | refine blk_alloc ?_ _)); refine blk_put (cs := #[.int .i64 0, .int .i64 0, .int .i64 0]) ?_ 0 _ rfl; (with_reducible repeat (first | refine blk_drewN ?_ _ | refine blk_drew ?_ | refine blk_alloc ?_ _)); exact BK711.out⟩
            have n4_ : Aside0 (Below w.heap.size w (((w30.setCell ⟨gb711, 0, none⟩ (.int .i64 ((rd_T83 t707 x20_1).f0))).setCell ⟨gb711, 1, none⟩ (.int .i64 ((rd_T83 t707 x20_1).f1))).setCell ⟨gb711, 2, none⟩ (.int .i64 ((rd_T83 t707 x20_1).f2)))) := ⟨by repeat (first | (with_reducible first | exact HB.out | apply below_alloc | apply pw_below_drewN | apply below_drew1 | refine below_set ?_ GE702.out | refine below_set ?_ GE711.out) | exact HB.out)⟩
            (try clear HO_5)
            (try clear HO_18)
            (try clear BK702)
            (try clear BK711)
            (try clear HB)
            generalize (((w30.setCell ⟨gb711, 0, none⟩ (.int .i64 ((rd_T83 t707 x20_1).f0))).setCell ⟨gb711, 1, none⟩ (.int .i64 ((rd_T83 t707 x20_1).f1))).setCell ⟨gb711, 2, none⟩ (.int .i64 ((rd_T83 t707 x20_1).f2))) = w33 at n0_ n1_ n2_ n3_ n4_ ⊢
            have HO_5 := n0_
            have HO_18 := n1_
            have BK702 := n2_
            have BK711 := n3_
            have HB := n4_
            clear n0_ n1_ n2_ n3_ n4_
            have n0_ := Aside0.mk (Kd.R_drew HO_5.out)
            have n1_ := Aside0.mk (Kd.R_drew HO_18.out)
            have n2_ := Aside0.mk (blk_drew BK702.out)
            have n3_ := Aside0.mk (blk_drew BK711.out)
            have n4_ := Aside0.mk (below_drew1 HB.out)
            clear HO_5
            clear HO_18
            clear BK702
            clear BK711
            clear HB
            have HO_5 := n0_
            have HO_18 := n1_
            have BK702 := n2_
            have BK711 := n3_
            have HB := n4_
            clear n0_ n1_ n2_ n3_ n4_
            refine start_ (n := 27) (S := fun w' => w'.cell? ⟨gb702, 0, none⟩ = some (.int .i64 a0_0) ∧ w'.cell? ⟨gb702, 1, none⟩ = some (.string a0_1) ∧ w'.cell? ⟨gb711, 0, none⟩ = some (.int .i64 ((rd_T83 t707 x20_1).f0)) ∧ w'.cell? ⟨gb711, 1, none⟩ = some (.int .i64 ((rd_T83 t707 x20_1).f1)) ∧ w'.cell? ⟨gb711, 2, none⟩ = some (.int .i64 ((rd_T83 t707 x20_1).f2))) (ds := []) #[false, false, false, false, false, false, false, false, false, false, false, false, false, false, false, false, false, false, false, false, false, false, false, false, false, false, false] (by kernel_rfl) rfl rfl ⟨(blk_cell BK702.out 0).trans rfl, (blk_cell BK702.out 1).trans rfl, (blk_cell BK711.out 0).trans rfl, (blk_cell BK711.out 1).trans rfl, (blk_cell BK711.out 2).trans rfl⟩ (fun hHeld => ?_); refine with_tabW impl_TrianglesOf.tab8 impl_TrianglesOf.bits8 (fun HT_ HW_ => ?_)
            generalize w33.drew = w34 at HO_5 HO_18 BK702 BK711 HB hHeld ⊢
            refine pu 0 24 HT_ ?_
            refine pu 2 26 HT_ ?_
            refine pu 4 28 HT_ ?_
            refine pu 8 32 HT_ ?_
            refine pu 10 34 HT_ ?_
            refine pu 12 36 HT_ ?_
            refine pu 17 41 HT_ ?_
            refine pu 19 43 HT_ ?_
            refine pu 21 45 HT_ ?_
            refine take_ (i := 1) (N := some 25) (v := ?_) (a' := ?_) #[true, true, true, false, true, false, false, false, true, false, true, false, true, false, false, false, false, true, false, true, false, true, false, false, false, false, false] rfl rfl (take_ofW HT_.out HW_.out (by kernel_rfl)) (fun _ _ _ h => h) (Or.inl ⟨by rfl, ?_⟩) hHeld ?_ ?_
            rotate_left
            ·rintro w' ⟨s0, s1, s2, s3, s4⟩
             go_simp
             with_reducible rfl
            rotate_left
            ·simp only [Act.put, List.setIfInBounds_toArray, List.set_cons_zero, List.set_cons_succ, i64_w, i32_w]
             rfl
            refine take_ (i := 3) (N := some 27) (v := ?_) (a' := ?_) #[true, true, true, true, true, false, false, false, true, false, true, false, true, false, false, false, false, true, false, true, false, true, false, false, false, false, false] rfl rfl (take_ofW HT_.out HW_.out (by kernel_rfl)) (fun _ _ _ h => h) (Or.inl ⟨by rfl, ?_⟩) hHeld ?_ ?_
            rotate_left
            ·rintro w' ⟨s0, s1, s2, s3, s4⟩
             go_simp
             with_reducible rfl
            rotate_left
            ·simp only [Act.put, List.setIfInBounds_toArray, List.set_cons_zero, List.set_cons_succ, i64_w, i32_w]
             rfl
            refine take_ (i := 5) (N := some 29) (v := ?_) (a' := ?_) #[true, true, true, true, true, true, false, false, true, false, true, false, true, false, false, false, false, true, false, true, false, true, false, false, false, false, false] rfl rfl (take_ofW HT_.out HW_.out (by kernel_rfl)) (fun _ _ _ h => h) (Or.inl ⟨by rfl, ?_⟩) hHeld ?_ ?_
            rotate_left
            ·rintro w' ⟨s0, s1, s2, s3, s4⟩
             go_simp
             with_reducible rfl
            rotate_left
            ·simp only [Act.put, List.setIfInBounds_toArray, List.set_cons_zero, List.set_cons_succ, i64_w, i32_w]
             rfl
            refine take_ (i := 9) (N := some 33) (v := ?_) (a' := ?_) #[true, true, true, true, true, true, false, false, true, true, true, false, true, false, false, false, false, true, false, true, false, true, false, false, false, false, false] rfl rfl (take_ofW HT_.out HW_.out (by kernel_rfl)) (fun _ _ _ h => h) (Or.inl ⟨by rfl, ?_⟩) hHeld ?_ ?_
            rotate_left
            ·rintro w' ⟨s0, s1, s2, s3, s4⟩
             go_simp
             with_reducible rfl
            rotate_left
            ·simp only [Act.put, List.setIfInBounds_toArray, List.set_cons_zero, List.set_cons_succ, i64_w, i32_w]
             rfl
            refine take_ (i := 11) (N := some 35) (v := ?_) (a' := ?_) #[true, true, true, true, true, true, false, false, true, true, true, true, true, false, false, false, false, true, false, true, false, true, false, false, false, false, false] rfl rfl (take_ofW HT_.out HW_.out (by kernel_rfl)) (fun _ _ _ h => h) (Or.inl ⟨by rfl, ?_⟩) hHeld ?_ ?_
            rotate_left
            ·rintro w' ⟨s0, s1, s2, s3, s4⟩
             go_simp
             with_reducible rfl
            rotate_left
            ·simp only [Act.put, List.setIfInBounds_toArray, List.set_cons_zero, List.set_cons_succ, i64_w, i32_w]
             rfl
            refine take_ (i := 13) (N := some 37) (v := ?_) (a' := ?_) #[true, true, true, true, true, true, false, false, true, true, true, true, true, true, false, false, false, true, false, true, false, true, false, false, false, false, false] rfl rfl (take_ofW HT_.out HW_.out (by kernel_rfl)) (fun _ _ _ h => h) (Or.inl ⟨by rfl, ?_⟩) hHeld ?_ ?_
            rotate_left
            ·rintro w' ⟨s0, s1, s2, s3, s4⟩
             go_simp
             with_reducible rfl
            rotate_left
            ·simp only [Act.put, List.setIfInBounds_toArray, List.set_cons_zero, List.set_cons_succ, i64_w, i32_w]
             rfl
            refine take_ (i := 18) (N := some 42) (v := ?_) (a' := ?_) #[true, true, true, true, true, true, false, false, true, true, true, true, true, true, false, false, false, true, true, true, false, true, false, false, false, false, false] rfl rfl (take_ofW HT_.out HW_.out (by kernel_rfl)) (fun _ _ _ h => h) (Or.inl ⟨by rfl, ?_⟩) hHeld ?_ ?_
            rotate_left
            ·rintro w' ⟨s0, s1, s2, s3, s4⟩
             go_simp
             with_reducible rfl
            rotate_left
            ·simp only [Act.put, List.setIfInBounds_toArray, List.set_cons_zero, List.set_cons_succ, i64_w, i32_w]
             rfl
            refine take_ (i := 20) (N := some 44) (v := ?_) (a' := ?_) #[true, true, true, true, true, true, false, false, true, true, true, true, true, true, false, false, false, true, true, true, true, true, false, false, false, false, false] rfl rfl (take_ofW HT_.out HW_.out (by kernel_rfl)) (fun _ _ _ h => h) (Or.inl ⟨by rfl, ?_⟩) hHeld ?_ ?_
            rotate_left
            ·rintro w' ⟨s0, s1, s2, s3, s4⟩
             go_simp
             with_reducible rfl
            rotate_left
            ·simp only [Act.put, List.setIfInBounds_toArray, List.set_cons_zero, List.set_cons_succ, i64_w, i32_w]
             rfl
            refine take_ (i := 22) (N := some 46) (v := ?_) (a' := ?_) #[true, true, true, true, true, true, false, false, true, true, true, true, true, true, false, false, false, true, true, true, true, true, true, false, false, false, false] rfl rfl (take_ofW HT_.out HW_.out (by kernel_rfl)) (fun _ _ _ h => h) (Or.inl ⟨by rfl, ?_⟩) hHeld ?_ ?_
            rotate_left
            ·rintro w' ⟨s0, s1, s2, s3, s4⟩
             go_simp
             with_reducible rfl
            rotate_left
            ·simp only [Act.put, List.setIfInBounds_toArray, List.set_cons_zero, List.set_cons_succ, i64_w, i32_w]
             rfl
            refine one_ (i := 6) (N := some 30) #[true, true, true, true, true, true, true, false, true, true, true, true, true, true, false, false, false, true, true, true, true, true, true, false, false, false, false] rfl rfl (one_of HT_.out (by kernel_rfl)) (by decide) (fun K hK => ?_)
            refine goes_ Try.func78 (by kernel_rfl) rfl #[.int .i64 a0_0, .int .i64 ((rd_T83 t707 x20_1).f0), .int .i64 ((rd_T83 t707 x20_1).f1)] (by rfl) rfl rfl (by (try simp only [List.map_toArray, List.map_cons, List.map_nil]); first | done | rfl | (simp only [List.length_drop, List.length_take]; rfl)) ?_
            with_reducible refine (impl_EdgeIndex.calls k1 a0_0 ((rd_T83 t707 x20_1).f0) ((rd_T83 t707 x20_1).f1) t712 _ A18.out).mono ?_
            rintro e w35 ⟨rfl, hb⟩
            refine ⟨_, rfl, ?_⟩
            have n0_ := Aside0.mk (Kd.R_below (rr HO_5) hb)
            have n1_ := Aside0.mk (Kd.R_below (rr HO_18) hb)
            have n2_ := Aside0.mk (blk_below (g := gb702) (o := .cells #[.int .i64 a0_0, .string a0_1] 26 (0, 0)) (bk BK702) hb)
            have n3_ := Aside0.mk (blk_below (g := gb711) (o := .cells #[.int .i64 ((rd_T83 t707 x20_1).f0), .int .i64 ((rd_T83 t707 x20_1).f1), .int .i64 ((rd_T83 t707 x20_1).f2)] 83 (0, 0)) (bk BK711) hb)
            have n4_ := Aside0.mk (below_step (by repeat (first | (with_reducible first | exact HB.out | apply below_alloc | apply pw_below_drewN | apply below_drew1 | refine below_set ?_ GE702.out | refine below_set ?_ GE711.out) | exact HB.out)) hb)
            clear HO_5
            clear HO_18
            clear BK702
            clear BK711
            clear HB
            have HO_5 := n0_
            have HO_18 := n1_
            have BK702 := n2_
            have BK711 := n3_
            have HB := n4_
            clear n0_ n1_ n2_ n3_ n4_
            (try clear hb)
            (try clear hb2)
            (try clear hk)
            (try clear hi)
            refine hK.out _ _ ⟨(blk_cell BK702.out 0).trans rfl, (blk_cell BK702.out 1).trans rfl, (blk_cell BK711.out 0).trans rfl, (blk_cell BK711.out 1).trans rfl, (blk_cell BK711.out 2).trans rfl⟩ (fun hHeld => ?_)
            clear hK K
            refine norm_ (a' := ?_) ?_ ?_
            rotate_left
            ·show Act.put _ (some 30) _ = _
             simp only [Act.put, List.setIfInBounds_toArray, List.set_cons_zero, List.set_cons_succ, i64_w, i32_w]
             rfl
            refine pu 7 31 HT_ ?_
            refine one_ (i := 14) (N := some 38) #[true, true, true, true, true, true, true, true, true, true, true, true, true, true, true, false, false, true, true, true, true, true, true, false, false, false, false] rfl rfl (one_of HT_.out (by kernel_rfl)) (by decide) (fun K hK => ?_)
            refine goes_ Try.func78 (by kernel_rfl) rfl #[.int .i64 a0_0, .int .i64 ((rd_T83 t707 x20_1).f0), .int .i64 ((rd_T83 t707 x20_1).f2)] (by rfl) rfl rfl (by (try simp only [List.map_toArray, List.map_cons, List.map_nil]); first | done | rfl | (simp only [List.length_drop, List.length_take]; rfl)) ?_
            with_reducible refine (impl_EdgeIndex.calls k1 a0_0 ((rd_T83 t707 x20_1).f0) ((rd_T83 t707 x20_1).f2) t713 _ A21.out).mono ?_
            rintro e w36 ⟨rfl, hb⟩
            refine ⟨_, rfl, ?_⟩
            have n0_ := Aside0.mk (Kd.R_below (rr HO_5) hb)
            have n1_ := Aside0.mk (Kd.R_below (rr HO_18) hb)
            have n2_ := Aside0.mk (blk_below (g := gb702) (o := .cells #[.int .i64 a0_0, .string a0_1] 26 (0, 0)) (bk BK702) hb)
            have n3_ := Aside0.mk (blk_below (g := gb711) (o := .cells #[.int .i64 ((rd_T83 t707 x20_1).f0), .int .i64 ((rd_T83 t707 x20_1).f1), .int .i64 ((rd_T83 t707 x20_1).f2)] 83 (0, 0)) (bk BK711) hb)
            have n4_ := Aside0.mk (below_step (by repeat (first | (with_reducible first | exact HB.out | apply below_alloc | apply pw_below_drewN | apply below_drew1 | refine below_set ?_ GE702.out | refine below_set ?_ GE711.out) | exact HB.out)) hb)
            clear HO_5
            clear HO_18
            clear BK702
            clear BK711
            clear HB
            have HO_5 := n0_
            have HO_18 := n1_
            have BK702 := n2_
            have BK711 := n3_
            have HB := n4_
            clear n0_ n1_ n2_ n3_ n4_
            (try clear hb)
            (try clear hb2)
            (try clear hk)
            (try clear hi)
            refine hK.out _ _ ⟨(blk_cell BK702.out 0).trans rfl, (blk_cell BK702.out 1).trans rfl, (blk_cell BK711.out 0).trans rfl, (blk_cell BK711.out 1).trans rfl, (blk_cell BK711.out 2).trans rfl⟩ (fun hHeld => ?_)
            clear hK K
            refine norm_ (a' := ?_) ?_ ?_
            rotate_left
            ·show Act.put _ (some 38) _ = _
             simp only [Act.put, List.setIfInBounds_toArray, List.set_cons_zero, List.set_cons_succ, i64_w, i32_w]
             rfl
            refine pu 15 39 HT_ ?_
            refine pu 16 40 HT_ ?_
            refine one_ (i := 23) (N := some 47) #[true, true, true, true, true, true, true, true, true, true, true, true, true, true, true, true, true, true, true, true, true, true, true, true, false, false, false] rfl rfl (one_of HT_.out (by kernel_rfl)) (by decide) (fun K hK => ?_)
            refine goes_ Try.func78 (by kernel_rfl) rfl #[.int .i64 a0_0, .int .i64 ((rd_T83 t707 x20_1).f1), .int .i64 ((rd_T83 t707 x20_1).f2)] (by rfl) rfl rfl (by (try simp only [List.map_toArray, List.map_cons, List.map_nil]); first | done | rfl | (simp only [List.length_drop, List.length_take]; rfl)) ?_
            with_reducible refine (impl_EdgeIndex.calls k1 a0_0 ((rd_T83 t707 x20_1).f1) ((rd_T83 t707 x20_1).f2) t714 _ A24.out).mono ?_
            rintro e w37 ⟨rfl, hb⟩
            refine ⟨_, rfl, ?_⟩
            have n0_ := Aside0.mk (Kd.R_below (rr HO_5) hb)
            have n1_ := Aside0.mk (Kd.R_below (rr HO_18) hb)
            have n2_ := Aside0.mk (blk_below (g := gb702) (o := .cells #[.int .i64 a0_0, .string a0_1] 26 (0, 0)) (bk BK702) hb)
            have n3_ := Aside0.mk (blk_below (g := gb711) (o := .cells #[.int .i64 ((rd_T83 t707 x20_1).f0), .int .i64 ((rd_T83 t707 x20_1).f1), .int .i64 ((rd_T83 t707 x20_1).f2)] 83 (0, 0)) (bk BK711) hb)
            have n4_ := Aside0.mk (below_step (by repeat (first | (with_reducible first | exact HB.out | apply below_alloc | apply pw_below_drewN | apply below_drew1 | refine below_set ?_ GE702.out | refine below_set ?_ GE711.out) | exact HB.out)) hb)
            clear HO_5
            clear HO_18
            clear BK702
            clear BK711
            clear HB
            have HO_5 := n0_
            have HO_18 := n1_
            have BK702 := n2_
            have BK711 := n3_
            have HB := n4_
            clear n0_ n1_ n2_ n3_ n4_
            (try clear hb)
            (try clear hb2)
            (try clear hk)
            (try clear hi)
            refine hK.out _ _ ⟨(blk_cell BK702.out 0).trans rfl, (blk_cell BK702.out 1).trans rfl, (blk_cell BK711.out 0).trans rfl, (blk_cell BK711.out 1).trans rfl, (blk_cell BK711.out 2).trans rfl⟩ (fun hHeld => ?_)
            clear hK K
            refine norm_ (a' := ?_) ?_ ?_
            rotate_left
            ·show Act.put _ (some 47) _ = _
             simp only [Act.put, List.setIfInBounds_toArray, List.set_cons_zero, List.set_cons_succ, i64_w, i32_w]
             rfl
            refine pu 24 48 HT_ ?_
            refine pu 25 49 HT_ ?_
            refine pu 26 9 HT_ ?_
            refine done_ (done_of HT_.out (by kernel_rfl)) ?_
            have hcz38_0 := bc BK711 0
            have hcz38_1 := bc BK711 1
            have hcz38_2 := bc BK711 2
            have hfz38_0 := bf BK711 0
            have hfz38_1 := bf BK711 1
            have hfz38_2 := bf BK711 2
            obtain ⟨Ao39, co39, eo39⟩ := Kd.R_slice HO_5.out
            subst eo39
            try go_wp2_with (first | (go_at_call 79; (with_reducible refine (impl_chi_countInside.calls k1 _ co39 t704 ((rd_T83 t707 x20_1).f0) ((rd_T83 t707 x20_1).f1) ((rd_T83 t707 x20_1).f2) t715 _ ?side1 ?side2 A28.out).mono ?_); (case side1 => repeat (first | exact (Kd.R_reads' HO_5.out).2.2 | (with_reducible refine Kd.C_alloc ?_ _) | (with_reducible refine Kd.C_drewN ?_ _) | (with_reducible refine Kd.C_drew ?_))); (case side2 => exact (Kd.R_reads' HO_5.out).2.1); rintro e w40 ⟨rfl, hb⟩; have n0_ := Aside0.mk (Kd.R_below (rr HO_5) hb); have n1_ := Aside0.mk (Kd.R_below (rr HO_18) hb); have n2_ := Aside0.mk (blk_below (g := gb702) (o := .cells #[.int .i64 a0_0, .string a0_1] 26 (0, 0)) (bk BK702) hb); have n3_ := Aside0.mk (blk_below (g := gb711) (o := .cells #[.int .i64 ((rd_T83 t707 x20_1).f0), .int .i64 ((rd_T83 t707 x20_1).f1), .int .i64 ((rd_T83 t707 x20_1).f2)] 83 (0, 0)) (bk BK711) hb); have n4_ := Aside0.mk (below_step (by repeat (first | (with_reducible first | exact HB.out | apply below_alloc | apply pw_below_drewN | apply below_drew1 | refine below_set ?_ GE702.out | refine below_set ?_ GE711.out) | exact HB.out)) hb); clear HO_5; clear HO_18; clear BK702; clear BK711; clear HB; have HO_5 := n0_; have HO_18 := n1_; have BK702 := n2_; have BK711 := n3_; have HB := n4_; clear n0_ n1_ n2_ n3_ n4_; (try clear hb); (try clear hb2); (try clear hk); (try clear hi)))
            go_roundg k1
            case measure => have := HK1.out; omega
            case rel => exact ⟨(wrap64 (x6_1 + 1)), (wrap64 (x20_1 + 1)), (by first | rfl | (simp; done) | (simp [*]; done)), (by first | rfl | (simp; done) | (simp [*]; done)), H', ⟨by have := HK1.out; omega⟩, ⟨by (with_reducible repeat (first | apply Kd.R_alloc | apply Kd.R_drewN | apply Kd.R_drew)); exact HO_5.out⟩, ⟨by (with_reducible repeat (first | apply Kd.R_alloc | apply Kd.R_drewN | apply Kd.R_drew)); exact Kd.R_mono HO_18.out (fun _ hk => trivial)⟩, ⟨by (with_reducible repeat (first | refine blk_drewN ?_ _ | refine blk_drew ?_ | refine blk_alloc ?_ _)); exact BK702.out⟩, ⟨by repeat (first | (with_reducible first | exact HB.out | apply below_alloc | apply pw_below_drewN | apply below_drew1 | refine below_set ?_ GE702.out | refine below_set ?_ GE711.out) | exact HB.out)⟩⟩
           ·rw [if_neg c29] at H
            have c29b0 : (t715 == 0) = false := beq_eq_false_iff_ne.mpr c29
            have c29b1 : (t715 != 0) = true := bne_iff_ne.mpr c29
            have H' := Aside0.mk H
            clear H
            have p710 : 0 ≤ (x20_1 : Int) := of_decide_eq_true (by first | (with_reducible assumption) | assumption)
            have q710 : x20_1 < (t707.length : Int) := of_decide_eq_true (by first | (with_reducible assumption) | assumption)
            obtain ⟨ad710, e710, hx710_0, hx710_1, hx710_2⟩ := at_T83 (Kd.R_reads' HO_18.out).2.2 x20_1 p710 q710
            cases e710
            replace p710 := eq_true p710
            replace q710 := eq_true q710
            try go_wp2_with (first | ((with_reducible refine gate_dst (N := 8) rfl ?_); refine bx 8 #[.int .i64 0, .int .i64 0, .int .i64 0] 83 ?_; intro gb711 hg w41 hbox hb; have n0_ := Aside0.mk (Kd.R_below (rr HO_5) hb); have n1_ := Aside0.mk (Kd.R_below (Kd.R_elderB (rr HO_18) gb711 (Nat.le_of_eq hg.symm)) hb); have n2_ := Aside0.mk (blk_below (g := gb702) (o := .cells #[.int .i64 a0_0, .string a0_1] 26 (0, 0)) (bk BK702) hb); have n3_ := bsg HB GE702 hb; have n4_ := Aside0.mk (hbox); have n5_ := Aside0.mk ((by rw [hg]; exact (below_size (bg HB GE702)) : w.heap.size ≤ gb711)); have n6_ := Aside0.mk ((by rw [hg]; exact (below_size (bg HB GE702)) : w.heap.size ≤ gb711)); have n7_ := Aside0.mk ((by rw [hg]; exact Nat.ne_of_lt (blk_lt (g := gb702) (o := .cells #[.int .i64 a0_0, .string a0_1] 26 (0, 0)) (bk BK702)) : gb702 ≠ gb711)); have n8_ := Aside0.mk ((by rw [hg]; exact Nat.ne_of_gt (blk_lt (g := gb702) (o := .cells #[.int .i64 a0_0, .string a0_1] 26 (0, 0)) (bk BK702)) : gb711 ≠ gb702)); clear HO_5; clear HO_18; clear BK702; clear HB; have HO_5 := n0_; have HO_18 := n1_; have BK702 := n2_; have HB := n3_; have BK711 := n4_; have GW711 := n5_; have GE711 := n6_; have NB702_711 := n7_; have NB711_702 := n8_; clear n0_ n1_ n2_ n3_ n4_ n5_ n6_ n7_ n8_; clear hb hbox hg; have hnb42 := NB711_702.out; have hnc42 := NB702_711.out; have hcz43_0 := bc BK711 0; have hcz43_1 := bc BK711 1; have hcz43_2 := bc BK711 2; have hfz43_0 := bf BK711 0; have hfz43_1 := bf BK711 1; have hfz43_2 := bf BK711 2))
            have n0_ : Aside0 (Kd.R (Kd.int .i64) 78 (((w41.setCell ⟨gb711, 0, none⟩ (.int .i64 ((rd_T83 t707 x20_1).f0))).setCell ⟨gb711, 1, none⟩ (.int .i64 ((rd_T83 t707 x20_1).f1))).setCell ⟨gb711, 2, none⟩ (.int .i64 ((rd_T83 t707 x20_1).f2))) w.heap.size (fun _ => True) v705 t704) := ⟨by (with_reducible repeat (first | apply Kd.R_alloc | apply Kd.R_drewN | apply Kd.R_drew)); exact Kd.R_mono (Kd.R_far (p := ⟨gb711, 2, none⟩) (Kd.R_far (p := ⟨gb711, 1, none⟩) (Kd.R_far (p := ⟨gb711, 0, none⟩) (Kd.R_types HO_5.out BK711.out (by decide)) (fun _ hk => hk.2) (.int .i64 ((rd_T83 t707 x20_1).f0))) (fun _ hk => hk.2) (.int .i64 ((rd_T83 t707 x20_1).f1))) (fun _ hk => hk.2) (.int .i64 ((rd_T83 t707 x20_1).f2))) (fun _ hk => trivial)⟩
            have n1_ : Aside0 (Kd.R k83 83 (((w41.setCell ⟨gb711, 0, none⟩ (.int .i64 ((rd_T83 t707 x20_1).f0))).setCell ⟨gb711, 1, none⟩ (.int .i64 ((rd_T83 t707 x20_1).f1))).setCell ⟨gb711, 2, none⟩ (.int .i64 ((rd_T83 t707 x20_1).f2))) w.heap.size (fun k_ => k_ ≠ gb711) (.slice (some ad710) t707.length co14) t707) := ⟨by (with_reducible repeat (first | apply Kd.R_alloc | apply Kd.R_drewN | apply Kd.R_drew)); exact Kd.R_mono (Kd.R_far (p := ⟨gb711, 2, none⟩) (Kd.R_far (p := ⟨gb711, 1, none⟩) (Kd.R_far (p := ⟨gb711, 0, none⟩) (Kd.R_mono HO_18.out (fun k_ hk => (⟨hk, hk.2⟩ : _ ∧ k_ ≠ gb711))) (fun _ hk => hk.2) (.int .i64 ((rd_T83 t707 x20_1).f0))) (fun _ hk => hk.2) (.int .i64 ((rd_T83 t707 x20_1).f1))) (fun _ hk => hk.2) (.int .i64 ((rd_T83 t707 x20_1).f2))) (fun _ hk => hk.1.2)⟩
            have n2_ : Aside0 ((((w41.setCell ⟨gb711, 0, none⟩ (.int .i64 ((rd_T83 t707 x20_1).f0))).setCell ⟨gb711, 1, none⟩ (.int .i64 ((rd_T83 t707 x20_1).f1))).setCell ⟨gb711, 2, none⟩ (.int .i64 ((rd_T83 t707 x20_1).f2))).heap[gb702]? = some (.cells #[.int .i64 a0_0, .string a0_1] 26 (0, 0))) := ⟨by (with_reducible repeat (first | refine blk_drewN ?_ _ | refine blk_drew ?_ | refine blk_alloc ?_ _)); refine blk_far ?_ NB702_711.out _; (with_reducible repeat (first | refine blk_drewN ?_ _ | refine blk_drew ?_ | refine blk_alloc ?_ _)); refine blk_far ?_ NB702_711.out _; (with_reducible repeat (first | refine blk_drewN ?_ _ | refine blk_drew ?_ | refine blk_alloc ?_ _)); refine blk_far ?_ NB702_711.out _; (with_reducible repeat (first | refine blk_drewN ?_ _ | refine blk_drew ?_ | refine blk_alloc ?_ _)); exact BK702.out⟩
            have n3_ : Aside0 ((((w41.setCell ⟨gb711, 0, none⟩ (.int .i64 ((rd_T83 t707 x20_1).f0))).setCell ⟨gb711, 1, none⟩ (.int .i64 ((rd_T83 t707 x20_1).f1))).setCell ⟨gb711, 2, none⟩ (.int .i64 ((rd_T83 t707 x20_1).f2))).heap[gb711]? = some (.cells #[.int .i64 ((rd_T83 t707 x20_1).f0), .int .i64 ((rd_T83 t707 x20_1).f1), .int .i64 ((rd_T83 t707 x20_1).f2)] 83 (0, 0))) := ⟨by (with_reducible repeat (first | refine blk_drewN ?_ _ | refine blk_drew ?_ | refine blk_alloc ?_ _)); refine blk_put (cs := #[.int .i64 ((rd_T83 t707 x20_1).f0), .int .i64 ((rd_T83 t707 x20_1).f1), .int .i64 0]) ?_ 2 _ rfl; (with_reducible repeat (first | refine blk_drewN ?_ _ | refine blk_drew ?_ | refine blk_alloc ?_ _)); refine blk_put (cs := #[.int .i64 ((rd_T83 t707 x20_1).f0), .int .i64 0, .int .i64 0]) ?_ 1 _ rfl; (with_reducible repeat (first | refine blk_drewN ?_ _ | refine blk_drew ?_ | refine blk_alloc ?_ _)); refine blk_put (cs := #[.int .i64 0, .int .i64 0, .int .i64 0]) ?_ 0 _ rfl; (with_reducible repeat (first | refine blk_drewN ?_ _ | refine blk_drew ?_ | refine blk_alloc ?_ _)); exact BK711.out⟩
            have n4_ : Aside0 (Below w.heap.size w (((w41.setCell ⟨gb711, 0, none⟩ (.int .i64 ((rd_T83 t707 x20_1).f0))).setCell ⟨gb711, 1, none⟩ (.int .i64 ((rd_T83 t707 x20_1).f1))).setCell ⟨gb711, 2, none⟩ (.int .i64 ((rd_T83 t707 x20_1).f2)))) := ⟨by repeat (first | (with_reducible first | exact HB.out | apply below_alloc | apply pw_below_drewN | apply below_drew1 | refine below_set ?_ GE702.out | refine below_set ?_ GE711.out) | exact HB.out)⟩
            (try clear HO_5)
            (try clear HO_18)
            (try clear BK702)
            (try clear BK711)
            (try clear HB)
            generalize (((w41.setCell ⟨gb711, 0, none⟩ (.int .i64 ((rd_T83 t707 x20_1).f0))).setCell ⟨gb711, 1, none⟩ (.int .i64 ((rd_T83 t707 x20_1).f1))).setCell ⟨gb711, 2, none⟩ (.int .i64 ((rd_T83 t707 x20_1).f2))) = w44 at n0_ n1_ n2_ n3_ n4_ ⊢
            have HO_5 := n0_
            have HO_18 := n1_
            have BK702 := n2_
            have BK711 := n3_
            have HB := n4_
            clear n0_ n1_ n2_ n3_ n4_
            have n0_ := Aside0.mk (Kd.R_drew HO_5.out)
            have n1_ := Aside0.mk (Kd.R_drew HO_18.out)
            have n2_ := Aside0.mk (blk_drew BK702.out)
            have n3_ := Aside0.mk (blk_drew BK711.out)
            have n4_ := Aside0.mk (below_drew1 HB.out)
            clear HO_5
            clear HO_18
            clear BK702
            clear BK711
            clear HB
            have HO_5 := n0_
            have HO_18 := n1_
            have BK702 := n2_
            have BK711 := n3_
            have HB := n4_
            clear n0_ n1_ n2_ n3_ n4_
            refine start_ (n := 27) (S := fun w' => w'.cell? ⟨gb702, 0, none⟩ = some (.int .i64 a0_0) ∧ w'.cell? ⟨gb702, 1, none⟩ = some (.string a0_1) ∧ w'.cell? ⟨gb711, 0, none⟩ = some (.int .i64 ((rd_T83 t707 x20_1).f0)) ∧ w'.cell? ⟨gb711, 1, none⟩ = some (.int .i64 ((rd_T83 t707 x20_1).f1)) ∧ w'.cell? ⟨gb711, 2, none⟩ = some (.int .i64 ((rd_T83 t707 x20_1).f2))) (ds := []) #[false, false, false, false, false, false, false, false, false, false, false, false, false, false, false, false, false, false, false, false, false, false, false, false, false, false, false] (by kernel_rfl) rfl rfl ⟨(blk_cell BK702.out 0).trans rfl, (blk_cell BK702.out 1).trans rfl, (blk_cell BK711.out 0).trans rfl, (blk_cell BK711.out 1).trans rfl, (blk_cell BK711.out 2).trans rfl⟩ (fun hHeld => ?_); refine with_tabW impl_TrianglesOf.tab8 impl_TrianglesOf.bits8 (fun HT_ HW_ => ?_)
            generalize w44.drew = w45 at HO_5 HO_18 BK702 BK711 HB hHeld ⊢
            refine pu 0 24 HT_ ?_
            refine pu 2 26 HT_ ?_
            refine pu 4 28 HT_ ?_
            refine pu 8 32 HT_ ?_
            refine pu 10 34 HT_ ?_
            refine pu 12 36 HT_ ?_
            refine pu 17 41 HT_ ?_
            refine pu 19 43 HT_ ?_
            refine pu 21 45 HT_ ?_
            refine take_ (i := 1) (N := some 25) (v := ?_) (a' := ?_) #[true, true, true, false, true, false, false, false, true, false, true, false, true, false, false, false, false, true, false, true, false, true, false, false, false, false, false] rfl rfl (take_ofW HT_.out HW_.out (by kernel_rfl)) (fun _ _ _ h => h) (Or.inl ⟨by rfl, ?_⟩) hHeld ?_ ?_
            rotate_left
            ·rintro w' ⟨s0, s1, s2, s3, s4⟩
             go_simp
             with_reducible rfl
            rotate_left
            ·simp only [Act.put, List.setIfInBounds_toArray, List.set_cons_zero, List.set_cons_succ, i64_w, i32_w]
             rfl
            refine take_ (i := 3) (N := some 27) (v := ?_) (a' := ?_) #[true, true, true, true, true, false, false, false, true, false, true, false, true, false, false, false, false, true, false, true, false, true, false, false, false, false, false] rfl rfl (take_ofW HT_.out HW_.out (by kernel_rfl)) (fun _ _ _ h => h) (Or.inl ⟨by rfl, ?_⟩) hHeld ?_ ?_
            rotate_left
            ·rintro w' ⟨s0, s1, s2, s3, s4⟩
             go_simp
             with_reducible rfl
            rotate_left
            ·simp only [Act.put, List.setIfInBounds_toArray, List.set_cons_zero, List.set_cons_succ, i64_w, i32_w]
             rfl
            refine take_ (i := 5) (N := some 29) (v := ?_) (a' := ?_) #[true, true, true, true, true, true, false, false, true, false, true, false, true, false, false, false, false, true, false, true, false, true, false, false, false, false, false] rfl rfl (take_ofW HT_.out HW_.out (by kernel_rfl)) (fun _ _ _ h => h) (Or.inl ⟨by rfl, ?_⟩) hHeld ?_ ?_
            rotate_left
            ·rintro w' ⟨s0, s1, s2, s3, s4⟩
             go_simp
             with_reducible rfl
            rotate_left
            ·simp only [Act.put, List.setIfInBounds_toArray, List.set_cons_zero, List.set_cons_succ, i64_w, i32_w]
             rfl
            refine take_ (i := 9) (N := some 33) (v := ?_) (a' := ?_) #[true, true, true, true, true, true, false, false, true, true, true, false, true, false, false, false, false, true, false, true, false, true, false, false, false, false, false] rfl rfl (take_ofW HT_.out HW_.out (by kernel_rfl)) (fun _ _ _ h => h) (Or.inl ⟨by rfl, ?_⟩) hHeld ?_ ?_
            rotate_left
            ·rintro w' ⟨s0, s1, s2, s3, s4⟩
             go_simp
             with_reducible rfl
            rotate_left
            ·simp only [Act.put, List.setIfInBounds_toArray, List.set_cons_zero, List.set_cons_succ, i64_w, i32_w]
             rfl
            refine take_ (i := 11) (N := some 35) (v := ?_) (a' := ?_) #[true, true, true, true, true, true, false, false, true, true, true, true, true, false, false, false, false, true, false, true, false, true, false, false, false, false, false] rfl rfl (take_ofW HT_.out HW_.out (by kernel_rfl)) (fun _ _ _ h => h) (Or.inl ⟨by rfl, ?_⟩) hHeld ?_ ?_
            rotate_left
            ·rintro w' ⟨s0, s1, s2, s3, s4⟩
             go_simp
             with_reducible rfl
            rotate_left
            ·simp only [Act.put, List.setIfInBounds_toArray, List.set_cons_zero, List.set_cons_succ, i64_w, i32_w]
             rfl
            refine take_ (i := 13) (N := some 37) (v := ?_) (a' := ?_) #[true, true, true, true, true, true, false, false, true, true, true, true, true, true, false, false, false, true, false, true, false, true, false, false, false, false, false] rfl rfl (take_ofW HT_.out HW_.out (by kernel_rfl)) (fun _ _ _ h => h) (Or.inl ⟨by rfl, ?_⟩) hHeld ?_ ?_
            rotate_left
            ·rintro w' ⟨s0, s1, s2, s3, s4⟩
             go_simp
             with_reducible rfl
            rotate_left
            ·simp only [Act.put, List.setIfInBounds_toArray, List.set_cons_zero, List.set_cons_succ, i64_w, i32_w]
             rfl
            refine take_ (i := 18) (N := some 42) (v := ?_) (a' := ?_) #[true, true, true, true, true, true, false, false, true, true, true, true, true, true, false, false, false, true, true, true, false, true, false, false, false, false, false] rfl rfl (take_ofW HT_.out HW_.out (by kernel_rfl)) (fun _ _ _ h => h) (Or.inl ⟨by rfl, ?_⟩) hHeld ?_ ?_
            rotate_left
            ·rintro w' ⟨s0, s1, s2, s3, s4⟩
             go_simp
             with_reducible rfl
            rotate_left
            ·simp only [Act.put, List.setIfInBounds_toArray, List.set_cons_zero, List.set_cons_succ, i64_w, i32_w]
             rfl
            refine take_ (i := 20) (N := some 44) (v := ?_) (a' := ?_) #[true, true, true, true, true, true, false, false, true, true, true, true, true, true, false, false, false, true, true, true, true, true, false, false, false, false, false] rfl rfl (take_ofW HT_.out HW_.out (by kernel_rfl)) (fun _ _ _ h => h) (Or.inl ⟨by rfl, ?_⟩) hHeld ?_ ?_
            rotate_left
            ·rintro w' ⟨s0, s1, s2, s3, s4⟩
             go_simp
             with_reducible rfl
            rotate_left
            ·simp only [Act.put, List.setIfInBounds_toArray, List.set_cons_zero, List.set_cons_succ, i64_w, i32_w]
             rfl
            refine take_ (i := 22) (N := some 46) (v := ?_) (a' := ?_) #[true, true, true, true, true, true, false, false, true, true, true, true, true, true, false, false, false, true, true, true, true, true, true, false, false, false, false] rfl rfl (take_ofW HT_.out HW_.out (by kernel_rfl)) (fun _ _ _ h => h) (Or.inl ⟨by rfl, ?_⟩) hHeld ?_ ?_
            rotate_left
            ·rintro w' ⟨s0, s1, s2, s3, s4⟩
             go_simp
             with_reducible rfl
            rotate_left
            ·simp only [Act.put, List.setIfInBounds_toArray, List.set_cons_zero, List.set_cons_succ, i64_w, i32_w]
             rfl
            refine one_ (i := 6) (N := some 30) #[true, true, true, true, true, true, true, false, true, true, true, true, true, true, false, false, false, true, true, true, true, true, true, false, false, false, false] rfl rfl (one_of HT_.out (by kernel_rfl)) (by decide) (fun K hK => ?_)
            refine goes_ Try.func78 (by kernel_rfl) rfl #[.int .i64 a0_0, .int .i64 ((rd_T83 t707 x20_1).f0), .int .i64 ((rd_T83 t707 x20_1).f1)] (by rfl) rfl rfl (by (try simp only [List.map_toArray, List.map_cons, List.map_nil]); first | done | rfl | (simp only [List.length_drop, List.length_take]; rfl)) ?_
            with_reducible refine (impl_EdgeIndex.calls k1 a0_0 ((rd_T83 t707 x20_1).f0) ((rd_T83 t707 x20_1).f1) t712 _ A18.out).mono ?_
            rintro e w46 ⟨rfl, hb⟩
            refine ⟨_, rfl, ?_⟩
            have n0_ := Aside0.mk (Kd.R_below (rr HO_5) hb)
            have n1_ := Aside0.mk (Kd.R_below (rr HO_18) hb)
            have n2_ := Aside0.mk (blk_below (g := gb702) (o := .cells #[.int .i64 a0_0, .string a0_1] 26 (0, 0)) (bk BK702) hb)
            have n3_ := Aside0.mk (blk_below (g := gb711) (o := .cells #[.int .i64 ((rd_T83 t707 x20_1).f0), .int .i64 ((rd_T83 t707 x20_1).f1), .int .i64 ((rd_T83 t707 x20_1).f2)] 83 (0, 0)) (bk BK711) hb)
            have n4_ := Aside0.mk (below_step (by repeat (first | (with_reducible first | exact HB.out | apply below_alloc | apply pw_below_drewN | apply below_drew1 | refine below_set ?_ GE702.out | refine below_set ?_ GE711.out) | exact HB.out)) hb)
            clear HO_5
            clear HO_18
            clear BK702
            clear BK711
            clear HB
            have HO_5 := n0_
            have HO_18 := n1_
            have BK702 := n2_
            have BK711 := n3_
            have HB := n4_
            clear n0_ n1_ n2_ n3_ n4_
            (try clear hb)
            (try clear hb2)
            (try clear hk)
            (try clear hi)
            refine hK.out _ _ ⟨(blk_cell BK702.out 0).trans rfl, (blk_cell BK702.out 1).trans rfl, (blk_cell BK711.out 0).trans rfl, (blk_cell BK711.out 1).trans rfl, (blk_cell BK711.out 2).trans rfl⟩ (fun hHeld => ?_)
            clear hK K
            refine norm_ (a' := ?_) ?_ ?_
            rotate_left
            ·show Act.put _ (some 30) _ = _
             simp only [Act.put, List.setIfInBounds_toArray, List.set_cons_zero, List.set_cons_succ, i64_w, i32_w]
             rfl
            refine pu 7 31 HT_ ?_
            refine one_ (i := 14) (N := some 38) #[true, true, true, true, true, true, true, true, true, true, true, true, true, true, true, false, false, true, true, true, true, true, true, false, false, false, false] rfl rfl (one_of HT_.out (by kernel_rfl)) (by decide) (fun K hK => ?_)
            refine goes_ Try.func78 (by kernel_rfl) rfl #[.int .i64 a0_0, .int .i64 ((rd_T83 t707 x20_1).f0), .int .i64 ((rd_T83 t707 x20_1).f2)] (by rfl) rfl rfl (by (try simp only [List.map_toArray, List.map_cons, List.map_nil]); first | done | rfl | (simp only [List.length_drop, List.length_take]; rfl)) ?_
            with_reducible refine (impl_EdgeIndex.calls k1 a0_0 ((rd_T83 t707 x20_1).f0) ((rd_T83 t707 x20_1).f2) t713 _ A21.out).mono ?_
            rintro e w47 ⟨rfl, hb⟩
            refine ⟨_, rfl, ?_⟩
            have n0_ := Aside0.mk (Kd.R_below (rr HO_5) hb)
            have n1_ := Aside0.mk (Kd.R_below (rr HO_18) hb)
            have n2_ := Aside0.mk (blk_below (g := gb702) (o := .cells #[.int .i64 a0_0, .string a0_1] 26 (0, 0)) (bk BK702) hb)
            have n3_ := Aside0.mk (blk_below (g := gb711) (o := .cells #[.int .i64 ((rd_T83 t707 x20_1).f0), .int .i64 ((rd_T83 t707 x20_1).f1), .int .i64 ((rd_T83 t707 x20_1).f2)] 83 (0, 0)) (bk BK711) hb)
            have n4_ := Aside0.mk (below_step (by repeat (first | (with_reducible first | exact HB.out | apply below_alloc | apply pw_below_drewN | apply below_drew1 | refine below_set ?_ GE702.out | refine below_set ?_ GE711.out) | exact HB.out)) hb)
            clear HO_5
            clear HO_18
            clear BK702
            clear BK711
            clear HB
            have HO_5 := n0_
            have HO_18 := n1_
            have BK702 := n2_
            have BK711 := n3_
            have HB := n4_
            clear n0_ n1_ n2_ n3_ n4_
            (try clear hb)
            (try clear hb2)
            (try clear hk)
            (try clear hi)
            refine hK.out _ _ ⟨(blk_cell BK702.out 0).trans rfl, (blk_cell BK702.out 1).trans rfl, (blk_cell BK711.out 0).trans rfl, (blk_cell BK711.out 1).trans rfl, (blk_cell BK711.out 2).trans rfl⟩ (fun hHeld => ?_)
            clear hK K
            refine norm_ (a' := ?_) ?_ ?_
            rotate_left
            ·show Act.put _ (some 38) _ = _
             simp only [Act.put, List.setIfInBounds_toArray, List.set_cons_zero, List.set_cons_succ, i64_w, i32_w]
             rfl
            refine pu 15 39 HT_ ?_
            refine pu 16 40 HT_ ?_
            refine one_ (i := 23) (N := some 47) #[true, true, true, true, true, true, true, true, true, true, true, true, true, true, true, true, true, true, true, true, true, true, true, true, false, false, false] rfl rfl (one_of HT_.out (by kernel_rfl)) (by decide) (fun K hK => ?_)
            refine goes_ Try.func78 (by kernel_rfl) rfl #[.int .i64 a0_0, .int .i64 ((rd_T83 t707 x20_1).f1), .int .i64 ((rd_T83 t707 x20_1).f2)] (by rfl) rfl rfl (by (try simp only [List.map_toArray, List.map_cons, List.map_nil]); first | done | rfl | (simp only [List.length_drop, List.length_take]; rfl)) ?_
            with_reducible refine (impl_EdgeIndex.calls k1 a0_0 ((rd_T83 t707 x20_1).f1) ((rd_T83 t707 x20_1).f2) t714 _ A24.out).mono ?_
            rintro e w48 ⟨rfl, hb⟩
            refine ⟨_, rfl, ?_⟩
            have n0_ := Aside0.mk (Kd.R_below (rr HO_5) hb)
            have n1_ := Aside0.mk (Kd.R_below (rr HO_18) hb)
            have n2_ := Aside0.mk (blk_below (g := gb702) (o := .cells #[.int .i64 a0_0, .string a0_1] 26 (0, 0)) (bk BK702) hb)
            have n3_ := Aside0.mk (blk_below (g := gb711) (o := .cells #[.int .i64 ((rd_T83 t707 x20_1).f0), .int .i64 ((rd_T83 t707 x20_1).f1), .int .i64 ((rd_T83 t707 x20_1).f2)] 83 (0, 0)) (bk BK711) hb)
            have n4_ := Aside0.mk (below_step (by repeat (first | (with_reducible first | exact HB.out | apply below_alloc | apply pw_below_drewN | apply below_drew1 | refine below_set ?_ GE702.out | refine below_set ?_ GE711.out) | exact HB.out)) hb)
            clear HO_5
            clear HO_18
            clear BK702
            clear BK711
            clear HB
            have HO_5 := n0_
            have HO_18 := n1_
            have BK702 := n2_
            have BK711 := n3_
            have HB := n4_
            clear n0_ n1_ n2_ n3_ n4_
            (try clear hb)
            (try clear hb2)
            (try clear hk)
            (try clear hi)
            refine hK.out _ _ ⟨(blk_cell BK702.out 0).trans rfl, (blk_cell BK702.out 1).trans rfl, (blk_cell BK711.out 0).trans rfl, (blk_cell BK711.out 1).trans rfl, (blk_cell BK711.out 2).trans rfl⟩ (fun hHeld => ?_)
            clear hK K
            refine norm_ (a' := ?_) ?_ ?_
            rotate_left
            ·show Act.put _ (some 47) _ = _
             simp only [Act.put, List.setIfInBounds_toArray, List.set_cons_zero, List.set_cons_succ, i64_w, i32_w]
             rfl
            refine pu 24 48 HT_ ?_
            refine pu 25 49 HT_ ?_
            refine pu 26 9 HT_ ?_
            refine done_ (done_of HT_.out (by kernel_rfl)) ?_
            have hcz49_0 := bc BK711 0
            have hcz49_1 := bc BK711 1
            have hcz49_2 := bc BK711 2
            have hfz49_0 := bf BK711 0
            have hfz49_1 := bf BK711 1
            have hfz49_2 := bf BK711 2
            obtain ⟨Ao50, co50, eo50⟩ := Kd.R_slice HO_5.out
            subst eo50
            try go_wp2_with (first | (go_at_call 79; (with_reducible refine (impl_chi_countInside.calls k1 _ co50 t704 ((rd_T83 t707 x20_1).f0) ((rd_T83 t707 x20_1).f1) ((rd_T83 t707 x20_1).f2) t715 _ ?side1 ?side2 A28.out).mono ?_); (case side1 => repeat (first | exact (Kd.R_reads' HO_5.out).2.2 | (with_reducible refine Kd.C_alloc ?_ _) | (with_reducible refine Kd.C_drewN ?_ _) | (with_reducible refine Kd.C_drew ?_))); (case side2 => exact (Kd.R_reads' HO_5.out).2.1); rintro e w51 ⟨rfl, hb⟩; have n0_ := Aside0.mk (Kd.R_below (rr HO_5) hb); have n1_ := Aside0.mk (Kd.R_below (rr HO_18) hb); have n2_ := Aside0.mk (blk_below (g := gb702) (o := .cells #[.int .i64 a0_0, .string a0_1] 26 (0, 0)) (bk BK702) hb); have n3_ := Aside0.mk (blk_below (g := gb711) (o := .cells #[.int .i64 ((rd_T83 t707 x20_1).f0), .int .i64 ((rd_T83 t707 x20_1).f1), .int .i64 ((rd_T83 t707 x20_1).f2)] 83 (0, 0)) (bk BK711) hb); have n4_ := Aside0.mk (below_step (by repeat (first | (with_reducible first | exact HB.out | apply below_alloc | apply pw_below_drewN | apply below_drew1 | refine below_set ?_ GE702.out | refine below_set ?_ GE711.out) | exact HB.out)) hb); clear HO_5; clear HO_18; clear BK702; clear BK711; clear HB; have HO_5 := n0_; have HO_18 := n1_; have BK702 := n2_; have BK711 := n3_; have HB := n4_; clear n0_ n1_ n2_ n3_ n4_; (try clear hb); (try clear hb2); (try clear hk); (try clear hi)))
            go_roundg k1
            case measure => have := HK1.out; omega
            case rel => exact ⟨(x6_1), (wrap64 (x20_1 + 1)), (by first | rfl | (simp; done) | (simp [*]; done)), (by first | rfl | (simp; done) | (simp [*]; done)), H', ⟨by have := HK1.out; omega⟩, ⟨by (with_reducible repeat (first | apply Kd.R_alloc | apply Kd.R_drewN | apply Kd.R_drew)); exact HO_5.out⟩, ⟨by (with_reducible repeat (first | apply Kd.R_alloc | apply Kd.R_drewN | apply Kd.R_drew)); exact Kd.R_mono HO_18.out (fun _ hk => trivial)⟩, ⟨by (with_reducible repeat (first | refine blk_drewN ?_ _ | refine blk_drew ?_ | refine blk_alloc ?_ _)); exact BK702.out⟩, ⟨by repeat (first | (with_reducible first | exact HB.out | apply below_alloc | apply pw_below_drewN | apply below_drew1 | refine below_set ?_ GE702.out | refine below_set ?_ GE711.out) | exact HB.out)⟩⟩
          ·rw [if_neg c27] at H
           have c27b0 : ((Go.bits .and .i64 a1 (Go.bits .or .i64 (Go.bits .or .i64 (ji20) (ji23)) (ji26))) == (Go.bits .or .i64 (Go.bits .or .i64 (ji20) (ji23)) (ji26))) = false := beq_eq_false_iff_ne.mpr c27
           have c27b1 : ((Go.bits .and .i64 a1 (Go.bits .or .i64 (Go.bits .or .i64 (ji20) (ji23)) (ji26))) != (Go.bits .or .i64 (Go.bits .or .i64 (ji20) (ji23)) (ji26))) = true := bne_iff_ne.mpr c27
           have H' := Aside0.mk H
           clear H
           have p710 : 0 ≤ (x20_1 : Int) := of_decide_eq_true (by first | (with_reducible assumption) | assumption)
           have q710 : x20_1 < (t707.length : Int) := of_decide_eq_true (by first | (with_reducible assumption) | assumption)
           obtain ⟨ad710, e710, hx710_0, hx710_1, hx710_2⟩ := at_T83 (Kd.R_reads' HO_18.out).2.2 x20_1 p710 q710
           cases e710
           replace p710 := eq_true p710
           replace q710 := eq_true q710
           try go_wp2_with (first | ((with_reducible refine gate_dst (N := 8) rfl ?_); refine bx 8 #[.int .i64 0, .int .i64 0, .int .i64 0] 83 ?_; intro gb711 hg w52 hbox hb; have n0_ := Aside0.mk (Kd.R_below (rr HO_5) hb); have n1_ := Aside0.mk (Kd.R_below (Kd.R_elderB (rr HO_18) gb711 (Nat.le_of_eq hg.symm)) hb); have n2_ := Aside0.mk (blk_below (g := gb702) (o := .cells #[.int .i64 a0_0, .string a0_1] 26 (0, 0)) (bk BK702) hb); have n3_ := bsg HB GE702 hb; have n4_ := Aside0.mk (hbox); have n5_ := Aside0.mk ((by rw [hg]; exact (below_size (bg HB GE702)) : w.heap.size ≤ gb711)); have n6_ := Aside0.mk ((by rw [hg]; exact (below_size (bg HB GE702)) : w.heap.size ≤ gb711)); have n7_ := Aside0.mk ((by rw [hg]; exact Nat.ne_of_lt (blk_lt (g := gb702) (o := .cells #[.int .i64 a0_0, .string a0_1] 26 (0, 0)) (bk BK702)) : gb702 ≠ gb711)); have n8_ := Aside0.mk ((by rw [hg]; exact Nat.ne_of_gt (blk_lt (g := gb702) (o := .cells #[.int .i64 a0_0, .string a0_1] 26 (0, 0)) (bk BK702)) : gb711 ≠ gb702)); clear HO_5; clear HO_18; clear BK702; clear HB; have HO_5 := n0_; have HO_18 := n1_; have BK702 := n2_; have HB := n3_; have BK711 := n4_; have GW711 := n5_; have GE711 := n6_; have NB702_711 := n7_; have NB711_702 := n8_; clear n0_ n1_ n2_ n3_ n4_ n5_ n6_ n7_ n8_; clear hb hbox hg; have hnb53 := NB711_702.out; have hnc53 := NB702_711.out; have hcz54_0 := bc BK711 0; have hcz54_1 := bc BK711 1; have hcz54_2 := bc BK711 2; have hfz54_0 := bf BK711 0; have hfz54_1 := bf BK711 1; have hfz54_2 := bf BK711 2))
           have n0_ : Aside0 (Kd.R (Kd.int .i64) 78 (((w52.setCell ⟨gb711, 0, none⟩ (.int .i64 ((rd_T83 t707 x20_1).f0))).setCell ⟨gb711, 1, none⟩ (.int .i64 ((rd_T83 t707 x20_1).f1))).setCell ⟨gb711, 2, none⟩ (.int .i64 ((rd_T83 t707 x20_1).f2))) w.heap.size (fun _ => True) v705 t704) := ⟨by (with_reducible repeat (first | apply Kd.R_alloc | apply Kd.R_drewN | apply Kd.R_drew)); exact Kd.R_mono (Kd.R_far (p := ⟨gb711, 2, none⟩) (Kd.R_far (p := ⟨gb711, 1, none⟩) (Kd.R_far (p := ⟨gb711, 0, none⟩) (Kd.R_types HO_5.out BK711.out (by decide)) (fun _ hk => hk.2) (.int .i64 ((rd_T83 t707 x20_1).f0))) (fun _ hk => hk.2) (.int .i64 ((rd_T83 t707 x20_1).f1))) (fun _ hk => hk.2) (.int .i64 ((rd_T83 t707 x20_1).f2))) (fun _ hk => trivial)⟩
           have n1_ : Aside0 (Kd.R k83 83 (((w52.setCell ⟨gb711, 0, none⟩ (.int .i64 ((rd_T83 t707 x20_1).f0))).setCell ⟨gb711, 1, none⟩ (.int .i64 ((rd_T83 t707 x20_1).f1))).setCell ⟨gb711, 2, none⟩ (.int .i64 ((rd_T83 t707 x20_1).f2))) w.heap.size (fun k_ => k_ ≠ gb711) (.slice (some ad710) t707.length co14) t707) := ⟨by (with_reducible repeat (first | apply Kd.R_alloc | apply Kd.R_drewN | apply Kd.R_drew)); exact Kd.R_mono (Kd.R_far (p := ⟨gb711, 2, none⟩) (Kd.R_far (p := ⟨gb711, 1, none⟩) (Kd.R_far (p := ⟨gb711, 0, none⟩) (Kd.R_mono HO_18.out (fun k_ hk => (⟨hk, hk.2⟩ : _ ∧ k_ ≠ gb711))) (fun _ hk => hk.2) (.int .i64 ((rd_T83 t707 x20_1).f0))) (fun _ hk => hk.2) (.int .i64 ((rd_T83 t707 x20_1).f1))) (fun _ hk => hk.2) (.int .i64 ((rd_T83 t707 x20_1).f2))) (fun _ hk => hk.1.2)⟩
           have n2_ : Aside0 ((((w52.setCell ⟨gb711, 0, none⟩ (.int .i64 ((rd_T83 t707 x20_1).f0))).setCell ⟨gb711, 1, none⟩ (.int .i64 ((rd_T83 t707 x20_1).f1))).setCell ⟨gb711, 2, none⟩ (.int .i64 ((rd_T83 t707 x20_1).f2))).heap[gb702]? = some (.cells #[.int .i64 a0_0, .string a0_1] 26 (0, 0))) := ⟨by (with_reducible repeat (first | refine blk_drewN ?_ _ | refine blk_drew ?_ | refine blk_alloc ?_ _)); refine blk_far ?_ NB702_711.out _; (with_reducible repeat (first | refine blk_drewN ?_ _ | refine blk_drew ?_ | refine blk_alloc ?_ _)); refine blk_far ?_ NB702_711.out _; (with_reducible repeat (first | refine blk_drewN ?_ _ | refine blk_drew ?_ | refine blk_alloc ?_ _)); refine blk_far ?_ NB702_711.out _; (with_reducible repeat (first | refine blk_drewN ?_ _ | refine blk_drew ?_ | refine blk_alloc ?_ _)); exact BK702.out⟩
           have n3_ : Aside0 ((((w52.setCell ⟨gb711, 0, none⟩ (.int .i64 ((rd_T83 t707 x20_1).f0))).setCell ⟨gb711, 1, none⟩ (.int .i64 ((rd_T83 t707 x20_1).f1))).setCell ⟨gb711, 2, none⟩ (.int .i64 ((rd_T83 t707 x20_1).f2))).heap[gb711]? = some (.cells #[.int .i64 ((rd_T83 t707 x20_1).f0), .int .i64 ((rd_T83 t707 x20_1).f1), .int .i64 ((rd_T83 t707 x20_1).f2)] 83 (0, 0))) := ⟨by (with_reducible repeat (first | refine blk_drewN ?_ _ | refine blk_drew ?_ | refine blk_alloc ?_ _)); refine blk_put (cs := #[.int .i64 ((rd_T83 t707 x20_1).f0), .int .i64 ((rd_T83 t707 x20_1).f1), .int .i64 0]) ?_ 2 _ rfl; (with_reducible repeat (first | refine blk_drewN ?_ _ | refine blk_drew ?_ | refine blk_alloc ?_ _)); refine blk_put (cs := #[.int .i64 ((rd_T83 t707 x20_1).f0), .int .i64 0, .int .i64 0]) ?_ 1 _ rfl; (with_reducible repeat (first | refine blk_drewN ?_ _ | refine blk_drew ?_ | refine blk_alloc ?_ _)); refine blk_put (cs := #[.int .i64 0, .int .i64 0, .int .i64 0]) ?_ 0 _ rfl; (with_reducible repeat (first | refine blk_drewN ?_ _ | refine blk_drew ?_ | refine blk_alloc ?_ _)); exact BK711.out⟩
           have n4_ : Aside0 (Below w.heap.size w (((w52.setCell ⟨gb711, 0, none⟩ (.int .i64 ((rd_T83 t707 x20_1).f0))).setCell ⟨gb711, 1, none⟩ (.int .i64 ((rd_T83 t707 x20_1).f1))).setCell ⟨gb711, 2, none⟩ (.int .i64 ((rd_T83 t707 x20_1).f2)))) := ⟨by repeat (first | (with_reducible first | exact HB.out | apply below_alloc | apply pw_below_drewN | apply below_drew1 | refine below_set ?_ GE702.out | refine below_set ?_ GE711.out) | exact HB.out)⟩
           (try clear HO_5)
           (try clear HO_18)
           (try clear BK702)
           (try clear BK711)
           (try clear HB)
           generalize (((w52.setCell ⟨gb711, 0, none⟩ (.int .i64 ((rd_T83 t707 x20_1).f0))).setCell ⟨gb711, 1, none⟩ (.int .i64 ((rd_T83 t707 x20_1).f1))).setCell ⟨gb711, 2, none⟩ (.int .i64 ((rd_T83 t707 x20_1).f2))) = w55 at n0_ n1_ n2_ n3_ n4_ ⊢
           have HO_5 := n0_
           have HO_18 := n1_
           have BK702 := n2_
           have BK711 := n3_
           have HB := n4_
           clear n0_ n1_ n2_ n3_ n4_
           have n0_ := Aside0.mk (Kd.R_drew HO_5.out)
           have n1_ := Aside0.mk (Kd.R_drew HO_18.out)
           have n2_ := Aside0.mk (blk_drew BK702.out)
           have n3_ := Aside0.mk (blk_drew BK711.out)
           have n4_ := Aside0.mk (below_drew1 HB.out)
           clear HO_5
           clear HO_18
           clear BK702
           clear BK711
           clear HB
           have HO_5 := n0_
           have HO_18 := n1_
           have BK702 := n2_
           have BK711 := n3_
           have HB := n4_
           clear n0_ n1_ n2_ n3_ n4_
           refine start_ (n := 27) (S := fun w' => w'.cell? ⟨gb702, 0, none⟩ = some (.int .i64 a0_0) ∧ w'.cell? ⟨gb702, 1, none⟩ = some (.string a0_1) ∧ w'.cell? ⟨gb711, 0, none⟩ = some (.int .i64 ((rd_T83 t707 x20_1).f0)) ∧ w'.cell? ⟨gb711, 1, none⟩ = some (.int .i64 ((rd_T83 t707 x20_1).f1)) ∧ w'.cell? ⟨gb711, 2, none⟩ = some (.int .i64 ((rd_T83 t707 x20_1).f2))) (ds := []) #[false, false, false, false, false, false, false, false, false, false, false, false, false, false, false, false, false, false, false, false, false, false, false, false, false, false, false] (by kernel_rfl) rfl rfl ⟨(blk_cell BK702.out 0).trans rfl, (blk_cell BK702.out 1).trans rfl, (blk_cell BK711.out 0).trans rfl, (blk_cell BK711.out 1).trans rfl, (blk_cell BK711.out 2).trans rfl⟩ (fun hHeld => ?_); refine with_tabW impl_TrianglesOf.tab8 impl_TrianglesOf.bits8 (fun HT_ HW_ => ?_)
           generalize w55.drew = w56 at HO_5 HO_18 BK702 BK711 HB hHeld ⊢
           refine pu 0 24 HT_ ?_
           refine pu 2 26 HT_ ?_
           refine pu 4 28 HT_ ?_
           refine pu 8 32 HT_ ?_
           refine pu 10 34 HT_ ?_
           refine pu 12 36 HT_ ?_
           refine pu 17 41 HT_ ?_
           refine pu 19 43 HT_ ?_
           refine pu 21 45 HT_ ?_
           refine take_ (i := 1) (N := some 25) (v := ?_) (a' := ?_) #[true, true, true, false, true, false, false, false, true, false, true, false, true, false, false, false, false, true, false, true, false, true, false, false, false, false, false] rfl rfl (take_ofW HT_.out HW_.out (by kernel_rfl)) (fun _ _ _ h => h) (Or.inl ⟨by rfl, ?_⟩) hHeld ?_ ?_
           rotate_left
           ·rintro w' ⟨s0, s1, s2, s3, s4⟩
            go_simp
            with_reducible rfl
           rotate_left
           ·simp only [Act.put, List.setIfInBounds_toArray, List.set_cons_zero, List.set_cons_succ, i64_w, i32_w]
            rfl
           refine take_ (i := 3) (N := some 27) (v := ?_) (a' := ?_) #[true, true, true, true, true, false, false, false, true, false, true, false, true, false, false, false, false, true, false, true, false, true, false, false, false, false, false] rfl rfl (take_ofW HT_.out HW_.out (by kernel_rfl)) (fun _ _ _ h => h) (Or.inl ⟨by rfl, ?_⟩) hHeld ?_ ?_
           rotate_left
           ·rintro w' ⟨s0, s1, s2, s3, s4⟩
            go_simp
            with_reducible rfl
           rotate_left
           ·simp only [Act.put, List.setIfInBounds_toArray, List.set_cons_zero, List.set_cons_succ, i64_w, i32_w]
            rfl
           refine take_ (i := 5) (N := some 29) (v := ?_) (a' := ?_) #[true, true, true, true, true, true, false, false, true, false, true, false, true, false, false, false, false, true, false, true, false, true, false, false, false, false, false] rfl rfl (take_ofW HT_.out HW_.out (by kernel_rfl)) (fun _ _ _ h => h) (Or.inl ⟨by rfl, ?_⟩) hHeld ?_ ?_
           rotate_left
           ·rintro w' ⟨s0, s1, s2, s3, s4⟩
            go_simp
            with_reducible rfl
           rotate_left
           ·simp only [Act.put, List.setIfInBounds_toArray, List.set_cons_zero, List.set_cons_succ, i64_w, i32_w]
            rfl
           refine take_ (i := 9) (N := some 33) (v := ?_) (a' := ?_) #[true, true, true, true, true, true, false, false, true, true, true, false, true, false, false, false, false, true, false, true, false, true, false, false, false, false, false] rfl rfl (take_ofW HT_.out HW_.out (by kernel_rfl)) (fun _ _ _ h => h) (Or.inl ⟨by rfl, ?_⟩) hHeld ?_ ?_
           rotate_left
           ·rintro w' ⟨s0, s1, s2, s3, s4⟩
            go_simp
            with_reducible rfl
           rotate_left
           ·simp only [Act.put, List.setIfInBounds_toArray, List.set_cons_zero, List.set_cons_succ, i64_w, i32_w]
            rfl
           refine take_ (i := 11) (N := some 35) (v := ?_) (a' := ?_) #[true, true, true, true, true, true, false, false, true, true, true, true, true, false, false, false, false, true, false, true, false, true, false, false, false, false, false] rfl rfl (take_ofW HT_.out HW_.out (by kernel_rfl)) (fun _ _ _ h => h) (Or.inl ⟨by rfl, ?_⟩) hHeld ?_ ?_
           rotate_left
           ·rintro w' ⟨s0, s1, s2, s3, s4⟩
            go_simp
            with_reducible rfl
           rotate_left
           ·simp only [Act.put, List.setIfInBounds_toArray, List.set_cons_zero, List.set_cons_succ, i64_w, i32_w]
            rfl
           refine take_ (i := 13) (N := some 37) (v := ?_) (a' := ?_) #[true, true, true, true, true, true, false, false, true, true, true, true, true, true, false, false, false, true, false, true, false, true, false, false, false, false, false] rfl rfl (take_ofW HT_.out HW_.out (by kernel_rfl)) (fun _ _ _ h => h) (Or.inl ⟨by rfl, ?_⟩) hHeld ?_ ?_
           rotate_left
           ·rintro w' ⟨s0, s1, s2, s3, s4⟩
            go_simp
            with_reducible rfl
           rotate_left
           ·simp only [Act.put, List.setIfInBounds_toArray, List.set_cons_zero, List.set_cons_succ, i64_w, i32_w]
            rfl
           refine take_ (i := 18) (N := some 42) (v := ?_) (a' := ?_) #[true, true, true, true, true, true, false, false, true, true, true, true, true, true, false, false, false, true, true, true, false, true, false, false, false, false, false] rfl rfl (take_ofW HT_.out HW_.out (by kernel_rfl)) (fun _ _ _ h => h) (Or.inl ⟨by rfl, ?_⟩) hHeld ?_ ?_
           rotate_left
           ·rintro w' ⟨s0, s1, s2, s3, s4⟩
            go_simp
            with_reducible rfl
           rotate_left
           ·simp only [Act.put, List.setIfInBounds_toArray, List.set_cons_zero, List.set_cons_succ, i64_w, i32_w]
            rfl
           refine take_ (i := 20) (N := some 44) (v := ?_) (a' := ?_) #[true, true, true, true, true, true, false, false, true, true, true, true, true, true, false, false, false, true, true, true, true, true, false, false, false, false, false] rfl rfl (take_ofW HT_.out HW_.out (by kernel_rfl)) (fun _ _ _ h => h) (Or.inl ⟨by rfl, ?_⟩) hHeld ?_ ?_
           rotate_left
           ·rintro w' ⟨s0, s1, s2, s3, s4⟩
            go_simp
            with_reducible rfl
           rotate_left
           ·simp only [Act.put, List.setIfInBounds_toArray, List.set_cons_zero, List.set_cons_succ, i64_w, i32_w]
            rfl
           refine take_ (i := 22) (N := some 46) (v := ?_) (a' := ?_) #[true, true, true, true, true, true, false, false, true, true, true, true, true, true, false, false, false, true, true, true, true, true, true, false, false, false, false] rfl rfl (take_ofW HT_.out HW_.out (by kernel_rfl)) (fun _ _ _ h => h) (Or.inl ⟨by rfl, ?_⟩) hHeld ?_ ?_
           rotate_left
           ·rintro w' ⟨s0, s1, s2, s3, s4⟩
            go_simp
            with_reducible rfl
           rotate_left
           ·simp only [Act.put, List.setIfInBounds_toArray, List.set_cons_zero, List.set_cons_succ, i64_w, i32_w]
            rfl
           refine one_ (i := 6) (N := some 30) #[true, true, true, true, true, true, true, false, true, true, true, true, true, true, false, false, false, true, true, true, true, true, true, false, false, false, false] rfl rfl (one_of HT_.out (by kernel_rfl)) (by decide) (fun K hK => ?_)
           refine goes_ Try.func78 (by kernel_rfl) rfl #[.int .i64 a0_0, .int .i64 ((rd_T83 t707 x20_1).f0), .int .i64 ((rd_T83 t707 x20_1).f1)] (by rfl) rfl rfl (by (try simp only [List.map_toArray, List.map_cons, List.map_nil]); first | done | rfl | (simp only [List.length_drop, List.length_take]; rfl)) ?_
           with_reducible refine (impl_EdgeIndex.calls k1 a0_0 ((rd_T83 t707 x20_1).f0) ((rd_T83 t707 x20_1).f1) t712 _ A18.out).mono ?_
           rintro e w57 ⟨rfl, hb⟩
           refine ⟨_, rfl, ?_⟩
           have n0_ := Aside0.mk (Kd.R_below (rr HO_5) hb)
           have n1_ := Aside0.mk (Kd.R_below (rr HO_18) hb)
           have n2_ := Aside0.mk (blk_below (g := gb702) (o := .cells #[.int .i64 a0_0, .string a0_1] 26 (0, 0)) (bk BK702) hb)
           have n3_ := Aside0.mk (blk_below (g := gb711) (o := .cells #[.int .i64 ((rd_T83 t707 x20_1).f0), .int .i64 ((rd_T83 t707 x20_1).f1), .int .i64 ((rd_T83 t707 x20_1).f2)] 83 (0, 0)) (bk BK711) hb)
           have n4_ := Aside0.mk (below_step (by repeat (first | (with_reducible first | exact HB.out | apply below_alloc | apply pw_below_drewN | apply below_drew1 | refine below_set ?_ GE702.out | refine below_set ?_ GE711.out) | exact HB.out)) hb)
           clear HO_5
           clear HO_18
           clear BK702
           clear BK711
           clear HB
           have HO_5 := n0_
           have HO_18 := n1_
           have BK702 := n2_
           have BK711 := n3_
           have HB := n4_
           clear n0_ n1_ n2_ n3_ n4_
           (try clear hb)
           (try clear hb2)
           (try clear hk)
           (try clear hi)
           refine hK.out _ _ ⟨(blk_cell BK702.out 0).trans rfl, (blk_cell BK702.out 1).trans rfl, (blk_cell BK711.out 0).trans rfl, (blk_cell BK711.out 1).trans rfl, (blk_cell BK711.out 2).trans rfl⟩ (fun hHeld => ?_)
           clear hK K
           refine norm_ (a' := ?_) ?_ ?_
           rotate_left
           ·show Act.put _ (some 30) _ = _
            simp only [Act.put, List.setIfInBounds_toArray, List.set_cons_zero, List.set_cons_succ, i64_w, i32_w]
            rfl
           refine pu 7 31 HT_ ?_
           refine one_ (i := 14) (N := some 38) #[true, true, true, true, true, true, true, true, true, true, true, true, true, true, true, false, false, true, true, true, true, true, true, false, false, false, false] rfl rfl (one_of HT_.out (by kernel_rfl)) (by decide) (fun K hK => ?_)
           refine goes_ Try.func78 (by kernel_rfl) rfl #[.int .i64 a0_0, .int .i64 ((rd_T83 t707 x20_1).f0), .int .i64 ((rd_T83 t707 x20_1).f2)] (by rfl) rfl rfl (by (try simp only [List.map_toArray, List.map_cons, List.map_nil]); first | done | rfl | (simp only [List.length_drop, List.length_take]; rfl)) ?_
           with_reducible refine (impl_EdgeIndex.calls k1 a0_0 ((rd_T83 t707 x20_1).f0) ((rd_T83 t707 x20_1).f2) t713 _ A21.out).mono ?_
           rintro e w58 ⟨rfl, hb⟩
           refine ⟨_, rfl, ?_⟩
           have n0_ := Aside0.mk (Kd.R_below (rr HO_5) hb)
           have n1_ := Aside0.mk (Kd.R_below (rr HO_18) hb)
           have n2_ := Aside0.mk (blk_below (g := gb702) (o := .cells #[.int .i64 a0_0, .string a0_1] 26 (0, 0)) (bk BK702) hb)
           have n3_ := Aside0.mk (blk_below (g := gb711) (o := .cells #[.int .i64 ((rd_T83 t707 x20_1).f0), .int .i64 ((rd_T83 t707 x20_1).f1), .int .i64 ((rd_T83 t707 x20_1).f2)] 83 (0, 0)) (bk BK711) hb)
           have n4_ := Aside0.mk (below_step (by repeat (first | (with_reducible first | exact HB.out | apply below_alloc | apply pw_below_drewN | apply below_drew1 | refine below_set ?_ GE702.out | refine below_set ?_ GE711.out) | exact HB.out)) hb)
           clear HO_5
           clear HO_18
           clear BK702
           clear BK711
           clear HB
           have HO_5 := n0_
           have HO_18 := n1_
           have BK702 := n2_
           have BK711 := n3_
           have HB := n4_
           clear n0_ n1_ n2_ n3_ n4_
           (try clear hb)
           (try clear hb2)
           (try clear hk)
           (try clear hi)
           refine hK.out _ _ ⟨(blk_cell BK702.out 0).trans rfl, (blk_cell BK702.out 1).trans rfl, (blk_cell BK711.out 0).trans rfl, (blk_cell BK711.out 1).trans rfl, (blk_cell BK711.out 2).trans rfl⟩ (fun hHeld => ?_)
           clear hK K
           refine norm_ (a' := ?_) ?_ ?_
           rotate_left
           ·show Act.put _ (some 38) _ = _
            simp only [Act.put, List.setIfInBounds_toArray, List.set_cons_zero, List.set_cons_succ, i64_w, i32_w]
            rfl
           refine pu 15 39 HT_ ?_
           refine pu 16 40 HT_ ?_
           refine one_ (i := 23) (N := some 47) #[true, true, true, true, true, true, true, true, true, true, true, true, true, true, true, true, true, true, true, true, true, true, true, true, false, false, false] rfl rfl (one_of HT_.out (by kernel_rfl)) (by decide) (fun K hK => ?_)
           refine goes_ Try.func78 (by kernel_rfl) rfl #[.int .i64 a0_0, .int .i64 ((rd_T83 t707 x20_1).f1), .int .i64 ((rd_T83 t707 x20_1).f2)] (by rfl) rfl rfl (by (try simp only [List.map_toArray, List.map_cons, List.map_nil]); first | done | rfl | (simp only [List.length_drop, List.length_take]; rfl)) ?_
           with_reducible refine (impl_EdgeIndex.calls k1 a0_0 ((rd_T83 t707 x20_1).f1) ((rd_T83 t707 x20_1).f2) t714 _ A24.out).mono ?_
           rintro e w59 ⟨rfl, hb⟩
           refine ⟨_, rfl, ?_⟩
           have n0_ := Aside0.mk (Kd.R_below (rr HO_5) hb)
           have n1_ := Aside0.mk (Kd.R_below (rr HO_18) hb)
           have n2_ := Aside0.mk (blk_below (g := gb702) (o := .cells #[.int .i64 a0_0, .string a0_1] 26 (0, 0)) (bk BK702) hb)
           have n3_ := Aside0.mk (blk_below (g := gb711) (o := .cells #[.int .i64 ((rd_T83 t707 x20_1).f0), .int .i64 ((rd_T83 t707 x20_1).f1), .int .i64 ((rd_T83 t707 x20_1).f2)] 83 (0, 0)) (bk BK711) hb)
           have n4_ := Aside0.mk (below_step (by repeat (first | (with_reducible first | exact HB.out | apply below_alloc | apply pw_below_drewN | apply below_drew1 | refine below_set ?_ GE702.out | refine below_set ?_ GE711.out) | exact HB.out)) hb)
           clear HO_5
           clear HO_18
           clear BK702
           clear BK711
           clear HB
           have HO_5 := n0_
           have HO_18 := n1_
           have BK702 := n2_
           have BK711 := n3_
           have HB := n4_
           clear n0_ n1_ n2_ n3_ n4_
           (try clear hb)
           (try clear hb2)
           (try clear hk)
           (try clear hi)
           refine hK.out _ _ ⟨(blk_cell BK702.out 0).trans rfl, (blk_cell BK702.out 1).trans rfl, (blk_cell BK711.out 0).trans rfl, (blk_cell BK711.out 1).trans rfl, (blk_cell BK711.out 2).trans rfl⟩ (fun hHeld => ?_)
           clear hK K
           refine norm_ (a' := ?_) ?_ ?_
           rotate_left
           ·show Act.put _ (some 47) _ = _
            simp only [Act.put, List.setIfInBounds_toArray, List.set_cons_zero, List.set_cons_succ, i64_w, i32_w]
            rfl
           refine pu 24 48 HT_ ?_
           refine pu 25 49 HT_ ?_
           refine pu 26 9 HT_ ?_
           refine done_ (done_of HT_.out (by kernel_rfl)) ?_
           try go_wp2
           go_roundg k1
           case measure => have := HK1.out; omega
           case rel => exact ⟨(x6_1), (wrap64 (x20_1 + 1)), (by first | rfl | (simp; done) | (simp [*]; done)), (by first | rfl | (simp; done) | (simp [*]; done)), H', ⟨by have := HK1.out; omega⟩, ⟨by (with_reducible repeat (first | apply Kd.R_alloc | apply Kd.R_drewN | apply Kd.R_drew)); exact HO_5.out⟩, ⟨by (with_reducible repeat (first | apply Kd.R_alloc | apply Kd.R_drewN | apply Kd.R_drew)); exact Kd.R_mono HO_18.out (fun _ hk => trivial)⟩, ⟨by (with_reducible repeat (first | refine blk_drewN ?_ _ | refine blk_drew ?_ | refine blk_alloc ?_ _)); exact BK702.out⟩, ⟨by repeat (first | (with_reducible first | exact HB.out | apply below_alloc | apply pw_below_drewN | apply below_drew1 | refine below_set ?_ GE702.out | refine below_set ?_ GE711.out) | exact HB.out)⟩⟩
         ·rw [if_neg c25] at H
          exact absurd H (by simp)
        ·rw [if_neg c22] at H
         exact absurd H (by simp)
       ·rw [if_neg c19] at H
        exact absurd H (by simp)
      ·rw [if_neg c17] at H
       exact absurd H (by simp)
     ·rw [if_neg c16] at H
      exact absurd H (by simp)
    ·rw [if_neg c15] at H
     have c15b0 : decide (x20_1 < (t707.length : Int)) = false := decide_eq_false c15
     clear c15
     obtain rfl := Option.some.inj H
     go_wp2
     go_ret
     exact ⟨by first | rfl | (simp [errW_none, errW_some] <;> rfl) | (simp [*, errW_none, errW_some] <;> rfl), (bg HB GE702)⟩
 ·replace c4 := Bool.eq_false_iff.mpr c4
  subst c4
  have H1 : (some (-1)) = some r := by rw [if_neg (show ¬ (false = true) by decide)] at H; exact H
  clear H
  have H := H1
  clear H1
  obtain rfl := Option.some.inj H
  go_enter Try.func43, Try.ntmps43
  go_wp2_with (first | ((with_reducible refine gate_dst (N := 2) rfl ?_); refine bx 2 #[.int .i64 a0_0, .string a0_1] 26 ?_; intro gb702 hg w60 hbox hb; have BK702 := Aside0.mk hbox; have GE702 := gs HB hg; have GW702 := GE702; replace HB := bs HB hb; clear hb hbox hg; have hcz61_0 := bc BK702 0; have hcz61_1 := bc BK702 1; have hfz61_0 := bf BK702 0; have hfz61_1 := bf BK702 1) | ((with_reducible refine gate_callee (f := 24) rfl ?_); refine gL (some 12) rfl rfl Try.func24 (by kernel_rfl) rfl #[.agg #[.int .i64 a0_0, .string a0_1], .int .i64 a1] rfl ?_; (with_reducible refine (impl_IsTriangulation.calls k a0_0 a0_1 a1 false _ A3.out).mono ?_); rintro e w62 ⟨rfl, hb⟩; refine ⟨_, rfl, ?_⟩; have n0_ := Aside0.mk (blk_below (g := gb702) (o := .cells #[.int .i64 a0_0, .string a0_1] 26 (0, 0)) (bk BK702) hb); have n1_ := bsg HB GE702 hb; clear BK702; clear HB; have BK702 := n0_; have HB := n1_; clear n0_ n1_; (try clear hb); (try clear hb2); (try clear hk); (try clear hi)))
  go_ret
  exact ⟨by first | rfl | (simp [errW_none, errW_some] <;> rfl) | (simp [*, errW_none, errW_some] <;> rfl), (bg HB GE702)⟩

/-! ### laws_FnExactTrianglesOf: function 14 -/
def laws_FnExactTrianglesOf.f (k : Nat) (a0_0 : Int) (a0_1 : ByteArray) (a1 : Int) : Option (Bool) := (laws_szSigns.f a0_0 a0_1 1048576).bind fun t717 => (if t717 < 0 then (some true) else ((laws_toSigns.f a0_0 a0_1).bind fun bt718 => ((spec_TrianglesOf.f k bt718.1 bt718.2 a1).bind fun t720 => ((laws_toSigns.f a0_0 a0_1).bind fun bt721 => ((impl_TrianglesOf.f k bt721.1 bt721.2 a1).bind fun t723 => (if t723 = t720 then (some true) else (some false)))))))
theorem laws_FnExactTrianglesOf.mono : ∀ a0 a1 a2 k, LeO (laws_FnExactTrianglesOf.f k a0 a1 a2) (laws_FnExactTrianglesOf.f (k + 1) a0 a1 a2) := by
 intro a0 a1 a2 k
 unfold laws_FnExactTrianglesOf.f
 repeat' first
   | (with_reducible exact impl_TrianglesOf.mono _ _ _ _)
   | (with_reducible exact spec_TrianglesOf.mono _ _ _ _)
   | (with_reducible exact LeO.refl _)
   | (with_reducible exact LeO.none _)
   | (with_reducible refine LeO.ite ?_ ?_)
   | (with_reducible refine LeO.bind ?_ (fun _ => ?_))
   | exact impl_TrianglesOf.mono _ _ _ _
   | exact spec_TrianglesOf.mono _ _ _ _
   | exact LeO.none _
   | refine LeO.ite ?_ ?_
   | refine LeO.bind ?_ (fun _ => ?_)
set_option maxHeartbeats 8000000 in
set_option maxRecDepth 100000 in
theorem laws_FnExactTrianglesOf.calls (k : Nat) (a0_0 : Int) (a0_1 : ByteArray) (a1 : Int) (r : Bool) (w : World) (h : laws_FnExactTrianglesOf.f k a0_0 a0_1 a1 = some r) :
  Calls Try.prog 14 #[.agg #[.int .i64 a0_0, .string a0_1], .int .i64 a1] w fun e w' => e = .returned (.bool r) ∧ Below w.heap.size w w' := by
 have hu23 := Try.underlying23
 have HB := Aside0.mk (Below.refl w.heap.size w)
 have H : ((laws_szSigns.f a0_0 a0_1 1048576).bind fun t717 => (if t717 < 0 then (some true) else ((laws_toSigns.f a0_0 a0_1).bind fun bt718 => ((spec_TrianglesOf.f k bt718.1 bt718.2 a1).bind fun t720 => ((laws_toSigns.f a0_0 a0_1).bind fun bt721 => ((impl_TrianglesOf.f k bt721.1 bt721.2 a1).bind fun t723 => (if t723 = t720 then (some true) else (some false)))))))) = some r := h
 clear h
 replace H := Option.bind_eq_some_iff.mp H
 obtain ⟨t717, A30, H⟩ := H
 (try dsimp only at H)
 have A3 := Aside0.mk A30
 clear A30
 by_cases c4 : t717 < 0
 ·rw [if_pos c4] at H
  have c4b0 : decide (t717 < 0) = true := decide_eq_true c4
  clear c4
  obtain rfl := Option.some.inj H
  go_enter Try.func14, Try.ntmps14
  go_wp2_with (first | ((with_reducible refine gate_dst (N := 2) rfl ?_); refine bx 2 #[.int .i64 a0_0, .string a0_1] 23 ?_; intro gb716 hg w5 hbox hb; have BK716 := Aside0.mk hbox; have GE716 := gs HB hg; have GW716 := GE716; replace HB := bs HB hb; clear hb hbox hg; have hcz6_0 := bc BK716 0; have hcz6_1 := bc BK716 1; have hfz6_0 := bf BK716 0; have hfz6_1 := bf BK716 1) | ((with_reducible refine gate_callee (f := 15) rfl ?_); refine gL (some 10) rfl rfl Try.func15 (by kernel_rfl) rfl #[.agg #[.int .i64 a0_0, .string a0_1], .int .i64 1048576] rfl ?_; (with_reducible refine (laws_szSigns.calls a0_0 a0_1 1048576 t717 _ A3.out).mono ?_); rintro e w7 ⟨rfl, hb⟩; refine ⟨_, rfl, ?_⟩; have n0_ := Aside0.mk (blk_below (g := gb716) (o := .cells #[.int .i64 a0_0, .string a0_1] 23 (0, 0)) (bk BK716) hb); have n1_ := bsg HB GE716 hb; clear BK716; clear HB; have BK716 := n0_; have HB := n1_; clear n0_ n1_; (try clear hb); (try clear hb2); (try clear hk); (try clear hi)))
  go_ret
  exact ⟨by first | rfl | (simp [errW_none, errW_some] <;> rfl) | (simp [*, errW_none, errW_some] <;> rfl), (bg HB GE716)⟩
 ·rw [if_neg c4] at H
  have c4b0 : decide (t717 < 0) = false := decide_eq_false c4
  clear c4
  replace H := Option.bind_eq_some_iff.mp H
  obtain ⟨⟨t718, t719⟩, A80, H⟩ := H
  (try dsimp only at H)
  have A8 := Aside0.mk A80
  clear A80
  replace H := Option.bind_eq_some_iff.mp H
  obtain ⟨t720, A90, H⟩ := H
  (try dsimp only at H)
  have A9 := Aside0.mk A90
  clear A90
  replace H := Option.bind_eq_some_iff.mp H
  obtain ⟨⟨t721, t722⟩, A100, H⟩ := H
  (try dsimp only at H)
  have A10 := Aside0.mk A100
  clear A100
  replace H := Option.bind_eq_some_iff.mp H
  obtain ⟨t723, A110, H⟩ := H
  (try dsimp only at H)
  have A11 := Aside0.mk A110
  clear A110
  by_cases c12 : t723 = t720
  ·rw [if_pos c12] at H
   have c12b0 : (t723 == t720) = true := beq_iff_eq.mpr c12
   have c12b1 : (t723 != t720) = false := bne_eq_false_iff_eq.mpr c12
   clear c12
   obtain rfl := Option.some.inj H
   go_enter Try.func14, Try.ntmps14
   go_wp2_with (first | ((with_reducible refine gate_dst (N := 2) rfl ?_); refine bx 2 #[.int .i64 a0_0, .string a0_1] 23 ?_; intro gb716 hg w13 hbox hb; have BK716 := Aside0.mk hbox; have GE716 := gs HB hg; have GW716 := GE716; replace HB := bs HB hb; clear hb hbox hg; have hcz14_0 := bc BK716 0; have hcz14_1 := bc BK716 1; have hfz14_0 := bf BK716 0; have hfz14_1 := bf BK716 1) | ((with_reducible refine gate_callee (f := 15) rfl ?_); refine gL (some 10) rfl rfl Try.func15 (by kernel_rfl) rfl #[.agg #[.int .i64 a0_0, .string a0_1], .int .i64 1048576] rfl ?_; (with_reducible refine (laws_szSigns.calls a0_0 a0_1 1048576 t717 _ A3.out).mono ?_); rintro e w15 ⟨rfl, hb⟩; refine ⟨_, rfl, ?_⟩; have n0_ := Aside0.mk (blk_below (g := gb716) (o := .cells #[.int .i64 a0_0, .string a0_1] 23 (0, 0)) (bk BK716) hb); have n1_ := bsg HB GE716 hb; clear BK716; clear HB; have BK716 := n0_; have HB := n1_; clear n0_ n1_; (try clear hb); (try clear hb2); (try clear hk); (try clear hi); have hcz16_0 := bc BK716 0; have hcz16_1 := bc BK716 1; have hfz16_0 := bf BK716 0; have hfz16_1 := bf BK716 1) | ((with_reducible refine gate_callee (f := 17) rfl ?_); refine gL (some 14) rfl rfl Try.func17 (by kernel_rfl) rfl #[.agg #[.int .i64 a0_0, .string a0_1]] rfl ?_; (with_reducible refine (laws_toSigns.calls a0_0 a0_1 t718 t719 _ A8.out).mono ?_); rintro e w17 ⟨rfl, hb⟩; refine ⟨_, rfl, ?_⟩; have n0_ := Aside0.mk (blk_below (g := gb716) (o := .cells #[.int .i64 a0_0, .string a0_1] 23 (0, 0)) (bk BK716) hb); have n1_ := bsg HB GE716 hb; clear BK716; clear HB; have BK716 := n0_; have HB := n1_; clear n0_ n1_; (try clear hb); (try clear hb2); (try clear hk); (try clear hi)) | ((with_reducible refine gate_callee (f := 42) rfl ?_); refine gL (some 16) rfl rfl Try.func42 (by kernel_rfl) rfl #[.agg #[.int .i64 t718, .string t719], .int .i64 a1] rfl ?_; (with_reducible refine (spec_TrianglesOf.calls k t718 t719 a1 t720 _ A9.out).mono ?_); rintro e w18 ⟨rfl, hb⟩; refine ⟨_, rfl, ?_⟩; have n0_ := Aside0.mk (blk_below (g := gb716) (o := .cells #[.int .i64 a0_0, .string a0_1] 23 (0, 0)) (bk BK716) hb); have n1_ := bsg HB GE716 hb; clear BK716; clear HB; have BK716 := n0_; have HB := n1_; clear n0_ n1_; (try clear hb); (try clear hb2); (try clear hk); (try clear hi); have hcz19_0 := bc BK716 0; have hcz19_1 := bc BK716 1; have hfz19_0 := bf BK716 0; have hfz19_1 := bf BK716 1) | ((with_reducible refine gate_callee (f := 17) rfl ?_); refine gL (some 18) rfl rfl Try.func17 (by kernel_rfl) rfl #[.agg #[.int .i64 a0_0, .string a0_1]] rfl ?_; (with_reducible refine (laws_toSigns.calls a0_0 a0_1 t721 t722 _ A10.out).mono ?_); rintro e w20 ⟨rfl, hb⟩; refine ⟨_, rfl, ?_⟩; have n0_ := Aside0.mk (blk_below (g := gb716) (o := .cells #[.int .i64 a0_0, .string a0_1] 23 (0, 0)) (bk BK716) hb); have n1_ := bsg HB GE716 hb; clear BK716; clear HB; have BK716 := n0_; have HB := n1_; clear n0_ n1_; (try clear hb); (try clear hb2); (try clear hk); (try clear hi)) | ((with_reducible refine gate_callee (f := 43) rfl ?_); refine gL (some 20) rfl rfl Try.func43 (by kernel_rfl) rfl #[.agg #[.int .i64 t721, .string t722], .int .i64 a1] rfl ?_; (with_reducible refine (impl_TrianglesOf.calls k t721 t722 a1 t723 _ A11.out).mono ?_); rintro e w21 ⟨rfl, hb⟩; refine ⟨_, rfl, ?_⟩; have n0_ := Aside0.mk (blk_below (g := gb716) (o := .cells #[.int .i64 a0_0, .string a0_1] 23 (0, 0)) (bk BK716) hb); have n1_ := bsg HB GE716 hb; clear BK716; clear HB; have BK716 := n0_; have HB := n1_; clear n0_ n1_; (try clear hb); (try clear hb2); (try clear hk); (try clear hi)))
   go_ret
   exact ⟨by first | rfl | (simp [errW_none, errW_some] <;> rfl) | (simp [*, errW_none, errW_some] <;> rfl), (bg HB GE716)⟩
  ·rw [if_neg c12] at H
   have c12b0 : (t723 == t720) = false := beq_eq_false_iff_ne.mpr c12
   have c12b1 : (t723 != t720) = true := bne_iff_ne.mpr c12
   obtain rfl := Option.some.inj H
   go_enter Try.func14, Try.ntmps14
   go_wp2_with (first | ((with_reducible refine gate_dst (N := 2) rfl ?_); refine bx 2 #[.int .i64 a0_0, .string a0_1] 23 ?_; intro gb716 hg w22 hbox hb; have BK716 := Aside0.mk hbox; have GE716 := gs HB hg; have GW716 := GE716; replace HB := bs HB hb; clear hb hbox hg; have hcz23_0 := bc BK716 0; have hcz23_1 := bc BK716 1; have hfz23_0 := bf BK716 0; have hfz23_1 := bf BK716 1) | ((with_reducible refine gate_callee (f := 15) rfl ?_); refine gL (some 10) rfl rfl Try.func15 (by kernel_rfl) rfl #[.agg #[.int .i64 a0_0, .string a0_1], .int .i64 1048576] rfl ?_; (with_reducible refine (laws_szSigns.calls a0_0 a0_1 1048576 t717 _ A3.out).mono ?_); rintro e w24 ⟨rfl, hb⟩; refine ⟨_, rfl, ?_⟩; have n0_ := Aside0.mk (blk_below (g := gb716) (o := .cells #[.int .i64 a0_0, .string a0_1] 23 (0, 0)) (bk BK716) hb); have n1_ := bsg HB GE716 hb; clear BK716; clear HB; have BK716 := n0_; have HB := n1_; clear n0_ n1_; (try clear hb); (try clear hb2); (try clear hk); (try clear hi); have hcz25_0 := bc BK716 0; have hcz25_1 := bc BK716 1; have hfz25_0 := bf BK716 0; have hfz25_1 := bf BK716 1) | ((with_reducible refine gate_callee (f := 17) rfl ?_); refine gL (some 14) rfl rfl Try.func17 (by kernel_rfl) rfl #[.agg #[.int .i64 a0_0, .string a0_1]] rfl ?_; (with_reducible refine (laws_toSigns.calls a0_0 a0_1 t718 t719 _ A8.out).mono ?_); rintro e w26 ⟨rfl, hb⟩; refine ⟨_, rfl, ?_⟩; have n0_ := Aside0.mk (blk_below (g := gb716) (o := .cells #[.int .i64 a0_0, .string a0_1] 23 (0, 0)) (bk BK716) hb); have n1_ := bsg HB GE716 hb; clear BK716; clear HB; have BK716 := n0_; have HB := n1_; clear n0_ n1_; (try clear hb); (try clear hb2); (try clear hk); (try clear hi)) | ((with_reducible refine gate_callee (f := 42) rfl ?_); refine gL (some 16) rfl rfl Try.func42 (by kernel_rfl) rfl #[.agg #[.int .i64 t718, .string t719], .int .i64 a1] rfl ?_; (with_reducible refine (spec_TrianglesOf.calls k t718 t719 a1 t720 _ A9.out).mono ?_); rintro e w27 ⟨rfl, hb⟩; refine ⟨_, rfl, ?_⟩; have n0_ := Aside0.mk (blk_below (g := gb716) (o := .cells #[.int .i64 a0_0, .string a0_1] 23 (0, 0)) (bk BK716) hb); have n1_ := bsg HB GE716 hb; clear BK716; clear HB; have BK716 := n0_; have HB := n1_; clear n0_ n1_; (try clear hb); (try clear hb2); (try clear hk); (try clear hi); have hcz28_0 := bc BK716 0; have hcz28_1 := bc BK716 1; have hfz28_0 := bf BK716 0; have hfz28_1 := bf BK716 1) | ((with_reducible refine gate_callee (f := 17) rfl ?_); refine gL (some 18) rfl rfl Try.func17 (by kernel_rfl) rfl #[.agg #[.int .i64 a0_0, .string a0_1]] rfl ?_; (with_reducible refine (laws_toSigns.calls a0_0 a0_1 t721 t722 _ A10.out).mono ?_); rintro e w29 ⟨rfl, hb⟩; refine ⟨_, rfl, ?_⟩; have n0_ := Aside0.mk (blk_below (g := gb716) (o := .cells #[.int .i64 a0_0, .string a0_1] 23 (0, 0)) (bk BK716) hb); have n1_ := bsg HB GE716 hb; clear BK716; clear HB; have BK716 := n0_; have HB := n1_; clear n0_ n1_; (try clear hb); (try clear hb2); (try clear hk); (try clear hi)) | ((with_reducible refine gate_callee (f := 43) rfl ?_); refine gL (some 20) rfl rfl Try.func43 (by kernel_rfl) rfl #[.agg #[.int .i64 t721, .string t722], .int .i64 a1] rfl ?_; (with_reducible refine (impl_TrianglesOf.calls k t721 t722 a1 t723 _ A11.out).mono ?_); rintro e w30 ⟨rfl, hb⟩; refine ⟨_, rfl, ?_⟩; have n0_ := Aside0.mk (blk_below (g := gb716) (o := .cells #[.int .i64 a0_0, .string a0_1] 23 (0, 0)) (bk BK716) hb); have n1_ := bsg HB GE716 hb; clear BK716; clear HB; have BK716 := n0_; have HB := n1_; clear n0_ n1_; (try clear hb); (try clear hb2); (try clear hk); (try clear hi)))
   go_ret
   exact ⟨by first | rfl | (simp [errW_none, errW_some] <;> rfl) | (simp [*, errW_none, errW_some] <;> rfl), (bg HB GE716)⟩

/-- THE ONE PURE STATEMENT of laws_FnExactTrianglesOf: yours. -/
def laws_FnExactTrianglesOf.Pure : Prop := ∀ (a0_0 : Int) (a0_1 : ByteArray) (a1 : Int), (Lit.int .i64 a0_0).wf = true → a0_1.size ≤ 140737488351232 → (Lit.int .i64 a1).wf = true → ∃ k, laws_FnExactTrianglesOf.f k a0_0 a0_1 a1 = some true
theorem laws_FnExactTrianglesOf.walk (P : laws_FnExactTrianglesOf.Pure) (a0_0 : Int) (a0_1 : ByteArray) (a1 : Int) (w : World) (w0_0 : (Lit.int .i64 a0_0).wf = true) (w0_1 : a0_1.size ≤ 140737488351232) (w1 : (Lit.int .i64 a1).wf = true) :
  Calls Try.prog 14 #[.agg #[.int .i64 a0_0, .string a0_1], .int .i64 a1] w fun e w' => e = .returned (.bool true) ∧ Below w.heap.size w w' := by
 obtain ⟨k, h⟩ := P a0_0 a0_1 a1 w0_0 w0_1 w1
 refine (laws_FnExactTrianglesOf.calls k a0_0 a0_1 a1 true w h).mono ?_
 rintro e w' ⟨rfl, hd⟩
 exact ⟨rfl, hd⟩

end Go.Proofs.Ytjjfjdejhddcnaa.P
