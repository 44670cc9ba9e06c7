-- Printed by a program of this session (wip/tools/myprint.py, over the kit's print.py); not trusted: Lean checks it.
import Derived.Test.YtiimkifkakdalaaP0
import Derived.Test.YtiimkifkakdalaaP137
import Derived.Test.YtiimkifkakdalaaP168
import Derived.Test.YtiimkifkakdalaaP68
namespace Go.Proofs.Ytiimkifkakdalaa.P
open Go.RowKit Go.Proofs.YtiimkifkakdalaaW.PrintWords Go.Proofs.YtiimkifkakdalaaW.PrintLast Go.Proofs.YtiimkifkakdalaaW.PrintMore
attribute [local go_sem] max2_int min2_int max_two min_two max_three min_three max_four min_four   -- for this text's walks alone
set_option linter.unusedVariables false
set_option linter.unusedSimpArgs false

attribute [local go_sem] Go.Proofs.Try.underlying115 Go.Proofs.Try.underlying116 Go.Proofs.Try.underlying117 Go.Proofs.Try.underlying119
/-! ### impl_chi_crossings: function 86 -/
mutual
def impl_chi_crossings.l0 : Nat → List Int → List (S72) → List Int → List (S72) → Int → Int → Option (List Int)
 | 0, _, _, _, _, _, _ => none
 | k + 1, x0, x3, x4, x17, x18, x19 => if x19 < x18 then (if 0 ≤ x19 then (if x19 < (x17.length : Int) then (impl_chi_crossings.l1 k x0 x3 x4 x19 x17 x18 x19 x3 (x3.length : Int) 0 ((rd_T72 x17 x19).f0) ((rd_T72 x17 x19).f1)) else (none)) else (none)) else (some x4)
def impl_chi_crossings.l1 : Nat → List Int → List (S72) → List Int → Int → List (S72) → Int → Int → List (S72) → Int → Int → Int → Int → Option (List Int)
 | 0, _, _, _, _, _, _, _, _, _, _, _, _ => none
 | k + 1, x0, x3, x4, x5, x17, x18, x19, x24, x25, x26, x381000, x381001 => if x26 < x25 then (if 0 ≤ x26 then (if x26 < (x24.length : Int) then (if 344 ≤ (x0.length : Int) then ((impl_areDifferent.f k (rd x0 0) (([x381000, x381001, (rd_T72 x24 x26).f0, (rd_T72 x24 x26).f1] : List Int))).bind fun t387 => (if t387 = true then ((impl_chi_cross.f k x0 x381000 x381001 ((rd_T72 x24 x26).f0) ((rd_T72 x24 x26).f1)).bind fun t388 => (if t388 = true then (if 0 ≤ x5 then (if x5 < (x4.length : Int) then (impl_chi_crossings.l1 k x0 x3 (x4.set (x5 : Int).toNat (Go.bits .or .i64 (rd x4 x5) (shl .i64 1 x26))) x5 x17 x18 x19 x24 x25 (wrap64 (x26 + 1)) x381000 x381001) else (none)) else (none)) else (impl_chi_crossings.l1 k x0 x3 x4 x5 x17 x18 x19 x24 x25 (wrap64 (x26 + 1)) x381000 x381001))) else (impl_chi_crossings.l1 k x0 x3 x4 x5 x17 x18 x19 x24 x25 (wrap64 (x26 + 1)) x381000 x381001))) else (none)) else (none)) else (none)) else (impl_chi_crossings.l0 k x0 x3 x4 x17 x18 (wrap64 (x19 + 1)))
end
def impl_chi_crossings.f (k : Nat) (l0 : List Int) : Option (List Int) := if 344 ≤ (l0.length : Int) then ((impl_edgesOf.f k (rd l0 0)).bind fun t373 => (if 0 ≤ (t373.length : Int) then (if ((t373.length : Int) : Int).toNat ≤ 35184372088832 then (impl_chi_crossings.l0 k l0 t373 (List.replicate ((t373.length : Int) : Int).toNat 0) t373 (t373.length : Int) 0) else (none)) else (none))) else (none)
theorem impl_chi_crossings.mono_l : ∀ k, (∀ y0 y1 y2 y3 y4 y5, LeO (impl_chi_crossings.l0 k y0 y1 y2 y3 y4 y5) (impl_chi_crossings.l0 (k + 1) y0 y1 y2 y3 y4 y5)) ∧ (∀ y0 y1 y2 y3 y4 y5 y6 y7 y8 y9 y10 y11, LeO (impl_chi_crossings.l1 k y0 y1 y2 y3 y4 y5 y6 y7 y8 y9 y10 y11) (impl_chi_crossings.l1 (k + 1) y0 y1 y2 y3 y4 y5 y6 y7 y8 y9 y10 y11))
 | 0 => ⟨fun _ _ _ _ _ _ r h => by simp [impl_chi_crossings.l0] at h, fun _ _ _ _ _ _ _ _ _ _ _ _ r h => by simp [impl_chi_crossings.l1] at h⟩
 | k + 1 => by
  obtain ⟨ih0, ih1⟩ := impl_chi_crossings.mono_l k
  refine ⟨?_, ?_⟩
  ·intro y0 y1 y2 y3 y4 y5
   unfold impl_chi_crossings.l0
   repeat' first
   | (with_reducible exact ih0 _ _ _ _ _ _)
   | (with_reducible exact ih1 _ _ _ _ _ _ _ _ _ _ _ _)
   | (with_reducible exact impl_areDifferent.mono _ _ _)
   | (with_reducible exact impl_chi_cross.mono _ _ _ _ _ _)
   | (with_reducible exact impl_edgesOf.mono _ _)
   | (with_reducible exact LeO.refl _)
   | (with_reducible exact LeO.none _)
   | (with_reducible refine LeO.ite ?_ ?_)
   | (with_reducible refine LeO.bind ?_ (fun _ => ?_))
   | exact ih0 _ _ _ _ _ _
   | exact ih1 _ _ _ _ _ _ _ _ _ _ _ _
   | exact impl_areDifferent.mono _ _ _
   | exact impl_chi_cross.mono _ _ _ _ _ _
   | exact impl_edgesOf.mono _ _
   | exact LeO.none _
   | refine LeO.ite ?_ ?_
   | refine LeO.bind ?_ (fun _ => ?_)
  ·intro y0 y1 y2 y3 y4 y5 y6 y7 y8 y9 y10 y11
   unfold impl_chi_crossings.l1
   repeat' first
   | (with_reducible exact ih0 _ _ _ _ _ _)
   | (with_reducible exact ih1 _ _ _ _ _ _ _ _ _ _ _ _)
   | (with_reducible exact impl_areDifferent.mono _ _ _)
   | (with_reducible exact impl_chi_cross.mono _ _ _ _ _ _)
   | (with_reducible exact impl_edgesOf.mono _ _)
   | (with_reducible exact LeO.refl _)
   | (with_reducible exact LeO.none _)
   | (with_reducible refine LeO.ite ?_ ?_)
   | (with_reducible refine LeO.bind ?_ (fun _ => ?_))
   | exact ih0 _ _ _ _ _ _
   | exact ih1 _ _ _ _ _ _ _ _ _ _ _ _
   | exact impl_areDifferent.mono _ _ _
   | exact impl_chi_cross.mono _ _ _ _ _ _
   | exact impl_edgesOf.mono _ _
   | exact LeO.none _
   | refine LeO.ite ?_ ?_
   | refine LeO.bind ?_ (fun _ => ?_)
theorem impl_chi_crossings.mono : ∀ a0 k, LeO (impl_chi_crossings.f k a0) (impl_chi_crossings.f (k + 1) a0) := by
 intro a0 k
 obtain ⟨ih0, ih1⟩ := impl_chi_crossings.mono_l k
 unfold impl_chi_crossings.f
 repeat' first
   | (with_reducible exact ih0 _ _ _ _ _ _)
   | (with_reducible exact ih1 _ _ _ _ _ _ _ _ _ _ _ _)
   | (with_reducible exact impl_areDifferent.mono _ _ _)
   | (with_reducible exact impl_chi_cross.mono _ _ _ _ _ _)
   | (with_reducible exact impl_edgesOf.mono _ _)
   | (with_reducible exact LeO.refl _)
   | (with_reducible exact LeO.none _)
   | (with_reducible refine LeO.ite ?_ ?_)
   | (with_reducible refine LeO.bind ?_ (fun _ => ?_))
   | exact ih0 _ _ _ _ _ _
   | exact ih1 _ _ _ _ _ _ _ _ _ _ _ _
   | exact impl_areDifferent.mono _ _ _
   | exact impl_chi_cross.mono _ _ _ _ _ _
   | exact impl_edgesOf.mono _ _
   | exact LeO.none _
   | refine LeO.ite ?_ ?_
   | refine LeO.bind ?_ (fun _ => ?_)
def impl_chi_crossings.T9 : Bool × List (List Nat × List Nat) := (true, [([], []), ([0], [0]), ([1], [1]), ([2], [2]), ([], []), ([4], [4]), ([], []), ([6], [6]), ([], []), ([8], [8]), ([], []), ([10], [10]), ([5, 7, 9, 11], [5, 7, 9, 11]), ([3, 12], [3, 12]), ([13, 13], [13]), ([14], [14]), ([14], [14]), ([16, 14], [14, 16]), ([14], [14]), ([18, 14], [14, 18]), ([14], [14]), ([20, 14], [14, 20]), ([14], [14]), ([22, 14], [14, 22]), ([15, 17, 19, 21, 23, 14, 14], [14, 15, 17, 19, 21, 23]), ([14, 24], [14, 24])])
def impl_chi_crossings.B9 : List Nat := [0, 1, 3, 7, 0, 16, 0, 64, 0, 256, 0, 1024, 4080, 8191, 16383, 32767, 32767, 98303, 32767, 294911, 32767, 1081343, 32767, 4227071, 16777215, 33554431]
theorem impl_chi_crossings.tab9 : rtab .any (opsOf Try.f86 9) = impl_chi_crossings.T9 := by kernel_rfl
theorem impl_chi_crossings.bits9 : waitsOk impl_chi_crossings.T9.2 impl_chi_crossings.B9 = true := by kernel_rfl
def impl_chi_crossings.T10 : Bool × List (List Nat × List Nat) := (true, [([], []), ([], []), ([], []), ([], []), ([2, 3], [2, 3]), ([4], [4]), ([], []), ([6], [6]), ([5, 7], [5, 7]), ([0, 1, 0, 1, 2, 3, 4, 5, 6, 7, 8], [0, 1]), ([9, 8, 0, 1, 2, 3, 4, 5, 6, 7, 8], [8, 9])])
def impl_chi_crossings.B10 : List Nat := [0, 0, 0, 0, 12, 28, 0, 64, 252, 511, 1023]
theorem impl_chi_crossings.tab10 : rtab .any (opsOf Try.f86 10) = impl_chi_crossings.T10 := by kernel_rfl
theorem impl_chi_crossings.bits10 : waitsOk impl_chi_crossings.T10.2 impl_chi_crossings.B10 = true := by kernel_rfl
set_option maxHeartbeats 8000000 in
set_option maxRecDepth 100000 in
theorem impl_chi_crossings.calls (k : Nat) (A0 : Option Addr) (c0 : Nat) (l0 : List Int) (r : List Int) (w : World) (hr0 : Kd.C (Kd.int .i64) w A0 l0.length l0) (hc0 : l0.length ≤ c0) (h : impl_chi_crossings.f k l0 = some r) :
  Calls Try.prog 86 #[.pointer A0] w fun e w' => ∃ v0_ : Value, e = .returned (v0_) ∧ Kd.R (Kd.int .i64) 3 w' w.heap.size (fun _ => True) v0_ r ∧ Below w.heap.size w w' := by
 have hu72 := Try.underlying72
 have HR0 := Aside0.mk hr0
 have HC0 := Aside0.mk hc0
 clear hr0 hc0
 have HB := Aside0.mk (Below.refl w.heap.size w)
 have H : (if 344 ≤ (l0.length : Int) then ((impl_edgesOf.f k (rd l0 0)).bind fun t373 => (if 0 ≤ (t373.length : Int) then (if ((t373.length : Int) : Int).toNat ≤ 35184372088832 then (impl_chi_crossings.l0 k l0 t373 (List.replicate ((t373.length : Int) : Int).toNat 0) t373 (t373.length : Int) 0) else (none)) else (none))) else (none)) = some r := h
 clear h
 by_cases c2 : 344 ≤ (l0.length : Int)
 ·rw [if_pos c2] at H
  have c2b0 := eq_true c2
  have c2b1 : decide (344 ≤ (l0.length : Int)) = true := decide_eq_true c2
  clear c2
  replace H := Option.bind_eq_some_iff.mp H
  obtain ⟨t373, A30, H⟩ := H
  (try dsimp only at H)
  have A3 := Aside0.mk A30
  clear A30
  by_cases c4 : 0 ≤ (t373.length : Int)
  ·rw [if_pos c4] at H
   have c4b0 := eq_true c4
   have c4b1 : decide (0 ≤ (t373.length : Int)) = true := decide_eq_true c4
   clear c4
   by_cases c5 : ((t373.length : Int) : Int).toNat ≤ 35184372088832
   ·rw [if_pos c5] at H
    have c5b0 := eq_true c5
    have c5b1 : decide (((t373.length : Int) : Int).toNat ≤ 35184372088832) = true := decide_eq_true c5
    clear c5
    obtain ⟨y376, hy376⟩ : ∃ y_ : List Int, y_ = (List.replicate ((t373.length : Int) : Int).toNat 0) := ⟨_, rfl⟩
    replace H : (impl_chi_crossings.l0 k l0 t373 y376 t373 (t373.length : Int) 0) = some r := by first | (rw [hy376]; with_reducible exact H) | (have H2_ := (Option.bind_some _ _).symm.trans H; rw [hy376]; with_reducible exact H2_) | (have H2_ := (Option.bind_some _ _).symm.trans H; with_reducible exact H2_) | with_reducible exact H | (rw [hy376]; exact H) | exact H
    have Ny376 := Aside0.mk hy376
    clear hy376
    have H' := Aside0.mk H
    clear H
    have cl372 : (344 : Int) ≤ (l0.length : Int) := of_decide_eq_true (by first | (with_reducible assumption) | assumption)
    have p372 : 0 ≤ (0 : Int) := (by omega)
    have q372 : 0 < (l0.length : Int) := (by omega)
    obtain ⟨ad372, e372, hx372_0⟩ := Kd.at_int HR0.out 0 p372 q372
    cases e372
    have qi372 : (0 < l0.length) = True := eq_true (by omega)
    (try rw [show ((0 : Int)).toNat = 0 from rfl] at hx372_0)
    (try rw [Addr.add_zero'] at hx372_0)
    replace p372 := eq_true p372
    replace q372 := eq_true q372
    go_enter Try.func86, Try.ntmps86
    go_wp2_with (first | ((with_reducible refine gate_callee (f := 58) rfl ?_); refine gL (some 13) rfl rfl Try.func58 (by kernel_rfl) rfl #[.int .i64 (rd l0 0)] rfl ?_; (with_reducible refine (impl_edgesOf.calls k (rd l0 0) t373 _ A3.out).mono ?_); rintro e w6 ⟨v374, rfl, ho0, hb⟩; refine ⟨_, rfl, ?_⟩; have n0_ := Aside0.mk (Kd.R_lower ho0 (below_size (bl HB))); have n1_ := bs HB hb; clear HB; have HO375 := n0_; have HB := n1_; clear n0_ n1_; (try clear hb); (try clear hb2); (try clear hk); (try clear hi); (try clear ho0); obtain ⟨Ao7, co7, eo7⟩ := Kd.R_slice HO375.out; subst eo7) | ((with_reducible refine gate_dst (N := 16) rfl ?_); refine Kd.R_make (Kd.int .i64) _ 3 rfl (N := 16) rfl 25 _ _ rfl (t373.length : Int) rfl rfl Try.underlying25 (.int .i64 0) 8 info3 rfl (by decide) (by omega) 0 (ok := fun _ => True) (okp := fun _ => True) rfl (fun _ hk => hk) trivial (of_decide_eq_true (by first | (with_reducible assumption) | assumption)) (Nat.le_trans (Nat.mul_le_mul_right _ (of_decide_eq_true (by first | (with_reducible assumption) | assumption) : (t373.length : Int).toNat ≤ 35184372088832)) (by omega)) (Below.refl _ _) (Nat.le_refl _) ?_; intro v377 w8 ho9 hb hg_ hnew_; clear hg_ hnew_; (first | rw [← Ny376.out] at ho9 | (simp only [Int.reduceToNat] at ho9; rw [← Ny376.out] at ho9)); have n0_ := Aside0.mk (Kd.R_below (rr HO375) hb); have n1_ := Aside0.mk (Kd.R_lower ho9 (below_size (bl HB))); have n2_ := bs HB hb; clear HO375; clear HB; have HO375 := n0_; have HO378 := n1_; have HB := n2_; clear n0_ n1_ n2_; clear hb ho9))
    go_loopg [19] k (fun kq v19 w' => ∃ (x4_1 : List Int) (x19_1 : Int), v19 = .int .i64 x19_1 ∧ Aside0 (impl_chi_crossings.l0 kq l0 t373 x4_1 t373 (t373.length : Int) x19_1 = some r) ∧ Aside0 (kq ≤ k) ∧ Aside0 (Kd.R k72 72 w' w.heap.size (fun _ => True) (.slice Ao7 t373.length co7) t373) ∧ Aside0 (Kd.R (Kd.int .i64) 3 w' w.heap.size (fun _ => True) v377 x4_1) ∧ Aside0 (Kd.R k72 72 w' w.heap.size (fun _ => True) (.slice Ao7 t373.length co7) t373) ∧ Aside0 (Below w.heap.size w w'))
    case atStart => exact ⟨(y376), (0), (by first | rfl | (simp; done) | (simp [*]; done)), H', ⟨Nat.le_refl _⟩, ⟨by (with_reducible repeat (first | apply Kd.R_alloc | apply Kd.R_drewN | apply Kd.R_drew)); exact HO375.out⟩, ⟨by (with_reducible repeat (first | apply Kd.R_alloc | apply Kd.R_drewN | apply Kd.R_drew)); exact HO378.out⟩, ⟨by (with_reducible repeat (first | apply Kd.R_alloc | apply Kd.R_drewN | apply Kd.R_drew)); exact HO375.out⟩, ⟨(bl HB)⟩⟩
    case round =>
     clear H'
     try clear c2
     try clear c2b0
     try clear c2b1
     try clear p2
     try clear p3
     try clear q3
     try clear hx3
     try clear qi3
     try clear c4
     try clear c4b0
     try clear c4b1
     try clear c5
     try clear c5b0
     try clear c5b1
     try clear c8
     try clear hx372_0
     try clear p372
     try clear q372
     obtain ⟨x4_1, x19_1, rfl, HA, HK1, HO_3, HO_4, HO_17, HB⟩ := hrel
     cases gk with
     | zero => exact absurd HA.out (by simp [impl_chi_crossings.l0])
     | succ k1 =>
      have H := HA.out
      clear HA
      simp only [impl_chi_crossings.l0] at H
      by_cases c10 : x19_1 < (t373.length : Int)
      ·rw [if_pos c10] at H
       have c10b0 : decide (x19_1 < (t373.length : Int)) = true := decide_eq_true c10
       clear c10
       by_cases c11 : 0 ≤ x19_1
       ·rw [if_pos c11] at H
        have c11b0 : decide (0 ≤ x19_1) = true := decide_eq_true c11
        clear c11
        by_cases c12 : x19_1 < (t373.length : Int)
        ·rw [if_pos c12] at H
         have c12b0 : decide (x19_1 < (t373.length : Int)) = true := decide_eq_true c12
         clear c12
         have H' := Aside0.mk H
         clear H
         have p379 : 0 ≤ (x19_1 : Int) := of_decide_eq_true (by first | (with_reducible assumption) | assumption)
         have q379 : x19_1 < (t373.length : Int) := of_decide_eq_true (by first | (with_reducible assumption) | assumption)
         obtain ⟨ad379, e379, hx379_0, hx379_1⟩ := at_T72 (Kd.R_reads' HO_17.out).2.2 x19_1 p379 q379
         cases e379
         replace p379 := eq_true p379
         replace q379 := eq_true q379
         go_wp2_with (first | ((with_reducible refine gate_dst (N := 6) rfl ?_); refine bx 6 #[.int .i64 0, .int .i64 0] 72 ?_; intro gb380 hg w13 hbox hb; have n0_ := Aside0.mk (Kd.R_below (Kd.R_elderB (rr HO_3) gb380 (Nat.le_of_eq hg.symm)) hb); have n1_ := Aside0.mk (Kd.R_below (rr HO_4) hb); have n2_ := Aside0.mk (Kd.R_below (Kd.R_elderB (rr HO_17) gb380 (Nat.le_of_eq hg.symm)) hb); have n3_ := bs HB hb; have n4_ := Aside0.mk (hbox); have n5_ := Aside0.mk ((by rw [hg]; exact (below_size (bl HB)) : w.heap.size ≤ gb380)); have n6_ := Aside0.mk ((by rw [hg]; exact (below_size (bl HB)) : w.heap.size ≤ gb380)); clear HO_3; clear HO_4; clear HO_17; clear HB; have HO_3 := n0_; have HO_4 := n1_; have HO_17 := n2_; have HB := n3_; have BK380 := n4_; have GW380 := n5_; have GE380 := n6_; clear n0_ n1_ n2_ n3_ n4_ n5_ n6_; clear hb hbox hg; have hcz14_0 := bc BK380 0; have hcz14_1 := bc BK380 1; have hfz14_0 := bf BK380 0; have hfz14_1 := bf BK380 1))
         go_loopg [26] k1 (fun kq v26 w' => ∃ (x4_2 : List Int) (x26_2 : Int), v26 = .int .i64 x26_2 ∧ Aside0 (impl_chi_crossings.l1 kq l0 t373 x4_2 x19_1 t373 (t373.length : Int) x19_1 t373 (t373.length : Int) x26_2 ((rd_T72 t373 x19_1).f0) ((rd_T72 t373 x19_1).f1) = some r) ∧ Aside0 (kq ≤ k1) ∧ Aside0 (Kd.R k72 72 w' w.heap.size (fun k_ => k_ ≠ gb380) (.slice (some ad379) t373.length co7) t373) ∧ Aside0 (Kd.R (Kd.int .i64) 3 w' w.heap.size (fun _ => True) v377 x4_2) ∧ Aside0 (Kd.R k72 72 w' w.heap.size (fun k_ => k_ ≠ gb380) (.slice (some ad379) t373.length co7) t373) ∧ Aside0 (Kd.R k72 72 w' w.heap.size (fun k_ => k_ ≠ gb380) (.slice (some ad379) t373.length co7) t373) ∧ Aside0 (w'.heap[gb380]? = some (.cells #[.int .i64 ((rd_T72 t373 x19_1).f0), .int .i64 ((rd_T72 t373 x19_1).f1)] 72 (0, 0))) ∧ Aside0 (Below w.heap.size w w'))
         case atStart => exact ⟨(x4_1), (0), (by first | rfl | (simp; done) | (simp [*]; done)), H', ⟨Nat.le_refl _⟩, ⟨by (with_reducible repeat (first | apply Kd.R_alloc | apply Kd.R_drewN | apply Kd.R_drew)); exact Kd.R_mono (Kd.R_far (p := ⟨gb380, 1, none⟩) (Kd.R_far (p := ⟨gb380, 0, none⟩) (Kd.R_mono HO_3.out (fun k_ hk => (⟨hk, hk.2⟩ : _ ∧ k_ ≠ gb380))) (fun _ hk => hk.2) (.int .i64 ((rd_T72 t373 x19_1).f0))) (fun _ hk => hk.2) (.int .i64 ((rd_T72 t373 x19_1).f1))) (fun _ hk => hk.1.2)⟩, ⟨by (with_reducible repeat (first | apply Kd.R_alloc | apply Kd.R_drewN | apply Kd.R_drew)); exact Kd.R_mono (Kd.R_far (p := ⟨gb380, 1, none⟩) (Kd.R_far (p := ⟨gb380, 0, none⟩) (Kd.R_types HO_4.out BK380.out (by decide)) (fun _ hk => hk.2) (.int .i64 ((rd_T72 t373 x19_1).f0))) (fun _ hk => hk.2) (.int .i64 ((rd_T72 t373 x19_1).f1))) (fun _ hk => trivial)⟩, ⟨by (with_reducible repeat (first | apply Kd.R_alloc | apply Kd.R_drewN | apply Kd.R_drew)); exact Kd.R_mono (Kd.R_far (p := ⟨gb380, 1, none⟩) (Kd.R_far (p := ⟨gb380, 0, none⟩) (Kd.R_mono HO_17.out (fun k_ hk => (⟨hk, hk.2⟩ : _ ∧ k_ ≠ gb380))) (fun _ hk => hk.2) (.int .i64 ((rd_T72 t373 x19_1).f0))) (fun _ hk => hk.2) (.int .i64 ((rd_T72 t373 x19_1).f1))) (fun _ hk => hk.1.2)⟩, ⟨by (with_reducible repeat (first | apply Kd.R_alloc | apply Kd.R_drewN | apply Kd.R_drew)); exact Kd.R_mono (Kd.R_far (p := ⟨gb380, 1, none⟩) (Kd.R_far (p := ⟨gb380, 0, none⟩) (Kd.R_mono HO_3.out (fun k_ hk => (⟨hk, hk.2⟩ : _ ∧ k_ ≠ gb380))) (fun _ hk => hk.2) (.int .i64 ((rd_T72 t373 x19_1).f0))) (fun _ hk => hk.2) (.int .i64 ((rd_T72 t373 x19_1).f1))) (fun _ hk => hk.1.2)⟩, ⟨by (with_reducible repeat (first | refine blk_drewN ?_ _ | refine blk_drew ?_ | refine blk_alloc ?_ _)); refine blk_put (cs := #[.int .i64 ((rd_T72 t373 x19_1).f0), .int .i64 0]) ?_ 1 _ rfl; (with_reducible repeat (first | refine blk_drewN ?_ _ | refine blk_drew ?_ | refine blk_alloc ?_ _)); refine blk_put (cs := #[.int .i64 0, .int .i64 0]) ?_ 0 _ rfl; (with_reducible repeat (first | refine blk_drewN ?_ _ | refine blk_drew ?_ | refine blk_alloc ?_ _)); exact BK380.out⟩, ⟨(bg HB GE380)⟩⟩
         case round =>
          clear H'
          try clear c1
          try clear c2
          try clear c2b0
          try clear c2b1
          try clear p2
          try clear p3
          try clear q3
          try clear hx3
          try clear qi3
          try clear c4
          try clear c4b0
          try clear c4b1
          try clear c5
          try clear c5b0
          try clear c5b1
          try clear c8
          try clear c10
          try clear c10b0
          try clear c11
          try clear c11b0
          try clear c12
          try clear c12b0
          try clear hcz14_0
          try clear hcz14_1
          try clear hfz14_0
          try clear hfz14_1
          try clear hx372_0
          try clear hx379_0
          try clear hx379_1
          try clear p2
          try clear p3
          try clear p372
          try clear p379
          try clear q3
          try clear q372
          try clear q379
          obtain ⟨x4_2, x26_2, rfl, HA, HK2, HO_3, HO_4, HO_17, HO_24, BK380, HB⟩ := hrel
          cases gk with
          | zero => exact absurd HA.out (by simp [impl_chi_crossings.l1])
          | succ k2 =>
           have H := HA.out
           clear HA
           simp only [impl_chi_crossings.l1] at H
           by_cases c15 : x26_2 < (t373.length : Int)
           ·rw [if_pos c15] at H
            have c15b0 : decide (x26_2 < (t373.length : Int)) = true := decide_eq_true c15
            clear c15
            by_cases c16 : 0 ≤ x26_2
            ·rw [if_pos c16] at H
             have c16b0 : decide (0 ≤ x26_2) = true := decide_eq_true c16
             clear c16
             by_cases c17 : x26_2 < (t373.length : Int)
             ·rw [if_pos c17] at H
              have c17b0 : decide (x26_2 < (t373.length : Int)) = true := decide_eq_true c17
              clear c17
              by_cases c18 : 344 ≤ (l0.length : Int)
              ·rw [if_pos c18] at H
               have c18b0 := eq_true c18
               have c18b1 : decide (344 ≤ (l0.length : Int)) = true := decide_eq_true c18
               clear c18
               obtain ⟨y384, hy384⟩ : ∃ y_ : List Int, y_ = (([((rd_T72 t373 x19_1).f0), ((rd_T72 t373 x19_1).f1), (rd_T72 t373 x26_2).f0, (rd_T72 t373 x26_2).f1] : List Int)) := ⟨_, rfl⟩
               replace H : ((impl_areDifferent.f k2 (rd l0 0) y384).bind fun t387 => (if t387 = true then ((impl_chi_cross.f k2 l0 ((rd_T72 t373 x19_1).f0) ((rd_T72 t373 x19_1).f1) ((rd_T72 t373 x26_2).f0) ((rd_T72 t373 x26_2).f1)).bind fun t388 => (if t388 = true then (if 0 ≤ x19_1 then (if x19_1 < (x4_2.length : Int) then (impl_chi_crossings.l1 k2 l0 t373 (x4_2.set (x19_1 : Int).toNat (Go.bits .or .i64 (rd x4_2 x19_1) (shl .i64 1 x26_2))) x19_1 t373 (t373.length : Int) x19_1 t373 (t373.length : Int) (wrap64 (x26_2 + 1)) ((rd_T72 t373 x19_1).f0) ((rd_T72 t373 x19_1).f1)) else (none)) else (none)) else (impl_chi_crossings.l1 k2 l0 t373 x4_2 x19_1 t373 (t373.length : Int) x19_1 t373 (t373.length : Int) (wrap64 (x26_2 + 1)) ((rd_T72 t373 x19_1).f0) ((rd_T72 t373 x19_1).f1)))) else (impl_chi_crossings.l1 k2 l0 t373 x4_2 x19_1 t373 (t373.length : Int) x19_1 t373 (t373.length : Int) (wrap64 (x26_2 + 1)) ((rd_T72 t373 x19_1).f0) ((rd_T72 t373 x19_1).f1)))) = some r := by first | (rw [hy384]; with_reducible exact H) | (have H2_ := (Option.bind_some _ _).symm.trans H; rw [hy384]; with_reducible exact H2_) | (have H2_ := (Option.bind_some _ _).symm.trans H; with_reducible exact H2_) | with_reducible exact H | (rw [hy384]; exact H) | exact H
               have Ny384 := Aside0.mk hy384
               clear hy384
               replace H := Option.bind_eq_some_iff.mp H
               obtain ⟨t387, A190, H⟩ := H
               (try dsimp only at H)
               have A19 := Aside0.mk A190
               clear A190
               by_cases c20 : t387 = true
               ·subst c20
                have H1 : ((impl_chi_cross.f k2 l0 ((rd_T72 t373 x19_1).f0) ((rd_T72 t373 x19_1).f1) ((rd_T72 t373 x26_2).f0) ((rd_T72 t373 x26_2).f1)).bind fun t388 => (if t388 = true then (if 0 ≤ x19_1 then (if x19_1 < (x4_2.length : Int) then (impl_chi_crossings.l1 k2 l0 t373 (x4_2.set (x19_1 : Int).toNat (Go.bits .or .i64 (rd x4_2 x19_1) (shl .i64 1 x26_2))) x19_1 t373 (t373.length : Int) x19_1 t373 (t373.length : Int) (wrap64 (x26_2 + 1)) ((rd_T72 t373 x19_1).f0) ((rd_T72 t373 x19_1).f1)) else (none)) else (none)) else (impl_chi_crossings.l1 k2 l0 t373 x4_2 x19_1 t373 (t373.length : Int) x19_1 t373 (t373.length : Int) (wrap64 (x26_2 + 1)) ((rd_T72 t373 x19_1).f0) ((rd_T72 t373 x19_1).f1)))) = some r := by rw [if_pos rfl] at H; exact H
                clear H
                have H := H1
                clear H1
                replace H := Option.bind_eq_some_iff.mp H
                obtain ⟨t388, A210, H⟩ := H
                (try dsimp only at H)
                have A21 := Aside0.mk A210
                clear A210
                by_cases c22 : t388 = true
                ·subst c22
                 have H1 : (if 0 ≤ x19_1 then (if x19_1 < (x4_2.length : Int) then (impl_chi_crossings.l1 k2 l0 t373 (x4_2.set (x19_1 : Int).toNat (Go.bits .or .i64 (rd x4_2 x19_1) (shl .i64 1 x26_2))) x19_1 t373 (t373.length : Int) x19_1 t373 (t373.length : Int) (wrap64 (x26_2 + 1)) ((rd_T72 t373 x19_1).f0) ((rd_T72 t373 x19_1).f1)) else (none)) else (none)) = some r := by rw [if_pos rfl] at H; exact H
                 clear H
                 have H := H1
                 clear H1
                 by_cases c23 : 0 ≤ x19_1
                 ·rw [if_pos c23] at H
                  have c23b0 : decide (0 ≤ x19_1) = true := decide_eq_true c23
                  clear c23
                  by_cases c24 : x19_1 < (x4_2.length : Int)
                  ·rw [if_pos c24] at H
                   have c24b0 : decide (x19_1 < (x4_2.length : Int)) = true := decide_eq_true c24
                   clear c24
                   have c25b0 := eq_true (of_decide_eq_true (by first | (with_reducible assumption) | assumption) : 0 ≤ x26_2)
                   obtain ⟨ji26, hji26⟩ : ∃ j_ : Int, (shl .i64 1 x26_2) = j_ := ⟨_, rfl⟩
                   replace H : (impl_chi_crossings.l1 k2 l0 t373 (x4_2.set (x19_1 : Int).toNat (Go.bits .or .i64 (rd x4_2 x19_1) (ji26))) x19_1 t373 (t373.length : Int) x19_1 t373 (t373.length : Int) (wrap64 (x26_2 + 1)) ((rd_T72 t373 x19_1).f0) ((rd_T72 t373 x19_1).f1)) = some r := by first | (rw [hji26] at H; exact H) | (simp only [hji26] at H ⊢; exact H)
                   (try rw [hji26] at A19)
                   (try rw [hji26] at A21)
                   have hji26_ : (IntKind.i64.wrap (1 * 2 ^ min x26_2.toNat 64)) = ji26 := hji26
                   have hji26z : x26_2 ≤ 64 → (IntKind.i64.wrap (1 * 2 ^ x26_2.toNat)) = ji26 := shl_small hji26
                   have hji26u : (IntKind.i64.wrap (2 ^ min x26_2.toNat 64)) = ji26 := by have h_ := hji26_; rw [Int.one_mul] at h_; exact h_
                   have hji26v : x26_2 ≤ 64 → (IntKind.i64.wrap (2 ^ x26_2.toNat)) = ji26 := fun hle_ => by have h_ := hji26z hle_; rw [Int.one_mul] at h_; exact h_
                   have hji26y : (wrap64 (1 * 2 ^ min x26_2.toNat 64)) = ji26 := (i64_w _).symm.trans hji26_
                   have hji26x : x26_2 ≤ 64 → (wrap64 (1 * 2 ^ x26_2.toNat)) = ji26 := fun h_ => (i64_w _).symm.trans (hji26z h_)
                   obtain ⟨y390, hy390⟩ : ∃ y_ : List Int, y_ = (x4_2.set (x19_1 : Int).toNat (Go.bits .or .i64 (rd x4_2 x19_1) (ji26))) := ⟨_, rfl⟩
                   replace H : (impl_chi_crossings.l1 k2 l0 t373 y390 x19_1 t373 (t373.length : Int) x19_1 t373 (t373.length : Int) (wrap64 (x26_2 + 1)) ((rd_T72 t373 x19_1).f0) ((rd_T72 t373 x19_1).f1)) = some r := by first | (rw [hy390]; with_reducible exact H) | (have H2_ := (Option.bind_some _ _).symm.trans H; rw [hy390]; with_reducible exact H2_) | (have H2_ := (Option.bind_some _ _).symm.trans H; with_reducible exact H2_) | with_reducible exact H | (rw [hy390]; exact H) | exact H
                   have Ny390 := Aside0.mk hy390
                   clear hy390
                   have H' := Aside0.mk H
                   clear H
                   have p381 : 0 ≤ (x26_2 : Int) := of_decide_eq_true (by first | (with_reducible assumption) | assumption)
                   have q381 : x26_2 < (t373.length : Int) := of_decide_eq_true (by first | (with_reducible assumption) | assumption)
                   obtain ⟨ad381, e381, hx381_0, hx381_1⟩ := at_T72 (Kd.R_reads' HO_24.out).2.2 x26_2 p381 q381
                   obtain rfl : ad379 = ad381 := (by injection e381)
                   replace p381 := eq_true p381
                   replace q381 := eq_true q381
                   try go_wp2_with (first | ((with_reducible refine gate_dst (N := 8) rfl ?_); refine bx 8 #[.int .i64 0, .int .i64 0] 72 ?_; intro gb382 hg w28 hbox hb; have n0_ := Aside0.mk (Kd.R_below (Kd.R_elderB (rr HO_3) gb382 (Nat.le_of_eq hg.symm)) hb); have n1_ := Aside0.mk (Kd.R_below (rr HO_4) hb); have n2_ := Aside0.mk (Kd.R_below (Kd.R_elderB (rr HO_17) gb382 (Nat.le_of_eq hg.symm)) hb); have n3_ := Aside0.mk (Kd.R_below (Kd.R_elderB (rr HO_24) gb382 (Nat.le_of_eq hg.symm)) hb); have n4_ := Aside0.mk (blk_below (g := gb380) (o := .cells #[.int .i64 ((rd_T72 t373 x19_1).f0), .int .i64 ((rd_T72 t373 x19_1).f1)] 72 (0, 0)) (bk BK380) hb); have n5_ := bsg HB GE380 hb; have n6_ := Aside0.mk (hbox); have n7_ := Aside0.mk ((by rw [hg]; exact (below_size (bg HB GE380)) : w.heap.size ≤ gb382)); have n8_ := Aside0.mk ((by rw [hg]; exact (below_size (bg HB GE380)) : w.heap.size ≤ gb382)); have n9_ := Aside0.mk ((by rw [hg]; exact Nat.ne_of_lt (blk_lt (g := gb380) (o := .cells #[.int .i64 ((rd_T72 t373 x19_1).f0), .int .i64 ((rd_T72 t373 x19_1).f1)] 72 (0, 0)) (bk BK380)) : gb380 ≠ gb382)); have n10_ := Aside0.mk ((by rw [hg]; exact Nat.ne_of_gt (blk_lt (g := gb380) (o := .cells #[.int .i64 ((rd_T72 t373 x19_1).f0), .int .i64 ((rd_T72 t373 x19_1).f1)] 72 (0, 0)) (bk BK380)) : gb382 ≠ gb380)); clear HO_3; clear HO_4; clear HO_17; clear HO_24; clear BK380; clear HB; have HO_3 := n0_; have HO_4 := n1_; have HO_17 := n2_; have HO_24 := n3_; have BK380 := n4_; have HB := n5_; have BK382 := n6_; have GW382 := n7_; have GE382 := n8_; have NB380_382 := n9_; have NB382_380 := n10_; clear n0_ n1_ n2_ n3_ n4_ n5_ n6_ n7_ n8_ n9_ n10_; clear hb hbox hg; have hnb29 := NB382_380.out; have hnc29 := NB380_382.out; have hcz30_0 := bc BK382 0; have hcz30_1 := bc BK382 1; have hfz30_0 := bf BK382 0; have hfz30_1 := bf BK382 1))
                   have n0_ : Aside0 (Kd.R k72 72 ((w28.setCell ⟨gb382, 0, none⟩ (.int .i64 ((rd_T72 t373 x26_2).f0))).setCell ⟨gb382, 1, none⟩ (.int .i64 ((rd_T72 t373 x26_2).f1))) w.heap.size (fun k_ => k_ ≠ gb380 ∧ k_ ≠ gb382) (.slice (some ad379) t373.length co7) t373) := ⟨by (with_reducible repeat (first | apply Kd.R_alloc | apply Kd.R_drewN | apply Kd.R_drew)); exact Kd.R_mono (Kd.R_far (p := ⟨gb382, 1, none⟩) (Kd.R_far (p := ⟨gb382, 0, none⟩) (Kd.R_mono HO_3.out (fun k_ hk => (⟨hk, hk.2⟩ : _ ∧ k_ ≠ gb382))) (fun _ hk => hk.2) (.int .i64 ((rd_T72 t373 x26_2).f0))) (fun _ hk => hk.2) (.int .i64 ((rd_T72 t373 x26_2).f1))) (fun _ hk => ⟨hk.1.1, hk.1.2⟩)⟩
                   have n1_ : Aside0 (Kd.R (Kd.int .i64) 3 ((w28.setCell ⟨gb382, 0, none⟩ (.int .i64 ((rd_T72 t373 x26_2).f0))).setCell ⟨gb382, 1, none⟩ (.int .i64 ((rd_T72 t373 x26_2).f1))) w.heap.size (fun _ => True) v377 x4_2) := ⟨by (with_reducible repeat (first | apply Kd.R_alloc | apply Kd.R_drewN | apply Kd.R_drew)); exact Kd.R_mono (Kd.R_far (p := ⟨gb382, 1, none⟩) (Kd.R_far (p := ⟨gb382, 0, none⟩) (Kd.R_types HO_4.out BK382.out (by decide)) (fun _ hk => hk.2) (.int .i64 ((rd_T72 t373 x26_2).f0))) (fun _ hk => hk.2) (.int .i64 ((rd_T72 t373 x26_2).f1))) (fun _ hk => trivial)⟩
                   have n2_ : Aside0 (Kd.R k72 72 ((w28.setCell ⟨gb382, 0, none⟩ (.int .i64 ((rd_T72 t373 x26_2).f0))).setCell ⟨gb382, 1, none⟩ (.int .i64 ((rd_T72 t373 x26_2).f1))) w.heap.size (fun k_ => k_ ≠ gb380 ∧ k_ ≠ gb382) (.slice (some ad379) t373.length co7) t373) := ⟨by (with_reducible repeat (first | apply Kd.R_alloc | apply Kd.R_drewN | apply Kd.R_drew)); exact Kd.R_mono (Kd.R_far (p := ⟨gb382, 1, none⟩) (Kd.R_far (p := ⟨gb382, 0, none⟩) (Kd.R_mono HO_17.out (fun k_ hk => (⟨hk, hk.2⟩ : _ ∧ k_ ≠ gb382))) (fun _ hk => hk.2) (.int .i64 ((rd_T72 t373 x26_2).f0))) (fun _ hk => hk.2) (.int .i64 ((rd_T72 t373 x26_2).f1))) (fun _ hk => ⟨hk.1.1, hk.1.2⟩)⟩
                   have n3_ : Aside0 (Kd.R k72 72 ((w28.setCell ⟨gb382, 0, none⟩ (.int .i64 ((rd_T72 t373 x26_2).f0))).setCell ⟨gb382, 1, none⟩ (.int .i64 ((rd_T72 t373 x26_2).f1))) w.heap.size (fun k_ => k_ ≠ gb380 ∧ k_ ≠ gb382) (.slice (some ad379) t373.length co7) t373) := ⟨by (with_reducible repeat (first | apply Kd.R_alloc | apply Kd.R_drewN | apply Kd.R_drew)); exact Kd.R_mono (Kd.R_far (p := ⟨gb382, 1, none⟩) (Kd.R_far (p := ⟨gb382, 0, none⟩) (Kd.R_mono HO_24.out (fun k_ hk => (⟨hk, hk.2⟩ : _ ∧ k_ ≠ gb382))) (fun _ hk => hk.2) (.int .i64 ((rd_T72 t373 x26_2).f0))) (fun _ hk => hk.2) (.int .i64 ((rd_T72 t373 x26_2).f1))) (fun _ hk => ⟨hk.1.1, hk.1.2⟩)⟩
                   have n4_ : Aside0 (((w28.setCell ⟨gb382, 0, none⟩ (.int .i64 ((rd_T72 t373 x26_2).f0))).setCell ⟨gb382, 1, none⟩ (.int .i64 ((rd_T72 t373 x26_2).f1))).heap[gb380]? = some (.cells #[.int .i64 ((rd_T72 t373 x19_1).f0), .int .i64 ((rd_T72 t373 x19_1).f1)] 72 (0, 0))) := ⟨by (with_reducible repeat (first | refine blk_drewN ?_ _ | refine blk_drew ?_ | refine blk_alloc ?_ _)); refine blk_far ?_ NB380_382.out _; (with_reducible repeat (first | refine blk_drewN ?_ _ | refine blk_drew ?_ | refine blk_alloc ?_ _)); refine blk_far ?_ NB380_382.out _; (with_reducible repeat (first | refine blk_drewN ?_ _ | refine blk_drew ?_ | refine blk_alloc ?_ _)); exact BK380.out⟩
                   have n5_ : Aside0 (((w28.setCell ⟨gb382, 0, none⟩ (.int .i64 ((rd_T72 t373 x26_2).f0))).setCell ⟨gb382, 1, none⟩ (.int .i64 ((rd_T72 t373 x26_2).f1))).heap[gb382]? = some (.cells #[.int .i64 ((rd_T72 t373 x26_2).f0), .int .i64 ((rd_T72 t373 x26_2).f1)] 72 (0, 0))) := ⟨by (with_reducible repeat (first | refine blk_drewN ?_ _ | refine blk_drew ?_ | refine blk_alloc ?_ _)); refine blk_put (cs := #[.int .i64 ((rd_T72 t373 x26_2).f0), .int .i64 0]) ?_ 1 _ rfl; (with_reducible repeat (first | refine blk_drewN ?_ _ | refine blk_drew ?_ | refine blk_alloc ?_ _)); refine blk_put (cs := #[.int .i64 0, .int .i64 0]) ?_ 0 _ rfl; (with_reducible repeat (first | refine blk_drewN ?_ _ | refine blk_drew ?_ | refine blk_alloc ?_ _)); exact BK382.out⟩
                   have n6_ : Aside0 (Below w.heap.size w ((w28.setCell ⟨gb382, 0, none⟩ (.int .i64 ((rd_T72 t373 x26_2).f0))).setCell ⟨gb382, 1, none⟩ (.int .i64 ((rd_T72 t373 x26_2).f1)))) := ⟨by repeat (first | (with_reducible first | exact HB.out | apply below_alloc | apply pw_below_drewN | apply below_drew1 | refine below_set ?_ GE380.out | refine below_set ?_ GE382.out) | exact HB.out)⟩
                   (try clear HO_3)
                   (try clear HO_4)
                   (try clear HO_17)
                   (try clear HO_24)
                   (try clear BK380)
                   (try clear BK382)
                   (try clear HB)
                   generalize ((w28.setCell ⟨gb382, 0, none⟩ (.int .i64 ((rd_T72 t373 x26_2).f0))).setCell ⟨gb382, 1, none⟩ (.int .i64 ((rd_T72 t373 x26_2).f1))) = w31 at n0_ n1_ n2_ n3_ n4_ n5_ n6_ ⊢
                   have HO_3 := n0_
                   have HO_4 := n1_
                   have HO_17 := n2_
                   have HO_24 := n3_
                   have BK380 := n4_
                   have BK382 := n5_
                   have HB := n6_
                   clear n0_ n1_ n2_ n3_ n4_ n5_ n6_
                   have n0_ := Aside0.mk (Kd.R_drew HO_3.out)
                   have n1_ := Aside0.mk (Kd.R_drew HO_4.out)
                   have n2_ := Aside0.mk (Kd.R_drew HO_17.out)
                   have n3_ := Aside0.mk (Kd.R_drew HO_24.out)
                   have n4_ := Aside0.mk (blk_drew BK380.out)
                   have n5_ := Aside0.mk (blk_drew BK382.out)
                   have n6_ := Aside0.mk (below_drew1 HB.out)
                   clear HO_3
                   clear HO_4
                   clear HO_17
                   clear HO_24
                   clear BK380
                   clear BK382
                   clear HB
                   have HO_3 := n0_
                   have HO_4 := n1_
                   have HO_17 := n2_
                   have HO_24 := n3_
                   have BK380 := n4_
                   have BK382 := n5_
                   have HB := n6_
                   clear n0_ n1_ n2_ n3_ n4_ n5_ n6_
                   have cl383 : (344 : Int) ≤ (l0.length : Int) := of_decide_eq_true (by first | (with_reducible assumption) | assumption)
                   have p383 : 0 ≤ (0 : Int) := (by omega)
                   have q383 : 0 < (l0.length : Int) := (by omega)
                   obtain ⟨ad383, e383, hx383_0⟩ := Kd.at_int HR0.out 0 p383 q383
                   have hw383_0 := hx383_0
                   (try rw [show ((0 : Int)).toNat = 0 from rfl] at hw383_0)
                   (try rw [show 0 * 1 = 0 from rfl] at hw383_0)
                   (try rw [Addr.add_zero'] at hw383_0)
                   obtain rfl : ad372 = ad383 := (by injection e383)
                   have qi383 : (0 < l0.length) = True := eq_true (by omega)
                   (try rw [show ((0 : Int)).toNat = 0 from rfl] at hx383_0)
                   (try rw [Addr.add_zero'] at hx383_0)
                   replace hx383_0 := (HB.out.cell (World.block_lt_of_cell? w _ hx383_0)).trans hx383_0
                   replace p383 := eq_true p383
                   replace q383 := eq_true q383
                   refine start_ (n := 26) (S := fun w' => w'.cell? ⟨gb380, 0, none⟩ = some (.int .i64 ((rd_T72 t373 x19_1).f0)) ∧ w'.cell? ⟨gb380, 1, none⟩ = some (.int .i64 ((rd_T72 t373 x19_1).f1)) ∧ w'.cell? ⟨gb382, 0, none⟩ = some (.int .i64 ((rd_T72 t373 x26_2).f0)) ∧ w'.cell? ⟨gb382, 1, none⟩ = some (.int .i64 ((rd_T72 t373 x26_2).f1)) ∧ w'.cell? ad372 = some (.int .i64 (rd l0 0))) (ds := []) #[false, false, false, false, false, false, false, false, false, false, false, false, false, false, false, false, false, false, false, false, false, false, false, false, false, false] (by kernel_rfl) rfl rfl ⟨(blk_cell BK380.out 0).trans rfl, (blk_cell BK380.out 1).trans rfl, (blk_cell BK382.out 0).trans rfl, (blk_cell BK382.out 1).trans rfl, ((HB.out.cell (World.block_lt_of_cell? w _ hw383_0)).trans hw383_0)⟩ (fun hHeld => ?_); refine with_tabW impl_chi_crossings.tab9 impl_chi_crossings.bits9 (fun HT_ HW_ => ?_)
                   generalize w31.drew = w32 at HO_3 HO_4 HO_17 HO_24 BK380 BK382 HB hx383_0 hHeld ⊢
                   refine pu 0 31 HT_ ?_
                   refine pu 1 32 HT_ ?_
                   refine pu 2 33 HT_ ?_
                   refine pu 4 35 HT_ ?_
                   refine pu 6 37 HT_ ?_
                   refine pu 8 39 HT_ ?_
                   refine pu 10 41 HT_ ?_
                   refine take_ (i := 3) (N := some 34) (v := ?_) (a' := ?_) #[true, true, true, true, true, false, true, false, true, false, true, false, false, false, false, false, false, false, false, false, false, false, false, false, false, false] rfl rfl (take_ofW HT_.out HW_.out (by kernel_rfl)) (fun _ _ _ h => h) (Or.inl ⟨by rfl, ?_⟩) hHeld ?_ ?_
                   rotate_left
                   ·rintro w' ⟨s0, s1, s2, s3, s4⟩
                    go_simp
                    with_reducible rfl
                   rotate_left
                   ·simp only [Act.put, List.setIfInBounds_toArray, List.set_cons_zero, List.set_cons_succ, i64_w, i32_w]
                    rfl
                   refine take_ (i := 5) (N := some 36) (v := ?_) (a' := ?_) #[true, true, true, true, true, true, true, false, true, false, true, false, false, false, false, false, false, false, false, false, false, false, false, false, false, false] rfl rfl (take_ofW HT_.out HW_.out (by kernel_rfl)) (fun _ _ _ h => h) (Or.inl ⟨by rfl, ?_⟩) hHeld ?_ ?_
                   rotate_left
                   ·rintro w' ⟨s0, s1, s2, s3, s4⟩
                    go_simp
                    with_reducible rfl
                   rotate_left
                   ·simp only [Act.put, List.setIfInBounds_toArray, List.set_cons_zero, List.set_cons_succ, i64_w, i32_w]
                    rfl
                   refine take_ (i := 7) (N := some 38) (v := ?_) (a' := ?_) #[true, true, true, true, true, true, true, true, true, false, true, false, false, false, false, false, false, false, false, false, false, false, false, false, false, false] rfl rfl (take_ofW HT_.out HW_.out (by kernel_rfl)) (fun _ _ _ h => h) (Or.inl ⟨by rfl, ?_⟩) hHeld ?_ ?_
                   rotate_left
                   ·rintro w' ⟨s0, s1, s2, s3, s4⟩
                    go_simp
                    with_reducible rfl
                   rotate_left
                   ·simp only [Act.put, List.setIfInBounds_toArray, List.set_cons_zero, List.set_cons_succ, i64_w, i32_w]
                    rfl
                   refine take_ (i := 9) (N := some 40) (v := ?_) (a' := ?_) #[true, true, true, true, true, true, true, true, true, true, true, false, false, false, false, false, false, false, false, false, false, false, false, false, false, false] rfl rfl (take_ofW HT_.out HW_.out (by kernel_rfl)) (fun _ _ _ h => h) (Or.inl ⟨by rfl, ?_⟩) hHeld ?_ ?_
                   rotate_left
                   ·rintro w' ⟨s0, s1, s2, s3, s4⟩
                    go_simp
                    with_reducible rfl
                   rotate_left
                   ·simp only [Act.put, List.setIfInBounds_toArray, List.set_cons_zero, List.set_cons_succ, i64_w, i32_w]
                    rfl
                   refine take_ (i := 11) (N := some 42) (v := ?_) (a' := ?_) #[true, true, true, true, true, true, true, true, true, true, true, true, false, false, false, false, false, false, false, false, false, false, false, false, false, false] rfl rfl (take_ofW HT_.out HW_.out (by kernel_rfl)) (fun _ _ _ h => h) (Or.inl ⟨by rfl, ?_⟩) hHeld ?_ ?_
                   rotate_left
                   ·rintro w' ⟨s0, s1, s2, s3, s4⟩
                    go_simp
                    with_reducible rfl
                   rotate_left
                   ·simp only [Act.put, List.setIfInBounds_toArray, List.set_cons_zero, List.set_cons_succ, i64_w, i32_w]
                    rfl
                   refine one_ (i := 12) (N := some 43) #[true, true, true, true, true, true, true, true, true, true, true, true, true, false, false, false, false, false, false, false, false, false, false, false, false, false] rfl rfl (one_of HT_.out (by kernel_rfl)) (by decide) (fun K hK => ?_)
                   refine Kd.R_lit_step (Kd.int .i64) _ 3 ?hg (N := 43) ?hd (xs := ([((rd_T72 t373 x19_1).f0), ((rd_T72 t373 x19_1).f1), (rd_T72 t373 x26_2).f0, (rd_T72 t373 x26_2).f1] : List Int)) (inner := [.int .i64 ((rd_T72 t373 x19_1).f0), .int .i64 ((rd_T72 t373 x19_1).f1), .int .i64 ((rd_T72 t373 x26_2).f0), .int .i64 ((rd_T72 t373 x26_2).f1)]) (ok := fun _ => True) (okp := fun _ => True) ?hr ?hp (fun _ hk => hk) trivial (Below.refl _ _) (Nat.le_refl _) (by simp) ?_; (case hd => rfl); (case hg => rfl); (case hr => first | (go_simp; done) | (go_simp; rfl)); (case hp => exact (Reps.one (show Kd.M (Kd.int .i64) _ _ _ ((rd_T72 t373 x19_1).f0) [.int .i64 ((rd_T72 t373 x19_1).f0)] from rfl) (Reps.one (show Kd.M (Kd.int .i64) _ _ _ ((rd_T72 t373 x19_1).f1) [.int .i64 ((rd_T72 t373 x19_1).f1)] from rfl) (Reps.one (show Kd.M (Kd.int .i64) _ _ _ ((rd_T72 t373 x26_2).f0) [.int .i64 ((rd_T72 t373 x26_2).f0)] from rfl) (Reps.one (show Kd.M (Kd.int .i64) _ _ _ ((rd_T72 t373 x26_2).f1) [.int .i64 ((rd_T72 t373 x26_2).f1)] from rfl) (Reps.none _ _))))))
                   intro v385 w33 ho34 hb hg_ hnew_
                   clear hg_ hnew_
                   (first | rw [← Ny384.out] at ho34 | (simp only [Int.reduceToNat] at ho34; rw [← Ny384.out] at ho34))
                   have n0_ := Aside0.mk (Kd.R_below (rr HO_3) hb)
                   have n1_ := Aside0.mk (Kd.R_elder' (rr HO_4) (Kd.R_base ho34) hb)
                   have n2_ := Aside0.mk (Kd.R_below (rr HO_17) hb)
                   have n3_ := Aside0.mk (Kd.R_below (rr HO_24) hb)
                   have n4_ := Aside0.mk (Kd.R_lower (Kd.R_new' ho34 (Kd.R_lt (rr HO_4))) (below_size (by repeat (first | (with_reducible first | exact HB.out | apply below_alloc | apply pw_below_drewN | apply below_drew1 | refine below_set ?_ GE380.out | refine below_set ?_ GE382.out) | exact HB.out))))
                   have n5_ := Aside0.mk (blk_below (g := gb380) (o := .cells #[.int .i64 ((rd_T72 t373 x19_1).f0), .int .i64 ((rd_T72 t373 x19_1).f1)] 72 (0, 0)) (bk BK380) hb)
                   have n6_ := Aside0.mk (blk_below (g := gb382) (o := .cells #[.int .i64 ((rd_T72 t373 x26_2).f0), .int .i64 ((rd_T72 t373 x26_2).f1)] 72 (0, 0)) (bk BK382) hb)
                   have n7_ := Aside0.mk (below_step (by repeat (first | (with_reducible first | exact HB.out | apply below_alloc | apply pw_below_drewN | apply below_drew1 | refine below_set ?_ GE380.out | refine below_set ?_ GE382.out) | exact HB.out)) hb)
                   clear HO_3
                   clear HO_4
                   clear HO_17
                   clear HO_24
                   clear BK380
                   clear BK382
                   clear HB
                   have HO_3 := n0_
                   have HO_4 := n1_
                   have HO_17 := n2_
                   have HO_24 := n3_
                   have HO386 := n4_
                   have BK380 := n5_
                   have BK382 := n6_
                   have HB := n7_
                   clear n0_ n1_ n2_ n3_ n4_ n5_ n6_ n7_
                   clear hb ho34
                   obtain ⟨Ao35, co35, eo35⟩ := Kd.R_slice HO386.out
                   (first | subst eo35 | (injection eo35 with f1_ f2_ f3_; have f4_ := f1_.symm; have f5_ := f3_.symm; clear f1_ f2_ f3_; subst f4_; subst f5_))
                   refine hK.out _ _ ⟨(blk_cell BK380.out 0).trans rfl, (blk_cell BK380.out 1).trans rfl, (blk_cell BK382.out 0).trans rfl, (blk_cell BK382.out 1).trans rfl, ((HB.out.cell (World.block_lt_of_cell? w _ hw383_0)).trans hw383_0)⟩ (fun hHeld => ?_)
                   clear hK K
                   refine norm_ (a' := ?_) ?_ ?_
                   rotate_left
                   ·show Act.put _ (some 43) _ = _
                    simp only [Act.put, List.setIfInBounds_toArray, List.set_cons_zero, List.set_cons_succ, i64_w, i32_w]
                    rfl
                   refine one_ (i := 13) (N := some 44) #[true, true, true, true, true, true, true, true, true, true, true, true, true, true, false, false, false, false, false, false, false, false, false, false, false, false] rfl rfl (one_of HT_.out (by kernel_rfl)) (by decide) (fun K hK => ?_)
                   refine goes_ Try.func116 (by kernel_rfl) rfl #[.int .i64 (rd l0 0), .slice Ao35 y384.length co35] (by rfl) rfl rfl (by (try simp only [List.map_toArray, List.map_cons, List.map_nil]); first | done | rfl | (simp only [List.length_drop, List.length_take]; rfl)) ?_
                   with_reducible refine (impl_areDifferent.calls k2 (rd l0 0) _ _ y384 true _ ?side1 ?side2 A19.out).mono ?_
                   (case side1 => repeat (first | exact (Kd.R_reads' HO386.out).2.2 | (with_reducible refine Kd.C_alloc ?_ _) | (with_reducible refine Kd.C_drewN ?_ _) | (with_reducible refine Kd.C_drew ?_)))
                   (case side2 => exact (Kd.R_reads' HO386.out).2.1)
                   rintro e w' ⟨rfl, ⟨nd, rfl⟩⟩
                   refine ⟨_, rfl, ?_⟩
                   refine hK.out _ _ ⟨(blk_cell BK380.out 0).trans rfl, (blk_cell BK380.out 1).trans rfl, (blk_cell BK382.out 0).trans rfl, (blk_cell BK382.out 1).trans rfl, ((HB.out.cell (World.block_lt_of_cell? w _ hw383_0)).trans hw383_0)⟩ (fun hHeld => ?_)
                   clear hK K
                   refine norm_ (a' := ?_) ?_ ?_
                   rotate_left
                   ·show Act.put _ (some 44) _ = _
                    simp only [Act.put, List.setIfInBounds_toArray, List.set_cons_zero, List.set_cons_succ, i64_w, i32_w]
                    rfl
                   refine pu 14 45 HT_ ?_
                   refine pu 15 46 HT_ ?_
                   refine pu 16 47 HT_ ?_
                   refine pu 18 49 HT_ ?_
                   refine pu 20 51 HT_ ?_
                   refine pu 22 53 HT_ ?_
                   refine take_ (i := 17) (N := some 48) (v := ?_) (a' := ?_) #[true, true, true, true, true, true, true, true, true, true, true, true, true, true, true, true, true, true, true, false, true, false, true, false, false, false] rfl rfl (take_ofW HT_.out HW_.out (by kernel_rfl)) (fun _ _ _ h => h) (Or.inl ⟨by rfl, ?_⟩) hHeld ?_ ?_
                   rotate_left
                   ·rintro w' ⟨s0, s1, s2, s3, s4⟩
                    go_simp
                    with_reducible rfl
                   rotate_left
                   ·simp only [Act.put, List.setIfInBounds_toArray, List.set_cons_zero, List.set_cons_succ, i64_w, i32_w]
                    rfl
                   refine take_ (i := 19) (N := some 50) (v := ?_) (a' := ?_) #[true, true, true, true, true, true, true, true, true, true, true, true, true, true, true, true, true, true, true, true, true, false, true, false, false, false] rfl rfl (take_ofW HT_.out HW_.out (by kernel_rfl)) (fun _ _ _ h => h) (Or.inl ⟨by rfl, ?_⟩) hHeld ?_ ?_
                   rotate_left
                   ·rintro w' ⟨s0, s1, s2, s3, s4⟩
                    go_simp
                    with_reducible rfl
                   rotate_left
                   ·simp only [Act.put, List.setIfInBounds_toArray, List.set_cons_zero, List.set_cons_succ, i64_w, i32_w]
                    rfl
                   refine take_ (i := 21) (N := some 52) (v := ?_) (a' := ?_) #[true, true, true, true, true, true, true, true, true, true, true, true, true, true, true, true, true, true, true, true, true, true, true, false, false, false] rfl rfl (take_ofW HT_.out HW_.out (by kernel_rfl)) (fun _ _ _ h => h) (Or.inl ⟨by rfl, ?_⟩) hHeld ?_ ?_
                   rotate_left
                   ·rintro w' ⟨s0, s1, s2, s3, s4⟩
                    go_simp
                    with_reducible rfl
                   rotate_left
                   ·simp only [Act.put, List.setIfInBounds_toArray, List.set_cons_zero, List.set_cons_succ, i64_w, i32_w]
                    rfl
                   refine take_ (i := 23) (N := some 54) (v := ?_) (a' := ?_) #[true, true, true, true, true, true, true, true, true, true, true, true, true, true, true, true, true, true, true, true, true, true, true, true, false, false] rfl rfl (take_ofW HT_.out HW_.out (by kernel_rfl)) (fun _ _ _ h => h) (Or.inl ⟨by rfl, ?_⟩) hHeld ?_ ?_
                   rotate_left
                   ·rintro w' ⟨s0, s1, s2, s3, s4⟩
                    go_simp
                    with_reducible rfl
                   rotate_left
                   ·simp only [Act.put, List.setIfInBounds_toArray, List.set_cons_zero, List.set_cons_succ, i64_w, i32_w]
                    rfl
                   refine one_ (i := 24) (N := some 55) #[true, true, true, true, true, true, true, true, true, true, true, true, true, true, true, true, true, true, true, true, true, true, true, true, true, false] rfl rfl (one_of HT_.out (by kernel_rfl)) (by decide) (fun K hK => ?_)
                   refine goes_ Try.func117 (by kernel_rfl) rfl #[.pointer (some ad372), .int .i64 ((rd_T72 t373 x19_1).f0), .int .i64 ((rd_T72 t373 x19_1).f1), .int .i64 ((rd_T72 t373 x26_2).f0), .int .i64 ((rd_T72 t373 x26_2).f1)] (by rfl) rfl rfl (by (try simp only [List.map_toArray, List.map_cons, List.map_nil]); first | done | rfl | (simp only [List.length_drop, List.length_take]; rfl)) ?_
                   with_reducible refine (impl_chi_cross.calls k2 _ c0 l0 ((rd_T72 t373 x19_1).f0) ((rd_T72 t373 x19_1).f1) ((rd_T72 t373 x26_2).f0) ((rd_T72 t373 x26_2).f1) true _ ?side1 ?side2 A21.out).mono ?_
                   (case side1 => repeat (first | exact (Kd.C_below HR0.out (by repeat (first | (with_reducible first | exact HB.out | apply below_alloc | apply pw_below_drewN | apply below_drew1 | refine below_set ?_ GE380.out | refine below_set ?_ GE382.out) | exact HB.out))) | (with_reducible refine Kd.C_alloc ?_ _) | (with_reducible refine Kd.C_drewN ?_ _) | (with_reducible refine Kd.C_drew ?_)))
                   (case side2 => exact HC0.out)
                   rintro e w36 ⟨rfl, hb⟩
                   refine ⟨_, rfl, ?_⟩
                   have n0_ := Aside0.mk (Kd.R_below (rr HO_3) hb)
                   have n1_ := Aside0.mk (Kd.R_below (rr HO_4) hb)
                   have n2_ := Aside0.mk (Kd.R_below (rr HO_17) hb)
                   have n3_ := Aside0.mk (Kd.R_below (rr HO_24) hb)
                   have n4_ := Aside0.mk (Kd.R_below (rr HO386) hb)
                   have n5_ := Aside0.mk (blk_below (g := gb380) (o := .cells #[.int .i64 ((rd_T72 t373 x19_1).f0), .int .i64 ((rd_T72 t373 x19_1).f1)] 72 (0, 0)) (bk BK380) hb)
                   have n6_ := Aside0.mk (blk_below (g := gb382) (o := .cells #[.int .i64 ((rd_T72 t373 x26_2).f0), .int .i64 ((rd_T72 t373 x26_2).f1)] 72 (0, 0)) (bk BK382) hb)
                   have n7_ := Aside0.mk (below_step (by repeat (first | (with_reducible first | exact HB.out | apply below_alloc | apply pw_below_drewN | apply below_drew1 | refine below_set ?_ GE380.out | refine below_set ?_ GE382.out) | exact HB.out)) hb)
                   clear HO_3
                   clear HO_4
                   clear HO_17
                   clear HO_24
                   clear HO386
                   clear BK380
                   clear BK382
                   clear HB
                   have HO_3 := n0_
                   have HO_4 := n1_
                   have HO_17 := n2_
                   have HO_24 := n3_
                   have HO386 := n4_
                   have BK380 := n5_
                   have BK382 := n6_
                   have HB := n7_
                   clear n0_ n1_ n2_ n3_ n4_ n5_ n6_ n7_
                   (try clear hb)
                   (try clear hb2)
                   (try clear hk)
                   (try clear hi)
                   refine hK.out _ _ ⟨(blk_cell BK380.out 0).trans rfl, (blk_cell BK380.out 1).trans rfl, (blk_cell BK382.out 0).trans rfl, (blk_cell BK382.out 1).trans rfl, ((HB.out.cell (World.block_lt_of_cell? w _ hw383_0)).trans hw383_0)⟩ (fun hHeld => ?_)
                   clear hK K
                   refine norm_ (a' := ?_) ?_ ?_
                   rotate_left
                   ·show Act.put _ (some 55) _ = _
                    simp only [Act.put, List.setIfInBounds_toArray, List.set_cons_zero, List.set_cons_succ, i64_w, i32_w]
                    rfl
                   refine pu 25 56 HT_ ?_
                   refine done_ (done_of HT_.out (by kernel_rfl)) ?_
                   try go_wp2
                   have n0_ := Aside0.mk (Kd.R_drew HO_3.out)
                   have n1_ := Aside0.mk (Kd.R_drew HO_4.out)
                   have n2_ := Aside0.mk (Kd.R_drew HO_17.out)
                   have n3_ := Aside0.mk (Kd.R_drew HO_24.out)
                   have n4_ := Aside0.mk (Kd.R_drew HO386.out)
                   have n5_ := Aside0.mk (blk_drew BK380.out)
                   have n6_ := Aside0.mk (blk_drew BK382.out)
                   have n7_ := Aside0.mk (below_drew1 HB.out)
                   clear HO_3
                   clear HO_4
                   clear HO_17
                   clear HO_24
                   clear HO386
                   clear BK380
                   clear BK382
                   clear HB
                   have HO_3 := n0_
                   have HO_4 := n1_
                   have HO_17 := n2_
                   have HO_24 := n3_
                   have HO386 := n4_
                   have BK380 := n5_
                   have BK382 := n6_
                   have HB := n7_
                   clear n0_ n1_ n2_ n3_ n4_ n5_ n6_ n7_
                   obtain ⟨Ao38, co38, eo38⟩ := Kd.R_slice HO_4.out
                   (first | subst eo38 | (injection eo38 with f1_ f2_ f3_; have f4_ := f1_.symm; have f5_ := f3_.symm; clear f1_ f2_ f3_; subst f4_; subst f5_))
                   have p389 : 0 ≤ (x19_1 : Int) := of_decide_eq_true (by first | (with_reducible assumption) | assumption)
                   have q389 : x19_1 < (x4_2.length : Int) := of_decide_eq_true (by first | (with_reducible assumption) | assumption)
                   obtain ⟨ad389, e389, hx389_0⟩ := Kd.at_int (Kd.R_reads' HO_4.out).2.2 x19_1 p389 q389
                   cases e389
                   replace p389 := eq_true p389
                   replace q389 := eq_true q389
                   have p27 : 0 ≤ (x19_1 : Int) := of_decide_eq_true (by first | (with_reducible assumption) | assumption)
                   have q27 : (x19_1 : Int) < ((x4_2.length : Int) : Int) := of_decide_eq_true (by first | (with_reducible assumption) | assumption)
                   obtain ⟨go27, co27, eo27, gb27, gl27, cl27, HG27⟩ := Kd.R_form HO_4.out (by omega)
                   (first | cases eo27 | (injection eo27 with ea_ en_ ec_; (first | subst ea_ | (injection ea_ with ea_; subst ea_)); subst ec_; clear en_))
                   have GB27 := Aside0.mk gb27
                   have GG27 := Aside0.mk HG27
                   clear gb27 gl27 HG27
                   (first | simp only [add_plain] at hx389_0 | skip)
                   obtain ⟨hx27_0, hf27_0⟩ := Kd.R_celln 0 HO_4.out (x19_1 : Int) p27 q27
                   replace p27 := eq_true p27
                   replace q27 := eq_true q27
                   have HP39 := Kd.R_putn HO_4.out (x19_1 : Int) (Go.bits .or .i64 (rd x4_2 x19_1) (ji26))
                   rw [← Ny390.out] at HP39
                   have HQ39 := Aside0.mk HP39
                   clear HP39
                   refine start_ (n := 11) (S := fun w' => w'.cell? ⟨go27, (x19_1).toNat, none⟩ = some (.int .i64 (rd x4_2 x19_1))) (ds := [10]) #[false, false, false, false, false, false, false, false, false, false, false] (by kernel_rfl) rfl rfl (hx389_0) (fun hHeld => ?_); refine with_tabW impl_chi_crossings.tab10 impl_chi_crossings.bits10 (fun HT_ HW_ => ?_)
                   generalize w36.drew = w37 at HO_3 HO_4 HO_17 HO_24 HO386 BK380 BK382 HB GG27 HQ39 hf27_0 hx27_0 hx389_0 hHeld ⊢
                   refine pu 0 57 HT_ ?_
                   refine pu 1 58 HT_ ?_
                   refine pu 2 59 HT_ ?_
                   refine pu 3 60 HT_ ?_
                   refine pu 4 61 HT_ ?_
                   refine pu 6 63 HT_ ?_
                   refine pu 7 64 HT_ ?_
                   refine take_ (i := 5) (N := some 62) (v := ?_) (a' := ?_) #[true, true, true, true, true, true, true, true, false, false, false] rfl rfl (take_ofW HT_.out HW_.out (by kernel_rfl)) (fun _ _ _ h => h) (Or.inl ⟨by rfl, ?_⟩) hHeld ?_ ?_
                   rotate_left
                   ·intro w' s0
                    go_simp
                    with_reducible rfl
                   rotate_left
                   ·simp only [Act.put, List.setIfInBounds_toArray, List.set_cons_zero, List.set_cons_succ, i64_w, i32_w]
                    rfl
                   refine pu 8 65 HT_ ?_
                   refine pu 9 66 HT_ ?_
                   refine last_ (i := 10) (N := none) #[true, true, true, true, true, true, true, true, true, true, true] rfl rfl (one_of HT_.out (by kernel_rfl)) (by decide) (fun K hK => ?_)
                   refine skip_ (w1 := ?_) (by rfl) rfl ?_ ?_
                   rotate_left
                   ·go_simp
                    rfl
                   refine hK.out _ _ ?_
                   clear hK K
                   refine done_ (done_of HT_.out (by kernel_rfl)) ?_
                   try go_wp2
                   go_roundg k2
                   case measure => have := HK1.out; have := HK2.out; omega
                   case rel => exact ⟨(y390), (wrap64 (x26_2 + 1)), (by first | rfl | (simp; done) | (simp [*]; done)), H', ⟨by have := HK1.out; have := HK2.out; omega⟩, ⟨by (with_reducible repeat (first | apply Kd.R_alloc | apply Kd.R_drewN | apply Kd.R_drew)); exact Kd.R_mono (Kd.R_far (p := ⟨go27, (x19_1 : Int).toNat, none⟩) (Kd.R_types HO_3.out GG27.out (by decide)) (fun _ hk => hk.2) (.int .i64 (Go.bits .or .i64 (rd x4_2 x19_1) (ji26)))) (fun _ hk => hk.1.1)⟩, ⟨by (with_reducible repeat (first | apply Kd.R_alloc | apply Kd.R_drewN | apply Kd.R_drew)); exact Kd.R_mono HQ39.out (fun _ hk => trivial)⟩, ⟨by (with_reducible repeat (first | apply Kd.R_alloc | apply Kd.R_drewN | apply Kd.R_drew)); exact Kd.R_mono (Kd.R_far (p := ⟨go27, (x19_1 : Int).toNat, none⟩) (Kd.R_types HO_17.out GG27.out (by decide)) (fun _ hk => hk.2) (.int .i64 (Go.bits .or .i64 (rd x4_2 x19_1) (ji26)))) (fun _ hk => hk.1.1)⟩, ⟨by (with_reducible repeat (first | apply Kd.R_alloc | apply Kd.R_drewN | apply Kd.R_drew)); exact Kd.R_mono (Kd.R_far (p := ⟨go27, (x19_1 : Int).toNat, none⟩) (Kd.R_types HO_24.out GG27.out (by decide)) (fun _ hk => hk.2) (.int .i64 (Go.bits .or .i64 (rd x4_2 x19_1) (ji26)))) (fun _ hk => hk.1.1)⟩, ⟨by (with_reducible repeat (first | refine blk_drewN ?_ _ | refine blk_drew ?_ | refine blk_alloc ?_ _)); refine blk_far ?_ (by have h_ := Kd.R_ne HO_4.out BK380.out (by decide); intro e_; exact h_ (by rw [e_]; rfl)) _; (with_reducible repeat (first | refine blk_drewN ?_ _ | refine blk_drew ?_ | refine blk_alloc ?_ _)); exact BK380.out⟩, ⟨by repeat (first | (with_reducible first | exact HB.out | apply below_alloc | apply pw_below_drewN | apply below_drew1 | refine below_set ?_ GB27.out | refine below_set ?_ GE380.out | refine below_set ?_ GE382.out) | exact HB.out)⟩⟩
                  ·rw [if_neg c24] at H
                   exact absurd H (by simp)
                 ·rw [if_neg c23] at H
                  exact absurd H (by simp)
                ·replace c22 := Bool.eq_false_iff.mpr c22
                 subst c22
                 have H1 : (impl_chi_crossings.l1 k2 l0 t373 x4_2 x19_1 t373 (t373.length : Int) x19_1 t373 (t373.length : Int) (wrap64 (x26_2 + 1)) ((rd_T72 t373 x19_1).f0) ((rd_T72 t373 x19_1).f1)) = some r := by rw [if_neg (show ¬ (false = true) by decide)] at H; exact H
                 clear H
                 have H := H1
                 clear H1
                 have H' := Aside0.mk H
                 clear H
                 have p381 : 0 ≤ (x26_2 : Int) := of_decide_eq_true (by first | (with_reducible assumption) | assumption)
                 have q381 : x26_2 < (t373.length : Int) := of_decide_eq_true (by first | (with_reducible assumption) | assumption)
                 obtain ⟨ad381, e381, hx381_0, hx381_1⟩ := at_T72 (Kd.R_reads' HO_24.out).2.2 x26_2 p381 q381
                 obtain rfl : ad379 = ad381 := (by injection e381)
                 replace p381 := eq_true p381
                 replace q381 := eq_true q381
                 try go_wp2_with (first | ((with_reducible refine gate_dst (N := 8) rfl ?_); refine bx 8 #[.int .i64 0, .int .i64 0] 72 ?_; intro gb382 hg w40 hbox hb; have n0_ := Aside0.mk (Kd.R_below (Kd.R_elderB (rr HO_3) gb382 (Nat.le_of_eq hg.symm)) hb); have n1_ := Aside0.mk (Kd.R_below (rr HO_4) hb); have n2_ := Aside0.mk (Kd.R_below (Kd.R_elderB (rr HO_17) gb382 (Nat.le_of_eq hg.symm)) hb); have n3_ := Aside0.mk (Kd.R_below (Kd.R_elderB (rr HO_24) gb382 (Nat.le_of_eq hg.symm)) hb); have n4_ := Aside0.mk (blk_below (g := gb380) (o := .cells #[.int .i64 ((rd_T72 t373 x19_1).f0), .int .i64 ((rd_T72 t373 x19_1).f1)] 72 (0, 0)) (bk BK380) hb); have n5_ := bsg HB GE380 hb; have n6_ := Aside0.mk (hbox); have n7_ := Aside0.mk ((by rw [hg]; exact (below_size (bg HB GE380)) : w.heap.size ≤ gb382)); have n8_ := Aside0.mk ((by rw [hg]; exact (below_size (bg HB GE380)) : w.heap.size ≤ gb382)); have n9_ := Aside0.mk ((by rw [hg]; exact Nat.ne_of_lt (blk_lt (g := gb380) (o := .cells #[.int .i64 ((rd_T72 t373 x19_1).f0), .int .i64 ((rd_T72 t373 x19_1).f1)] 72 (0, 0)) (bk BK380)) : gb380 ≠ gb382)); have n10_ := Aside0.mk ((by rw [hg]; exact Nat.ne_of_gt (blk_lt (g := gb380) (o := .cells #[.int .i64 ((rd_T72 t373 x19_1).f0), .int .i64 ((rd_T72 t373 x19_1).f1)] 72 (0, 0)) (bk BK380)) : gb382 ≠ gb380)); clear HO_3; clear HO_4; clear HO_17; clear HO_24; clear BK380; clear HB; have HO_3 := n0_; have HO_4 := n1_; have HO_17 := n2_; have HO_24 := n3_; have BK380 := n4_; have HB := n5_; have BK382 := n6_; have GW382 := n7_; have GE382 := n8_; have NB380_382 := n9_; have NB382_380 := n10_; clear n0_ n1_ n2_ n3_ n4_ n5_ n6_ n7_ n8_ n9_ n10_; clear hb hbox hg; have hnb41 := NB382_380.out; have hnc41 := NB380_382.out; have hcz42_0 := bc BK382 0; have hcz42_1 := bc BK382 1; have hfz42_0 := bf BK382 0; have hfz42_1 := bf BK382 1))
                 have n0_ : Aside0 (Kd.R k72 72 ((w40.setCell ⟨gb382, 0, none⟩ (.int .i64 ((rd_T72 t373 x26_2).f0))).setCell ⟨gb382, 1, none⟩ (.int .i64 ((rd_T72 t373 x26_2).f1))) w.heap.size (fun k_ => k_ ≠ gb380 ∧ k_ ≠ gb382) (.slice (some ad379) t373.length co7) t373) := ⟨by (with_reducible repeat (first | apply Kd.R_alloc | apply Kd.R_drewN | apply Kd.R_drew)); exact Kd.R_mono (Kd.R_far (p := ⟨gb382, 1, none⟩) (Kd.R_far (p := ⟨gb382, 0, none⟩) (Kd.R_mono HO_3.out (fun k_ hk => (⟨hk, hk.2⟩ : _ ∧ k_ ≠ gb382))) (fun _ hk => hk.2) (.int .i64 ((rd_T72 t373 x26_2).f0))) (fun _ hk => hk.2) (.int .i64 ((rd_T72 t373 x26_2).f1))) (fun _ hk => ⟨hk.1.1, hk.1.2⟩)⟩
                 have n1_ : Aside0 (Kd.R (Kd.int .i64) 3 ((w40.setCell ⟨gb382, 0, none⟩ (.int .i64 ((rd_T72 t373 x26_2).f0))).setCell ⟨gb382, 1, none⟩ (.int .i64 ((rd_T72 t373 x26_2).f1))) w.heap.size (fun _ => True) v377 x4_2) := ⟨by (with_reducible repeat (first | apply Kd.R_alloc | apply Kd.R_drewN | apply Kd.R_drew)); exact Kd.R_mono (Kd.R_far (p := ⟨gb382, 1, none⟩) (Kd.R_far (p := ⟨gb382, 0, none⟩) (Kd.R_types HO_4.out BK382.out (by decide)) (fun _ hk => hk.2) (.int .i64 ((rd_T72 t373 x26_2).f0))) (fun _ hk => hk.2) (.int .i64 ((rd_T72 t373 x26_2).f1))) (fun _ hk => trivial)⟩
                 have n2_ : Aside0 (Kd.R k72 72 ((w40.setCell ⟨gb382, 0, none⟩ (.int .i64 ((rd_T72 t373 x26_2).f0))).setCell ⟨gb382, 1, none⟩ (.int .i64 ((rd_T72 t373 x26_2).f1))) w.heap.size (fun k_ => k_ ≠ gb380 ∧ k_ ≠ gb382) (.slice (some ad379) t373.length co7) t373) := ⟨by (with_reducible repeat (first | apply Kd.R_alloc | apply Kd.R_drewN | apply Kd.R_drew)); exact Kd.R_mono (Kd.R_far (p := ⟨gb382, 1, none⟩) (Kd.R_far (p := ⟨gb382, 0, none⟩) (Kd.R_mono HO_17.out (fun k_ hk => (⟨hk, hk.2⟩ : _ ∧ k_ ≠ gb382))) (fun _ hk => hk.2) (.int .i64 ((rd_T72 t373 x26_2).f0))) (fun _ hk => hk.2) (.int .i64 ((rd_T72 t373 x26_2).f1))) (fun _ hk => ⟨hk.1.1, hk.1.2⟩)⟩
                 have n3_ : Aside0 (Kd.R k72 72 ((w40.setCell ⟨gb382, 0, none⟩ (.int .i64 ((rd_T72 t373 x26_2).f0))).setCell ⟨gb382, 1, none⟩ (.int .i64 ((rd_T72 t373 x26_2).f1))) w.heap.size (fun k_ => k_ ≠ gb380 ∧ k_ ≠ gb382) (.slice (some ad379) t373.length co7) t373) := ⟨by (with_reducible repeat (first | apply Kd.R_alloc | apply Kd.R_drewN | apply Kd.R_drew)); exact Kd.R_mono (Kd.R_far (p := ⟨gb382, 1, none⟩) (Kd.R_far (p := ⟨gb382, 0, none⟩) (Kd.R_mono HO_24.out (fun k_ hk => (⟨hk, hk.2⟩ : _ ∧ k_ ≠ gb382))) (fun _ hk => hk.2) (.int .i64 ((rd_T72 t373 x26_2).f0))) (fun _ hk => hk.2) (.int .i64 ((rd_T72 t373 x26_2).f1))) (fun _ hk => ⟨hk.1.1, hk.1.2⟩)⟩
                 have n4_ : Aside0 (((w40.setCell ⟨gb382, 0, none⟩ (.int .i64 ((rd_T72 t373 x26_2).f0))).setCell ⟨gb382, 1, none⟩ (.int .i64 ((rd_T72 t373 x26_2).f1))).heap[gb380]? = some (.cells #[.int .i64 ((rd_T72 t373 x19_1).f0), .int .i64 ((rd_T72 t373 x19_1).f1)] 72 (0, 0))) := ⟨by (with_reducible repeat (first | refine blk_drewN ?_ _ | refine blk_drew ?_ | refine blk_alloc ?_ _)); refine blk_far ?_ NB380_382.out _; (with_reducible repeat (first | refine blk_drewN ?_ _ | refine blk_drew ?_ | refine blk_alloc ?_ _)); refine blk_far ?_ NB380_382.out _; (with_reducible repeat (first | refine blk_drewN ?_ _ | refine blk_drew ?_ | refine blk_alloc ?_ _)); exact BK380.out⟩
                 have n5_ : Aside0 (((w40.setCell ⟨gb382, 0, none⟩ (.int .i64 ((rd_T72 t373 x26_2).f0))).setCell ⟨gb382, 1, none⟩ (.int .i64 ((rd_T72 t373 x26_2).f1))).heap[gb382]? = some (.cells #[.int .i64 ((rd_T72 t373 x26_2).f0), .int .i64 ((rd_T72 t373 x26_2).f1)] 72 (0, 0))) := ⟨by (with_reducible repeat (first | refine blk_drewN ?_ _ | refine blk_drew ?_ | refine blk_alloc ?_ _)); refine blk_put (cs := #[.int .i64 ((rd_T72 t373 x26_2).f0), .int .i64 0]) ?_ 1 _ rfl; (with_reducible repeat (first | refine blk_drewN ?_ _ | refine blk_drew ?_ | refine blk_alloc ?_ _)); refine blk_put (cs := #[.int .i64 0, .int .i64 0]) ?_ 0 _ rfl; (with_reducible repeat (first | refine blk_drewN ?_ _ | refine blk_drew ?_ | refine blk_alloc ?_ _)); exact BK382.out⟩
                 have n6_ : Aside0 (Below w.heap.size w ((w40.setCell ⟨gb382, 0, none⟩ (.int .i64 ((rd_T72 t373 x26_2).f0))).setCell ⟨gb382, 1, none⟩ (.int .i64 ((rd_T72 t373 x26_2).f1)))) := ⟨by repeat (first | (with_reducible first | exact HB.out | apply below_alloc | apply pw_below_drewN | apply below_drew1 | refine below_set ?_ GE380.out | refine below_set ?_ GE382.out) | exact HB.out)⟩
                 (try clear HO_3)
                 (try clear HO_4)
                 (try clear HO_17)
                 (try clear HO_24)
                 (try clear BK380)
                 (try clear BK382)
                 (try clear HB)
                 generalize ((w40.setCell ⟨gb382, 0, none⟩ (.int .i64 ((rd_T72 t373 x26_2).f0))).setCell ⟨gb382, 1, none⟩ (.int .i64 ((rd_T72 t373 x26_2).f1))) = w43 at n0_ n1_ n2_ n3_ n4_ n5_ n6_ ⊢
                 have HO_3 := n0_
                 have HO_4 := n1_
                 have HO_17 := n2_
                 have HO_24 := n3_
                 have BK380 := n4_
                 have BK382 := n5_
                 have HB := n6_
                 clear n0_ n1_ n2_ n3_ n4_ n5_ n6_
                 have n0_ := Aside0.mk (Kd.R_drew HO_3.out)
                 have n1_ := Aside0.mk (Kd.R_drew HO_4.out)
                 have n2_ := Aside0.mk (Kd.R_drew HO_17.out)
                 have n3_ := Aside0.mk (Kd.R_drew HO_24.out)
                 have n4_ := Aside0.mk (blk_drew BK380.out)
                 have n5_ := Aside0.mk (blk_drew BK382.out)
                 have n6_ := Aside0.mk (below_drew1 HB.out)
                 clear HO_3
                 clear HO_4
                 clear HO_17
                 clear HO_24
                 clear BK380
                 clear BK382
                 clear HB
                 have HO_3 := n0_
                 have HO_4 := n1_
                 have HO_17 := n2_
                 have HO_24 := n3_
                 have BK380 := n4_
                 have BK382 := n5_
                 have HB := n6_
                 clear n0_ n1_ n2_ n3_ n4_ n5_ n6_
                 have cl383 : (344 : Int) ≤ (l0.length : Int) := of_decide_eq_true (by first | (with_reducible assumption) | assumption)
                 have p383 : 0 ≤ (0 : Int) := (by omega)
                 have q383 : 0 < (l0.length : Int) := (by omega)
                 obtain ⟨ad383, e383, hx383_0⟩ := Kd.at_int HR0.out 0 p383 q383
                 have hw383_0 := hx383_0
                 (try rw [show ((0 : Int)).toNat = 0 from rfl] at hw383_0)
                 (try rw [show 0 * 1 = 0 from rfl] at hw383_0)
                 (try rw [Addr.add_zero'] at hw383_0)
                 obtain rfl : ad372 = ad383 := (by injection e383)
                 have qi383 : (0 < l0.length) = True := eq_true (by omega)
                 (try rw [show ((0 : Int)).toNat = 0 from rfl] at hx383_0)
                 (try rw [Addr.add_zero'] at hx383_0)
                 replace hx383_0 := (HB.out.cell (World.block_lt_of_cell? w _ hx383_0)).trans hx383_0
                 replace p383 := eq_true p383
                 replace q383 := eq_true q383
                 refine start_ (n := 26) (S := fun w' => w'.cell? ⟨gb380, 0, none⟩ = some (.int .i64 ((rd_T72 t373 x19_1).f0)) ∧ w'.cell? ⟨gb380, 1, none⟩ = some (.int .i64 ((rd_T72 t373 x19_1).f1)) ∧ w'.cell? ⟨gb382, 0, none⟩ = some (.int .i64 ((rd_T72 t373 x26_2).f0)) ∧ w'.cell? ⟨gb382, 1, none⟩ = some (.int .i64 ((rd_T72 t373 x26_2).f1)) ∧ w'.cell? ad372 = some (.int .i64 (rd l0 0))) (ds := []) #[false, false, false, false, false, false, false, false, false, false, false, false, false, false, false, false, false, false, false, false, false, false, false, false, false, false] (by kernel_rfl) rfl rfl ⟨(blk_cell BK380.out 0).trans rfl, (blk_cell BK380.out 1).trans rfl, (blk_cell BK382.out 0).trans rfl, (blk_cell BK382.out 1).trans rfl, ((HB.out.cell (World.block_lt_of_cell? w _ hw383_0)).trans hw383_0)⟩ (fun hHeld => ?_); refine with_tabW impl_chi_crossings.tab9 impl_chi_crossings.bits9 (fun HT_ HW_ => ?_)
                 generalize w43.drew = w44 at HO_3 HO_4 HO_17 HO_24 BK380 BK382 HB hx383_0 hHeld ⊢
                 refine pu 0 31 HT_ ?_
                 refine pu 1 32 HT_ ?_
                 refine pu 2 33 HT_ ?_
                 refine pu 4 35 HT_ ?_
                 refine pu 6 37 HT_ ?_
                 refine pu 8 39 HT_ ?_
                 refine pu 10 41 HT_ ?_
                 refine take_ (i := 3) (N := some 34) (v := ?_) (a' := ?_) #[true, true, true, true, true, false, true, false, true, false, true, false, false, false, false, false, false, false, false, false, false, false, false, false, false, false] rfl rfl (take_ofW HT_.out HW_.out (by kernel_rfl)) (fun _ _ _ h => h) (Or.inl ⟨by rfl, ?_⟩) hHeld ?_ ?_
                 rotate_left
                 ·rintro w' ⟨s0, s1, s2, s3, s4⟩
                  go_simp
                  with_reducible rfl
                 rotate_left
                 ·simp only [Act.put, List.setIfInBounds_toArray, List.set_cons_zero, List.set_cons_succ, i64_w, i32_w]
                  rfl
                 refine take_ (i := 5) (N := some 36) (v := ?_) (a' := ?_) #[true, true, true, true, true, true, true, false, true, false, true, false, false, false, false, false, false, false, false, false, false, false, false, false, false, false] rfl rfl (take_ofW HT_.out HW_.out (by kernel_rfl)) (fun _ _ _ h => h) (Or.inl ⟨by rfl, ?_⟩) hHeld ?_ ?_
                 rotate_left
                 ·rintro w' ⟨s0, s1, s2, s3, s4⟩
                  go_simp
                  with_reducible rfl
                 rotate_left
                 ·simp only [Act.put, List.setIfInBounds_toArray, List.set_cons_zero, List.set_cons_succ, i64_w, i32_w]
                  rfl
                 refine take_ (i := 7) (N := some 38) (v := ?_) (a' := ?_) #[true, true, true, true, true, true, true, true, true, false, true, false, false, false, false, false, false, false, false, false, false, false, false, false, false, false] rfl rfl (take_ofW HT_.out HW_.out (by kernel_rfl)) (fun _ _ _ h => h) (Or.inl ⟨by rfl, ?_⟩) hHeld ?_ ?_
                 rotate_left
                 ·rintro w' ⟨s0, s1, s2, s3, s4⟩
                  go_simp
                  with_reducible rfl
                 rotate_left
                 ·simp only [Act.put, List.setIfInBounds_toArray, List.set_cons_zero, List.set_cons_succ, i64_w, i32_w]
                  rfl
                 refine take_ (i := 9) (N := some 40) (v := ?_) (a' := ?_) #[true, true, true, true, true, true, true, true, true, true, true, false, false, false, false, false, false, false, false, false, false, false, false, false, false, false] rfl rfl (take_ofW HT_.out HW_.out (by kernel_rfl)) (fun _ _ _ h => h) (Or.inl ⟨by rfl, ?_⟩) hHeld ?_ ?_
                 rotate_left
                 ·rintro w' ⟨s0, s1, s2, s3, s4⟩
                  go_simp
                  with_reducible rfl
                 rotate_left
                 ·simp only [Act.put, List.setIfInBounds_toArray, List.set_cons_zero, List.set_cons_succ, i64_w, i32_w]
                  rfl
                 refine take_ (i := 11) (N := some 42) (v := ?_) (a' := ?_) #[true, true, true, true, true, true, true, true, true, true, true, true, false, false, false, false, false, false, false, false, false, false, false, false, false, false] rfl rfl (take_ofW HT_.out HW_.out (by kernel_rfl)) (fun _ _ _ h => h) (Or.inl ⟨by rfl, ?_⟩) hHeld ?_ ?_
                 rotate_left
                 ·rintro w' ⟨s0, s1, s2, s3, s4⟩
                  go_simp
                  with_reducible rfl
                 rotate_left
                 ·simp only [Act.put, List.setIfInBounds_toArray, List.set_cons_zero, List.set_cons_succ, i64_w, i32_w]
                  rfl
                 refine one_ (i := 12) (N := some 43) #[true, true, true, true, true, true, true, true, true, true, true, true, true, false, false, false, false, false, false, false, false, false, false, false, false, false] rfl rfl (one_of HT_.out (by kernel_rfl)) (by decide) (fun K hK => ?_)
                 refine Kd.R_lit_step (Kd.int .i64) _ 3 ?hg (N := 43) ?hd (xs := ([((rd_T72 t373 x19_1).f0), ((rd_T72 t373 x19_1).f1), (rd_T72 t373 x26_2).f0, (rd_T72 t373 x26_2).f1] : List Int)) (inner := [.int .i64 ((rd_T72 t373 x19_1).f0), .int .i64 ((rd_T72 t373 x19_1).f1), .int .i64 ((rd_T72 t373 x26_2).f0), .int .i64 ((rd_T72 t373 x26_2).f1)]) (ok := fun _ => True) (okp := fun _ => True) ?hr ?hp (fun _ hk => hk) trivial (Below.refl _ _) (Nat.le_refl _) (by simp) ?_; (case hd => rfl); (case hg => rfl); (case hr => first | (go_simp; done) | (go_simp; rfl)); (case hp => exact (Reps.one (show Kd.M (Kd.int .i64) _ _ _ ((rd_T72 t373 x19_1).f0) [.int .i64 ((rd_T72 t373 x19_1).f0)] from rfl) (Reps.one (show Kd.M (Kd.int .i64) _ _ _ ((rd_T72 t373 x19_1).f1) [.int .i64 ((rd_T72 t373 x19_1).f1)] from rfl) (Reps.one (show Kd.M (Kd.int .i64) _ _ _ ((rd_T72 t373 x26_2).f0) [.int .i64 ((rd_T72 t373 x26_2).f0)] from rfl) (Reps.one (show Kd.M (Kd.int .i64) _ _ _ ((rd_T72 t373 x26_2).f1) [.int .i64 ((rd_T72 t373 x26_2).f1)] from rfl) (Reps.none _ _))))))
                 intro v385 w45 ho46 hb hg_ hnew_
                 clear hg_ hnew_
                 (first | rw [← Ny384.out] at ho46 | (simp only [Int.reduceToNat] at ho46; rw [← Ny384.out] at ho46))
                 have n0_ := Aside0.mk (Kd.R_below (rr HO_3) hb)
                 have n1_ := Aside0.mk (Kd.R_elder' (rr HO_4) (Kd.R_base ho46) hb)
                 have n2_ := Aside0.mk (Kd.R_below (rr HO_17) hb)
                 have n3_ := Aside0.mk (Kd.R_below (rr HO_24) hb)
                 have n4_ := Aside0.mk (Kd.R_lower (Kd.R_new' ho46 (Kd.R_lt (rr HO_4))) (below_size (by repeat (first | (with_reducible first | exact HB.out | apply below_alloc | apply pw_below_drewN | apply below_drew1 | refine below_set ?_ GE380.out | refine below_set ?_ GE382.out) | exact HB.out))))
                 have n5_ := Aside0.mk (blk_below (g := gb380) (o := .cells #[.int .i64 ((rd_T72 t373 x19_1).f0), .int .i64 ((rd_T72 t373 x19_1).f1)] 72 (0, 0)) (bk BK380) hb)
                 have n6_ := Aside0.mk (blk_below (g := gb382) (o := .cells #[.int .i64 ((rd_T72 t373 x26_2).f0), .int .i64 ((rd_T72 t373 x26_2).f1)] 72 (0, 0)) (bk BK382) hb)
                 have n7_ := Aside0.mk (below_step (by repeat (first | (with_reducible first | exact HB.out | apply below_alloc | apply pw_below_drewN | apply below_drew1 | refine below_set ?_ GE380.out | refine below_set ?_ GE382.out) | exact HB.out)) hb)
                 clear HO_3
                 clear HO_4
                 clear HO_17
                 clear HO_24
                 clear BK380
                 clear BK382
                 clear HB
                 have HO_3 := n0_
                 have HO_4 := n1_
                 have HO_17 := n2_
                 have HO_24 := n3_
                 have HO386 := n4_
                 have BK380 := n5_
                 have BK382 := n6_
                 have HB := n7_
                 clear n0_ n1_ n2_ n3_ n4_ n5_ n6_ n7_
                 clear hb ho46
                 obtain ⟨Ao47, co47, eo47⟩ := Kd.R_slice HO386.out
                 (first | subst eo47 | (injection eo47 with f1_ f2_ f3_; have f4_ := f1_.symm; have f5_ := f3_.symm; clear f1_ f2_ f3_; subst f4_; subst f5_))
                 refine hK.out _ _ ⟨(blk_cell BK380.out 0).trans rfl, (blk_cell BK380.out 1).trans rfl, (blk_cell BK382.out 0).trans rfl, (blk_cell BK382.out 1).trans rfl, ((HB.out.cell (World.block_lt_of_cell? w _ hw383_0)).trans hw383_0)⟩ (fun hHeld => ?_)
                 clear hK K
                 refine norm_ (a' := ?_) ?_ ?_
                 rotate_left
                 ·show Act.put _ (some 43) _ = _
                  simp only [Act.put, List.setIfInBounds_toArray, List.set_cons_zero, List.set_cons_succ, i64_w, i32_w]
                  rfl
                 refine one_ (i := 13) (N := some 44) #[true, true, true, true, true, true, true, true, true, true, true, true, true, true, false, false, false, false, false, false, false, false, false, false, false, false] rfl rfl (one_of HT_.out (by kernel_rfl)) (by decide) (fun K hK => ?_)
                 refine goes_ Try.func116 (by kernel_rfl) rfl #[.int .i64 (rd l0 0), .slice Ao47 y384.length co47] (by rfl) rfl rfl (by (try simp only [List.map_toArray, List.map_cons, List.map_nil]); first | done | rfl | (simp only [List.length_drop, List.length_take]; rfl)) ?_
                 with_reducible refine (impl_areDifferent.calls k2 (rd l0 0) _ _ y384 true _ ?side1 ?side2 A19.out).mono ?_
                 (case side1 => repeat (first | exact (Kd.R_reads' HO386.out).2.2 | (with_reducible refine Kd.C_alloc ?_ _) | (with_reducible refine Kd.C_drewN ?_ _) | (with_reducible refine Kd.C_drew ?_)))
                 (case side2 => exact (Kd.R_reads' HO386.out).2.1)
                 rintro e w' ⟨rfl, ⟨nd, rfl⟩⟩
                 refine ⟨_, rfl, ?_⟩
                 refine hK.out _ _ ⟨(blk_cell BK380.out 0).trans rfl, (blk_cell BK380.out 1).trans rfl, (blk_cell BK382.out 0).trans rfl, (blk_cell BK382.out 1).trans rfl, ((HB.out.cell (World.block_lt_of_cell? w _ hw383_0)).trans hw383_0)⟩ (fun hHeld => ?_)
                 clear hK K
                 refine norm_ (a' := ?_) ?_ ?_
                 rotate_left
                 ·show Act.put _ (some 44) _ = _
                  simp only [Act.put, List.setIfInBounds_toArray, List.set_cons_zero, List.set_cons_succ, i64_w, i32_w]
                  rfl
                 refine pu 14 45 HT_ ?_
                 refine pu 15 46 HT_ ?_
                 refine pu 16 47 HT_ ?_
                 refine pu 18 49 HT_ ?_
                 refine pu 20 51 HT_ ?_
                 refine pu 22 53 HT_ ?_
                 refine take_ (i := 17) (N := some 48) (v := ?_) (a' := ?_) #[true, true, true, true, true, true, true, true, true, true, true, true, true, true, true, true, true, true, true, false, true, false, true, false, false, false] rfl rfl (take_ofW HT_.out HW_.out (by kernel_rfl)) (fun _ _ _ h => h) (Or.inl ⟨by rfl, ?_⟩) hHeld ?_ ?_
                 rotate_left
                 ·rintro w' ⟨s0, s1, s2, s3, s4⟩
                  go_simp
                  with_reducible rfl
                 rotate_left
                 ·simp only [Act.put, List.setIfInBounds_toArray, List.set_cons_zero, List.set_cons_succ, i64_w, i32_w]
                  rfl
                 refine take_ (i := 19) (N := some 50) (v := ?_) (a' := ?_) #[true, true, true, true, true, true, true, true, true, true, true, true, true, true, true, true, true, true, true, true, true, false, true, false, false, false] rfl rfl (take_ofW HT_.out HW_.out (by kernel_rfl)) (fun _ _ _ h => h) (Or.inl ⟨by rfl, ?_⟩) hHeld ?_ ?_
                 rotate_left
                 ·rintro w' ⟨s0, s1, s2, s3, s4⟩
                  go_simp
                  with_reducible rfl
                 rotate_left
                 ·simp only [Act.put, List.setIfInBounds_toArray, List.set_cons_zero, List.set_cons_succ, i64_w, i32_w]
                  rfl
                 refine take_ (i := 21) (N := some 52) (v := ?_) (a' := ?_) #[true, true, true, true, true, true, true, true, true, true, true, true, true, true, true, true, true, true, true, true, true, true, true, false, false, false] rfl rfl (take_ofW HT_.out HW_.out (by kernel_rfl)) (fun _ _ _ h => h) (Or.inl ⟨by rfl, ?_⟩) hHeld ?_ ?_
                 rotate_left
                 ·rintro w' ⟨s0, s1, s2, s3, s4⟩
                  go_simp
                  with_reducible rfl
                 rotate_left
                 ·simp only [Act.put, List.setIfInBounds_toArray, List.set_cons_zero, List.set_cons_succ, i64_w, i32_w]
                  rfl
                 refine take_ (i := 23) (N := some 54) (v := ?_) (a' := ?_) #[true, true, true, true, true, true, true, true, true, true, true, true, true, true, true, true, true, true, true, true, true, true, true, true, false, false] rfl rfl (take_ofW HT_.out HW_.out (by kernel_rfl)) (fun _ _ _ h => h) (Or.inl ⟨by rfl, ?_⟩) hHeld ?_ ?_
                 rotate_left
                 ·rintro w' ⟨s0, s1, s2, s3, s4⟩
                  go_simp
                  with_reducible rfl
                 rotate_left
                 ·simp only [Act.put, List.setIfInBounds_toArray, List.set_cons_zero, List.set_cons_succ, i64_w, i32_w]
                  rfl
                 refine one_ (i := 24) (N := some 55) #[true, true, true, true, true, true, true, true, true, true, true, true, true, true, true, true, true, true, true, true, true, true, true, true, true, false] rfl rfl (one_of HT_.out (by kernel_rfl)) (by decide) (fun K hK => ?_)
                 refine goes_ Try.func117 (by kernel_rfl) rfl #[.pointer (some ad372), .int .i64 ((rd_T72 t373 x19_1).f0), .int .i64 ((rd_T72 t373 x19_1).f1), .int .i64 ((rd_T72 t373 x26_2).f0), .int .i64 ((rd_T72 t373 x26_2).f1)] (by rfl) rfl rfl (by (try simp only [List.map_toArray, List.map_cons, List.map_nil]); first | done | rfl | (simp only [List.length_drop, List.length_take]; rfl)) ?_
                 with_reducible refine (impl_chi_cross.calls k2 _ c0 l0 ((rd_T72 t373 x19_1).f0) ((rd_T72 t373 x19_1).f1) ((rd_T72 t373 x26_2).f0) ((rd_T72 t373 x26_2).f1) false _ ?side1 ?side2 A21.out).mono ?_
                 (case side1 => repeat (first | exact (Kd.C_below HR0.out (by repeat (first | (with_reducible first | exact HB.out | apply below_alloc | apply pw_below_drewN | apply below_drew1 | refine below_set ?_ GE380.out | refine below_set ?_ GE382.out) | exact HB.out))) | (with_reducible refine Kd.C_alloc ?_ _) | (with_reducible refine Kd.C_drewN ?_ _) | (with_reducible refine Kd.C_drew ?_)))
                 (case side2 => exact HC0.out)
                 rintro e w48 ⟨rfl, hb⟩
                 refine ⟨_, rfl, ?_⟩
                 have n0_ := Aside0.mk (Kd.R_below (rr HO_3) hb)
                 have n1_ := Aside0.mk (Kd.R_below (rr HO_4) hb)
                 have n2_ := Aside0.mk (Kd.R_below (rr HO_17) hb)
                 have n3_ := Aside0.mk (Kd.R_below (rr HO_24) hb)
                 have n4_ := Aside0.mk (Kd.R_below (rr HO386) hb)
                 have n5_ := Aside0.mk (blk_below (g := gb380) (o := .cells #[.int .i64 ((rd_T72 t373 x19_1).f0), .int .i64 ((rd_T72 t373 x19_1).f1)] 72 (0, 0)) (bk BK380) hb)
                 have n6_ := Aside0.mk (blk_below (g := gb382) (o := .cells #[.int .i64 ((rd_T72 t373 x26_2).f0), .int .i64 ((rd_T72 t373 x26_2).f1)] 72 (0, 0)) (bk BK382) hb)
                 have n7_ := Aside0.mk (below_step (by repeat (first | (with_reducible first | exact HB.out | apply below_alloc | apply pw_below_drewN | apply below_drew1 | refine below_set ?_ GE380.out | refine below_set ?_ GE382.out) | exact HB.out)) hb)
                 clear HO_3
                 clear HO_4
                 clear HO_17
                 clear HO_24
                 clear HO386
                 clear BK380
                 clear BK382
                 clear HB
                 have HO_3 := n0_
                 have HO_4 := n1_
                 have HO_17 := n2_
                 have HO_24 := n3_
                 have HO386 := n4_
                 have BK380 := n5_
                 have BK382 := n6_
                 have HB := n7_
                 clear n0_ n1_ n2_ n3_ n4_ n5_ n6_ n7_
                 (try clear hb)
                 (try clear hb2)
                 (try clear hk)
                 (try clear hi)
                 refine hK.out _ _ ⟨(blk_cell BK380.out 0).trans rfl, (blk_cell BK380.out 1).trans rfl, (blk_cell BK382.out 0).trans rfl, (blk_cell BK382.out 1).trans rfl, ((HB.out.cell (World.block_lt_of_cell? w _ hw383_0)).trans hw383_0)⟩ (fun hHeld => ?_)
                 clear hK K
                 refine norm_ (a' := ?_) ?_ ?_
                 rotate_left
                 ·show Act.put _ (some 55) _ = _
                  simp only [Act.put, List.setIfInBounds_toArray, List.set_cons_zero, List.set_cons_succ, i64_w, i32_w]
                  rfl
                 refine pu 25 56 HT_ ?_
                 refine done_ (done_of HT_.out (by kernel_rfl)) ?_
                 try go_wp2
                 go_roundg k2
                 case measure => have := HK1.out; have := HK2.out; omega
                 case rel => exact ⟨(x4_2), (wrap64 (x26_2 + 1)), (by first | rfl | (simp; done) | (simp [*]; done)), H', ⟨by have := HK1.out; have := HK2.out; omega⟩, ⟨by (with_reducible repeat (first | apply Kd.R_alloc | apply Kd.R_drewN | apply Kd.R_drew)); exact Kd.R_mono HO_3.out (fun _ hk => hk.1)⟩, ⟨by (with_reducible repeat (first | apply Kd.R_alloc | apply Kd.R_drewN | apply Kd.R_drew)); exact Kd.R_mono HO_4.out (fun _ hk => trivial)⟩, ⟨by (with_reducible repeat (first | apply Kd.R_alloc | apply Kd.R_drewN | apply Kd.R_drew)); exact Kd.R_mono HO_17.out (fun _ hk => hk.1)⟩, ⟨by (with_reducible repeat (first | apply Kd.R_alloc | apply Kd.R_drewN | apply Kd.R_drew)); exact Kd.R_mono HO_24.out (fun _ hk => hk.1)⟩, ⟨by (with_reducible repeat (first | refine blk_drewN ?_ _ | refine blk_drew ?_ | refine blk_alloc ?_ _)); exact BK380.out⟩, ⟨by repeat (first | (with_reducible first | exact HB.out | apply below_alloc | apply pw_below_drewN | apply below_drew1 | refine below_set ?_ GE380.out | refine below_set ?_ GE382.out) | exact HB.out)⟩⟩
               ·replace c20 := Bool.eq_false_iff.mpr c20
                subst c20
                have H1 : (impl_chi_crossings.l1 k2 l0 t373 x4_2 x19_1 t373 (t373.length : Int) x19_1 t373 (t373.length : Int) (wrap64 (x26_2 + 1)) ((rd_T72 t373 x19_1).f0) ((rd_T72 t373 x19_1).f1)) = some r := by rw [if_neg (show ¬ (false = true) by decide)] at H; exact H
                clear H
                have H := H1
                clear H1
                have H' := Aside0.mk H
                clear H
                have p381 : 0 ≤ (x26_2 : Int) := of_decide_eq_true (by first | (with_reducible assumption) | assumption)
                have q381 : x26_2 < (t373.length : Int) := of_decide_eq_true (by first | (with_reducible assumption) | assumption)
                obtain ⟨ad381, e381, hx381_0, hx381_1⟩ := at_T72 (Kd.R_reads' HO_24.out).2.2 x26_2 p381 q381
                obtain rfl : ad379 = ad381 := (by injection e381)
                replace p381 := eq_true p381
                replace q381 := eq_true q381
                try go_wp2_with (first | ((with_reducible refine gate_dst (N := 8) rfl ?_); refine bx 8 #[.int .i64 0, .int .i64 0] 72 ?_; intro gb382 hg w49 hbox hb; have n0_ := Aside0.mk (Kd.R_below (Kd.R_elderB (rr HO_3) gb382 (Nat.le_of_eq hg.symm)) hb); have n1_ := Aside0.mk (Kd.R_below (rr HO_4) hb); have n2_ := Aside0.mk (Kd.R_below (Kd.R_elderB (rr HO_17) gb382 (Nat.le_of_eq hg.symm)) hb); have n3_ := Aside0.mk (Kd.R_below (Kd.R_elderB (rr HO_24) gb382 (Nat.le_of_eq hg.symm)) hb); have n4_ := Aside0.mk (blk_below (g := gb380) (o := .cells #[.int .i64 ((rd_T72 t373 x19_1).f0), .int .i64 ((rd_T72 t373 x19_1).f1)] 72 (0, 0)) (bk BK380) hb); have n5_ := bsg HB GE380 hb; have n6_ := Aside0.mk (hbox); have n7_ := Aside0.mk ((by rw [hg]; exact (below_size (bg HB GE380)) : w.heap.size ≤ gb382)); have n8_ := Aside0.mk ((by rw [hg]; exact (below_size (bg HB GE380)) : w.heap.size ≤ gb382)); have n9_ := Aside0.mk ((by rw [hg]; exact Nat.ne_of_lt (blk_lt (g := gb380) (o := .cells #[.int .i64 ((rd_T72 t373 x19_1).f0), .int .i64 ((rd_T72 t373 x19_1).f1)] 72 (0, 0)) (bk BK380)) : gb380 ≠ gb382)); have n10_ := Aside0.mk ((by rw [hg]; exact Nat.ne_of_gt (blk_lt (g := gb380) (o := .cells #[.int .i64 ((rd_T72 t373 x19_1).f0), .int .i64 ((rd_T72 t373 x19_1).f1)] 72 (0, 0)) (bk BK380)) : gb382 ≠ gb380)); clear HO_3; clear HO_4; clear HO_17; clear HO_24; clear BK380; clear HB; have HO_3 := n0_; have HO_4 := n1_; have HO_17 := n2_; have HO_24 := n3_; have BK380 := n4_; have HB := n5_; have BK382 := n6_; have GW382 := n7_; have GE382 := n8_; have NB380_382 := n9_; have NB382_380 := n10_; clear n0_ n1_ n2_ n3_ n4_ n5_ n6_ n7_ n8_ n9_ n10_; clear hb hbox hg; have hnb50 := NB382_380.out; have hnc50 := NB380_382.out; have hcz51_0 := bc BK382 0; have hcz51_1 := bc BK382 1; have hfz51_0 := bf BK382 0; have hfz51_1 := bf BK382 1))
                have n0_ : Aside0 (Kd.R k72 72 ((w49.setCell ⟨gb382, 0, none⟩ (.int .i64 ((rd_T72 t373 x26_2).f0))).setCell ⟨gb382, 1, none⟩ (.int .i64 ((rd_T72 t373 x26_2).f1))) w.heap.size (fun k_ => k_ ≠ gb380 ∧ k_ ≠ gb382) (.slice (some ad379) t373.length co7) t373) := ⟨by (with_reducible repeat (first | apply Kd.R_alloc | apply Kd.R_drewN | apply Kd.R_drew)); exact Kd.R_mono (Kd.R_far (p := ⟨gb382, 1, none⟩) (Kd.R_far (p := ⟨gb382, 0, none⟩) (Kd.R_mono HO_3.out (fun k_ hk => (⟨hk, hk.2⟩ : _ ∧ k_ ≠ gb382))) (fun _ hk => hk.2) (.int .i64 ((rd_T72 t373 x26_2).f0))) (fun _ hk => hk.2) (.int .i64 ((rd_T72 t373 x26_2).f1))) (fun _ hk => ⟨hk.1.1, hk.1.2⟩)⟩
                have n1_ : Aside0 (Kd.R (Kd.int .i64) 3 ((w49.setCell ⟨gb382, 0, none⟩ (.int .i64 ((rd_T72 t373 x26_2).f0))).setCell ⟨gb382, 1, none⟩ (.int .i64 ((rd_T72 t373 x26_2).f1))) w.heap.size (fun _ => True) v377 x4_2) := ⟨by (with_reducible repeat (first | apply Kd.R_alloc | apply Kd.R_drewN | apply Kd.R_drew)); exact Kd.R_mono (Kd.R_far (p := ⟨gb382, 1, none⟩) (Kd.R_far (p := ⟨gb382, 0, none⟩) (Kd.R_types HO_4.out BK382.out (by decide)) (fun _ hk => hk.2) (.int .i64 ((rd_T72 t373 x26_2).f0))) (fun _ hk => hk.2) (.int .i64 ((rd_T72 t373 x26_2).f1))) (fun _ hk => trivial)⟩
                have n2_ : Aside0 (Kd.R k72 72 ((w49.setCell ⟨gb382, 0, none⟩ (.int .i64 ((rd_T72 t373 x26_2).f0))).setCell ⟨gb382, 1, none⟩ (.int .i64 ((rd_T72 t373 x26_2).f1))) w.heap.size (fun k_ => k_ ≠ gb380 ∧ k_ ≠ gb382) (.slice (some ad379) t373.length co7) t373) := ⟨by (with_reducible repeat (first | apply Kd.R_alloc | apply Kd.R_drewN | apply Kd.R_drew)); exact Kd.R_mono (Kd.R_far (p := ⟨gb382, 1, none⟩) (Kd.R_far (p := ⟨gb382, 0, none⟩) (Kd.R_mono HO_17.out (fun k_ hk => (⟨hk, hk.2⟩ : _ ∧ k_ ≠ gb382))) (fun _ hk => hk.2) (.int .i64 ((rd_T72 t373 x26_2).f0))) (fun _ hk => hk.2) (.int .i64 ((rd_T72 t373 x26_2).f1))) (fun _ hk => ⟨hk.1.1, hk.1.2⟩)⟩
                have n3_ : Aside0 (Kd.R k72 72 ((w49.setCell ⟨gb382, 0, none⟩ (.int .i64 ((rd_T72 t373 x26_2).f0))).setCell ⟨gb382, 1, none⟩ (.int .i64 ((rd_T72 t373 x26_2).f1))) w.heap.size (fun k_ => k_ ≠ gb380 ∧ k_ ≠ gb382) (.slice (some ad379) t373.length co7) t373) := ⟨by (with_reducible repeat (first | apply Kd.R_alloc | apply Kd.R_drewN | apply Kd.R_drew)); exact Kd.R_mono (Kd.R_far (p := ⟨gb382, 1, none⟩) (Kd.R_far (p := ⟨gb382, 0, none⟩) (Kd.R_mono HO_24.out (fun k_ hk => (⟨hk, hk.2⟩ : _ ∧ k_ ≠ gb382))) (fun _ hk => hk.2) (.int .i64 ((rd_T72 t373 x26_2).f0))) (fun _ hk => hk.2) (.int .i64 ((rd_T72 t373 x26_2).f1))) (fun _ hk => ⟨hk.1.1, hk.1.2⟩)⟩
                have n4_ : Aside0 (((w49.setCell ⟨gb382, 0, none⟩ (.int .i64 ((rd_T72 t373 x26_2).f0))).setCell ⟨gb382, 1, none⟩ (.int .i64 ((rd_T72 t373 x26_2).f1))).heap[gb380]? = some (.cells #[.int .i64 ((rd_T72 t373 x19_1).f0), .int .i64 ((rd_T72 t373 x19_1).f1)] 72 (0, 0))) := ⟨by (with_reducible repeat (first | refine blk_drewN ?_ _ | refine blk_drew ?_ | refine blk_alloc ?_ _)); refine blk_far ?_ NB380_382.out _; (with_reducible repeat (first | refine blk_drewN ?_ _ | refine blk_drew ?_ | refine blk_alloc ?_ _)); refine blk_far ?_ NB380_382.out _; (with_reducible repeat (first | refine blk_drewN ?_ _ | refine blk_drew ?_ | refine blk_alloc ?_ _)); exact BK380.out⟩
                have n5_ : Aside0 (((w49.setCell ⟨gb382, 0, none⟩ (.int .i64 ((rd_T72 t373 x26_2).f0))).setCell ⟨gb382, 1, none⟩ (.int .i64 ((rd_T72 t373 x26_2).f1))).heap[gb382]? = some (.cells #[.int .i64 ((rd_T72 t373 x26_2).f0), .int .i64 ((rd_T72 t373 x26_2).f1)] 72 (0, 0))) := ⟨by (with_reducible repeat (first | refine blk_drewN ?_ _ | refine blk_drew ?_ | refine blk_alloc ?_ _)); refine blk_put (cs := #[.int .i64 ((rd_T72 t373 x26_2).f0), .int .i64 0]) ?_ 1 _ rfl; (with_reducible repeat (first | refine blk_drewN ?_ _ | refine blk_drew ?_ | refine blk_alloc ?_ _)); refine blk_put (cs := #[.int .i64 0, .int .i64 0]) ?_ 0 _ rfl; (with_reducible repeat (first | refine blk_drewN ?_ _ | refine blk_drew ?_ | refine blk_alloc ?_ _)); exact BK382.out⟩
                have n6_ : Aside0 (Below w.heap.size w ((w49.setCell ⟨gb382, 0, none⟩ (.int .i64 ((rd_T72 t373 x26_2).f0))).setCell ⟨gb382, 1, none⟩ (.int .i64 ((rd_T72 t373 x26_2).f1)))) := ⟨by repeat (first | (with_reducible first | exact HB.out | apply below_alloc | apply pw_below_drewN | apply below_drew1 | refine below_set ?_ GE380.out | refine below_set ?_ GE382.out) | exact HB.out)⟩
                (try clear HO_3)
                (try clear HO_4)
                (try clear HO_17)
                (try clear HO_24)
                (try clear BK380)
                (try clear BK382)
                (try clear HB)
                generalize ((w49.setCell ⟨gb382, 0, none⟩ (.int .i64 ((rd_T72 t373 x26_2).f0))).setCell ⟨gb382, 1, none⟩ (.int .i64 ((rd_T72 t373 x26_2).f1))) = w52 at n0_ n1_ n2_ n3_ n4_ n5_ n6_ ⊢
                have HO_3 := n0_
                have HO_4 := n1_
                have HO_17 := n2_
                have HO_24 := n3_
                have BK380 := n4_
                have BK382 := n5_
                have HB := n6_
                clear n0_ n1_ n2_ n3_ n4_ n5_ n6_
                have n0_ := Aside0.mk (Kd.R_drew HO_3.out)
                have n1_ := Aside0.mk (Kd.R_drew HO_4.out)
                have n2_ := Aside0.mk (Kd.R_drew HO_17.out)
                have n3_ := Aside0.mk (Kd.R_drew HO_24.out)
                have n4_ := Aside0.mk (blk_drew BK380.out)
                have n5_ := Aside0.mk (blk_drew BK382.out)
                have n6_ := Aside0.mk (below_drew1 HB.out)
                clear HO_3
                clear HO_4
                clear HO_17
                clear HO_24
                clear BK380
                clear BK382
                clear HB
                have HO_3 := n0_
                have HO_4 := n1_
                have HO_17 := n2_
                have HO_24 := n3_
                have BK380 := n4_
                have BK382 := n5_
                have HB := n6_
                clear n0_ n1_ n2_ n3_ n4_ n5_ n6_
                have cl383 : (344 : Int) ≤ (l0.length : Int) := of_decide_eq_true (by first | (with_reducible assumption) | assumption)
                have p383 : 0 ≤ (0 : Int) := (by omega)
                have q383 : 0 < (l0.length : Int) := (by omega)
                obtain ⟨ad383, e383, hx383_0⟩ := Kd.at_int HR0.out 0 p383 q383
                have hw383_0 := hx383_0
                (try rw [show ((0 : Int)).toNat = 0 from rfl] at hw383_0)
                (try rw [show 0 * 1 = 0 from rfl] at hw383_0)
                (try rw [Addr.add_zero'] at hw383_0)
                obtain rfl : ad372 = ad383 := (by injection e383)
                have qi383 : (0 < l0.length) = True := eq_true (by omega)
                (try rw [show ((0 : Int)).toNat = 0 from rfl] at hx383_0)
                (try rw [Addr.add_zero'] at hx383_0)
                replace hx383_0 := (HB.out.cell (World.block_lt_of_cell? w _ hx383_0)).trans hx383_0
                replace p383 := eq_true p383
                replace q383 := eq_true q383
                refine start_ (n := 26) (S := fun w' => w'.cell? ⟨gb380, 0, none⟩ = some (.int .i64 ((rd_T72 t373 x19_1).f0)) ∧ w'.cell? ⟨gb380, 1, none⟩ = some (.int .i64 ((rd_T72 t373 x19_1).f1)) ∧ w'.cell? ⟨gb382, 0, none⟩ = some (.int .i64 ((rd_T72 t373 x26_2).f0)) ∧ w'.cell? ⟨gb382, 1, none⟩ = some (.int .i64 ((rd_T72 t373 x26_2).f1)) ∧ w'.cell? ad372 = some (.int .i64 (rd l0 0))) (ds := []) #[false, false, false, false, false, false, false, false, false, false, false, false, false, false, false, false, false, false, false, false, false, false, false, false, false, false] (by kernel_rfl) rfl rfl ⟨(blk_cell BK380.out 0).trans rfl, (blk_cell BK380.out 1).trans rfl, (blk_cell BK382.out 0).trans rfl, (blk_cell BK382.out 1).trans rfl, ((HB.out.cell (World.block_lt_of_cell? w _ hw383_0)).trans hw383_0)⟩ (fun hHeld => ?_); refine with_tabW impl_chi_crossings.tab9 impl_chi_crossings.bits9 (fun HT_ HW_ => ?_)
                generalize w52.drew = w53 at HO_3 HO_4 HO_17 HO_24 BK380 BK382 HB hx383_0 hHeld ⊢
                refine pu 0 31 HT_ ?_
                refine pu 1 32 HT_ ?_
                refine pu 2 33 HT_ ?_
                refine pu 4 35 HT_ ?_
                refine pu 6 37 HT_ ?_
                refine pu 8 39 HT_ ?_
                refine pu 10 41 HT_ ?_
                refine take_ (i := 3) (N := some 34) (v := ?_) (a' := ?_) #[true, true, true, true, true, false, true, false, true, false, true, false, false, false, false, false, false, false, false, false, false, false, false, false, false, false] rfl rfl (take_ofW HT_.out HW_.out (by kernel_rfl)) (fun _ _ _ h => h) (Or.inl ⟨by rfl, ?_⟩) hHeld ?_ ?_
                rotate_left
                ·rintro w' ⟨s0, s1, s2, s3, s4⟩
                 go_simp
                 with_reducible rfl
                rotate_left
                ·simp only [Act.put, List.setIfInBounds_toArray, List.set_cons_zero, List.set_cons_succ, i64_w, i32_w]
                 rfl
                refine take_ (i := 5) (N := some 36) (v := ?_) (a' := ?_) #[true, true, true, true, true, true, true, false, true, false, true, false, false, false, false, false, false, false, false, false, false, false, false, false, false, false] rfl rfl (take_ofW HT_.out HW_.out (by kernel_rfl)) (fun _ _ _ h => h) (Or.inl ⟨by rfl, ?_⟩) hHeld ?_ ?_
                rotate_left
                ·rintro w' ⟨s0, s1, s2, s3, s4⟩
                 go_simp
                 with_reducible rfl
                rotate_left
                ·simp only [Act.put, List.setIfInBounds_toArray, List.set_cons_zero, List.set_cons_succ, i64_w, i32_w]
                 rfl
                refine take_ (i := 7) (N := some 38) (v := ?_) (a' := ?_) #[true, true, true, true, true, true, true, true, true, false, true, false, false, false, false, false, false, false, false, false, false, false, false, false, false, false] rfl rfl (take_ofW HT_.out HW_.out (by kernel_rfl)) (fun _ _ _ h => h) (Or.inl ⟨by rfl, ?_⟩) hHeld ?_ ?_
                rotate_left
                ·rintro w' ⟨s0, s1, s2, s3, s4⟩
                 go_simp
                 with_reducible rfl
                rotate_left
                ·simp only [Act.put, List.setIfInBounds_toArray, List.set_cons_zero, List.set_cons_succ, i64_w, i32_w]
                 rfl
                refine take_ (i := 9) (N := some 40) (v := ?_) (a' := ?_) #[true, true, true, true, true, true, true, true, true, true, true, false, false, false, false, false, false, false, false, false, false, false, false, false, false, false] rfl rfl (take_ofW HT_.out HW_.out (by kernel_rfl)) (fun _ _ _ h => h) (Or.inl ⟨by rfl, ?_⟩) hHeld ?_ ?_
                rotate_left
                ·rintro w' ⟨s0, s1, s2, s3, s4⟩
                 go_simp
                 with_reducible rfl
                rotate_left
                ·simp only [Act.put, List.setIfInBounds_toArray, List.set_cons_zero, List.set_cons_succ, i64_w, i32_w]
                 rfl
                refine take_ (i := 11) (N := some 42) (v := ?_) (a' := ?_) #[true, true, true, true, true, true, true, true, true, true, true, true, false, false, false, false, false, false, false, false, false, false, false, false, false, false] rfl rfl (take_ofW HT_.out HW_.out (by kernel_rfl)) (fun _ _ _ h => h) (Or.inl ⟨by rfl, ?_⟩) hHeld ?_ ?_
                rotate_left
                ·rintro w' ⟨s0, s1, s2, s3, s4⟩
                 go_simp
                 with_reducible rfl
                rotate_left
                ·simp only [Act.put, List.setIfInBounds_toArray, List.set_cons_zero, List.set_cons_succ, i64_w, i32_w]
                 rfl
                refine one_ (i := 12) (N := some 43) #[true, true, true, true, true, true, true, true, true, true, true, true, true, false, false, false, false, false, false, false, false, false, false, false, false, false] rfl rfl (one_of HT_.out (by kernel_rfl)) (by decide) (fun K hK => ?_)
                refine Kd.R_lit_step (Kd.int .i64) _ 3 ?hg (N := 43) ?hd (xs := ([((rd_T72 t373 x19_1).f0), ((rd_T72 t373 x19_1).f1), (rd_T72 t373 x26_2).f0, (rd_T72 t373 x26_2).f1] : List Int)) (inner := [.int .i64 ((rd_T72 t373 x19_1).f0), .int .i64 ((rd_T72 t373 x19_1).f1), .int .i64 ((rd_T72 t373 x26_2).f0), .int .i64 ((rd_T72 t373 x26_2).f1)]) (ok := fun _ => True) (okp := fun _ => True) ?hr ?hp (fun _ hk => hk) trivial (Below.refl _ _) (Nat.le_refl _) (by simp) ?_; (case hd => rfl); (case hg => rfl); (case hr => first | (go_simp; done) | (go_simp; rfl)); (case hp => exact (Reps.one (show Kd.M (Kd.int .i64) _ _ _ ((rd_T72 t373 x19_1).f0) [.int .i64 ((rd_T72 t373 x19_1).f0)] from rfl) (Reps.one (show Kd.M (Kd.int .i64) _ _ _ ((rd_T72 t373 x19_1).f1) [.int .i64 ((rd_T72 t373 x19_1).f1)] from rfl) (Reps.one (show Kd.M (Kd.int .i64) _ _ _ ((rd_T72 t373 x26_2).f0) [.int .i64 ((rd_T72 t373 x26_2).f0)] from rfl) (Reps.one (show Kd.M (Kd.int .i64) _ _ _ ((rd_T72 t373 x26_2).f1) [.int .i64 ((rd_T72 t373 x26_2).f1)] from rfl) (Reps.none _ _))))))
                intro v385 w54 ho55 hb hg_ hnew_
                clear hg_ hnew_
                (first | rw [← Ny384.out] at ho55 | (simp only [Int.reduceToNat] at ho55; rw [← Ny384.out] at ho55))
                have n0_ := Aside0.mk (Kd.R_below (rr HO_3) hb)
                have n1_ := Aside0.mk (Kd.R_elder' (rr HO_4) (Kd.R_base ho55) hb)
                have n2_ := Aside0.mk (Kd.R_below (rr HO_17) hb)
                have n3_ := Aside0.mk (Kd.R_below (rr HO_24) hb)
                have n4_ := Aside0.mk (Kd.R_lower (Kd.R_new' ho55 (Kd.R_lt (rr HO_4))) (below_size (by repeat (first | (with_reducible first | exact HB.out | apply below_alloc | apply pw_below_drewN | apply below_drew1 | refine below_set ?_ GE380.out | refine below_set ?_ GE382.out) | exact HB.out))))
                have n5_ := Aside0.mk (blk_below (g := gb380) (o := .cells #[.int .i64 ((rd_T72 t373 x19_1).f0), .int .i64 ((rd_T72 t373 x19_1).f1)] 72 (0, 0)) (bk BK380) hb)
                have n6_ := Aside0.mk (blk_below (g := gb382) (o := .cells #[.int .i64 ((rd_T72 t373 x26_2).f0), .int .i64 ((rd_T72 t373 x26_2).f1)] 72 (0, 0)) (bk BK382) hb)
                have n7_ := Aside0.mk (below_step (by repeat (first | (with_reducible first | exact HB.out | apply below_alloc | apply pw_below_drewN | apply below_drew1 | refine below_set ?_ GE380.out | refine below_set ?_ GE382.out) | exact HB.out)) hb)
                clear HO_3
                clear HO_4
                clear HO_17
                clear HO_24
                clear BK380
                clear BK382
                clear HB
                have HO_3 := n0_
                have HO_4 := n1_
                have HO_17 := n2_
                have HO_24 := n3_
                have HO386 := n4_
                have BK380 := n5_
                have BK382 := n6_
                have HB := n7_
                clear n0_ n1_ n2_ n3_ n4_ n5_ n6_ n7_
                clear hb ho55
                obtain ⟨Ao56, co56, eo56⟩ := Kd.R_slice HO386.out
                (first | subst eo56 | (injection eo56 with f1_ f2_ f3_; have f4_ := f1_.symm; have f5_ := f3_.symm; clear f1_ f2_ f3_; subst f4_; subst f5_))
                refine hK.out _ _ ⟨(blk_cell BK380.out 0).trans rfl, (blk_cell BK380.out 1).trans rfl, (blk_cell BK382.out 0).trans rfl, (blk_cell BK382.out 1).trans rfl, ((HB.out.cell (World.block_lt_of_cell? w _ hw383_0)).trans hw383_0)⟩ (fun hHeld => ?_)
                clear hK K
                refine norm_ (a' := ?_) ?_ ?_
                rotate_left
                ·show Act.put _ (some 43) _ = _
                 simp only [Act.put, List.setIfInBounds_toArray, List.set_cons_zero, List.set_cons_succ, i64_w, i32_w]
                 rfl
                refine one_ (i := 13) (N := some 44) #[true, true, true, true, true, true, true, true, true, true, true, true, true, true, false, false, false, false, false, false, false, false, false, false, false, false] rfl rfl (one_of HT_.out (by kernel_rfl)) (by decide) (fun K hK => ?_)
                refine goes_ Try.func116 (by kernel_rfl) rfl #[.int .i64 (rd l0 0), .slice Ao56 y384.length co56] (by rfl) rfl rfl (by (try simp only [List.map_toArray, List.map_cons, List.map_nil]); first | done | rfl | (simp only [List.length_drop, List.length_take]; rfl)) ?_
                with_reducible refine (impl_areDifferent.calls k2 (rd l0 0) _ _ y384 false _ ?side1 ?side2 A19.out).mono ?_
                (case side1 => repeat (first | exact (Kd.R_reads' HO386.out).2.2 | (with_reducible refine Kd.C_alloc ?_ _) | (with_reducible refine Kd.C_drewN ?_ _) | (with_reducible refine Kd.C_drew ?_)))
                (case side2 => exact (Kd.R_reads' HO386.out).2.1)
                rintro e w' ⟨rfl, ⟨nd, rfl⟩⟩
                refine ⟨_, rfl, ?_⟩
                refine hK.out _ _ ⟨(blk_cell BK380.out 0).trans rfl, (blk_cell BK380.out 1).trans rfl, (blk_cell BK382.out 0).trans rfl, (blk_cell BK382.out 1).trans rfl, ((HB.out.cell (World.block_lt_of_cell? w _ hw383_0)).trans hw383_0)⟩ (fun hHeld => ?_)
                clear hK K
                refine norm_ (a' := ?_) ?_ ?_
                rotate_left
                ·show Act.put _ (some 44) _ = _
                 simp only [Act.put, List.setIfInBounds_toArray, List.set_cons_zero, List.set_cons_succ, i64_w, i32_w]
                 rfl
                refine pu 14 45 HT_ ?_
                refine pure_ (i := 15) (N := some 46) (v := undef) (a' := ?_) #[true, true, true, true, true, true, true, true, true, true, true, true, true, true, true, true, false, false, false, false, false, false, false, false, false, false] rfl rfl (any_of HT_.out (by kernel_rfl)) (fun _ _ _ h => h) (Or.inr ⟨by rfl, rfl⟩) ?_ ?_
                rotate_left
                ·simp only [Act.put, List.setIfInBounds_toArray, List.set_cons_zero, List.set_cons_succ, i64_w, i32_w]
                 rfl
                refine pure_ (i := 16) (N := some 47) (v := undef) (a' := ?_) #[true, true, true, true, true, true, true, true, true, true, true, true, true, true, true, true, true, false, false, false, false, false, false, false, false, false] rfl rfl (any_of HT_.out (by kernel_rfl)) (fun _ _ _ h => h) (Or.inr ⟨by rfl, rfl⟩) ?_ ?_
                rotate_left
                ·simp only [Act.put, List.setIfInBounds_toArray, List.set_cons_zero, List.set_cons_succ, i64_w, i32_w]
                 rfl
                refine pure_ (i := 17) (N := some 48) (v := undef) (a' := ?_) #[true, true, true, true, true, true, true, true, true, true, true, true, true, true, true, true, true, true, false, false, false, false, false, false, false, false] rfl rfl (any_of HT_.out (by kernel_rfl)) (fun _ _ _ h => h) (Or.inr ⟨by rfl, rfl⟩) ?_ ?_
                rotate_left
                ·simp only [Act.put, List.setIfInBounds_toArray, List.set_cons_zero, List.set_cons_succ, i64_w, i32_w]
                 rfl
                refine pure_ (i := 18) (N := some 49) (v := undef) (a' := ?_) #[true, true, true, true, true, true, true, true, true, true, true, true, true, true, true, true, true, true, true, false, false, false, false, false, false, false] rfl rfl (any_of HT_.out (by kernel_rfl)) (fun _ _ _ h => h) (Or.inr ⟨by rfl, rfl⟩) ?_ ?_
                rotate_left
                ·simp only [Act.put, List.setIfInBounds_toArray, List.set_cons_zero, List.set_cons_succ, i64_w, i32_w]
                 rfl
                refine pure_ (i := 19) (N := some 50) (v := undef) (a' := ?_) #[true, true, true, true, true, true, true, true, true, true, true, true, true, true, true, true, true, true, true, true, false, false, false, false, false, false] rfl rfl (any_of HT_.out (by kernel_rfl)) (fun _ _ _ h => h) (Or.inr ⟨by rfl, rfl⟩) ?_ ?_
                rotate_left
                ·simp only [Act.put, List.setIfInBounds_toArray, List.set_cons_zero, List.set_cons_succ, i64_w, i32_w]
                 rfl
                refine pure_ (i := 20) (N := some 51) (v := undef) (a' := ?_) #[true, true, true, true, true, true, true, true, true, true, true, true, true, true, true, true, true, true, true, true, true, false, false, false, false, false] rfl rfl (any_of HT_.out (by kernel_rfl)) (fun _ _ _ h => h) (Or.inr ⟨by rfl, rfl⟩) ?_ ?_
                rotate_left
                ·simp only [Act.put, List.setIfInBounds_toArray, List.set_cons_zero, List.set_cons_succ, i64_w, i32_w]
                 rfl
                refine pure_ (i := 21) (N := some 52) (v := undef) (a' := ?_) #[true, true, true, true, true, true, true, true, true, true, true, true, true, true, true, true, true, true, true, true, true, true, false, false, false, false] rfl rfl (any_of HT_.out (by kernel_rfl)) (fun _ _ _ h => h) (Or.inr ⟨by rfl, rfl⟩) ?_ ?_
                rotate_left
                ·simp only [Act.put, List.setIfInBounds_toArray, List.set_cons_zero, List.set_cons_succ, i64_w, i32_w]
                 rfl
                refine pure_ (i := 22) (N := some 53) (v := undef) (a' := ?_) #[true, true, true, true, true, true, true, true, true, true, true, true, true, true, true, true, true, true, true, true, true, true, true, false, false, false] rfl rfl (any_of HT_.out (by kernel_rfl)) (fun _ _ _ h => h) (Or.inr ⟨by rfl, rfl⟩) ?_ ?_
                rotate_left
                ·simp only [Act.put, List.setIfInBounds_toArray, List.set_cons_zero, List.set_cons_succ, i64_w, i32_w]
                 rfl
                refine pure_ (i := 23) (N := some 54) (v := undef) (a' := ?_) #[true, true, true, true, true, true, true, true, true, true, true, true, true, true, true, true, true, true, true, true, true, true, true, true, false, false] rfl rfl (any_of HT_.out (by kernel_rfl)) (fun _ _ _ h => h) (Or.inr ⟨by rfl, rfl⟩) ?_ ?_
                rotate_left
                ·simp only [Act.put, List.setIfInBounds_toArray, List.set_cons_zero, List.set_cons_succ, i64_w, i32_w]
                 rfl
                refine pure_ (i := 24) (N := some 55) (v := undef) (a' := ?_) #[true, true, true, true, true, true, true, true, true, true, true, true, true, true, true, true, true, true, true, true, true, true, true, true, true, false] rfl rfl (any_of HT_.out (by kernel_rfl)) (fun _ _ _ h => h) (Or.inr ⟨by rfl, rfl⟩) ?_ ?_
                rotate_left
                ·simp only [Act.put, List.setIfInBounds_toArray, List.set_cons_zero, List.set_cons_succ, i64_w, i32_w]
                 rfl
                refine pu 25 56 HT_ ?_
                refine done_ (done_of HT_.out (by kernel_rfl)) ?_
                try go_wp2
                go_roundg k2
                case measure => have := HK1.out; have := HK2.out; omega
                case rel => exact ⟨(x4_2), (wrap64 (x26_2 + 1)), (by first | rfl | (simp; done) | (simp [*]; done)), H', ⟨by have := HK1.out; have := HK2.out; omega⟩, ⟨by (with_reducible repeat (first | apply Kd.R_alloc | apply Kd.R_drewN | apply Kd.R_drew)); exact Kd.R_mono HO_3.out (fun _ hk => hk.1)⟩, ⟨by (with_reducible repeat (first | apply Kd.R_alloc | apply Kd.R_drewN | apply Kd.R_drew)); exact Kd.R_mono HO_4.out (fun _ hk => trivial)⟩, ⟨by (with_reducible repeat (first | apply Kd.R_alloc | apply Kd.R_drewN | apply Kd.R_drew)); exact Kd.R_mono HO_17.out (fun _ hk => hk.1)⟩, ⟨by (with_reducible repeat (first | apply Kd.R_alloc | apply Kd.R_drewN | apply Kd.R_drew)); exact Kd.R_mono HO_24.out (fun _ hk => hk.1)⟩, ⟨by (with_reducible repeat (first | refine blk_drewN ?_ _ | refine blk_drew ?_ | refine blk_alloc ?_ _)); exact BK380.out⟩, ⟨by repeat (first | (with_reducible first | exact HB.out | apply below_alloc | apply pw_below_drewN | apply below_drew1 | refine below_set ?_ GE380.out | refine below_set ?_ GE382.out) | exact HB.out)⟩⟩
              ·rw [if_neg c18] at H
               exact absurd H (by simp)
             ·rw [if_neg c17] at H
              exact absurd H (by simp)
            ·rw [if_neg c16] at H
             exact absurd H (by simp)
           ·rw [if_neg c15] at H
            have c15b0 : decide (x26_2 < (t373.length : Int)) = false := decide_eq_false c15
            clear c15
            have H' := Aside0.mk H
            clear H
            go_wp2
            go_roundg k2
            case measure => have := HK1.out; have := HK2.out; omega
            case rel => exact ⟨(x4_2), (wrap64 (x19_1 + 1)), (by first | rfl | (simp; done) | (simp [*]; done)), H', ⟨by have := HK1.out; have := HK2.out; omega⟩, ⟨by (with_reducible repeat (first | apply Kd.R_alloc | apply Kd.R_drewN | apply Kd.R_drew)); exact Kd.R_mono HO_3.out (fun _ hk => trivial)⟩, ⟨by (with_reducible repeat (first | apply Kd.R_alloc | apply Kd.R_drewN | apply Kd.R_drew)); exact HO_4.out⟩, ⟨by (with_reducible repeat (first | apply Kd.R_alloc | apply Kd.R_drewN | apply Kd.R_drew)); exact Kd.R_mono HO_17.out (fun _ hk => trivial)⟩, ⟨(bg HB GE380)⟩⟩
        ·rw [if_neg c12] at H
         exact absurd H (by simp)
       ·rw [if_neg c11] at H
        exact absurd H (by simp)
      ·rw [if_neg c10] at H
       have c10b0 : decide (x19_1 < (t373.length : Int)) = false := decide_eq_false c10
       clear c10
       obtain rfl := Option.some.inj H
       go_wp2
       go_ret
       exact ⟨_, by first | rfl | (simp [errW_none, errW_some] <;> rfl) | (simp [*, errW_none, errW_some] <;> rfl), by (with_reducible repeat (first | apply Kd.R_alloc | apply Kd.R_drewN | apply Kd.R_drew)); exact HO_4.out, (bl HB)⟩
   ·rw [if_neg c5] at H
    exact absurd H (by simp)
  ·rw [if_neg c4] at H
   exact absurd H (by simp)
 ·rw [if_neg c2] at H
  exact absurd H (by simp)

end Go.Proofs.Ytiimkifkakdalaa.P
