-- Printed by a program of this session (wip/tools/myprint.py, over the kit's print.py); not trusted: Lean checks it.
import Derived.Test.YthibphndihjcaaaP0
import Derived.Test.YthibphndihjcaaaP59
namespace Go.Proofs.Ythibphndihjcaaa.P
open Go.RowKit Go.Proofs.YthibphndihjcaaaW.PrintWords Go.Proofs.YthibphndihjcaaaW.PrintLast Go.Proofs.YthibphndihjcaaaW.PrintMore
attribute [local go_sem] max2_int min2_int max_two min_two max_three min_three max_four min_four   -- for this text's walks alone
set_option linter.unusedVariables false
set_option linter.unusedSimpArgs false

attribute [local go_sem] Go.Proofs.Try.underlying65 Go.Proofs.Try.underlying66 Go.Proofs.Try.underlying67 Go.Proofs.Try.underlying69
/-! ### spec_l3Byte: function 56 -/
def spec_l3Byte.f (a0 : Int) : Option (ByteArray) := if a0 > 0 then (some (⟨#[43]⟩ : ByteArray)) else (some (⟨#[45]⟩ : ByteArray))
set_option maxHeartbeats 8000000 in
set_option maxRecDepth 100000 in
theorem spec_l3Byte.calls (a0 : Int) (r : ByteArray) (w : World) (h : spec_l3Byte.f a0 = some r) :
  Calls Try.prog 56 #[.int .i64 a0] w fun e w' => e = .returned (.string r) ∧ Drawn0 w w' := by
 have H : (if a0 > 0 then (some (⟨#[43]⟩ : ByteArray)) else (some (⟨#[45]⟩ : ByteArray))) = some r := h
 clear h
 by_cases c2 : a0 > 0
 ·rw [if_pos c2] at H
  have c2b0 : decide (0 < a0) = true := decide_eq_true c2
  clear c2
  obtain rfl := Option.some.inj H
  go_enter Try.func56, Try.ntmps56
  go_wp2
  go_ret
  exact ⟨by first | rfl | (simp; done) | (simp [*]; done), by repeat (first | exact Drawn0.refl _ | apply Drawn0.step)⟩
 ·rw [if_neg c2] at H
  have c2b0 : decide (0 < a0) = false := decide_eq_false c2
  clear c2
  obtain rfl := Option.some.inj H
  go_enter Try.func56, Try.ntmps56
  go_wp2
  go_ret
  exact ⟨by first | rfl | (simp; done) | (simp [*]; done), by repeat (first | exact Drawn0.refl _ | apply Drawn0.step)⟩

/-! ### impl_chi_signs: function 61 -/
def impl_chi_signs.l0 : Nat → List Int → List Int → List (S72) → Int → Int → Option (Int × ByteArray)
 | 0, _, _, _, _, _ => none
 | k + 1, x0, x3, x10, x11, x12 => if x12 < x11 then (if 0 ≤ x12 then (if x12 < (x10.length : Int) then (if 0 ≤ ((rd_T72 x10 x12).f0) then (if ((rd_T72 x10 x12).f0) < 7 then (if 0 ≤ ((rd_T72 x10 x12).f1) then (if ((rd_T72 x10 x12).f1) < 7 then (if 0 ≤ ((rd_T72 x10 x12).f2) then (if ((rd_T72 x10 x12).f2) < 7 then (if 344 ≤ (x0.length : Int) then (if (rd x0 (cidx ((rd_T72 x10 x12).f0) ((rd_T72 x10 x12).f1) ((rd_T72 x10 x12).f2))) > 0 then (if x3.length < 140737488355328 then (impl_chi_signs.l0 k x0 (x3 ++ [43]) x10 x11 (wrap64 (x12 + 1))) else (none)) else (if x3.length < 140737488355328 then (impl_chi_signs.l0 k x0 (x3 ++ [45]) x10 x11 (wrap64 (x12 + 1))) else (none))) else (none)) else (none)) else (none)) else (none)) else (none)) else (none)) else (none)) else (none)) else (none)) else (if 344 ≤ (x0.length : Int) then (some (rd x0 0, strOfNums x3)) else (none))
def impl_chi_signs.f (k : Nat) (l0 : List Int) : Option (Int × ByteArray) := if 344 ≤ (l0.length : Int) then ((impl_triplesOf.f k (rd l0 0)).bind fun t240 => (impl_chi_signs.l0 k l0 ([] : List Int) t240 (t240.length : Int) 0)) else (none)
theorem impl_chi_signs.mono_l : ∀ k, (∀ y0 y1 y2 y3 y4, LeO (impl_chi_signs.l0 k y0 y1 y2 y3 y4) (impl_chi_signs.l0 (k + 1) y0 y1 y2 y3 y4))
 | 0 => fun _ _ _ _ _ r h => by simp [impl_chi_signs.l0] at h
 | k + 1 => by
  have ih0 := impl_chi_signs.mono_l k
  ·intro y0 y1 y2 y3 y4
   unfold impl_chi_signs.l0
   repeat' first
   | (with_reducible exact ih0 _ _ _ _ _)
   | (with_reducible exact impl_triplesOf.mono _ _)
   | (with_reducible exact LeO.refl _)
   | (with_reducible exact LeO.none _)
   | (with_reducible refine LeO.ite ?_ ?_)
   | (with_reducible refine LeO.bind ?_ (fun _ => ?_))
   | exact ih0 _ _ _ _ _
   | exact impl_triplesOf.mono _ _
   | exact LeO.none _
   | refine LeO.ite ?_ ?_
   | refine LeO.bind ?_ (fun _ => ?_)
theorem impl_chi_signs.mono : ∀ a0 k, LeO (impl_chi_signs.f k a0) (impl_chi_signs.f (k + 1) a0) := by
 intro a0 k
 have ih0 := impl_chi_signs.mono_l k
 unfold impl_chi_signs.f
 repeat' first
   | (with_reducible exact ih0 _ _ _ _ _)
   | (with_reducible exact impl_triplesOf.mono _ _)
   | (with_reducible exact LeO.refl _)
   | (with_reducible exact LeO.none _)
   | (with_reducible refine LeO.ite ?_ ?_)
   | (with_reducible refine LeO.bind ?_ (fun _ => ?_))
   | exact ih0 _ _ _ _ _
   | exact impl_triplesOf.mono _ _
   | exact LeO.none _
   | refine LeO.ite ?_ ?_
   | refine LeO.bind ?_ (fun _ => ?_)
def impl_chi_signs.T5 : Bool × List (List Nat × List Nat) := (true, [([], []), ([], []), ([1], [1]), ([], []), ([3], [3]), ([], []), ([5], [5]), ([0], [0]), ([7], [7]), ([8, 2], [2, 8]), ([9, 4], [4, 9]), ([10, 6], [6, 10]), ([11], [11]), ([12], [12])])
def impl_chi_signs.B5 : List Nat := [0, 0, 2, 0, 8, 0, 32, 1, 129, 391, 927, 2047, 4095, 8191]
theorem impl_chi_signs.tab5 : rtab .any (opsOf Try.f61 5) = impl_chi_signs.T5 := by kernel_rfl
theorem impl_chi_signs.bits5 : waitsOk impl_chi_signs.T5.2 impl_chi_signs.B5 = true := by kernel_rfl
def impl_chi_signs.T9 : Bool × List (List Nat × List Nat) := (true, [([], []), ([0], [0]), ([1], [1]), ([2], [2]), ([], []), ([4], [4]), ([3, 5], [3, 5]), ([6, 0, 1, 2, 3, 4, 5, 6], [6])])
def impl_chi_signs.B9 : List Nat := [0, 1, 3, 7, 0, 16, 63, 127]
theorem impl_chi_signs.tab9 : rtab .any (opsOf Try.f61 9) = impl_chi_signs.T9 := by kernel_rfl
theorem impl_chi_signs.bits9 : waitsOk impl_chi_signs.T9.2 impl_chi_signs.B9 = true := by kernel_rfl
set_option maxHeartbeats 8000000 in
set_option maxRecDepth 100000 in
theorem impl_chi_signs.calls (k : Nat) (A0 : Option Addr) (c0 : Nat) (l0 : List Int) (r1 : Int) (r2 : ByteArray) (w : World) (hr0 : Kd.C (Kd.int .i64) w A0 l0.length l0) (hc0 : l0.length ≤ c0) (h : impl_chi_signs.f k l0 = some (r1, r2)) :
  Calls Try.prog 61 #[.pointer A0] w fun e w' => e = .returned (.agg #[.int .i64 r1, .string r2]) ∧ Below w.heap.size w w' := by
 have hu28 := Try.underlying28
 have hu72 := Try.underlying72
 have HR0 := Aside0.mk hr0
 have HC0 := Aside0.mk hc0
 clear hr0 hc0
 have HB := Aside0.mk (Below.refl w.heap.size w)
 have H : (if 344 ≤ (l0.length : Int) then ((impl_triplesOf.f k (rd l0 0)).bind fun t240 => (impl_chi_signs.l0 k l0 ([] : List Int) t240 (t240.length : Int) 0)) else (none)) = some (r1, r2) := h
 clear h
 by_cases c2 : 344 ≤ (l0.length : Int)
 ·rw [if_pos c2] at H
  have c2b0 := eq_true c2
  have c2b1 : decide (344 ≤ (l0.length : Int)) = true := decide_eq_true c2
  clear c2
  replace H := Option.bind_eq_some_iff.mp H
  obtain ⟨t240, A30, H⟩ := H
  (try dsimp only at H)
  have A3 := Aside0.mk A30
  clear A30
  have H' := Aside0.mk H
  clear H
  go_enter Try.func61, Try.ntmps61
  go_wp2_with (first | ((with_reducible refine gate_dst (N := 2) rfl ?_); refine bx 2 #[.int .i64 0, .string (⟨#[]⟩ : ByteArray)] 28 ?_; intro gb238 hg w4 hbox hb; have BK238 := Aside0.mk hbox; have GE238 := gs HB hg; have GW238 := GE238; replace HB := bs HB hb; clear hb hbox hg; have cl239 : (344 : Int) ≤ (l0.length : Int) := of_decide_eq_true (by first | (with_reducible assumption) | assumption); have p239 : 0 ≤ (0 : Int) := (by omega); have q239 : 0 < (l0.length : Int) := (by omega); obtain ⟨ad239, e239, hx239_0⟩ := Kd.at_int HR0.out 0 p239 q239; cases e239; have qi239 : (0 < l0.length) = True := eq_true (by omega); (try rw [show ((0 : Int)).toNat = 0 from rfl] at hx239_0); (try rw [Addr.add_zero'] at hx239_0); replace hx239_0 := (HB.out.cell (World.block_lt_of_cell? w _ hx239_0)).trans hx239_0; replace p239 := eq_true p239; replace q239 := eq_true q239) | ((with_reducible refine gate_callee (f := 59) rfl ?_); refine gL (some 10) rfl rfl Try.func59 (by kernel_rfl) rfl #[.int .i64 (rd l0 0)] rfl ?_; (with_reducible refine (impl_triplesOf.calls k (rd l0 0) t240 _ A3.out).mono ?_); rintro e w5 ⟨v241, rfl, ho0, hb⟩; refine ⟨_, rfl, ?_⟩; have n0_ := Aside0.mk (Kd.R_lower ho0 (below_size (bg HB GE238))); have n1_ := Aside0.mk (blk_below (g := gb238) (o := .cells #[.int .i64 0, .string (⟨#[]⟩ : ByteArray)] 28 (0, 0)) (bk BK238) hb); have n2_ := bsg HB GE238 hb; clear BK238; clear HB; have HO242 := n0_; have BK238 := n1_; have HB := n2_; clear n0_ n1_ n2_; (try clear hb); (try clear hb2); (try clear hk); (try clear hi); (try clear ho0); obtain ⟨Ao6, co6, eo6⟩ := Kd.R_slice HO242.out; subst eo6))
  go_loopg [3, 12] k (fun kq v3 v12 w' => ∃ (x3_1 : List Int) (x12_1 : Int), v12 = .int .i64 x12_1 ∧ Aside0 (impl_chi_signs.l0 kq l0 x3_1 t240 (t240.length : Int) x12_1 = some (r1, r2)) ∧ Aside0 (kq ≤ k) ∧ Aside0 (Kd.R (Kd.int .u8) 5 w' w.heap.size (fun _ => True) v3 x3_1) ∧ Aside0 (Kd.R k72 72 w' w.heap.size (fun _ => True) (.slice Ao6 t240.length co6) t240) ∧ Aside0 (w'.heap[gb238]? = some (.cells #[.int .i64 0, .string (⟨#[]⟩ : ByteArray)] 28 (0, 0))) ∧ Aside0 (Below w.heap.size w w'))
  case atStart => exact ⟨(([] : List Int)), (0), (by first | rfl | (simp; done) | (simp [*]; done)), H', ⟨Nat.le_refl _⟩, ⟨by first | exact Kd.R_nil _ _ _ _ _ | exact Kd.N_nil _ _ _ _ _ | exact Kd.V_nil _ _ _ _ _ | exact Kd.Q_nil _ _ _ _ _ | exact Kd.S_nil _ _ _ _ _⟩, ⟨by (with_reducible repeat (first | apply Kd.R_alloc | apply Kd.R_drewN | apply Kd.R_drew)); exact HO242.out⟩, ⟨by (with_reducible repeat (first | refine blk_drewN ?_ _ | refine blk_drew ?_ | refine blk_alloc ?_ _)); exact BK238.out⟩, ⟨(bg HB GE238)⟩⟩
  case round =>
   clear H'
   try clear c2
   try clear c2b0
   try clear c2b1
   try clear p2
   try clear q2
   try clear hx2
   try clear qi2
   try clear c5
   try clear c6
   try clear hx239_0
   try clear p239
   try clear q239
   obtain ⟨x3_1, x12_1, rfl, HA, HK1, HO_3, HO_10, BK238, HB⟩ := hrel
   cases gk with
   | zero => exact absurd HA.out (by simp [impl_chi_signs.l0])
   | succ k1 =>
    have H := HA.out
    clear HA
    simp only [impl_chi_signs.l0] at H
    by_cases c7 : x12_1 < (t240.length : Int)
    ·rw [if_pos c7] at H
     have c7b0 : decide (x12_1 < (t240.length : Int)) = true := decide_eq_true c7
     clear c7
     by_cases c8 : 0 ≤ x12_1
     ·rw [if_pos c8] at H
      have c8b0 : decide (0 ≤ x12_1) = true := decide_eq_true c8
      clear c8
      by_cases c9 : x12_1 < (t240.length : Int)
      ·rw [if_pos c9] at H
       have c9b0 : decide (x12_1 < (t240.length : Int)) = true := decide_eq_true c9
       clear c9
       by_cases c10 : 0 ≤ ((rd_T72 t240 x12_1).f0)
       ·rw [if_pos c10] at H
        have c10b0 : decide (0 ≤ ((rd_T72 t240 x12_1).f0)) = true := decide_eq_true c10
        clear c10
        by_cases c11 : ((rd_T72 t240 x12_1).f0) < 7
        ·rw [if_pos c11] at H
         have c11b0 : decide (((rd_T72 t240 x12_1).f0) < 7) = true := decide_eq_true c11
         clear c11
         by_cases c12 : 0 ≤ ((rd_T72 t240 x12_1).f1)
         ·rw [if_pos c12] at H
          have c12b0 : decide (0 ≤ ((rd_T72 t240 x12_1).f1)) = true := decide_eq_true c12
          clear c12
          by_cases c13 : ((rd_T72 t240 x12_1).f1) < 7
          ·rw [if_pos c13] at H
           have c13b0 : decide (((rd_T72 t240 x12_1).f1) < 7) = true := decide_eq_true c13
           clear c13
           by_cases c14 : 0 ≤ ((rd_T72 t240 x12_1).f2)
           ·rw [if_pos c14] at H
            have c14b0 : decide (0 ≤ ((rd_T72 t240 x12_1).f2)) = true := decide_eq_true c14
            clear c14
            by_cases c15 : ((rd_T72 t240 x12_1).f2) < 7
            ·rw [if_pos c15] at H
             have c15b0 : decide (((rd_T72 t240 x12_1).f2) < 7) = true := decide_eq_true c15
             clear c15
             by_cases c16 : 344 ≤ (l0.length : Int)
             ·rw [if_pos c16] at H
              have c16b0 := eq_true c16
              have c16b1 : decide (344 ≤ (l0.length : Int)) = true := decide_eq_true c16
              clear c16
              by_cases c17 : (rd l0 (cidx ((rd_T72 t240 x12_1).f0) ((rd_T72 t240 x12_1).f1) ((rd_T72 t240 x12_1).f2))) > 0
              ·rw [if_pos c17] at H
               have c17b0 : decide (0 < (rd l0 (cidx ((rd_T72 t240 x12_1).f0) ((rd_T72 t240 x12_1).f1) ((rd_T72 t240 x12_1).f2)))) = true := decide_eq_true c17
               clear c17
               by_cases c18 : x3_1.length < 140737488355328
               ·rw [if_pos c18] at H
                have LMc18 := Aside0.mk c18
                clear c18
                obtain ⟨y246, hy246⟩ : ∃ y_ : List Int, y_ = (x3_1 ++ [43]) := ⟨_, rfl⟩
                replace H : (impl_chi_signs.l0 k1 l0 y246 t240 (t240.length : Int) (wrap64 (x12_1 + 1))) = some (r1, r2) := by first | (rw [hy246]; with_reducible exact H) | (have H2_ := (Option.bind_some _ _).symm.trans H; rw [hy246]; with_reducible exact H2_) | (have H2_ := (Option.bind_some _ _).symm.trans H; with_reducible exact H2_) | with_reducible exact H | (rw [hy246]; exact H) | exact H
                have Ny246 := Aside0.mk hy246
                clear hy246
                have H' := Aside0.mk H
                clear H
                have p243 : 0 ≤ (x12_1 : Int) := of_decide_eq_true (by first | (with_reducible assumption) | assumption)
                have q243 : x12_1 < (t240.length : Int) := of_decide_eq_true (by first | (with_reducible assumption) | assumption)
                obtain ⟨ad243, e243, hx243_0, hx243_1, hx243_2⟩ := at_T72 (Kd.R_reads' HO_10.out).2.2 x12_1 p243 q243
                cases e243
                replace p243 := eq_true p243
                replace q243 := eq_true q243
                try go_wp2_with (first | ((with_reducible refine gate_dst (N := 5) rfl ?_); refine bx 5 #[.int .i64 0, .int .i64 0, .int .i64 0] 72 ?_; intro gb244 hg w19 hbox hb; have n0_ := Aside0.mk (Kd.R_below (rr HO_3) hb); have n1_ := Aside0.mk (Kd.R_below (Kd.R_elderB (rr HO_10) gb244 (Nat.le_of_eq hg.symm)) hb); have n2_ := Aside0.mk (blk_below (g := gb238) (o := .cells #[.int .i64 0, .string (⟨#[]⟩ : ByteArray)] 28 (0, 0)) (bk BK238) hb); have n3_ := bsg HB GE238 hb; have n4_ := Aside0.mk (hbox); have n5_ := Aside0.mk ((by rw [hg]; exact (below_size (bg HB GE238)) : w.heap.size ≤ gb244)); have n6_ := Aside0.mk ((by rw [hg]; exact (below_size (bg HB GE238)) : w.heap.size ≤ gb244)); have n7_ := Aside0.mk ((by rw [hg]; exact Nat.ne_of_lt (blk_lt (g := gb238) (o := .cells #[.int .i64 0, .string (⟨#[]⟩ : ByteArray)] 28 (0, 0)) (bk BK238)) : gb238 ≠ gb244)); have n8_ := Aside0.mk ((by rw [hg]; exact Nat.ne_of_gt (blk_lt (g := gb238) (o := .cells #[.int .i64 0, .string (⟨#[]⟩ : ByteArray)] 28 (0, 0)) (bk BK238)) : gb244 ≠ gb238)); clear HO_3; clear HO_10; clear BK238; clear HB; have HO_3 := n0_; have HO_10 := n1_; have BK238 := n2_; have HB := n3_; have BK244 := n4_; have GW244 := n5_; have GE244 := n6_; have NB238_244 := n7_; have NB244_238 := n8_; clear n0_ n1_ n2_ n3_ n4_ n5_ n6_ n7_ n8_; clear hb hbox hg; have hnb20 := NB244_238.out; have hnc20 := NB238_244.out; have hcz21_0 := bc BK244 0; have hcz21_1 := bc BK244 1; have hcz21_2 := bc BK244 2; have hfz21_0 := bf BK244 0; have hfz21_1 := bf BK244 1; have hfz21_2 := bf BK244 2))
                have n0_ : Aside0 (Kd.R (Kd.int .u8) 5 (((w19.setCell ⟨gb244, 0, none⟩ (.int .i64 ((rd_T72 t240 x12_1).f0))).setCell ⟨gb244, 1, none⟩ (.int .i64 ((rd_T72 t240 x12_1).f1))).setCell ⟨gb244, 2, none⟩ (.int .i64 ((rd_T72 t240 x12_1).f2))) w.heap.size (fun _ => True) u3 x3_1) := ⟨by (with_reducible repeat (first | apply Kd.R_alloc | apply Kd.R_drewN | apply Kd.R_drew)); exact Kd.R_mono (Kd.R_far (p := ⟨gb244, 2, none⟩) (Kd.R_far (p := ⟨gb244, 1, none⟩) (Kd.R_far (p := ⟨gb244, 0, none⟩) (Kd.R_types HO_3.out BK244.out (by decide)) (fun _ hk => hk.2) (.int .i64 ((rd_T72 t240 x12_1).f0))) (fun _ hk => hk.2) (.int .i64 ((rd_T72 t240 x12_1).f1))) (fun _ hk => hk.2) (.int .i64 ((rd_T72 t240 x12_1).f2))) (fun _ hk => trivial)⟩
                have n1_ : Aside0 (Kd.R k72 72 (((w19.setCell ⟨gb244, 0, none⟩ (.int .i64 ((rd_T72 t240 x12_1).f0))).setCell ⟨gb244, 1, none⟩ (.int .i64 ((rd_T72 t240 x12_1).f1))).setCell ⟨gb244, 2, none⟩ (.int .i64 ((rd_T72 t240 x12_1).f2))) w.heap.size (fun k_ => k_ ≠ gb244) (.slice (some ad243) t240.length co6) t240) := ⟨by (with_reducible repeat (first | apply Kd.R_alloc | apply Kd.R_drewN | apply Kd.R_drew)); exact Kd.R_mono (Kd.R_far (p := ⟨gb244, 2, none⟩) (Kd.R_far (p := ⟨gb244, 1, none⟩) (Kd.R_far (p := ⟨gb244, 0, none⟩) (Kd.R_mono HO_10.out (fun k_ hk => (⟨hk, hk.2⟩ : _ ∧ k_ ≠ gb244))) (fun _ hk => hk.2) (.int .i64 ((rd_T72 t240 x12_1).f0))) (fun _ hk => hk.2) (.int .i64 ((rd_T72 t240 x12_1).f1))) (fun _ hk => hk.2) (.int .i64 ((rd_T72 t240 x12_1).f2))) (fun _ hk => hk.1.2)⟩
                have n2_ : Aside0 ((((w19.setCell ⟨gb244, 0, none⟩ (.int .i64 ((rd_T72 t240 x12_1).f0))).setCell ⟨gb244, 1, none⟩ (.int .i64 ((rd_T72 t240 x12_1).f1))).setCell ⟨gb244, 2, none⟩ (.int .i64 ((rd_T72 t240 x12_1).f2))).heap[gb238]? = some (.cells #[.int .i64 0, .string (⟨#[]⟩ : ByteArray)] 28 (0, 0))) := ⟨by (with_reducible repeat (first | refine blk_drewN ?_ _ | refine blk_drew ?_ | refine blk_alloc ?_ _)); refine blk_far ?_ NB238_244.out _; (with_reducible repeat (first | refine blk_drewN ?_ _ | refine blk_drew ?_ | refine blk_alloc ?_ _)); refine blk_far ?_ NB238_244.out _; (with_reducible repeat (first | refine blk_drewN ?_ _ | refine blk_drew ?_ | refine blk_alloc ?_ _)); refine blk_far ?_ NB238_244.out _; (with_reducible repeat (first | refine blk_drewN ?_ _ | refine blk_drew ?_ | refine blk_alloc ?_ _)); exact BK238.out⟩
                have n3_ : Aside0 ((((w19.setCell ⟨gb244, 0, none⟩ (.int .i64 ((rd_T72 t240 x12_1).f0))).setCell ⟨gb244, 1, none⟩ (.int .i64 ((rd_T72 t240 x12_1).f1))).setCell ⟨gb244, 2, none⟩ (.int .i64 ((rd_T72 t240 x12_1).f2))).heap[gb244]? = some (.cells #[.int .i64 ((rd_T72 t240 x12_1).f0), .int .i64 ((rd_T72 t240 x12_1).f1), .int .i64 ((rd_T72 t240 x12_1).f2)] 72 (0, 0))) := ⟨by (with_reducible repeat (first | refine blk_drewN ?_ _ | refine blk_drew ?_ | refine blk_alloc ?_ _)); refine blk_put (cs := #[.int .i64 ((rd_T72 t240 x12_1).f0), .int .i64 ((rd_T72 t240 x12_1).f1), .int .i64 0]) ?_ 2 _ rfl; (with_reducible repeat (first | refine blk_drewN ?_ _ | refine blk_drew ?_ | refine blk_alloc ?_ _)); refine blk_put (cs := #[.int .i64 ((rd_T72 t240 x12_1).f0), .int .i64 0, .int .i64 0]) ?_ 1 _ rfl; (with_reducible repeat (first | refine blk_drewN ?_ _ | refine blk_drew ?_ | refine blk_alloc ?_ _)); refine blk_put (cs := #[.int .i64 0, .int .i64 0, .int .i64 0]) ?_ 0 _ rfl; (with_reducible repeat (first | refine blk_drewN ?_ _ | refine blk_drew ?_ | refine blk_alloc ?_ _)); exact BK244.out⟩
                have n4_ : Aside0 (Below w.heap.size w (((w19.setCell ⟨gb244, 0, none⟩ (.int .i64 ((rd_T72 t240 x12_1).f0))).setCell ⟨gb244, 1, none⟩ (.int .i64 ((rd_T72 t240 x12_1).f1))).setCell ⟨gb244, 2, none⟩ (.int .i64 ((rd_T72 t240 x12_1).f2)))) := ⟨by repeat (first | (with_reducible first | exact HB.out | apply below_alloc | apply pw_below_drewN | apply below_drew1 | refine below_set ?_ GE238.out | refine below_set ?_ GE244.out) | exact HB.out)⟩
                (try clear HO_3)
                (try clear HO_10)
                (try clear BK238)
                (try clear BK244)
                (try clear HB)
                generalize (((w19.setCell ⟨gb244, 0, none⟩ (.int .i64 ((rd_T72 t240 x12_1).f0))).setCell ⟨gb244, 1, none⟩ (.int .i64 ((rd_T72 t240 x12_1).f1))).setCell ⟨gb244, 2, none⟩ (.int .i64 ((rd_T72 t240 x12_1).f2))) = w22 at n0_ n1_ n2_ n3_ n4_ ⊢
                have HO_3 := n0_
                have HO_10 := n1_
                have BK238 := n2_
                have BK244 := n3_
                have HB := n4_
                clear n0_ n1_ n2_ n3_ n4_
                have n0_ := Aside0.mk (Kd.R_drew HO_3.out)
                have n1_ := Aside0.mk (Kd.R_drew HO_10.out)
                have n2_ := Aside0.mk (blk_drew BK238.out)
                have n3_ := Aside0.mk (blk_drew BK244.out)
                have n4_ := Aside0.mk (below_drew1 HB.out)
                clear HO_3
                clear HO_10
                clear BK238
                clear BK244
                clear HB
                have HO_3 := n0_
                have HO_10 := n1_
                have BK238 := n2_
                have BK244 := n3_
                have HB := n4_
                clear n0_ n1_ n2_ n3_ n4_
                have cp245_0 : 0 ≤ (((rd_T72 t240 x12_1).f0) : Int) := of_decide_eq_true (by first | (with_reducible assumption) | assumption)
                have cq245_0 : (((rd_T72 t240 x12_1).f0) : Int) < 7 := of_decide_eq_true (by first | (with_reducible assumption) | assumption)
                have cp245_1 : 0 ≤ (((rd_T72 t240 x12_1).f1) : Int) := of_decide_eq_true (by first | (with_reducible assumption) | assumption)
                have cq245_1 : (((rd_T72 t240 x12_1).f1) : Int) < 7 := of_decide_eq_true (by first | (with_reducible assumption) | assumption)
                have cp245_2 : 0 ≤ (((rd_T72 t240 x12_1).f2) : Int) := of_decide_eq_true (by first | (with_reducible assumption) | assumption)
                have cq245_2 : (((rd_T72 t240 x12_1).f2) : Int) < 7 := of_decide_eq_true (by first | (with_reducible assumption) | assumption)
                have cl245 : (344 : Int) ≤ (l0.length : Int) := of_decide_eq_true (by first | (with_reducible assumption) | assumption)
                have p245 : 0 ≤ ((cidx ((rd_T72 t240 x12_1).f0) ((rd_T72 t240 x12_1).f1) ((rd_T72 t240 x12_1).f2)) : Int) := cidx_nonneg _ _ _
                have q245 : (cidx ((rd_T72 t240 x12_1).f0) ((rd_T72 t240 x12_1).f1) ((rd_T72 t240 x12_1).f2)) < (l0.length : Int) := cidx_lt cq245_0 cq245_1 cq245_2 cl245
                obtain ⟨ad245, e245, hx245_0⟩ := Kd.at_int HR0.out (cidx ((rd_T72 t240 x12_1).f0) ((rd_T72 t240 x12_1).f1) ((rd_T72 t240 x12_1).f2)) p245 q245
                have hw245_0 := hx245_0
                (first | rw [chi_add] at hw245_0 | simp only [cidx_nat] at hw245_0)
                obtain rfl : ad239 = ad245 := (by injection e245)
                (first | rw [chi_add] at hx245_0 | simp only [cidx_nat] at hx245_0)
                replace cp245_0 := eq_true cp245_0
                replace cq245_0 := eq_true cq245_0
                replace cp245_1 := eq_true cp245_1
                replace cq245_1 := eq_true cq245_1
                replace cp245_2 := eq_true cp245_2
                replace cq245_2 := eq_true cq245_2
                replace hx245_0 := (HB.out.cell (World.block_lt_of_cell? w _ hx245_0)).trans hx245_0
                replace p245 := eq_true p245
                replace q245 := eq_true q245
                refine start_ (n := 14) (S := fun w' => w'.cell? ⟨gb244, 0, none⟩ = some (.int .i64 ((rd_T72 t240 x12_1).f0)) ∧ w'.cell? ⟨gb244, 1, none⟩ = some (.int .i64 ((rd_T72 t240 x12_1).f1)) ∧ w'.cell? ⟨gb244, 2, none⟩ = some (.int .i64 ((rd_T72 t240 x12_1).f2)) ∧ w'.cell? ⟨ad239.block, ad239.off + 1 + (((rd_T72 t240 x12_1).f0)).toNat * 49 + (((rd_T72 t240 x12_1).f1)).toNat * 7 + (((rd_T72 t240 x12_1).f2)).toNat, none⟩ = some (.int .i64 (rd l0 (cidx ((rd_T72 t240 x12_1).f0) ((rd_T72 t240 x12_1).f1) ((rd_T72 t240 x12_1).f2))))) (ds := []) #[false, false, false, false, false, false, false, false, false, false, false, false, false, false] (by kernel_rfl) rfl rfl ⟨(blk_cell BK244.out 0).trans rfl, (blk_cell BK244.out 1).trans rfl, (blk_cell BK244.out 2).trans rfl, ((HB.out.cell (World.block_lt_of_cell? w _ hw245_0)).trans hw245_0)⟩ (fun hHeld => ?_); refine with_tabW impl_chi_signs.tab5 impl_chi_signs.bits5 (fun HT_ HW_ => ?_)
                generalize w22.drew = w23 at HO_3 HO_10 BK238 BK244 HB hx245_0 hHeld ⊢
                refine pu 0 16 HT_ ?_
                refine pu 1 17 HT_ ?_
                refine pu 3 19 HT_ ?_
                refine pu 5 21 HT_ ?_
                refine pu 7 23 HT_ ?_
                refine pu 8 24 HT_ ?_
                refine take_ (i := 2) (N := some 18) (v := ?_) (a' := ?_) #[true, true, true, true, false, true, false, true, true, false, false, false, false, false] rfl rfl (take_ofW HT_.out HW_.out (by kernel_rfl)) (fun _ _ _ h => h) (Or.inl ⟨by rfl, ?_⟩) hHeld ?_ ?_
                rotate_left
                ·rintro w' ⟨s0, s1, s2, s3⟩
                 go_simp
                 with_reducible rfl
                rotate_left
                ·simp only [Act.put, List.setIfInBounds_toArray, List.set_cons_zero, List.set_cons_succ, i64_w, i32_w]
                 rfl
                refine pu 9 25 HT_ ?_
                refine take_ (i := 4) (N := some 20) (v := ?_) (a' := ?_) #[true, true, true, true, true, true, false, true, true, true, false, false, false, false] rfl rfl (take_ofW HT_.out HW_.out (by kernel_rfl)) (fun _ _ _ h => h) (Or.inl ⟨by rfl, ?_⟩) hHeld ?_ ?_
                rotate_left
                ·rintro w' ⟨s0, s1, s2, s3⟩
                 go_simp
                 with_reducible rfl
                rotate_left
                ·simp only [Act.put, List.setIfInBounds_toArray, List.set_cons_zero, List.set_cons_succ, i64_w, i32_w]
                 rfl
                refine pu 10 26 HT_ ?_
                refine take_ (i := 6) (N := some 22) (v := ?_) (a' := ?_) #[true, true, true, true, true, true, true, true, true, true, true, false, false, false] rfl rfl (take_ofW HT_.out HW_.out (by kernel_rfl)) (fun _ _ _ h => h) (Or.inl ⟨by rfl, ?_⟩) hHeld ?_ ?_
                rotate_left
                ·rintro w' ⟨s0, s1, s2, s3⟩
                 go_simp
                 with_reducible rfl
                rotate_left
                ·simp only [Act.put, List.setIfInBounds_toArray, List.set_cons_zero, List.set_cons_succ, i64_w, i32_w]
                 rfl
                refine pu 11 27 HT_ ?_
                refine take_ (i := 12) (N := some 28) (v := ?_) (a' := ?_) #[true, true, true, true, true, true, true, true, true, true, true, true, true, false] rfl rfl (take_ofW HT_.out HW_.out (by kernel_rfl)) (fun _ _ _ h => h) (Or.inl ⟨by rfl, ?_⟩) hHeld ?_ ?_
                rotate_left
                ·rintro w' ⟨s0, s1, s2, s3⟩
                 go_simp
                 with_reducible rfl
                rotate_left
                ·simp only [Act.put, List.setIfInBounds_toArray, List.set_cons_zero, List.set_cons_succ, i64_w, i32_w]
                 rfl
                refine pu 13 29 HT_ ?_
                refine done_ (done_of HT_.out (by kernel_rfl)) ?_
                try go_wp2_with (first | ((with_reducible refine gate_builtin (b := .append) (xs := #[.tmp 30, .tmp 31]) rfl ?_); at_builtin; refine Kd.R_append (Kd.int .u8) (w0 := w) w.heap.size rfl (.tmp 30) (.tmp 31) 93 5 (.int .u8 0) 1 rfl Try.underlying93 info5 rfl (by decide) (by omega) u3 x3_1 43 [.int .u8 43] (fun _ => True) (fun _ => False) rfl rfl ?aP (fun _ hk => hk.elim) ?aF ?aO ?aB ?aS ?aL ?_; (case aP => exact rfl); (case aB => exact (by repeat (first | (with_reducible first | exact HB.out | apply below_alloc | apply pw_below_drewN | apply below_drew1 | refine below_set ?_ GE238.out | refine below_set ?_ GE244.out) | exact HB.out))); (case aF => exact (fun _ _ => trivial)); (case aO => exact (rr HO_3)); (case aS => exact (below_size (by repeat (first | (with_reducible first | exact HB.out | apply below_alloc | apply pw_below_drewN | apply below_drew1 | refine below_set ?_ GE238.out | refine below_set ?_ GE244.out) | exact HB.out)))); (case aL => have := LMc18.out; omega); intro v247 w24 ho hb hg hat; rw [← Ny246.out] at ho; have n0_ := Aside0.mk (Kd.R_over' (rr HO_10) (Kd.R_typed (rr HO_3)) (by decide) hg); have n1_ := Aside0.mk (blk_grown (g := gb238) (o := .cells #[.int .i64 0, .string (⟨#[]⟩ : ByteArray)] 28 (0, 0)) (bk BK238) hg (Kd.R_ne HO_3.out BK238.out (by decide))); have n2_ := Aside0.mk (blk_grown (g := gb244) (o := .cells #[.int .i64 ((rd_T72 t240 x12_1).f0), .int .i64 ((rd_T72 t240 x12_1).f1), .int .i64 ((rd_T72 t240 x12_1).f2)] 72 (0, 0)) (bk BK244) hg (Kd.R_ne HO_3.out BK244.out (by decide))); have n3_ := Aside0.mk (hb); have n4_ := Aside0.mk (ho); clear HO_10; clear BK238; clear BK244; clear HB; clear HO_3; have HO_10 := n0_; have BK238 := n1_; have BK244 := n2_; have HB := n3_; have HO248 := n4_; clear n0_ n1_ n2_ n3_ n4_; clear ho hb hg hat))
                go_roundg k1
                case measure => have := HK1.out; omega
                case rel => exact ⟨(y246), (wrap64 (x12_1 + 1)), (by first | rfl | (simp; done) | (simp [*]; done)), H', ⟨by have := HK1.out; omega⟩, ⟨by (with_reducible repeat (first | apply Kd.R_alloc | apply Kd.R_drewN | apply Kd.R_drew)); exact HO248.out⟩, ⟨by (with_reducible repeat (first | apply Kd.R_alloc | apply Kd.R_drewN | apply Kd.R_drew)); exact Kd.R_mono HO_10.out (fun _ hk => trivial)⟩, ⟨by (with_reducible repeat (first | refine blk_drewN ?_ _ | refine blk_drew ?_ | refine blk_alloc ?_ _)); exact BK238.out⟩, ⟨by repeat (first | (with_reducible first | exact HB.out | apply below_alloc | apply pw_below_drewN | apply below_drew1 | refine below_set ?_ GE238.out | refine below_set ?_ GE244.out) | exact HB.out)⟩⟩
               ·rw [if_neg c18] at H
                exact absurd H (by simp)
              ·rw [if_neg c17] at H
               have c17b0 : decide (0 < (rd l0 (cidx ((rd_T72 t240 x12_1).f0) ((rd_T72 t240 x12_1).f1) ((rd_T72 t240 x12_1).f2)))) = false := decide_eq_false c17
               clear c17
               by_cases c25 : x3_1.length < 140737488355328
               ·rw [if_pos c25] at H
                have LMc25 := Aside0.mk c25
                clear c25
                obtain ⟨y249, hy249⟩ : ∃ y_ : List Int, y_ = (x3_1 ++ [45]) := ⟨_, rfl⟩
                replace H : (impl_chi_signs.l0 k1 l0 y249 t240 (t240.length : Int) (wrap64 (x12_1 + 1))) = some (r1, r2) := by first | (rw [hy249]; with_reducible exact H) | (have H2_ := (Option.bind_some _ _).symm.trans H; rw [hy249]; with_reducible exact H2_) | (have H2_ := (Option.bind_some _ _).symm.trans H; with_reducible exact H2_) | with_reducible exact H | (rw [hy249]; exact H) | exact H
                have Ny249 := Aside0.mk hy249
                clear hy249
                have H' := Aside0.mk H
                clear H
                have p243 : 0 ≤ (x12_1 : Int) := of_decide_eq_true (by first | (with_reducible assumption) | assumption)
                have q243 : x12_1 < (t240.length : Int) := of_decide_eq_true (by first | (with_reducible assumption) | assumption)
                obtain ⟨ad243, e243, hx243_0, hx243_1, hx243_2⟩ := at_T72 (Kd.R_reads' HO_10.out).2.2 x12_1 p243 q243
                cases e243
                replace p243 := eq_true p243
                replace q243 := eq_true q243
                try go_wp2_with (first | ((with_reducible refine gate_dst (N := 5) rfl ?_); refine bx 5 #[.int .i64 0, .int .i64 0, .int .i64 0] 72 ?_; intro gb244 hg w26 hbox hb; have n0_ := Aside0.mk (Kd.R_below (rr HO_3) hb); have n1_ := Aside0.mk (Kd.R_below (Kd.R_elderB (rr HO_10) gb244 (Nat.le_of_eq hg.symm)) hb); have n2_ := Aside0.mk (blk_below (g := gb238) (o := .cells #[.int .i64 0, .string (⟨#[]⟩ : ByteArray)] 28 (0, 0)) (bk BK238) hb); have n3_ := bsg HB GE238 hb; have n4_ := Aside0.mk (hbox); have n5_ := Aside0.mk ((by rw [hg]; exact (below_size (bg HB GE238)) : w.heap.size ≤ gb244)); have n6_ := Aside0.mk ((by rw [hg]; exact (below_size (bg HB GE238)) : w.heap.size ≤ gb244)); have n7_ := Aside0.mk ((by rw [hg]; exact Nat.ne_of_lt (blk_lt (g := gb238) (o := .cells #[.int .i64 0, .string (⟨#[]⟩ : ByteArray)] 28 (0, 0)) (bk BK238)) : gb238 ≠ gb244)); have n8_ := Aside0.mk ((by rw [hg]; exact Nat.ne_of_gt (blk_lt (g := gb238) (o := .cells #[.int .i64 0, .string (⟨#[]⟩ : ByteArray)] 28 (0, 0)) (bk BK238)) : gb244 ≠ gb238)); clear HO_3; clear HO_10; clear BK238; clear HB; have HO_3 := n0_; have HO_10 := n1_; have BK238 := n2_; have HB := n3_; have BK244 := n4_; have GW244 := n5_; have GE244 := n6_; have NB238_244 := n7_; have NB244_238 := n8_; clear n0_ n1_ n2_ n3_ n4_ n5_ n6_ n7_ n8_; clear hb hbox hg; have hnb27 := NB244_238.out; have hnc27 := NB238_244.out; have hcz28_0 := bc BK244 0; have hcz28_1 := bc BK244 1; have hcz28_2 := bc BK244 2; have hfz28_0 := bf BK244 0; have hfz28_1 := bf BK244 1; have hfz28_2 := bf BK244 2))
                have n0_ : Aside0 (Kd.R (Kd.int .u8) 5 (((w26.setCell ⟨gb244, 0, none⟩ (.int .i64 ((rd_T72 t240 x12_1).f0))).setCell ⟨gb244, 1, none⟩ (.int .i64 ((rd_T72 t240 x12_1).f1))).setCell ⟨gb244, 2, none⟩ (.int .i64 ((rd_T72 t240 x12_1).f2))) w.heap.size (fun _ => True) u3 x3_1) := ⟨by (with_reducible repeat (first | apply Kd.R_alloc | apply Kd.R_drewN | apply Kd.R_drew)); exact Kd.R_mono (Kd.R_far (p := ⟨gb244, 2, none⟩) (Kd.R_far (p := ⟨gb244, 1, none⟩) (Kd.R_far (p := ⟨gb244, 0, none⟩) (Kd.R_types HO_3.out BK244.out (by decide)) (fun _ hk => hk.2) (.int .i64 ((rd_T72 t240 x12_1).f0))) (fun _ hk => hk.2) (.int .i64 ((rd_T72 t240 x12_1).f1))) (fun _ hk => hk.2) (.int .i64 ((rd_T72 t240 x12_1).f2))) (fun _ hk => trivial)⟩
                have n1_ : Aside0 (Kd.R k72 72 (((w26.setCell ⟨gb244, 0, none⟩ (.int .i64 ((rd_T72 t240 x12_1).f0))).setCell ⟨gb244, 1, none⟩ (.int .i64 ((rd_T72 t240 x12_1).f1))).setCell ⟨gb244, 2, none⟩ (.int .i64 ((rd_T72 t240 x12_1).f2))) w.heap.size (fun k_ => k_ ≠ gb244) (.slice (some ad243) t240.length co6) t240) := ⟨by (with_reducible repeat (first | apply Kd.R_alloc | apply Kd.R_drewN | apply Kd.R_drew)); exact Kd.R_mono (Kd.R_far (p := ⟨gb244, 2, none⟩) (Kd.R_far (p := ⟨gb244, 1, none⟩) (Kd.R_far (p := ⟨gb244, 0, none⟩) (Kd.R_mono HO_10.out (fun k_ hk => (⟨hk, hk.2⟩ : _ ∧ k_ ≠ gb244))) (fun _ hk => hk.2) (.int .i64 ((rd_T72 t240 x12_1).f0))) (fun _ hk => hk.2) (.int .i64 ((rd_T72 t240 x12_1).f1))) (fun _ hk => hk.2) (.int .i64 ((rd_T72 t240 x12_1).f2))) (fun _ hk => hk.1.2)⟩
                have n2_ : Aside0 ((((w26.setCell ⟨gb244, 0, none⟩ (.int .i64 ((rd_T72 t240 x12_1).f0))).setCell ⟨gb244, 1, none⟩ (.int .i64 ((rd_T72 t240 x12_1).f1))).setCell ⟨gb244, 2, none⟩ (.int .i64 ((rd_T72 t240 x12_1).f2))).heap[gb238]? = some (.cells #[.int .i64 0, .string (⟨#[]⟩ : ByteArray)] 28 (0, 0))) := ⟨by (with_reducible repeat (first | refine blk_drewN ?_ _ | refine blk_drew ?_ | refine blk_alloc ?_ _)); refine blk_far ?_ NB238_244.out _; (with_reducible repeat (first | refine blk_drewN ?_ _ | refine blk_drew ?_ | refine blk_alloc ?_ _)); refine blk_far ?_ NB238_244.out _; (with_reducible repeat (first | refine blk_drewN ?_ _ | refine blk_drew ?_ | refine blk_alloc ?_ _)); refine blk_far ?_ NB238_244.out _; (with_reducible repeat (first | refine blk_drewN ?_ _ | refine blk_drew ?_ | refine blk_alloc ?_ _)); exact BK238.out⟩
                have n3_ : Aside0 ((((w26.setCell ⟨gb244, 0, none⟩ (.int .i64 ((rd_T72 t240 x12_1).f0))).setCell ⟨gb244, 1, none⟩ (.int .i64 ((rd_T72 t240 x12_1).f1))).setCell ⟨gb244, 2, none⟩ (.int .i64 ((rd_T72 t240 x12_1).f2))).heap[gb244]? = some (.cells #[.int .i64 ((rd_T72 t240 x12_1).f0), .int .i64 ((rd_T72 t240 x12_1).f1), .int .i64 ((rd_T72 t240 x12_1).f2)] 72 (0, 0))) := ⟨by (with_reducible repeat (first | refine blk_drewN ?_ _ | refine blk_drew ?_ | refine blk_alloc ?_ _)); refine blk_put (cs := #[.int .i64 ((rd_T72 t240 x12_1).f0), .int .i64 ((rd_T72 t240 x12_1).f1), .int .i64 0]) ?_ 2 _ rfl; (with_reducible repeat (first | refine blk_drewN ?_ _ | refine blk_drew ?_ | refine blk_alloc ?_ _)); refine blk_put (cs := #[.int .i64 ((rd_T72 t240 x12_1).f0), .int .i64 0, .int .i64 0]) ?_ 1 _ rfl; (with_reducible repeat (first | refine blk_drewN ?_ _ | refine blk_drew ?_ | refine blk_alloc ?_ _)); refine blk_put (cs := #[.int .i64 0, .int .i64 0, .int .i64 0]) ?_ 0 _ rfl; (with_reducible repeat (first | refine blk_drewN ?_ _ | refine blk_drew ?_ | refine blk_alloc ?_ _)); exact BK244.out⟩
                have n4_ : Aside0 (Below w.heap.size w (((w26.setCell ⟨gb244, 0, none⟩ (.int .i64 ((rd_T72 t240 x12_1).f0))).setCell ⟨gb244, 1, none⟩ (.int .i64 ((rd_T72 t240 x12_1).f1))).setCell ⟨gb244, 2, none⟩ (.int .i64 ((rd_T72 t240 x12_1).f2)))) := ⟨by repeat (first | (with_reducible first | exact HB.out | apply below_alloc | apply pw_below_drewN | apply below_drew1 | refine below_set ?_ GE238.out | refine below_set ?_ GE244.out) | exact HB.out)⟩
                (try clear HO_3)
                (try clear HO_10)
                (try clear BK238)
                (try clear BK244)
                (try clear HB)
                generalize (((w26.setCell ⟨gb244, 0, none⟩ (.int .i64 ((rd_T72 t240 x12_1).f0))).setCell ⟨gb244, 1, none⟩ (.int .i64 ((rd_T72 t240 x12_1).f1))).setCell ⟨gb244, 2, none⟩ (.int .i64 ((rd_T72 t240 x12_1).f2))) = w29 at n0_ n1_ n2_ n3_ n4_ ⊢
                have HO_3 := n0_
                have HO_10 := n1_
                have BK238 := n2_
                have BK244 := n3_
                have HB := n4_
                clear n0_ n1_ n2_ n3_ n4_
                have n0_ := Aside0.mk (Kd.R_drew HO_3.out)
                have n1_ := Aside0.mk (Kd.R_drew HO_10.out)
                have n2_ := Aside0.mk (blk_drew BK238.out)
                have n3_ := Aside0.mk (blk_drew BK244.out)
                have n4_ := Aside0.mk (below_drew1 HB.out)
                clear HO_3
                clear HO_10
                clear BK238
                clear BK244
                clear HB
                have HO_3 := n0_
                have HO_10 := n1_
                have BK238 := n2_
                have BK244 := n3_
                have HB := n4_
                clear n0_ n1_ n2_ n3_ n4_
                have cp245_0 : 0 ≤ (((rd_T72 t240 x12_1).f0) : Int) := of_decide_eq_true (by first | (with_reducible assumption) | assumption)
                have cq245_0 : (((rd_T72 t240 x12_1).f0) : Int) < 7 := of_decide_eq_true (by first | (with_reducible assumption) | assumption)
                have cp245_1 : 0 ≤ (((rd_T72 t240 x12_1).f1) : Int) := of_decide_eq_true (by first | (with_reducible assumption) | assumption)
                have cq245_1 : (((rd_T72 t240 x12_1).f1) : Int) < 7 := of_decide_eq_true (by first | (with_reducible assumption) | assumption)
                have cp245_2 : 0 ≤ (((rd_T72 t240 x12_1).f2) : Int) := of_decide_eq_true (by first | (with_reducible assumption) | assumption)
                have cq245_2 : (((rd_T72 t240 x12_1).f2) : Int) < 7 := of_decide_eq_true (by first | (with_reducible assumption) | assumption)
                have cl245 : (344 : Int) ≤ (l0.length : Int) := of_decide_eq_true (by first | (with_reducible assumption) | assumption)
                have p245 : 0 ≤ ((cidx ((rd_T72 t240 x12_1).f0) ((rd_T72 t240 x12_1).f1) ((rd_T72 t240 x12_1).f2)) : Int) := cidx_nonneg _ _ _
                have q245 : (cidx ((rd_T72 t240 x12_1).f0) ((rd_T72 t240 x12_1).f1) ((rd_T72 t240 x12_1).f2)) < (l0.length : Int) := cidx_lt cq245_0 cq245_1 cq245_2 cl245
                obtain ⟨ad245, e245, hx245_0⟩ := Kd.at_int HR0.out (cidx ((rd_T72 t240 x12_1).f0) ((rd_T72 t240 x12_1).f1) ((rd_T72 t240 x12_1).f2)) p245 q245
                have hw245_0 := hx245_0
                (first | rw [chi_add] at hw245_0 | simp only [cidx_nat] at hw245_0)
                obtain rfl : ad239 = ad245 := (by injection e245)
                (first | rw [chi_add] at hx245_0 | simp only [cidx_nat] at hx245_0)
                replace cp245_0 := eq_true cp245_0
                replace cq245_0 := eq_true cq245_0
                replace cp245_1 := eq_true cp245_1
                replace cq245_1 := eq_true cq245_1
                replace cp245_2 := eq_true cp245_2
                replace cq245_2 := eq_true cq245_2
                replace hx245_0 := (HB.out.cell (World.block_lt_of_cell? w _ hx245_0)).trans hx245_0
                replace p245 := eq_true p245
                replace q245 := eq_true q245
                refine start_ (n := 14) (S := fun w' => w'.cell? ⟨gb244, 0, none⟩ = some (.int .i64 ((rd_T72 t240 x12_1).f0)) ∧ w'.cell? ⟨gb244, 1, none⟩ = some (.int .i64 ((rd_T72 t240 x12_1).f1)) ∧ w'.cell? ⟨gb244, 2, none⟩ = some (.int .i64 ((rd_T72 t240 x12_1).f2)) ∧ w'.cell? ⟨ad239.block, ad239.off + 1 + (((rd_T72 t240 x12_1).f0)).toNat * 49 + (((rd_T72 t240 x12_1).f1)).toNat * 7 + (((rd_T72 t240 x12_1).f2)).toNat, none⟩ = some (.int .i64 (rd l0 (cidx ((rd_T72 t240 x12_1).f0) ((rd_T72 t240 x12_1).f1) ((rd_T72 t240 x12_1).f2))))) (ds := []) #[false, false, false, false, false, false, false, false, false, false, false, false, false, false] (by kernel_rfl) rfl rfl ⟨(blk_cell BK244.out 0).trans rfl, (blk_cell BK244.out 1).trans rfl, (blk_cell BK244.out 2).trans rfl, ((HB.out.cell (World.block_lt_of_cell? w _ hw245_0)).trans hw245_0)⟩ (fun hHeld => ?_); refine with_tabW impl_chi_signs.tab5 impl_chi_signs.bits5 (fun HT_ HW_ => ?_)
                generalize w29.drew = w30 at HO_3 HO_10 BK238 BK244 HB hx245_0 hHeld ⊢
                refine pu 0 16 HT_ ?_
                refine pu 1 17 HT_ ?_
                refine pu 3 19 HT_ ?_
                refine pu 5 21 HT_ ?_
                refine pu 7 23 HT_ ?_
                refine pu 8 24 HT_ ?_
                refine take_ (i := 2) (N := some 18) (v := ?_) (a' := ?_) #[true, true, true, true, false, true, false, true, true, false, false, false, false, false] rfl rfl (take_ofW HT_.out HW_.out (by kernel_rfl)) (fun _ _ _ h => h) (Or.inl ⟨by rfl, ?_⟩) hHeld ?_ ?_
                rotate_left
                ·rintro w' ⟨s0, s1, s2, s3⟩
                 go_simp
                 with_reducible rfl
                rotate_left
                ·simp only [Act.put, List.setIfInBounds_toArray, List.set_cons_zero, List.set_cons_succ, i64_w, i32_w]
                 rfl
                refine pu 9 25 HT_ ?_
                refine take_ (i := 4) (N := some 20) (v := ?_) (a' := ?_) #[true, true, true, true, true, true, false, true, true, true, false, false, false, false] rfl rfl (take_ofW HT_.out HW_.out (by kernel_rfl)) (fun _ _ _ h => h) (Or.inl ⟨by rfl, ?_⟩) hHeld ?_ ?_
                rotate_left
                ·rintro w' ⟨s0, s1, s2, s3⟩
                 go_simp
                 with_reducible rfl
                rotate_left
                ·simp only [Act.put, List.setIfInBounds_toArray, List.set_cons_zero, List.set_cons_succ, i64_w, i32_w]
                 rfl
                refine pu 10 26 HT_ ?_
                refine take_ (i := 6) (N := some 22) (v := ?_) (a' := ?_) #[true, true, true, true, true, true, true, true, true, true, true, false, false, false] rfl rfl (take_ofW HT_.out HW_.out (by kernel_rfl)) (fun _ _ _ h => h) (Or.inl ⟨by rfl, ?_⟩) hHeld ?_ ?_
                rotate_left
                ·rintro w' ⟨s0, s1, s2, s3⟩
                 go_simp
                 with_reducible rfl
                rotate_left
                ·simp only [Act.put, List.setIfInBounds_toArray, List.set_cons_zero, List.set_cons_succ, i64_w, i32_w]
                 rfl
                refine pu 11 27 HT_ ?_
                refine take_ (i := 12) (N := some 28) (v := ?_) (a' := ?_) #[true, true, true, true, true, true, true, true, true, true, true, true, true, false] rfl rfl (take_ofW HT_.out HW_.out (by kernel_rfl)) (fun _ _ _ h => h) (Or.inl ⟨by rfl, ?_⟩) hHeld ?_ ?_
                rotate_left
                ·rintro w' ⟨s0, s1, s2, s3⟩
                 go_simp
                 with_reducible rfl
                rotate_left
                ·simp only [Act.put, List.setIfInBounds_toArray, List.set_cons_zero, List.set_cons_succ, i64_w, i32_w]
                 rfl
                refine pu 13 29 HT_ ?_
                refine done_ (done_of HT_.out (by kernel_rfl)) ?_
                try go_wp2_with (first | ((with_reducible refine gate_builtin (b := .append) (xs := #[.tmp 33, .tmp 34]) rfl ?_); at_builtin; refine Kd.R_append (Kd.int .u8) (w0 := w) w.heap.size rfl (.tmp 33) (.tmp 34) 93 5 (.int .u8 0) 1 rfl Try.underlying93 info5 rfl (by decide) (by omega) u3 x3_1 45 [.int .u8 45] (fun _ => True) (fun _ => False) rfl rfl ?aP (fun _ hk => hk.elim) ?aF ?aO ?aB ?aS ?aL ?_; (case aP => exact rfl); (case aB => exact (by repeat (first | (with_reducible first | exact HB.out | apply below_alloc | apply pw_below_drewN | apply below_drew1 | refine below_set ?_ GE238.out | refine below_set ?_ GE244.out) | exact HB.out))); (case aF => exact (fun _ _ => trivial)); (case aO => exact (rr HO_3)); (case aS => exact (below_size (by repeat (first | (with_reducible first | exact HB.out | apply below_alloc | apply pw_below_drewN | apply below_drew1 | refine below_set ?_ GE238.out | refine below_set ?_ GE244.out) | exact HB.out)))); (case aL => have := LMc25.out; omega); intro v250 w31 ho hb hg hat; rw [← Ny249.out] at ho; have n0_ := Aside0.mk (Kd.R_over' (rr HO_10) (Kd.R_typed (rr HO_3)) (by decide) hg); have n1_ := Aside0.mk (blk_grown (g := gb238) (o := .cells #[.int .i64 0, .string (⟨#[]⟩ : ByteArray)] 28 (0, 0)) (bk BK238) hg (Kd.R_ne HO_3.out BK238.out (by decide))); have n2_ := Aside0.mk (blk_grown (g := gb244) (o := .cells #[.int .i64 ((rd_T72 t240 x12_1).f0), .int .i64 ((rd_T72 t240 x12_1).f1), .int .i64 ((rd_T72 t240 x12_1).f2)] 72 (0, 0)) (bk BK244) hg (Kd.R_ne HO_3.out BK244.out (by decide))); have n3_ := Aside0.mk (hb); have n4_ := Aside0.mk (ho); clear HO_10; clear BK238; clear BK244; clear HB; clear HO_3; have HO_10 := n0_; have BK238 := n1_; have BK244 := n2_; have HB := n3_; have HO251 := n4_; clear n0_ n1_ n2_ n3_ n4_; clear ho hb hg hat))
                go_roundg k1
                case measure => have := HK1.out; omega
                case rel => exact ⟨(y249), (wrap64 (x12_1 + 1)), (by first | rfl | (simp; done) | (simp [*]; done)), H', ⟨by have := HK1.out; omega⟩, ⟨by (with_reducible repeat (first | apply Kd.R_alloc | apply Kd.R_drewN | apply Kd.R_drew)); exact HO251.out⟩, ⟨by (with_reducible repeat (first | apply Kd.R_alloc | apply Kd.R_drewN | apply Kd.R_drew)); exact Kd.R_mono HO_10.out (fun _ hk => trivial)⟩, ⟨by (with_reducible repeat (first | refine blk_drewN ?_ _ | refine blk_drew ?_ | refine blk_alloc ?_ _)); exact BK238.out⟩, ⟨by repeat (first | (with_reducible first | exact HB.out | apply below_alloc | apply pw_below_drewN | apply below_drew1 | refine below_set ?_ GE238.out | refine below_set ?_ GE244.out) | exact HB.out)⟩⟩
               ·rw [if_neg c25] at H
                exact absurd H (by simp)
             ·rw [if_neg c16] at H
              exact absurd H (by simp)
            ·rw [if_neg c15] at H
             exact absurd H (by simp)
           ·rw [if_neg c14] at H
            exact absurd H (by simp)
          ·rw [if_neg c13] at H
           exact absurd H (by simp)
         ·rw [if_neg c12] at H
          exact absurd H (by simp)
        ·rw [if_neg c11] at H
         exact absurd H (by simp)
       ·rw [if_neg c10] at H
        exact absurd H (by simp)
      ·rw [if_neg c9] at H
       exact absurd H (by simp)
     ·rw [if_neg c8] at H
      exact absurd H (by simp)
    ·rw [if_neg c7] at H
     have c7b0 : decide (x12_1 < (t240.length : Int)) = false := decide_eq_false c7
     clear c7
     by_cases c32 : 344 ≤ (l0.length : Int)
     ·rw [if_pos c32] at H
      have c32b0 := eq_true c32
      have c32b1 : decide (344 ≤ (l0.length : Int)) = true := decide_eq_true c32
      clear c32
      simp only [Option.some.injEq, Prod.mk.injEq] at H
      obtain ⟨rfl, rfl⟩ := H
      try go_wp2
      have n0_ := Aside0.mk (Kd.R_drew HO_3.out)
      have n1_ := Aside0.mk (Kd.R_drew HO_10.out)
      have n2_ := Aside0.mk (blk_drew BK238.out)
      have n3_ := Aside0.mk (below_drew1 HB.out)
      clear HO_3
      clear HO_10
      clear BK238
      clear HB
      have HO_3 := n0_
      have HO_10 := n1_
      have BK238 := n2_
      have HB := n3_
      clear n0_ n1_ n2_ n3_
      have cl252 : (344 : Int) ≤ (l0.length : Int) := of_decide_eq_true (by first | (with_reducible assumption) | assumption)
      have p252 : 0 ≤ (0 : Int) := (by omega)
      have q252 : 0 < (l0.length : Int) := (by omega)
      obtain ⟨ad252, e252, hx252_0⟩ := Kd.at_int HR0.out 0 p252 q252
      have hw252_0 := hx252_0
      (try rw [show ((0 : Int)).toNat = 0 from rfl] at hw252_0)
      (try rw [show 0 * 1 = 0 from rfl] at hw252_0)
      (try rw [Addr.add_zero'] at hw252_0)
      obtain rfl : ad239 = ad252 := (by injection e252)
      have qi252 : (0 < l0.length) = True := eq_true (by omega)
      (try rw [show ((0 : Int)).toNat = 0 from rfl] at hx252_0)
      (try rw [Addr.add_zero'] at hx252_0)
      replace hx252_0 := (HB.out.cell (World.block_lt_of_cell? w _ hx252_0)).trans hx252_0
      replace p252 := eq_true p252
      replace q252 := eq_true q252
      have hcv34 := own_string (P := Try.prog) Try.underlying93 Try.underlying5 Try.underlying9 (Kd.own_of_R HO_3.out)
      refine start_ (n := 8) (S := fun w' => w'.cell? ad239 = some (.int .i64 (rd l0 0)) ∧ (convert 93 9 u3).run Try.prog w' = .ok (.string (strOfNums x3_1)) w') (ds := [7]) #[false, false, false, false, false, false, false, false] (by kernel_rfl) rfl rfl ⟨(((HB.out.cell (World.block_lt_of_cell? w _ hw252_0)).trans hw252_0)), hcv34⟩ (fun hHeld => ?_); refine with_tabW impl_chi_signs.tab9 impl_chi_signs.bits9 (fun HT_ HW_ => ?_)
      generalize wr.drew = w33 at HO_3 HO_10 BK238 HB hx252_0 hHeld ⊢
      refine pu 0 37 HT_ ?_
      refine pu 1 38 HT_ ?_
      refine pu 2 39 HT_ ?_
      refine pu 4 41 HT_ ?_
      refine take_ (i := 5) (N := some 42) (v := ?_) (a' := ?_) #[true, true, true, false, true, true, false, false] rfl rfl (take_ofW HT_.out HW_.out (by kernel_rfl)) (fun _ _ _ h => h) (Or.inl ⟨by rfl, ?_⟩) hHeld ?_ ?_
      rotate_left
      ·rintro w' ⟨s0, s1⟩
       go_simp
       with_reducible rfl
      rotate_left
      ·simp only [Act.put, List.setIfInBounds_toArray, List.set_cons_zero, List.set_cons_succ, i64_w, i32_w]
       rfl
      refine take_ (i := 3) (N := some 40) (v := ?_) (a' := ?_) #[true, true, true, true, true, true, false, false] rfl rfl (take_ofW HT_.out HW_.out (by kernel_rfl)) (fun _ _ _ h => h) (Or.inl ⟨by rfl, ?_⟩) hHeld ?_ ?_
      rotate_left
      ·rintro w' ⟨s0, s1⟩
       go_simp
       with_reducible rfl
      rotate_left
      ·simp only [Act.put, List.setIfInBounds_toArray, List.set_cons_zero, List.set_cons_succ, i64_w, i32_w]
       rfl
      refine pu 6 43 HT_ ?_
      refine last_ (i := 7) (N := none) #[true, true, true, true, true, true, true, true] rfl rfl (one_of HT_.out (by kernel_rfl)) (by decide) (fun K hK => ?_)
      have hs35 : w33.cell? ⟨gb238, 0, none⟩ = some (.int .i64 0) := (blk_cell BK238.out 0).trans rfl
      have hfs35 := blk_frozen BK238.out 0
      have hs36 : w33.cell? ⟨gb238, 1, none⟩ = some (.string (⟨#[]⟩ : ByteArray)) := (blk_cell BK238.out 1).trans rfl
      have hfs36 := blk_frozen BK238.out 1
      refine skip_ (w1 := ?_) (by rfl) rfl ?_ ?_
      rotate_left
      ·go_simp
       rfl
      refine hK.out _ _ ?_
      clear hK K
      refine done_ (done_of HT_.out (by kernel_rfl)) ?_
      try go_wp2
      refine bodyPost_ret (results_cell_row rfl _ _ gb238 28 #[.int .i64 (rd l0 0), .string (strOfNums x3_1)] (0, 0) _ rfl (by (with_reducible repeat (first | refine blk_drewN ?_ _ | refine blk_drew ?_ | refine blk_alloc ?_ _)); refine blk_put (cs := #[.int .i64 (rd l0 0), .string (⟨#[]⟩ : ByteArray)]) ?_ 1 _ rfl; (with_reducible repeat (first | refine blk_drewN ?_ _ | refine blk_drew ?_ | refine blk_alloc ?_ _)); refine blk_put (cs := #[.int .i64 0, .string (⟨#[]⟩ : ByteArray)]) ?_ 0 _ rfl; (with_reducible repeat (first | refine blk_drewN ?_ _ | refine blk_drew ?_ | refine blk_alloc ?_ _)); exact BK238.out) Try.underlying28 rfl (by kernel_rfl)) rfl ?_
      exact ⟨by first | rfl | (simp [errW_none, errW_some] <;> rfl) | (simp [*, errW_none, errW_some] <;> rfl), (bg HB GE238)⟩
     ·rw [if_neg c32] at H
      exact absurd H (by simp)
 ·rw [if_neg c2] at H
  exact absurd H (by simp)

end Go.Proofs.Ythibphndihjcaaa.P
