-- Printed by a program of this session (wip/tools/myprint.py, over the kit's print.py); not trusted: Lean checks it.
import Derived.Test.YthibphndihjcaaaWAll2
import Derived.Test.YthibphndihjcaaaP0
import Derived.Test.YthibphndihjcaaaOSwap
import Derived.Test.YthibphndihjcaaaOWait
import Derived.Test.YthibphndihjcaaaP47
import Derived.Test.YthibphndihjcaaaP65
namespace Go.Proofs.Ythibphndihjcaaa.P
open Go.RowKit Go.Proofs.YthibphndihjcaaaW.PrintWords Go.Proofs.YthibphndihjcaaaW.PrintLast Go.Proofs.YthibphndihjcaaaW.PrintMore
attribute [local go_sem] max2_int min2_int max_two min_two max_three min_three max_four min_four   -- for this text's walks alone
set_option linter.unusedVariables false
set_option linter.unusedSimpArgs false

/-! ### spec_WiringOfSigns: function 38 -/
mutual
def spec_WiringOfSigns.j0 : Nat → Bool → Int → ByteArray → Option (List Int × Bool)
 | 0, _, _, _ => none
 | k + 1, x16, x502000, x502001 => if x16 = true then (some ((([] : List Int)), false)) else (if 0 ≤ (wrap64 (x502000 * x502000)) then (if (wrap64 (x502000 * x502000) : Int).toNat ≤ 281474976710656 then ((spec_l12Start.f k x502000).bind fun t509 => (spec_WiringOfSigns.l0 k (List.replicate (wrap64 (x502000 * x502000) : Int).toNat false) t509 (([] : List Int)) x502000 x502001)) else (none)) else (none))
def spec_WiringOfSigns.l0 : Nat → List Bool → List Int → List Int → Int → ByteArray → Option (List Int × Bool)
 | 0, _, _, _, _, _ => none
 | k + 1, x4, x5, x6, x502000, x502001 => if (x6.length : Int) < (wrap64 (Int.tdiv (wrap64 (x502000 * (wrap64 (x502000 - 1)))) 2)) then (spec_WiringOfSigns.l1 k x4 x5 x6 (-1) (wrap64 (x502000 - 2)) x502000 x502001) else (some (x6, true))
def spec_WiringOfSigns.l1 : Nat → List Bool → List Int → List Int → Int → Int → Int → ByteArray → Option (List Int × Bool)
 | 0, _, _, _, _, _, _, _ => none
 | k + 1, x4, x5, x6, x7, x8, x502000, x502001 => if x8 ≥ 0 then (if 0 ≤ x8 then (if x8 < (x5.length : Int) then (if 0 ≤ (wrap64 (x8 + 1)) then (if (wrap64 (x8 + 1)) < (x5.length : Int) then (if (rd x5 x8) < (rd x5 (wrap64 (x8 + 1))) then ((spec_l13Waits.f k x502000 x502001 x4 (rd x5 x8) (rd x5 (wrap64 (x8 + 1)))).bind fun t519 => (if t519 = true then (spec_WiringOfSigns.l1 k x4 x5 x6 x7 (wrap64 (x8 - 1)) x502000 x502001) else (spec_WiringOfSigns.l1 k x4 x5 x6 x8 (wrap64 (x8 - 1)) x502000 x502001))) else (spec_WiringOfSigns.l1 k x4 x5 x6 x7 (wrap64 (x8 - 1)) x502000 x502001)) else (none)) else (none)) else (none)) else (none)) else (if x7 < 0 then (some ((([] : List Int)), false)) else (if 0 ≤ x7 then (if x7 < (x5.length : Int) then (if 0 ≤ (wrap64 (x7 + 1)) then (if (wrap64 (x7 + 1)) < (x5.length : Int) then (if 0 ≤ (wrap64 ((wrap64 ((rd x5 x7) * x502000)) + (rd x5 (wrap64 (x7 + 1))))) then (if (wrap64 ((wrap64 ((rd x5 x7) * x502000)) + (rd x5 (wrap64 (x7 + 1))))) < (x4.length : Int) then ((spec_l12Swap.f x5 x7).bind fun bt526 => (if x6.length < 17592186044416 then (spec_WiringOfSigns.l0 k (x4.set ((wrap64 ((wrap64 ((rd x5 x7) * x502000)) + (rd x5 (wrap64 (x7 + 1))))) : Int).toNat true) bt526.2 (x6 ++ [x7]) x502000 x502001) else (none))) else (none)) else (none)) else (none)) else (none)) else (none)) else (none)))
end
def spec_WiringOfSigns.f (k : Nat) (a0_0 : Int) (a0_1 : ByteArray) : Option (List Int × Bool) := (spec_AreSigns.f k a0_0 a0_1).bind fun t502 => (if t502 = true then (spec_WiringOfSigns.j0 k (decide (a0_0 > 6)) a0_0 a0_1) else (spec_WiringOfSigns.j0 k true a0_0 a0_1))
theorem spec_WiringOfSigns.mono_l : ∀ k, (∀ y0 y1 y2, LeO (spec_WiringOfSigns.j0 k y0 y1 y2) (spec_WiringOfSigns.j0 (k + 1) y0 y1 y2)) ∧ (∀ y0 y1 y2 y3 y4, LeO (spec_WiringOfSigns.l0 k y0 y1 y2 y3 y4) (spec_WiringOfSigns.l0 (k + 1) y0 y1 y2 y3 y4)) ∧ (∀ y0 y1 y2 y3 y4 y5 y6, LeO (spec_WiringOfSigns.l1 k y0 y1 y2 y3 y4 y5 y6) (spec_WiringOfSigns.l1 (k + 1) y0 y1 y2 y3 y4 y5 y6))
 | 0 => ⟨fun _ _ _ r h => by simp [spec_WiringOfSigns.j0] at h, fun _ _ _ _ _ r h => by simp [spec_WiringOfSigns.l0] at h, fun _ _ _ _ _ _ _ r h => by simp [spec_WiringOfSigns.l1] at h⟩
 | k + 1 => by
  obtain ⟨ih0, ih1, ih2⟩ := spec_WiringOfSigns.mono_l k
  refine ⟨?_, ?_, ?_⟩
  ·intro y0 y1 y2
   unfold spec_WiringOfSigns.j0
   repeat' first
   | (with_reducible exact ih0 _ _ _)
   | (with_reducible exact ih1 _ _ _ _ _)
   | (with_reducible exact ih2 _ _ _ _ _ _ _)
   | (with_reducible exact spec_AreSigns.mono _ _ _)
   | (with_reducible exact spec_l12Start.mono _ _)
   | (with_reducible exact spec_l13Waits.mono _ _ _ _ _ _)
   | (with_reducible exact LeO.refl _)
   | (with_reducible exact LeO.none _)
   | (with_reducible refine LeO.ite ?_ ?_)
   | (with_reducible refine LeO.bind ?_ (fun _ => ?_))
   | exact ih0 _ _ _
   | exact ih1 _ _ _ _ _
   | exact ih2 _ _ _ _ _ _ _
   | exact spec_AreSigns.mono _ _ _
   | exact spec_l12Start.mono _ _
   | exact spec_l13Waits.mono _ _ _ _ _ _
   | exact LeO.none _
   | refine LeO.ite ?_ ?_
   | refine LeO.bind ?_ (fun _ => ?_)
  ·intro y0 y1 y2 y3 y4
   unfold spec_WiringOfSigns.l0
   repeat' first
   | (with_reducible exact ih0 _ _ _)
   | (with_reducible exact ih1 _ _ _ _ _)
   | (with_reducible exact ih2 _ _ _ _ _ _ _)
   | (with_reducible exact spec_AreSigns.mono _ _ _)
   | (with_reducible exact spec_l12Start.mono _ _)
   | (with_reducible exact spec_l13Waits.mono _ _ _ _ _ _)
   | (with_reducible exact LeO.refl _)
   | (with_reducible exact LeO.none _)
   | (with_reducible refine LeO.ite ?_ ?_)
   | (with_reducible refine LeO.bind ?_ (fun _ => ?_))
   | exact ih0 _ _ _
   | exact ih1 _ _ _ _ _
   | exact ih2 _ _ _ _ _ _ _
   | exact spec_AreSigns.mono _ _ _
   | exact spec_l12Start.mono _ _
   | exact spec_l13Waits.mono _ _ _ _ _ _
   | exact LeO.none _
   | refine LeO.ite ?_ ?_
   | refine LeO.bind ?_ (fun _ => ?_)
  ·intro y0 y1 y2 y3 y4 y5 y6
   unfold spec_WiringOfSigns.l1
   repeat' first
   | (with_reducible exact ih0 _ _ _)
   | (with_reducible exact ih1 _ _ _ _ _)
   | (with_reducible exact ih2 _ _ _ _ _ _ _)
   | (with_reducible exact spec_AreSigns.mono _ _ _)
   | (with_reducible exact spec_l12Start.mono _ _)
   | (with_reducible exact spec_l13Waits.mono _ _ _ _ _ _)
   | (with_reducible exact LeO.refl _)
   | (with_reducible exact LeO.none _)
   | (with_reducible refine LeO.ite ?_ ?_)
   | (with_reducible refine LeO.bind ?_ (fun _ => ?_))
   | exact ih0 _ _ _
   | exact ih1 _ _ _ _ _
   | exact ih2 _ _ _ _ _ _ _
   | exact spec_AreSigns.mono _ _ _
   | exact spec_l12Start.mono _ _
   | exact spec_l13Waits.mono _ _ _ _ _ _
   | exact LeO.none _
   | refine LeO.ite ?_ ?_
   | refine LeO.bind ?_ (fun _ => ?_)
theorem spec_WiringOfSigns.mono : ∀ a0 a1 k, LeO (spec_WiringOfSigns.f k a0 a1) (spec_WiringOfSigns.f (k + 1) a0 a1) := by
 intro a0 a1 k
 obtain ⟨ih0, ih1, ih2⟩ := spec_WiringOfSigns.mono_l k
 unfold spec_WiringOfSigns.f
 repeat' first
   | (with_reducible exact ih0 _ _ _)
   | (with_reducible exact ih1 _ _ _ _ _)
   | (with_reducible exact ih2 _ _ _ _ _ _ _)
   | (with_reducible exact spec_AreSigns.mono _ _ _)
   | (with_reducible exact spec_l12Start.mono _ _)
   | (with_reducible exact spec_l13Waits.mono _ _ _ _ _ _)
   | (with_reducible exact LeO.refl _)
   | (with_reducible exact LeO.none _)
   | (with_reducible refine LeO.ite ?_ ?_)
   | (with_reducible refine LeO.bind ?_ (fun _ => ?_))
   | exact ih0 _ _ _
   | exact ih1 _ _ _ _ _
   | exact ih2 _ _ _ _ _ _ _
   | exact spec_AreSigns.mono _ _ _
   | exact spec_l12Start.mono _ _
   | exact spec_l13Waits.mono _ _ _ _ _ _
   | exact LeO.none _
   | refine LeO.ite ?_ ?_
   | refine LeO.bind ?_ (fun _ => ?_)
def spec_WiringOfSigns.T11 : Bool × List (List Nat × List Nat) := (true, [([], []), ([], []), ([0, 1], [0, 1]), ([2], [2]), ([], []), ([], []), ([5], [5]), ([4, 6], [4, 6]), ([7], [7]), ([3, 8], [3, 8]), ([9], [9]), ([10], [10]), ([10], [10]), ([10], [10]), ([10], [10]), ([13, 14, 10], [10, 13, 14]), ([15, 10], [10, 15]), ([10], [10]), ([10], [10]), ([18, 10], [10, 18]), ([17, 19, 10], [10, 17, 19]), ([20, 10], [10, 20]), ([11, 12, 16, 21, 10, 10], [10, 11, 12, 16, 21]), ([22, 10], [10, 22]), ([10, 23], [10, 23])])
def spec_WiringOfSigns.B11 : List Nat := [0, 0, 3, 7, 0, 0, 32, 112, 240, 511, 1023, 2047, 2047, 2047, 2047, 26623, 59391, 2047, 2047, 264191, 919551, 1968127, 4194303, 8388607, 16777215]
theorem spec_WiringOfSigns.tab11 : rtab .any (opsOf Try.f38 11) = spec_WiringOfSigns.T11 := by kernel_rfl
theorem spec_WiringOfSigns.bits11 : waitsOk spec_WiringOfSigns.T11.2 spec_WiringOfSigns.B11 = true := by kernel_rfl
def spec_WiringOfSigns.T15 : Bool × List (List Nat × List Nat) := (true, [([], []), ([], []), ([], []), ([1, 2], [1, 2]), ([3], [3]), ([], []), ([5], [5]), ([4, 6], [4, 6]), ([], []), ([], []), ([9], [9]), ([8, 10], [8, 10]), ([11], [11]), ([7, 12], [7, 12]), ([0, 13, 0, 1, 2, 3, 4, 5, 6, 7, 8, 9, 10, 11, 12, 13], [0, 13]), ([14, 0, 1, 2, 3, 4, 5, 6, 7, 8, 9, 10, 11, 12, 13], [14])])
def spec_WiringOfSigns.B15 : List Nat := [0, 0, 0, 6, 14, 0, 32, 126, 0, 0, 512, 1792, 3840, 8190, 16383, 32767]
theorem spec_WiringOfSigns.tab15 : rtab .any (opsOf Try.f38 15) = spec_WiringOfSigns.T15 := by kernel_rfl
theorem spec_WiringOfSigns.bits15 : waitsOk spec_WiringOfSigns.T15.2 spec_WiringOfSigns.B15 = true := by kernel_rfl
set_option maxHeartbeats 8000000 in
set_option maxRecDepth 100000 in
theorem spec_WiringOfSigns.calls (k : Nat) (a0_0 : Int) (a0_1 : ByteArray) (r1 : List Int) (r2 : Bool) (w : World) (h : spec_WiringOfSigns.f k a0_0 a0_1 = some (r1, r2)) :
  Calls Try.prog 38 #[.agg #[.int .i64 a0_0, .string a0_1]] w fun e w' => ∃ v0_ : Value, e = .returned (.tuple #[v0_, .bool r2]) ∧ Kd.R (Kd.int .i64) 3 w' w.heap.size (fun _ => True) v0_ r1 ∧ Below w.heap.size w w' := by
 have hu28 := Try.underlying28
 have HB := Aside0.mk (Below.refl w.heap.size w)
 have H : ((spec_AreSigns.f k a0_0 a0_1).bind fun t502 => (if t502 = true then (spec_WiringOfSigns.j0 k (decide (a0_0 > 6)) a0_0 a0_1) else (spec_WiringOfSigns.j0 k true a0_0 a0_1))) = some (r1, r2) := h
 clear h
 have HC2 := Aside0.mk H
 clear H
 go_enter Try.func38, Try.ntmps38
 go_upto_region 1 with (first | ((with_reducible refine gate_dst (N := 1) rfl ?_); refine bx 1 #[.int .i64 a0_0, .string a0_1] 28 ?_; intro gb501 hg w3 hbox hb; have BK501 := Aside0.mk hbox; have GE501 := gs HB hg; have GW501 := GE501; replace HB := bs HB hb; clear hb hbox hg))
 (try simp only [Act.put, List.setIfInBounds_toArray, List.set_cons_zero, List.set_cons_succ])
 go_cut [16] (fun v16 wc => ∃ (kq : Nat) (x16_1 : Bool), v16 = .bool x16_1 ∧ Aside0 (spec_WiringOfSigns.j0 kq x16_1 a0_0 a0_1 = some (r1, r2)) ∧ Aside0 (kq ≤ k) ∧ Aside0 (wc.heap[gb501]? = some (.cells #[.int .i64 a0_0, .string a0_1] 28 (0, 0))) ∧ Aside0 (Below w.heap.size w wc))
 case first =>
  have H := HC2.out
  clear HC2
  replace H := Option.bind_eq_some_iff.mp H
  obtain ⟨t502, A40, H⟩ := H
  (try dsimp only at H)
  have A4 := Aside0.mk A40
  clear A40
  by_cases c5 : t502 = true
  ·subst c5
   have H1 : (spec_WiringOfSigns.j0 k (decide (a0_0 > 6)) a0_0 a0_1) = some (r1, r2) := by rw [if_pos rfl] at H; exact H
   clear H
   have H := H1
   clear H1
   have H' := Aside0.mk H
   clear H
   have hcz6_0 := bc BK501 0
   have hcz6_1 := bc BK501 1
   have hfz6_0 := bf BK501 0
   have hfz6_1 := bf BK501 1
   go_wp2_with (first | ((with_reducible refine gate_callee (f := 65) rfl ?_); refine gL (some 10) rfl rfl Try.func65 (by kernel_rfl) rfl #[.agg #[.int .i64 a0_0, .string a0_1]] rfl ?_; (with_reducible refine (spec_AreSigns.calls k a0_0 a0_1 true _ A4.out).mono ?_); rintro e w7 ⟨rfl, hb⟩; refine ⟨_, rfl, ?_⟩; have n0_ := Aside0.mk (blk_below (g := gb501) (o := .cells #[.int .i64 a0_0, .string a0_1] 28 (0, 0)) (bk BK501) hb); have n1_ := bsg HB GE501 hb; clear BK501; clear HB; have BK501 := n0_; have HB := n1_; clear n0_ n1_; (try clear hb); (try clear hb2); (try clear hk); (try clear hi); have hcz8_0 := bc BK501 0; have hcz8_1 := bc BK501 1; have hfz8_0 := bf BK501 0; have hfz8_1 := bf BK501 1))
   go_meet
   case rel => exact ⟨_, (decide (a0_0 > 6)), (by first | rfl | (simp; done) | (simp [*]; done)), H', ⟨by first | omega | exact Nat.le_refl _⟩, ⟨by (with_reducible repeat (first | refine blk_drewN ?_ _ | refine blk_drew ?_ | refine blk_alloc ?_ _)); exact BK501.out⟩, ⟨(bg HB GE501)⟩⟩
  ·replace c5 := Bool.eq_false_iff.mpr c5
   subst c5
   have H1 : (spec_WiringOfSigns.j0 k true a0_0 a0_1) = some (r1, r2) := by rw [if_neg (show ¬ (false = true) by decide)] at H; exact H
   clear H
   have H := H1
   clear H1
   have H' := Aside0.mk H
   clear H
   have hcz9_0 := bc BK501 0
   have hcz9_1 := bc BK501 1
   have hfz9_0 := bf BK501 0
   have hfz9_1 := bf BK501 1
   go_wp2_with (first | ((with_reducible refine gate_callee (f := 65) rfl ?_); refine gL (some 10) rfl rfl Try.func65 (by kernel_rfl) rfl #[.agg #[.int .i64 a0_0, .string a0_1]] rfl ?_; (with_reducible refine (spec_AreSigns.calls k a0_0 a0_1 false _ A4.out).mono ?_); rintro e w10 ⟨rfl, hb⟩; refine ⟨_, rfl, ?_⟩; have n0_ := Aside0.mk (blk_below (g := gb501) (o := .cells #[.int .i64 a0_0, .string a0_1] 28 (0, 0)) (bk BK501) hb); have n1_ := bsg HB GE501 hb; clear BK501; clear HB; have BK501 := n0_; have HB := n1_; clear n0_ n1_; (try clear hb); (try clear hb2); (try clear hk); (try clear hi)))
   go_meet
   case rel => exact ⟨_, (true), (by first | rfl | (simp; done) | (simp [*]; done)), H', ⟨by first | omega | exact Nat.le_refl _⟩, ⟨by (with_reducible repeat (first | refine blk_drewN ?_ _ | refine blk_drew ?_ | refine blk_alloc ?_ _)); exact BK501.out⟩, ⟨(bg HB GE501)⟩⟩
 case rest =>
  clear HC2
  try clear p2
  try clear c3
  try clear c5
  try clear c6
  try clear hcz6_0
  try clear hcz6_1
  try clear hcz8_0
  try clear hcz8_1
  try clear hcz9_0
  try clear hcz9_1
  try clear hfz6_0
  try clear hfz6_1
  try clear hfz8_0
  try clear hfz8_1
  try clear hfz9_0
  try clear hfz9_1
  obtain ⟨kq, x16_1, rfl, HA, HJ1, BK501, HB⟩ := hcut
  cases kq with
  | zero => exact absurd HA.out (by simp [spec_WiringOfSigns.j0])
  | succ kj1 =>
   have H := HA.out
   clear HA
   simp only [spec_WiringOfSigns.j0] at H
   by_cases c11 : x16_1 = true
   ·subst c11
    have H1 : (some ((([] : List Int)), false)) = some (r1, r2) := by rw [if_pos rfl] at H; exact H
    clear H
    have H := H1
    clear H1
    obtain ⟨y503, hy503⟩ : ∃ y_ : List Int, y_ = (([] : List Int)) := ⟨_, rfl⟩
    replace H : (some (y503, false)) = some (r1, r2) := by first | (rw [hy503]; with_reducible exact H) | (have H2_ := (Option.bind_some _ _).symm.trans H; rw [hy503]; with_reducible exact H2_) | (have H2_ := (Option.bind_some _ _).symm.trans H; with_reducible exact H2_) | with_reducible exact H | (rw [hy503]; exact H) | exact H
    have Ny503 := Aside0.mk hy503
    clear hy503
    simp only [Option.some.injEq, Prod.mk.injEq] at H
    obtain ⟨rfl, rfl⟩ := H
    go_wp2_with (first | ((with_reducible refine gate_dst (N := 17) rfl ?_); refine Kd.R_lit (Kd.int .i64) _ 3 ?hg (N := 17) ?hd (xs := ([] : List Int)) (inner := []) (ok := fun _ => True) (okp := fun _ => True) ?hr ?hp (fun _ hk => hk) trivial (Below.refl _ _) (Nat.le_refl _) (by simp) ?_; (case hd => rfl); (case hg => rfl); (case hr => first | (go_simp; done) | (go_simp; rfl)); (case hp => exact (Reps.none _ _)); intro v504 w12 ho13 hb hg_ hnew_; clear hg_ hnew_; (first | rw [← Ny503.out] at ho13 | (simp only [Int.reduceToNat] at ho13; rw [← Ny503.out] at ho13)); have n0_ := Aside0.mk (Kd.R_lower ho13 (below_size (bg HB GE501))); have n1_ := Aside0.mk (blk_below (g := gb501) (o := .cells #[.int .i64 a0_0, .string a0_1] 28 (0, 0)) (bk BK501) hb); have n2_ := bsg HB GE501 hb; clear BK501; clear HB; have HO505 := n0_; have BK501 := n1_; have HB := n2_; clear n0_ n1_ n2_; clear hb ho13))
    go_ret2
    exact ⟨_, by first | rfl | (simp [errW_none, errW_some] <;> rfl) | (simp [*, errW_none, errW_some] <;> rfl), by (with_reducible repeat (first | apply Kd.R_alloc | apply Kd.R_drewN | apply Kd.R_drew)); exact HO505.out, (bg HB GE501)⟩
   ·replace c11 := Bool.eq_false_iff.mpr c11
    subst c11
    have H1 : (if 0 ≤ (wrap64 (a0_0 * a0_0)) then (if (wrap64 (a0_0 * a0_0) : Int).toNat ≤ 281474976710656 then ((spec_l12Start.f kj1 a0_0).bind fun t509 => (spec_WiringOfSigns.l0 kj1 (List.replicate (wrap64 (a0_0 * a0_0) : Int).toNat false) t509 (([] : List Int)) a0_0 a0_1)) else (none)) else (none)) = some (r1, r2) := by rw [if_neg (show ¬ (false = true) by decide)] at H; exact H
    clear H
    have H := H1
    clear H1
    obtain ⟨ji14, hji14⟩ : ∃ j_ : Int, (wrap64 (a0_0 * a0_0)) = j_ := ⟨_, rfl⟩
    replace H : (if 0 ≤ (ji14) then (if (ji14 : Int).toNat ≤ 281474976710656 then ((spec_l12Start.f kj1 a0_0).bind fun t509 => (spec_WiringOfSigns.l0 kj1 (List.replicate (ji14 : Int).toNat false) t509 (([] : List Int)) a0_0 a0_1)) else (none)) else (none)) = some (r1, r2) := by first | (rw [hji14] at H; exact H) | (simp only [hji14] at H ⊢; exact H)
    have hji14w : (IntKind.i64.wrap (a0_0 * a0_0)) = ji14 := (i64_w _).trans hji14
    by_cases c15 : 0 ≤ (ji14)
    ·rw [if_pos c15] at H
     have c15b0 := eq_true c15
     have c15b1 : decide (0 ≤ (ji14)) = true := decide_eq_true c15
     clear c15
     by_cases c16 : (ji14 : Int).toNat ≤ 281474976710656
     ·rw [if_pos c16] at H
      have c16b0 := eq_true c16
      have c16b1 : decide ((ji14 : Int).toNat ≤ 281474976710656) = true := decide_eq_true c16
      clear c16
      obtain ⟨y506, hy506⟩ : ∃ y_ : List Bool, y_ = (List.replicate (ji14 : Int).toNat false) := ⟨_, rfl⟩
      replace H : ((spec_l12Start.f kj1 a0_0).bind fun t509 => (spec_WiringOfSigns.l0 kj1 y506 t509 (([] : List Int)) a0_0 a0_1)) = some (r1, r2) := by first | (rw [hy506]; with_reducible exact H) | (have H2_ := (Option.bind_some _ _).symm.trans H; rw [hy506]; with_reducible exact H2_) | (have H2_ := (Option.bind_some _ _).symm.trans H; with_reducible exact H2_) | with_reducible exact H | (rw [hy506]; exact H) | exact H
      have Ny506 := Aside0.mk hy506
      clear hy506
      replace H := Option.bind_eq_some_iff.mp H
      obtain ⟨t509, A170, H⟩ := H
      (try dsimp only at H)
      have A17 := Aside0.mk A170
      clear A170
      obtain ⟨y512, hy512⟩ : ∃ y_ : List Int, y_ = (([] : List Int)) := ⟨_, rfl⟩
      replace H : (spec_WiringOfSigns.l0 kj1 y506 t509 y512 a0_0 a0_1) = some (r1, r2) := by first | (rw [hy512]; with_reducible exact H) | (have H2_ := (Option.bind_some _ _).symm.trans H; rw [hy512]; with_reducible exact H2_) | (have H2_ := (Option.bind_some _ _).symm.trans H; with_reducible exact H2_) | with_reducible exact H | (rw [hy512]; exact H) | exact H
      have Ny512 := Aside0.mk hy512
      clear hy512
      have H' := Aside0.mk H
      clear H
      have hcz18_0 := bc BK501 0
      have hcz18_1 := bc BK501 1
      have hfz18_0 := bf BK501 0
      have hfz18_1 := bf BK501 1
      go_wp2_with (first | ((with_reducible refine gate_dst (N := 23) rfl ?_); refine Kd.R_make Kd.bool _ 4 rfl (N := 23) rfl 77 _ _ rfl ji14 rfl rfl Try.underlying77 (.bool false) 1 info4 rfl (by decide) (by omega) false (ok := fun _ => True) (okp := fun _ => True) rfl (fun _ hk => hk) trivial (of_decide_eq_true (by first | (with_reducible assumption) | assumption)) (Nat.le_trans (Nat.mul_le_mul_right _ (of_decide_eq_true (by first | (with_reducible assumption) | assumption) : ji14.toNat ≤ 281474976710656)) (by omega)) (Below.refl _ _) (Nat.le_refl _) ?_; intro v507 w19 ho20 hb hg_ hnew_; clear hg_ hnew_; (first | rw [← Ny506.out] at ho20 | (simp only [Int.reduceToNat] at ho20; rw [← Ny506.out] at ho20)); have n0_ := Aside0.mk (Kd.R_lower ho20 (below_size (bg HB GE501))); have n1_ := Aside0.mk (blk_below (g := gb501) (o := .cells #[.int .i64 a0_0, .string a0_1] 28 (0, 0)) (bk BK501) hb); have n2_ := bsg HB GE501 hb; clear BK501; clear HB; have HO508 := n0_; have BK501 := n1_; have HB := n2_; clear n0_ n1_ n2_; clear hb ho20; have hcz21_0 := bc BK501 0; have hcz21_1 := bc BK501 1; have hfz21_0 := bf BK501 0; have hfz21_1 := bf BK501 1) | ((with_reducible refine gate_callee (f := 48) rfl ?_); refine gL (some 26) rfl rfl Try.func48 (by kernel_rfl) rfl #[.int .i64 a0_0] rfl ?_; (with_reducible refine (spec_l12Start.calls kj1 a0_0 t509 _ A17.out).mono ?_); rintro e w22 ⟨v510, rfl, ho0, hb⟩; refine ⟨_, rfl, ?_⟩; have n0_ := Aside0.mk (Kd.R_below (rr HO508) hb); have n1_ := Aside0.mk (Kd.R_lower ho0 (below_size (bg HB GE501))); have n2_ := Aside0.mk (blk_below (g := gb501) (o := .cells #[.int .i64 a0_0, .string a0_1] 28 (0, 0)) (bk BK501) hb); have n3_ := bsg HB GE501 hb; clear HO508; clear BK501; clear HB; have HO508 := n0_; have HO511 := n1_; have BK501 := n2_; have HB := n3_; clear n0_ n1_ n2_ n3_; (try clear hb); (try clear hb2); (try clear hk); (try clear hi); (try clear ho0)) | ((with_reducible refine gate_dst (N := 27) rfl ?_); refine Kd.R_lit (Kd.int .i64) _ 3 ?hg (N := 27) ?hd (xs := ([] : List Int)) (inner := []) (ok := fun _ => True) (okp := fun _ => True) ?hr ?hp (fun _ hk => hk) trivial (Below.refl _ _) (Nat.le_refl _) (by simp) ?_; (case hd => rfl); (case hg => rfl); (case hr => first | (go_simp; done) | (go_simp; rfl)); (case hp => exact (Reps.none _ _)); intro v513 w23 ho24 hb hg_ hnew_; clear hg_ hnew_; (first | rw [← Ny512.out] at ho24 | (simp only [Int.reduceToNat] at ho24; rw [← Ny512.out] at ho24)); have n0_ := Aside0.mk (Kd.R_below (rr HO508) hb); have n1_ := Aside0.mk (Kd.R_elder' (rr HO511) (Kd.R_base ho24) hb); have n2_ := Aside0.mk (Kd.R_lower (Kd.R_new' ho24 (Kd.R_lt (rr HO511))) (below_size (bg HB GE501))); have n3_ := Aside0.mk (blk_below (g := gb501) (o := .cells #[.int .i64 a0_0, .string a0_1] 28 (0, 0)) (bk BK501) hb); have n4_ := bsg HB GE501 hb; clear HO508; clear HO511; clear BK501; clear HB; have HO508 := n0_; have HO511 := n1_; have HO514 := n2_; have BK501 := n3_; have HB := n4_; clear n0_ n1_ n2_ n3_ n4_; clear hb ho24))
      go_loopg [6] kj1 (fun kq v6 w' => ∃ (x4_2 : List Bool) (x5_2 : List Int) (x6_2 : List Int), Aside0 (spec_WiringOfSigns.l0 kq x4_2 x5_2 x6_2 a0_0 a0_1 = some (r1, r2)) ∧ Aside0 (kq ≤ kj1) ∧ Aside0 (Kd.R Kd.bool 4 w' w.heap.size (fun _ => True) v507 x4_2) ∧ Aside0 (Kd.R (Kd.int .i64) 3 w' w.heap.size (fun k_ => some k_ ≠ (v6 : Value).ownBlock) v510 x5_2) ∧ Aside0 (Kd.R (Kd.int .i64) 3 w' w.heap.size (fun k_ => some k_ ≠ (v510 : Value).ownBlock) v6 x6_2) ∧ Aside0 (w'.heap[gb501]? = some (.cells #[.int .i64 a0_0, .string a0_1] 28 (0, 0))) ∧ Aside0 (Below w.heap.size w w'))
      case atStart => exact ⟨(y506), (t509), (y512), H', ⟨Nat.le_refl _⟩, ⟨by (with_reducible repeat (first | apply Kd.R_alloc | apply Kd.R_drewN | apply Kd.R_drew)); exact HO508.out⟩, ⟨by (with_reducible repeat (first | apply Kd.R_alloc | apply Kd.R_drewN | apply Kd.R_drew)); exact Kd.R_mono HO511.out (fun _ hk => hk.2)⟩, ⟨by (with_reducible repeat (first | apply Kd.R_alloc | apply Kd.R_drewN | apply Kd.R_drew)); exact Kd.R_mono HO514.out (fun _ hk => hk.2)⟩, ⟨by (with_reducible repeat (first | refine blk_drewN ?_ _ | refine blk_drew ?_ | refine blk_alloc ?_ _)); exact BK501.out⟩, ⟨(bg HB GE501)⟩⟩
      case round =>
       clear H'
       try clear c1
       try clear p2
       try clear c3
       try clear c4
       try clear c5
       try clear c6
       try clear p6
       try clear c11
       try clear c15
       try clear c15b0
       try clear c15b1
       try clear c16
       try clear c16b0
       try clear c16b1
       try clear hcz18_0
       try clear hcz18_1
       try clear hcz21_0
       try clear hcz21_1
       try clear hcz6_0
       try clear hcz6_1
       try clear hcz8_0
       try clear hcz8_1
       try clear hcz9_0
       try clear hcz9_1
       try clear hfz18_0
       try clear hfz18_1
       try clear hfz21_0
       try clear hfz21_1
       try clear hfz6_0
       try clear hfz6_1
       try clear hfz8_0
       try clear hfz8_1
       try clear hfz9_0
       try clear hfz9_1
       try clear p2
       obtain ⟨x4_2, x5_2, x6_2, HA, HK2, HO_4, HO_5, HO_6, BK501, HB⟩ := hrel
       cases gk with
       | zero => exact absurd HA.out (by simp [spec_WiringOfSigns.l0])
       | succ k2 =>
        have H := HA.out
        clear HA
        simp only [spec_WiringOfSigns.l0] at H
        by_cases c25 : (x6_2.length : Int) < (wrap64 (Int.tdiv (wrap64 (a0_0 * (wrap64 (a0_0 - 1)))) 2))
        ·rw [if_pos c25] at H
         have c25b0 : decide ((x6_2.length : Int) < (wrap64 (Int.tdiv (wrap64 (a0_0 * (wrap64 (a0_0 - 1)))) 2))) = true := decide_eq_true c25
         clear c25
         have H' := Aside0.mk H
         clear H
         obtain ⟨Ao26, co26, eo26⟩ := Kd.R_slice HO_6.out
         subst eo26
         have hcz27_0 := bc BK501 0
         have hcz27_1 := bc BK501 1
         have hfz27_0 := bf BK501 0
         have hfz27_1 := bf BK501 1
         go_wp2
         go_loopg [7, 8] k2 (fun kq v7 v8 w' => ∃ (x7_3 : Int) (x8_3 : Int), v7 = .int .i64 x7_3 ∧ v8 = .int .i64 x8_3 ∧ Aside0 (spec_WiringOfSigns.l1 kq x4_2 x5_2 x6_2 x7_3 x8_3 a0_0 a0_1 = some (r1, r2)) ∧ Aside0 (kq ≤ k2) ∧ Aside0 (Kd.R Kd.bool 4 w' w.heap.size (fun _ => True) v507 x4_2) ∧ Aside0 (Kd.R (Kd.int .i64) 3 w' w.heap.size (fun k_ => some k_ ≠ ((.slice Ao26 x6_2.length co26) : Value).ownBlock) v510 x5_2) ∧ Aside0 (Kd.R (Kd.int .i64) 3 w' w.heap.size (fun k_ => some k_ ≠ (v510 : Value).ownBlock) (.slice Ao26 x6_2.length co26) x6_2) ∧ Aside0 (w'.heap[gb501]? = some (.cells #[.int .i64 a0_0, .string a0_1] 28 (0, 0))) ∧ Aside0 (Below w.heap.size w w'))
         case atStart => exact ⟨((-1)), (wrap64 (a0_0 - 2)), (by first | rfl | (simp; done) | (simp [*]; done)), (by first | rfl | (simp; done) | (simp [*]; done)), H', ⟨Nat.le_refl _⟩, ⟨by (with_reducible repeat (first | apply Kd.R_alloc | apply Kd.R_drewN | apply Kd.R_drew)); exact HO_4.out⟩, ⟨by (with_reducible repeat (first | apply Kd.R_alloc | apply Kd.R_drewN | apply Kd.R_drew)); exact HO_5.out⟩, ⟨by (with_reducible repeat (first | apply Kd.R_alloc | apply Kd.R_drewN | apply Kd.R_drew)); exact HO_6.out⟩, ⟨by (with_reducible repeat (first | refine blk_drewN ?_ _ | refine blk_drew ?_ | refine blk_alloc ?_ _)); exact BK501.out⟩, ⟨(bg HB GE501)⟩⟩
         case round =>
          clear H'
          try clear c1
          try clear c2
          try clear p2
          try clear c3
          try clear c4
          try clear c5
          try clear c6
          try clear p6
          try clear c11
          try clear c15
          try clear c15b0
          try clear c15b1
          try clear c16
          try clear c16b0
          try clear c16b1
          try clear c25
          try clear c25b0
          try clear hcz18_0
          try clear hcz18_1
          try clear hcz21_0
          try clear hcz21_1
          try clear hcz27_0
          try clear hcz27_1
          try clear hcz6_0
          try clear hcz6_1
          try clear hcz8_0
          try clear hcz8_1
          try clear hcz9_0
          try clear hcz9_1
          try clear hfz18_0
          try clear hfz18_1
          try clear hfz21_0
          try clear hfz21_1
          try clear hfz27_0
          try clear hfz27_1
          try clear hfz6_0
          try clear hfz6_1
          try clear hfz8_0
          try clear hfz8_1
          try clear hfz9_0
          try clear hfz9_1
          try clear p2
          try clear p6
          obtain ⟨x7_3, x8_3, rfl, rfl, HA, HK3, HO_4, HO_5, HO_6, BK501, HB⟩ := hrel
          cases gk with
          | zero => exact absurd HA.out (by simp [spec_WiringOfSigns.l1])
          | succ k3 =>
           have H := HA.out
           clear HA
           simp only [spec_WiringOfSigns.l1] at H
           by_cases c28 : x8_3 ≥ 0
           ·rw [if_pos c28] at H
            have c28b0 : decide (0 ≤ x8_3) = true := decide_eq_true c28
            clear c28
            by_cases c29 : 0 ≤ x8_3
            ·rw [if_pos c29] at H
             have c29b0 : decide (0 ≤ x8_3) = true := decide_eq_true c29
             clear c29
             by_cases c30 : x8_3 < (x5_2.length : Int)
             ·rw [if_pos c30] at H
              have c30b0 : decide (x8_3 < (x5_2.length : Int)) = true := decide_eq_true c30
              clear c30
              obtain ⟨ji31, hji31⟩ : ∃ j_ : Int, (wrap64 (x8_3 + 1)) = j_ := ⟨_, rfl⟩
              replace H : (if 0 ≤ (ji31) then (if (ji31) < (x5_2.length : Int) then (if (rd x5_2 x8_3) < (rd x5_2 (ji31)) then ((spec_l13Waits.f k3 a0_0 a0_1 x4_2 (rd x5_2 x8_3) (rd x5_2 (ji31))).bind fun t519 => (if t519 = true then (spec_WiringOfSigns.l1 k3 x4_2 x5_2 x6_2 x7_3 (wrap64 (x8_3 - 1)) a0_0 a0_1) else (spec_WiringOfSigns.l1 k3 x4_2 x5_2 x6_2 x8_3 (wrap64 (x8_3 - 1)) a0_0 a0_1))) else (spec_WiringOfSigns.l1 k3 x4_2 x5_2 x6_2 x7_3 (wrap64 (x8_3 - 1)) a0_0 a0_1)) else (none)) else (none)) = some (r1, r2) := by first | (rw [hji31] at H; exact H) | (simp only [hji31] at H ⊢; exact H)
              have hji31w : (IntKind.i64.wrap (x8_3 + 1)) = ji31 := (i64_w _).trans hji31
              by_cases c32 : 0 ≤ (ji31)
              ·rw [if_pos c32] at H
               have c32b0 : decide (0 ≤ (ji31)) = true := decide_eq_true c32
               clear c32
               by_cases c33 : (ji31) < (x5_2.length : Int)
               ·rw [if_pos c33] at H
                have c33b0 : decide ((ji31) < (x5_2.length : Int)) = true := decide_eq_true c33
                clear c33
                by_cases c34 : (rd x5_2 x8_3) < (rd x5_2 (ji31))
                ·rw [if_pos c34] at H
                 have c34b0 : decide ((rd x5_2 x8_3) < (rd x5_2 (ji31))) = true := decide_eq_true c34
                 clear c34
                 replace H := Option.bind_eq_some_iff.mp H
                 obtain ⟨t519, A350, H⟩ := H
                 (try dsimp only at H)
                 have A35 := Aside0.mk A350
                 clear A350
                 by_cases c36 : t519 = true
                 ·subst c36
                  have H1 : (spec_WiringOfSigns.l1 k3 x4_2 x5_2 x6_2 x7_3 (wrap64 (x8_3 - 1)) a0_0 a0_1) = some (r1, r2) := by rw [if_pos rfl] at H; exact H
                  clear H
                  have H := H1
                  clear H1
                  have H' := Aside0.mk H
                  clear H
                  try go_wp2
                  have n0_ := Aside0.mk (Kd.R_drew HO_4.out)
                  have n1_ := Aside0.mk (Kd.R_drew HO_5.out)
                  have n2_ := Aside0.mk (Kd.R_drew HO_6.out)
                  have n3_ := Aside0.mk (blk_drew BK501.out)
                  have n4_ := Aside0.mk (below_drew1 HB.out)
                  clear HO_4
                  clear HO_5
                  clear HO_6
                  clear BK501
                  clear HB
                  have HO_4 := n0_
                  have HO_5 := n1_
                  have HO_6 := n2_
                  have BK501 := n3_
                  have HB := n4_
                  clear n0_ n1_ n2_ n3_ n4_
                  obtain ⟨Ao38, co38, eo38⟩ := Kd.R_slice HO_5.out
                  (first | subst eo38 | (injection eo38 with f1_ f2_ f3_; have f4_ := f1_.symm; have f5_ := f3_.symm; clear f1_ f2_ f3_; subst f4_; subst f5_))
                  have p515 : 0 ≤ (x8_3 : Int) := of_decide_eq_true (by first | (with_reducible assumption) | assumption)
                  have q515 : x8_3 < (x5_2.length : Int) := of_decide_eq_true (by first | (with_reducible assumption) | assumption)
                  obtain ⟨ad515, e515, hx515_0⟩ := Kd.at_int (Kd.R_reads' HO_5.out).2.2 x8_3 p515 q515
                  cases e515
                  replace p515 := eq_true p515
                  replace q515 := eq_true q515
                  have p516 : 0 ≤ ((ji31) : Int) := of_decide_eq_true (by first | (with_reducible assumption) | assumption)
                  have q516 : (ji31) < (x5_2.length : Int) := of_decide_eq_true (by first | (with_reducible assumption) | assumption)
                  obtain ⟨ad516, e516, hx516_0⟩ := Kd.at_int (Kd.R_reads' HO_5.out).2.2 (ji31) p516 q516
                  obtain rfl : ad515 = ad516 := (by injection e516)
                  replace p516 := eq_true p516
                  replace q516 := eq_true q516
                  have p517 : 0 ≤ (x8_3 : Int) := of_decide_eq_true (by first | (with_reducible assumption) | assumption)
                  have q517 : x8_3 < (x5_2.length : Int) := of_decide_eq_true (by first | (with_reducible assumption) | assumption)
                  obtain ⟨ad517, e517, hx517_0⟩ := Kd.at_int (Kd.R_reads' HO_5.out).2.2 x8_3 p517 q517
                  obtain rfl : ad515 = ad517 := (by injection e517)
                  replace p517 := eq_true p517
                  replace q517 := eq_true q517
                  have p518 : 0 ≤ ((ji31) : Int) := of_decide_eq_true (by first | (with_reducible assumption) | assumption)
                  have q518 : (ji31) < (x5_2.length : Int) := of_decide_eq_true (by first | (with_reducible assumption) | assumption)
                  obtain ⟨ad518, e518, hx518_0⟩ := Kd.at_int (Kd.R_reads' HO_5.out).2.2 (ji31) p518 q518
                  obtain rfl : ad515 = ad518 := (by injection e518)
                  replace p518 := eq_true p518
                  replace q518 := eq_true q518
                  obtain ⟨Ao39, co39, eo39⟩ := Kd.R_slice HO_4.out
                  (first | subst eo39 | (injection eo39 with f1_ f2_ f3_; have f4_ := f1_.symm; have f5_ := f3_.symm; clear f1_ f2_ f3_; subst f4_; subst f5_))
                  refine start_ (n := 25) (S := fun w' => w'.cell? ⟨gb501, 0, none⟩ = some (.int .i64 a0_0) ∧ w'.cell? ⟨gb501, 1, none⟩ = some (.string a0_1) ∧ w'.cell? (ad515.add (x8_3).toNat) = some (.int .i64 (rd x5_2 x8_3)) ∧ w'.cell? (ad515.add ((ji31)).toNat) = some (.int .i64 (rd x5_2 (ji31))) ∧ w'.cell? (ad515.add (x8_3).toNat) = some (.int .i64 (rd x5_2 x8_3)) ∧ w'.cell? (ad515.add ((ji31)).toNat) = some (.int .i64 (rd x5_2 (ji31)))) (ds := []) #[false, false, false, false, false, false, false, false, false, false, false, false, false, false, false, false, false, false, false, false, false, false, false, false, false] (by kernel_rfl) rfl rfl ⟨(blk_cell BK501.out 0).trans rfl, (blk_cell BK501.out 1).trans rfl, hx515_0, hx516_0, hx517_0, hx518_0⟩ (fun hHeld => ?_); refine with_tabW spec_WiringOfSigns.tab11 spec_WiringOfSigns.bits11 (fun HT_ HW_ => ?_)
                  generalize wr.drew = w37 at HO_4 HO_5 HO_6 BK501 HB hx515_0 hx516_0 hx517_0 hx518_0 hHeld ⊢
                  refine pu 0 45 HT_ ?_
                  refine pu 1 46 HT_ ?_
                  refine pu 2 47 HT_ ?_
                  refine pu 4 49 HT_ ?_
                  refine pu 5 50 HT_ ?_
                  refine pu 6 51 HT_ ?_
                  refine pu 7 52 HT_ ?_
                  refine take_ (i := 3) (N := some 48) (v := ?_) (a' := ?_) #[true, true, true, true, true, true, true, true, false, false, false, false, false, false, false, false, false, false, false, false, false, false, false, false, false] rfl rfl (take_ofW HT_.out HW_.out (by kernel_rfl)) (fun _ _ _ h => h) (Or.inl ⟨by rfl, ?_⟩) hHeld ?_ ?_
                  rotate_left
                  ·rintro w' ⟨s0, s1, s2, s3, s4, s5⟩
                   go_simp
                   with_reducible rfl
                  rotate_left
                  ·simp only [Act.put, List.setIfInBounds_toArray, List.set_cons_zero, List.set_cons_succ, i64_w, i32_w]
                   rfl
                  refine take_ (i := 8) (N := some 53) (v := ?_) (a' := ?_) #[true, true, true, true, true, true, true, true, true, false, false, false, false, false, false, false, false, false, false, false, false, false, false, false, false] rfl rfl (take_ofW HT_.out HW_.out (by kernel_rfl)) (fun _ _ _ h => h) (Or.inl ⟨by rfl, ?_⟩) hHeld ?_ ?_
                  rotate_left
                  ·rintro w' ⟨s0, s1, s2, s3, s4, s5⟩
                   go_simp
                   with_reducible rfl
                  rotate_left
                  ·simp only [Act.put, List.setIfInBounds_toArray, List.set_cons_zero, List.set_cons_succ, i64_w, i32_w]
                   rfl
                  refine pu 9 54 HT_ ?_
                  refine pu 10 55 HT_ ?_
                  refine pu 12 57 HT_ ?_
                  refine pu 13 58 HT_ ?_
                  refine pu 14 59 HT_ ?_
                  refine pu 15 60 HT_ ?_
                  refine pu 17 62 HT_ ?_
                  refine pu 18 63 HT_ ?_
                  refine pu 19 64 HT_ ?_
                  refine pu 20 65 HT_ ?_
                  refine take_ (i := 11) (N := some 56) (v := ?_) (a' := ?_) #[true, true, true, true, true, true, true, true, true, true, true, true, true, true, true, true, false, true, true, true, true, false, false, false, false] rfl rfl (take_ofW HT_.out HW_.out (by kernel_rfl)) (fun _ _ _ h => h) (Or.inl ⟨by rfl, ?_⟩) hHeld ?_ ?_
                  rotate_left
                  ·rintro w' ⟨s0, s1, s2, s3, s4, s5⟩
                   go_simp
                   with_reducible rfl
                  rotate_left
                  ·simp only [Act.put, List.setIfInBounds_toArray, List.set_cons_zero, List.set_cons_succ, i64_w, i32_w]
                   rfl
                  refine take_ (i := 16) (N := some 61) (v := ?_) (a' := ?_) #[true, true, true, true, true, true, true, true, true, true, true, true, true, true, true, true, true, true, true, true, true, false, false, false, false] rfl rfl (take_ofW HT_.out HW_.out (by kernel_rfl)) (fun _ _ _ h => h) (Or.inl ⟨by rfl, ?_⟩) hHeld ?_ ?_
                  rotate_left
                  ·rintro w' ⟨s0, s1, s2, s3, s4, s5⟩
                   go_simp
                   with_reducible rfl
                  rotate_left
                  ·simp only [Act.put, List.setIfInBounds_toArray, List.set_cons_zero, List.set_cons_succ, i64_w, i32_w]
                   rfl
                  refine take_ (i := 21) (N := some 66) (v := ?_) (a' := ?_) #[true, true, true, true, true, true, true, true, true, true, true, true, true, true, true, true, true, true, true, true, true, true, false, false, false] rfl rfl (take_ofW HT_.out HW_.out (by kernel_rfl)) (fun _ _ _ h => h) (Or.inl ⟨by rfl, ?_⟩) hHeld ?_ ?_
                  rotate_left
                  ·rintro w' ⟨s0, s1, s2, s3, s4, s5⟩
                   go_simp
                   with_reducible rfl
                  rotate_left
                  ·simp only [Act.put, List.setIfInBounds_toArray, List.set_cons_zero, List.set_cons_succ, i64_w, i32_w]
                   rfl
                  refine one_ (i := 22) (N := some 67) #[true, true, true, true, true, true, true, true, true, true, true, true, true, true, true, true, true, true, true, true, true, true, true, false, false] rfl rfl (one_of HT_.out (by kernel_rfl)) (by decide) (fun K hK => ?_)
                  refine goes_ Try.func66 (by kernel_rfl) rfl #[.agg #[.int .i64 a0_0, .string a0_1], .slice Ao39 x4_2.length co39, .int .i64 (rd x5_2 x8_3), .int .i64 (rd x5_2 (ji31))] (by rfl) rfl rfl (by (try simp only [List.map_toArray, List.map_cons, List.map_nil]); first | done | (simp only [hji31]; rfl) | rfl | (simp only [List.length_drop, List.length_take]; rfl)) ?_
                  with_reducible refine (spec_l13Waits.calls k3 a0_0 a0_1 _ _ x4_2 (rd x5_2 x8_3) (rd x5_2 (ji31)) true _ ?side1 ?side2 A35.out).mono ?_
                  (case side1 => repeat (first | exact (Kd.R_reads' HO_4.out).2.2 | (with_reducible refine Kd.C_alloc ?_ _) | (with_reducible refine Kd.C_drewN ?_ _) | (with_reducible refine Kd.C_drew ?_)))
                  (case side2 => exact (Kd.R_reads' HO_4.out).2.1)
                  rintro e w40 ⟨rfl, hb⟩
                  have HS2_ := (hb.cell (World.block_lt_of_cell? _ _ (hHeld.2.2.1))).trans (hHeld.2.2.1)
                  have HS3_ := (hb.cell (World.block_lt_of_cell? _ _ (hHeld.2.2.2.1))).trans (hHeld.2.2.2.1)
                  have HS4_ := (hb.cell (World.block_lt_of_cell? _ _ (hHeld.2.2.2.2.1))).trans (hHeld.2.2.2.2.1)
                  have HS5_ := (hb.cell (World.block_lt_of_cell? _ _ (hHeld.2.2.2.2.2))).trans (hHeld.2.2.2.2.2)
                  refine ⟨_, rfl, ?_⟩
                  have n0_ := Aside0.mk (Kd.R_below (rr HO_4) hb)
                  have n1_ := Aside0.mk (Kd.R_below (rr HO_5) hb)
                  have n2_ := Aside0.mk (Kd.R_below (rr HO_6) hb)
                  have n3_ := Aside0.mk (blk_below (g := gb501) (o := .cells #[.int .i64 a0_0, .string a0_1] 28 (0, 0)) (bk BK501) hb)
                  have n4_ := bsg HB GE501 hb
                  clear HO_4
                  clear HO_5
                  clear HO_6
                  clear BK501
                  clear HB
                  have HO_4 := n0_
                  have HO_5 := n1_
                  have HO_6 := n2_
                  have BK501 := n3_
                  have HB := n4_
                  clear n0_ n1_ n2_ n3_ n4_
                  (try clear hb)
                  (try clear hb2)
                  (try clear hk)
                  (try clear hi)
                  refine hK.out _ _ ⟨(blk_cell BK501.out 0).trans rfl, (blk_cell BK501.out 1).trans rfl, HS2_, HS3_, HS4_, HS5_⟩ (fun hHeld => ?_)
                  clear hK K
                  refine norm_ (a' := ?_) ?_ ?_
                  rotate_left
                  ·show Act.put _ (some 67) _ = _
                   simp only [Act.put, List.setIfInBounds_toArray, List.set_cons_zero, List.set_cons_succ, i64_w, i32_w]
                   rfl
                  refine pu 23 68 HT_ ?_
                  refine pu 24 69 HT_ ?_
                  refine done_ (done_of HT_.out (by kernel_rfl)) ?_
                  try go_wp2
                  go_roundg k3
                  case measure => have := HJ1.out; have := HK2.out; have := HK3.out; omega
                  case rel => exact ⟨(x7_3), (wrap64 (x8_3 - 1)), (by first | rfl | (simp; done) | (simp [*]; done)), (by first | rfl | (simp; done) | (simp [*]; done)), H', ⟨by have := HJ1.out; have := HK2.out; have := HK3.out; omega⟩, ⟨by (with_reducible repeat (first | apply Kd.R_alloc | apply Kd.R_drewN | apply Kd.R_drew)); exact HO_4.out⟩, ⟨by (with_reducible repeat (first | apply Kd.R_alloc | apply Kd.R_drewN | apply Kd.R_drew)); exact HO_5.out⟩, ⟨by (with_reducible repeat (first | apply Kd.R_alloc | apply Kd.R_drewN | apply Kd.R_drew)); exact HO_6.out⟩, ⟨by (with_reducible repeat (first | refine blk_drewN ?_ _ | refine blk_drew ?_ | refine blk_alloc ?_ _)); exact BK501.out⟩, ⟨(bg HB GE501)⟩⟩
                 ·replace c36 := Bool.eq_false_iff.mpr c36
                  subst c36
                  have H1 : (spec_WiringOfSigns.l1 k3 x4_2 x5_2 x6_2 x8_3 (wrap64 (x8_3 - 1)) a0_0 a0_1) = some (r1, r2) := by rw [if_neg (show ¬ (false = true) by decide)] at H; exact H
                  clear H
                  have H := H1
                  clear H1
                  have H' := Aside0.mk H
                  clear H
                  try go_wp2
                  have n0_ := Aside0.mk (Kd.R_drew HO_4.out)
                  have n1_ := Aside0.mk (Kd.R_drew HO_5.out)
                  have n2_ := Aside0.mk (Kd.R_drew HO_6.out)
                  have n3_ := Aside0.mk (blk_drew BK501.out)
                  have n4_ := Aside0.mk (below_drew1 HB.out)
                  clear HO_4
                  clear HO_5
                  clear HO_6
                  clear BK501
                  clear HB
                  have HO_4 := n0_
                  have HO_5 := n1_
                  have HO_6 := n2_
                  have BK501 := n3_
                  have HB := n4_
                  clear n0_ n1_ n2_ n3_ n4_
                  obtain ⟨Ao42, co42, eo42⟩ := Kd.R_slice HO_5.out
                  (first | subst eo42 | (injection eo42 with f1_ f2_ f3_; have f4_ := f1_.symm; have f5_ := f3_.symm; clear f1_ f2_ f3_; subst f4_; subst f5_))
                  have p515 : 0 ≤ (x8_3 : Int) := of_decide_eq_true (by first | (with_reducible assumption) | assumption)
                  have q515 : x8_3 < (x5_2.length : Int) := of_decide_eq_true (by first | (with_reducible assumption) | assumption)
                  obtain ⟨ad515, e515, hx515_0⟩ := Kd.at_int (Kd.R_reads' HO_5.out).2.2 x8_3 p515 q515
                  cases e515
                  replace p515 := eq_true p515
                  replace q515 := eq_true q515
                  have p516 : 0 ≤ ((ji31) : Int) := of_decide_eq_true (by first | (with_reducible assumption) | assumption)
                  have q516 : (ji31) < (x5_2.length : Int) := of_decide_eq_true (by first | (with_reducible assumption) | assumption)
                  obtain ⟨ad516, e516, hx516_0⟩ := Kd.at_int (Kd.R_reads' HO_5.out).2.2 (ji31) p516 q516
                  obtain rfl : ad515 = ad516 := (by injection e516)
                  replace p516 := eq_true p516
                  replace q516 := eq_true q516
                  have p517 : 0 ≤ (x8_3 : Int) := of_decide_eq_true (by first | (with_reducible assumption) | assumption)
                  have q517 : x8_3 < (x5_2.length : Int) := of_decide_eq_true (by first | (with_reducible assumption) | assumption)
                  obtain ⟨ad517, e517, hx517_0⟩ := Kd.at_int (Kd.R_reads' HO_5.out).2.2 x8_3 p517 q517
                  obtain rfl : ad515 = ad517 := (by injection e517)
                  replace p517 := eq_true p517
                  replace q517 := eq_true q517
                  have p518 : 0 ≤ ((ji31) : Int) := of_decide_eq_true (by first | (with_reducible assumption) | assumption)
                  have q518 : (ji31) < (x5_2.length : Int) := of_decide_eq_true (by first | (with_reducible assumption) | assumption)
                  obtain ⟨ad518, e518, hx518_0⟩ := Kd.at_int (Kd.R_reads' HO_5.out).2.2 (ji31) p518 q518
                  obtain rfl : ad515 = ad518 := (by injection e518)
                  replace p518 := eq_true p518
                  replace q518 := eq_true q518
                  obtain ⟨Ao43, co43, eo43⟩ := Kd.R_slice HO_4.out
                  (first | subst eo43 | (injection eo43 with f1_ f2_ f3_; have f4_ := f1_.symm; have f5_ := f3_.symm; clear f1_ f2_ f3_; subst f4_; subst f5_))
                  refine start_ (n := 25) (S := fun w' => w'.cell? ⟨gb501, 0, none⟩ = some (.int .i64 a0_0) ∧ w'.cell? ⟨gb501, 1, none⟩ = some (.string a0_1) ∧ w'.cell? (ad515.add (x8_3).toNat) = some (.int .i64 (rd x5_2 x8_3)) ∧ w'.cell? (ad515.add ((ji31)).toNat) = some (.int .i64 (rd x5_2 (ji31))) ∧ w'.cell? (ad515.add (x8_3).toNat) = some (.int .i64 (rd x5_2 x8_3)) ∧ w'.cell? (ad515.add ((ji31)).toNat) = some (.int .i64 (rd x5_2 (ji31)))) (ds := []) #[false, false, false, false, false, false, false, false, false, false, false, false, false, false, false, false, false, false, false, false, false, false, false, false, false] (by kernel_rfl) rfl rfl ⟨(blk_cell BK501.out 0).trans rfl, (blk_cell BK501.out 1).trans rfl, hx515_0, hx516_0, hx517_0, hx518_0⟩ (fun hHeld => ?_); refine with_tabW spec_WiringOfSigns.tab11 spec_WiringOfSigns.bits11 (fun HT_ HW_ => ?_)
                  generalize wr.drew = w41 at HO_4 HO_5 HO_6 BK501 HB hx515_0 hx516_0 hx517_0 hx518_0 hHeld ⊢
                  refine pu 0 45 HT_ ?_
                  refine pu 1 46 HT_ ?_
                  refine pu 2 47 HT_ ?_
                  refine pu 4 49 HT_ ?_
                  refine pu 5 50 HT_ ?_
                  refine pu 6 51 HT_ ?_
                  refine pu 7 52 HT_ ?_
                  refine take_ (i := 3) (N := some 48) (v := ?_) (a' := ?_) #[true, true, true, true, true, true, true, true, false, false, false, false, false, false, false, false, false, false, false, false, false, false, false, false, false] rfl rfl (take_ofW HT_.out HW_.out (by kernel_rfl)) (fun _ _ _ h => h) (Or.inl ⟨by rfl, ?_⟩) hHeld ?_ ?_
                  rotate_left
                  ·rintro w' ⟨s0, s1, s2, s3, s4, s5⟩
                   go_simp
                   with_reducible rfl
                  rotate_left
                  ·simp only [Act.put, List.setIfInBounds_toArray, List.set_cons_zero, List.set_cons_succ, i64_w, i32_w]
                   rfl
                  refine take_ (i := 8) (N := some 53) (v := ?_) (a' := ?_) #[true, true, true, true, true, true, true, true, true, false, false, false, false, false, false, false, false, false, false, false, false, false, false, false, false] rfl rfl (take_ofW HT_.out HW_.out (by kernel_rfl)) (fun _ _ _ h => h) (Or.inl ⟨by rfl, ?_⟩) hHeld ?_ ?_
                  rotate_left
                  ·rintro w' ⟨s0, s1, s2, s3, s4, s5⟩
                   go_simp
                   with_reducible rfl
                  rotate_left
                  ·simp only [Act.put, List.setIfInBounds_toArray, List.set_cons_zero, List.set_cons_succ, i64_w, i32_w]
                   rfl
                  refine pu 9 54 HT_ ?_
                  refine pu 10 55 HT_ ?_
                  refine pu 12 57 HT_ ?_
                  refine pu 13 58 HT_ ?_
                  refine pu 14 59 HT_ ?_
                  refine pu 15 60 HT_ ?_
                  refine pu 17 62 HT_ ?_
                  refine pu 18 63 HT_ ?_
                  refine pu 19 64 HT_ ?_
                  refine pu 20 65 HT_ ?_
                  refine take_ (i := 11) (N := some 56) (v := ?_) (a' := ?_) #[true, true, true, true, true, true, true, true, true, true, true, true, true, true, true, true, false, true, true, true, true, false, false, false, false] rfl rfl (take_ofW HT_.out HW_.out (by kernel_rfl)) (fun _ _ _ h => h) (Or.inl ⟨by rfl, ?_⟩) hHeld ?_ ?_
                  rotate_left
                  ·rintro w' ⟨s0, s1, s2, s3, s4, s5⟩
                   go_simp
                   with_reducible rfl
                  rotate_left
                  ·simp only [Act.put, List.setIfInBounds_toArray, List.set_cons_zero, List.set_cons_succ, i64_w, i32_w]
                   rfl
                  refine take_ (i := 16) (N := some 61) (v := ?_) (a' := ?_) #[true, true, true, true, true, true, true, true, true, true, true, true, true, true, true, true, true, true, true, true, true, false, false, false, false] rfl rfl (take_ofW HT_.out HW_.out (by kernel_rfl)) (fun _ _ _ h => h) (Or.inl ⟨by rfl, ?_⟩) hHeld ?_ ?_
                  rotate_left
                  ·rintro w' ⟨s0, s1, s2, s3, s4, s5⟩
                   go_simp
                   with_reducible rfl
                  rotate_left
                  ·simp only [Act.put, List.setIfInBounds_toArray, List.set_cons_zero, List.set_cons_succ, i64_w, i32_w]
                   rfl
                  refine take_ (i := 21) (N := some 66) (v := ?_) (a' := ?_) #[true, true, true, true, true, true, true, true, true, true, true, true, true, true, true, true, true, true, true, true, true, true, false, false, false] rfl rfl (take_ofW HT_.out HW_.out (by kernel_rfl)) (fun _ _ _ h => h) (Or.inl ⟨by rfl, ?_⟩) hHeld ?_ ?_
                  rotate_left
                  ·rintro w' ⟨s0, s1, s2, s3, s4, s5⟩
                   go_simp
                   with_reducible rfl
                  rotate_left
                  ·simp only [Act.put, List.setIfInBounds_toArray, List.set_cons_zero, List.set_cons_succ, i64_w, i32_w]
                   rfl
                  refine one_ (i := 22) (N := some 67) #[true, true, true, true, true, true, true, true, true, true, true, true, true, true, true, true, true, true, true, true, true, true, true, false, false] rfl rfl (one_of HT_.out (by kernel_rfl)) (by decide) (fun K hK => ?_)
                  refine goes_ Try.func66 (by kernel_rfl) rfl #[.agg #[.int .i64 a0_0, .string a0_1], .slice Ao43 x4_2.length co43, .int .i64 (rd x5_2 x8_3), .int .i64 (rd x5_2 (ji31))] (by rfl) rfl rfl (by (try simp only [List.map_toArray, List.map_cons, List.map_nil]); first | done | (simp only [hji31]; rfl) | rfl | (simp only [List.length_drop, List.length_take]; rfl)) ?_
                  with_reducible refine (spec_l13Waits.calls k3 a0_0 a0_1 _ _ x4_2 (rd x5_2 x8_3) (rd x5_2 (ji31)) false _ ?side1 ?side2 A35.out).mono ?_
                  (case side1 => repeat (first | exact (Kd.R_reads' HO_4.out).2.2 | (with_reducible refine Kd.C_alloc ?_ _) | (with_reducible refine Kd.C_drewN ?_ _) | (with_reducible refine Kd.C_drew ?_)))
                  (case side2 => exact (Kd.R_reads' HO_4.out).2.1)
                  rintro e w44 ⟨rfl, hb⟩
                  have HS2_ := (hb.cell (World.block_lt_of_cell? _ _ (hHeld.2.2.1))).trans (hHeld.2.2.1)
                  have HS3_ := (hb.cell (World.block_lt_of_cell? _ _ (hHeld.2.2.2.1))).trans (hHeld.2.2.2.1)
                  have HS4_ := (hb.cell (World.block_lt_of_cell? _ _ (hHeld.2.2.2.2.1))).trans (hHeld.2.2.2.2.1)
                  have HS5_ := (hb.cell (World.block_lt_of_cell? _ _ (hHeld.2.2.2.2.2))).trans (hHeld.2.2.2.2.2)
                  refine ⟨_, rfl, ?_⟩
                  have n0_ := Aside0.mk (Kd.R_below (rr HO_4) hb)
                  have n1_ := Aside0.mk (Kd.R_below (rr HO_5) hb)
                  have n2_ := Aside0.mk (Kd.R_below (rr HO_6) hb)
                  have n3_ := Aside0.mk (blk_below (g := gb501) (o := .cells #[.int .i64 a0_0, .string a0_1] 28 (0, 0)) (bk BK501) hb)
                  have n4_ := bsg HB GE501 hb
                  clear HO_4
                  clear HO_5
                  clear HO_6
                  clear BK501
                  clear HB
                  have HO_4 := n0_
                  have HO_5 := n1_
                  have HO_6 := n2_
                  have BK501 := n3_
                  have HB := n4_
                  clear n0_ n1_ n2_ n3_ n4_
                  (try clear hb)
                  (try clear hb2)
                  (try clear hk)
                  (try clear hi)
                  refine hK.out _ _ ⟨(blk_cell BK501.out 0).trans rfl, (blk_cell BK501.out 1).trans rfl, HS2_, HS3_, HS4_, HS5_⟩ (fun hHeld => ?_)
                  clear hK K
                  refine norm_ (a' := ?_) ?_ ?_
                  rotate_left
                  ·show Act.put _ (some 67) _ = _
                   simp only [Act.put, List.setIfInBounds_toArray, List.set_cons_zero, List.set_cons_succ, i64_w, i32_w]
                   rfl
                  refine pu 23 68 HT_ ?_
                  refine pu 24 69 HT_ ?_
                  refine done_ (done_of HT_.out (by kernel_rfl)) ?_
                  try go_wp2
                  go_roundg k3
                  case measure => have := HJ1.out; have := HK2.out; have := HK3.out; omega
                  case rel => exact ⟨(x8_3), (wrap64 (x8_3 - 1)), (by first | rfl | (simp; done) | (simp [*]; done)), (by first | rfl | (simp; done) | (simp [*]; done)), H', ⟨by have := HJ1.out; have := HK2.out; have := HK3.out; omega⟩, ⟨by (with_reducible repeat (first | apply Kd.R_alloc | apply Kd.R_drewN | apply Kd.R_drew)); exact HO_4.out⟩, ⟨by (with_reducible repeat (first | apply Kd.R_alloc | apply Kd.R_drewN | apply Kd.R_drew)); exact HO_5.out⟩, ⟨by (with_reducible repeat (first | apply Kd.R_alloc | apply Kd.R_drewN | apply Kd.R_drew)); exact HO_6.out⟩, ⟨by (with_reducible repeat (first | refine blk_drewN ?_ _ | refine blk_drew ?_ | refine blk_alloc ?_ _)); exact BK501.out⟩, ⟨(bg HB GE501)⟩⟩
                ·rw [if_neg c34] at H
                 have c34b0 : decide ((rd x5_2 x8_3) < (rd x5_2 (ji31))) = false := decide_eq_false c34
                 clear c34
                 have H' := Aside0.mk H
                 clear H
                 try go_wp2
                 have n0_ := Aside0.mk (Kd.R_drew HO_4.out)
                 have n1_ := Aside0.mk (Kd.R_drew HO_5.out)
                 have n2_ := Aside0.mk (Kd.R_drew HO_6.out)
                 have n3_ := Aside0.mk (blk_drew BK501.out)
                 have n4_ := Aside0.mk (below_drew1 HB.out)
                 clear HO_4
                 clear HO_5
                 clear HO_6
                 clear BK501
                 clear HB
                 have HO_4 := n0_
                 have HO_5 := n1_
                 have HO_6 := n2_
                 have BK501 := n3_
                 have HB := n4_
                 clear n0_ n1_ n2_ n3_ n4_
                 obtain ⟨Ao46, co46, eo46⟩ := Kd.R_slice HO_5.out
                 (first | subst eo46 | (injection eo46 with f1_ f2_ f3_; have f4_ := f1_.symm; have f5_ := f3_.symm; clear f1_ f2_ f3_; subst f4_; subst f5_))
                 have p515 : 0 ≤ (x8_3 : Int) := of_decide_eq_true (by first | (with_reducible assumption) | assumption)
                 have q515 : x8_3 < (x5_2.length : Int) := of_decide_eq_true (by first | (with_reducible assumption) | assumption)
                 obtain ⟨ad515, e515, hx515_0⟩ := Kd.at_int (Kd.R_reads' HO_5.out).2.2 x8_3 p515 q515
                 cases e515
                 replace p515 := eq_true p515
                 replace q515 := eq_true q515
                 have p516 : 0 ≤ ((ji31) : Int) := of_decide_eq_true (by first | (with_reducible assumption) | assumption)
                 have q516 : (ji31) < (x5_2.length : Int) := of_decide_eq_true (by first | (with_reducible assumption) | assumption)
                 obtain ⟨ad516, e516, hx516_0⟩ := Kd.at_int (Kd.R_reads' HO_5.out).2.2 (ji31) p516 q516
                 obtain rfl : ad515 = ad516 := (by injection e516)
                 replace p516 := eq_true p516
                 replace q516 := eq_true q516
                 refine start_ (n := 25) (S := fun w' => w'.cell? (ad515.add (x8_3).toNat) = some (.int .i64 (rd x5_2 x8_3)) ∧ w'.cell? (ad515.add ((ji31)).toNat) = some (.int .i64 (rd x5_2 (ji31)))) (ds := []) #[false, false, false, false, false, false, false, false, false, false, false, false, false, false, false, false, false, false, false, false, false, false, false, false, false] (by kernel_rfl) rfl rfl ⟨hx515_0, hx516_0⟩ (fun hHeld => ?_); refine with_tabW spec_WiringOfSigns.tab11 spec_WiringOfSigns.bits11 (fun HT_ HW_ => ?_)
                 generalize wr.drew = w45 at HO_4 HO_5 HO_6 BK501 HB hx515_0 hx516_0 hHeld ⊢
                 refine pu 0 45 HT_ ?_
                 refine pu 1 46 HT_ ?_
                 refine pu 2 47 HT_ ?_
                 refine pu 4 49 HT_ ?_
                 refine pu 5 50 HT_ ?_
                 refine pu 6 51 HT_ ?_
                 refine pu 7 52 HT_ ?_
                 refine take_ (i := 3) (N := some 48) (v := ?_) (a' := ?_) #[true, true, true, true, true, true, true, true, false, false, false, false, false, false, false, false, false, false, false, false, false, false, false, false, false] rfl rfl (take_ofW HT_.out HW_.out (by kernel_rfl)) (fun _ _ _ h => h) (Or.inl ⟨by rfl, ?_⟩) hHeld ?_ ?_
                 rotate_left
                 ·rintro w' ⟨s0, s1⟩
                  go_simp
                  with_reducible rfl
                 rotate_left
                 ·simp only [Act.put, List.setIfInBounds_toArray, List.set_cons_zero, List.set_cons_succ, i64_w, i32_w]
                  rfl
                 refine take_ (i := 8) (N := some 53) (v := ?_) (a' := ?_) #[true, true, true, true, true, true, true, true, true, false, false, false, false, false, false, false, false, false, false, false, false, false, false, false, false] rfl rfl (take_ofW HT_.out HW_.out (by kernel_rfl)) (fun _ _ _ h => h) (Or.inl ⟨by rfl, ?_⟩) hHeld ?_ ?_
                 rotate_left
                 ·rintro w' ⟨s0, s1⟩
                  go_simp
                  with_reducible rfl
                 rotate_left
                 ·simp only [Act.put, List.setIfInBounds_toArray, List.set_cons_zero, List.set_cons_succ, i64_w, i32_w]
                  rfl
                 refine pu 9 54 HT_ ?_
                 refine pu 10 55 HT_ ?_
                 refine pure_ (i := 11) (N := some 56) (v := undef) (a' := ?_) #[true, true, true, true, true, true, true, true, true, true, true, true, false, false, false, false, false, false, false, false, false, false, false, false, false] rfl rfl (any_of HT_.out (by kernel_rfl)) (fun _ _ _ h => h) (Or.inr ⟨by rfl, rfl⟩) ?_ ?_
                 rotate_left
                 ·simp only [Act.put, List.setIfInBounds_toArray, List.set_cons_zero, List.set_cons_succ, i64_w, i32_w]
                  rfl
                 refine pure_ (i := 12) (N := some 57) (v := undef) (a' := ?_) #[true, true, true, true, true, true, true, true, true, true, true, true, true, false, false, false, false, false, false, false, false, false, false, false, false] rfl rfl (any_of HT_.out (by kernel_rfl)) (fun _ _ _ h => h) (Or.inr ⟨by rfl, rfl⟩) ?_ ?_
                 rotate_left
                 ·simp only [Act.put, List.setIfInBounds_toArray, List.set_cons_zero, List.set_cons_succ, i64_w, i32_w]
                  rfl
                 refine pure_ (i := 13) (N := some 58) (v := undef) (a' := ?_) #[true, true, true, true, true, true, true, true, true, true, true, true, true, true, false, false, false, false, false, false, false, false, false, false, false] rfl rfl (any_of HT_.out (by kernel_rfl)) (fun _ _ _ h => h) (Or.inr ⟨by rfl, rfl⟩) ?_ ?_
                 rotate_left
                 ·simp only [Act.put, List.setIfInBounds_toArray, List.set_cons_zero, List.set_cons_succ, i64_w, i32_w]
                  rfl
                 refine pure_ (i := 14) (N := some 59) (v := undef) (a' := ?_) #[true, true, true, true, true, true, true, true, true, true, true, true, true, true, true, false, false, false, false, false, false, false, false, false, false] rfl rfl (any_of HT_.out (by kernel_rfl)) (fun _ _ _ h => h) (Or.inr ⟨by rfl, rfl⟩) ?_ ?_
                 rotate_left
                 ·simp only [Act.put, List.setIfInBounds_toArray, List.set_cons_zero, List.set_cons_succ, i64_w, i32_w]
                  rfl
                 refine pure_ (i := 15) (N := some 60) (v := undef) (a' := ?_) #[true, true, true, true, true, true, true, true, true, true, true, true, true, true, true, true, false, false, false, false, false, false, false, false, false] rfl rfl (any_of HT_.out (by kernel_rfl)) (fun _ _ _ h => h) (Or.inr ⟨by rfl, rfl⟩) ?_ ?_
                 rotate_left
                 ·simp only [Act.put, List.setIfInBounds_toArray, List.set_cons_zero, List.set_cons_succ, i64_w, i32_w]
                  rfl
                 refine pure_ (i := 16) (N := some 61) (v := undef) (a' := ?_) #[true, true, true, true, true, true, true, true, true, true, true, true, true, true, true, true, true, false, false, false, false, false, false, false, false] rfl rfl (any_of HT_.out (by kernel_rfl)) (fun _ _ _ h => h) (Or.inr ⟨by rfl, rfl⟩) ?_ ?_
                 rotate_left
                 ·simp only [Act.put, List.setIfInBounds_toArray, List.set_cons_zero, List.set_cons_succ, i64_w, i32_w]
                  rfl
                 refine pure_ (i := 17) (N := some 62) (v := undef) (a' := ?_) #[true, true, true, true, true, true, true, true, true, true, true, true, true, true, true, true, true, true, false, false, false, false, false, false, false] rfl rfl (any_of HT_.out (by kernel_rfl)) (fun _ _ _ h => h) (Or.inr ⟨by rfl, rfl⟩) ?_ ?_
                 rotate_left
                 ·simp only [Act.put, List.setIfInBounds_toArray, List.set_cons_zero, List.set_cons_succ, i64_w, i32_w]
                  rfl
                 refine pure_ (i := 18) (N := some 63) (v := undef) (a' := ?_) #[true, true, true, true, true, true, true, true, true, true, true, true, true, true, true, true, true, true, true, false, false, false, false, false, false] rfl rfl (any_of HT_.out (by kernel_rfl)) (fun _ _ _ h => h) (Or.inr ⟨by rfl, rfl⟩) ?_ ?_
                 rotate_left
                 ·simp only [Act.put, List.setIfInBounds_toArray, List.set_cons_zero, List.set_cons_succ, i64_w, i32_w]
                  rfl
                 refine pure_ (i := 19) (N := some 64) (v := undef) (a' := ?_) #[true, true, true, true, true, true, true, true, true, true, true, true, true, true, true, true, true, true, true, true, false, false, false, false, false] rfl rfl (any_of HT_.out (by kernel_rfl)) (fun _ _ _ h => h) (Or.inr ⟨by rfl, rfl⟩) ?_ ?_
                 rotate_left
                 ·simp only [Act.put, List.setIfInBounds_toArray, List.set_cons_zero, List.set_cons_succ, i64_w, i32_w]
                  rfl
                 refine pure_ (i := 20) (N := some 65) (v := undef) (a' := ?_) #[true, true, true, true, true, true, true, true, true, true, true, true, true, true, true, true, true, true, true, true, true, false, false, false, false] rfl rfl (any_of HT_.out (by kernel_rfl)) (fun _ _ _ h => h) (Or.inr ⟨by rfl, rfl⟩) ?_ ?_
                 rotate_left
                 ·simp only [Act.put, List.setIfInBounds_toArray, List.set_cons_zero, List.set_cons_succ, i64_w, i32_w]
                  rfl
                 refine pure_ (i := 21) (N := some 66) (v := undef) (a' := ?_) #[true, true, true, true, true, true, true, true, true, true, true, true, true, true, true, true, true, true, true, true, true, true, false, false, false] rfl rfl (any_of HT_.out (by kernel_rfl)) (fun _ _ _ h => h) (Or.inr ⟨by rfl, rfl⟩) ?_ ?_
                 rotate_left
                 ·simp only [Act.put, List.setIfInBounds_toArray, List.set_cons_zero, List.set_cons_succ, i64_w, i32_w]
                  rfl
                 refine pure_ (i := 22) (N := some 67) (v := undef) (a' := ?_) #[true, true, true, true, true, true, true, true, true, true, true, true, true, true, true, true, true, true, true, true, true, true, true, false, false] rfl rfl (any_of HT_.out (by kernel_rfl)) (fun _ _ _ h => h) (Or.inr ⟨by rfl, rfl⟩) ?_ ?_
                 rotate_left
                 ·simp only [Act.put, List.setIfInBounds_toArray, List.set_cons_zero, List.set_cons_succ, i64_w, i32_w]
                  rfl
                 refine pure_ (i := 23) (N := some 68) (v := undef) (a' := ?_) #[true, true, true, true, true, true, true, true, true, true, true, true, true, true, true, true, true, true, true, true, true, true, true, true, false] rfl rfl (any_of HT_.out (by kernel_rfl)) (fun _ _ _ h => h) (Or.inr ⟨by rfl, rfl⟩) ?_ ?_
                 rotate_left
                 ·simp only [Act.put, List.setIfInBounds_toArray, List.set_cons_zero, List.set_cons_succ, i64_w, i32_w]
                  rfl
                 refine pu 24 69 HT_ ?_
                 refine done_ (done_of HT_.out (by kernel_rfl)) ?_
                 try go_wp2
                 go_roundg k3
                 case measure => have := HJ1.out; have := HK2.out; have := HK3.out; omega
                 case rel => exact ⟨(x7_3), (wrap64 (x8_3 - 1)), (by first | rfl | (simp; done) | (simp [*]; done)), (by first | rfl | (simp; done) | (simp [*]; done)), H', ⟨by have := HJ1.out; have := HK2.out; have := HK3.out; omega⟩, ⟨by (with_reducible repeat (first | apply Kd.R_alloc | apply Kd.R_drewN | apply Kd.R_drew)); exact HO_4.out⟩, ⟨by (with_reducible repeat (first | apply Kd.R_alloc | apply Kd.R_drewN | apply Kd.R_drew)); exact HO_5.out⟩, ⟨by (with_reducible repeat (first | apply Kd.R_alloc | apply Kd.R_drewN | apply Kd.R_drew)); exact HO_6.out⟩, ⟨by (with_reducible repeat (first | refine blk_drewN ?_ _ | refine blk_drew ?_ | refine blk_alloc ?_ _)); exact BK501.out⟩, ⟨(bg HB GE501)⟩⟩
               ·rw [if_neg c33] at H
                exact absurd H (by simp)
              ·rw [if_neg c32] at H
               exact absurd H (by simp)
             ·rw [if_neg c30] at H
              exact absurd H (by simp)
            ·rw [if_neg c29] at H
             exact absurd H (by simp)
           ·rw [if_neg c28] at H
            have c28b0 : decide (0 ≤ x8_3) = false := decide_eq_false c28
            clear c28
            by_cases c47 : x7_3 < 0
            ·rw [if_pos c47] at H
             have c47b0 : decide (x7_3 < 0) = true := decide_eq_true c47
             clear c47
             obtain ⟨y520, hy520⟩ : ∃ y_ : List Int, y_ = (([] : List Int)) := ⟨_, rfl⟩
             replace H : (some (y520, false)) = some (r1, r2) := by first | (rw [hy520]; with_reducible exact H) | (have H2_ := (Option.bind_some _ _).symm.trans H; rw [hy520]; with_reducible exact H2_) | (have H2_ := (Option.bind_some _ _).symm.trans H; with_reducible exact H2_) | with_reducible exact H | (rw [hy520]; exact H) | exact H
             have Ny520 := Aside0.mk hy520
             clear hy520
             simp only [Option.some.injEq, Prod.mk.injEq] at H
             obtain ⟨rfl, rfl⟩ := H
             go_wp2_with (first | ((with_reducible refine gate_dst (N := 73) rfl ?_); refine Kd.R_lit (Kd.int .i64) _ 3 ?hg (N := 73) ?hd (xs := ([] : List Int)) (inner := []) (ok := fun _ => True) (okp := fun _ => True) ?hr ?hp (fun _ hk => hk) trivial (Below.refl _ _) (Nat.le_refl _) (by simp) ?_; (case hd => rfl); (case hg => rfl); (case hr => first | (go_simp; done) | (go_simp; rfl)); (case hp => exact (Reps.none _ _)); intro v521 w48 ho49 hb hg_ hnew_; clear hg_ hnew_; (first | rw [← Ny520.out] at ho49 | (simp only [Int.reduceToNat] at ho49; rw [← Ny520.out] at ho49)); have n0_ := Aside0.mk (Kd.R_below (rr HO_4) hb); have n1_ := Aside0.mk (Kd.R_elder' (rr HO_5) (Kd.R_base ho49) hb); have n2_ := Aside0.mk (Kd.R_elder' (rr HO_6) (Kd.R_base ho49) hb); have n3_ := Aside0.mk (Kd.R_lower (Kd.R_new' (Kd.R_new' ho49 (Kd.R_lt (rr HO_5))) (Kd.R_lt (rr HO_6))) (below_size (bg HB GE501))); have n4_ := Aside0.mk (blk_below (g := gb501) (o := .cells #[.int .i64 a0_0, .string a0_1] 28 (0, 0)) (bk BK501) hb); have n5_ := bsg HB GE501 hb; clear HO_4; clear HO_5; clear HO_6; clear BK501; clear HB; have HO_4 := n0_; have HO_5 := n1_; have HO_6 := n2_; have HO522 := n3_; have BK501 := n4_; have HB := n5_; clear n0_ n1_ n2_ n3_ n4_ n5_; clear hb ho49))
             go_ret2
             exact ⟨_, by first | rfl | (simp [errW_none, errW_some] <;> rfl) | (simp only [← hji14]; first | rfl | (simp [errW_none, errW_some] <;> rfl)) | (simp [*, errW_none, errW_some] <;> rfl), by (with_reducible repeat (first | apply Kd.R_alloc | apply Kd.R_drewN | apply Kd.R_drew)); exact Kd.R_mono HO522.out (fun _ hk => trivial), (bg HB GE501)⟩
            ·rw [if_neg c47] at H
             have c47b0 : decide (x7_3 < 0) = false := decide_eq_false c47
             clear c47
             by_cases c50 : 0 ≤ x7_3
             ·rw [if_pos c50] at H
              have c50b0 : decide (0 ≤ x7_3) = true := decide_eq_true c50
              clear c50
              by_cases c51 : x7_3 < (x5_2.length : Int)
              ·rw [if_pos c51] at H
               have c51b0 : decide (x7_3 < (x5_2.length : Int)) = true := decide_eq_true c51
               clear c51
               obtain ⟨ji52, hji52⟩ : ∃ j_ : Int, (wrap64 (x7_3 + 1)) = j_ := ⟨_, rfl⟩
               replace H : (if 0 ≤ (ji52) then (if (ji52) < (x5_2.length : Int) then (if 0 ≤ (wrap64 ((wrap64 ((rd x5_2 x7_3) * a0_0)) + (rd x5_2 (ji52)))) then (if (wrap64 ((wrap64 ((rd x5_2 x7_3) * a0_0)) + (rd x5_2 (ji52)))) < (x4_2.length : Int) then ((spec_l12Swap.f x5_2 x7_3).bind fun bt526 => (if x6_2.length < 17592186044416 then (spec_WiringOfSigns.l0 k3 (x4_2.set ((wrap64 ((wrap64 ((rd x5_2 x7_3) * a0_0)) + (rd x5_2 (ji52)))) : Int).toNat true) bt526.2 (x6_2 ++ [x7_3]) a0_0 a0_1) else (none))) else (none)) else (none)) else (none)) else (none)) = some (r1, r2) := by first | (rw [hji52] at H; exact H) | (simp only [hji52] at H ⊢; exact H)
               have hji52w : (IntKind.i64.wrap (x7_3 + 1)) = ji52 := (i64_w _).trans hji52
               by_cases c53 : 0 ≤ (ji52)
               ·rw [if_pos c53] at H
                have c53b0 : decide (0 ≤ (ji52)) = true := decide_eq_true c53
                clear c53
                by_cases c54 : (ji52) < (x5_2.length : Int)
                ·rw [if_pos c54] at H
                 have c54b0 : decide ((ji52) < (x5_2.length : Int)) = true := decide_eq_true c54
                 clear c54
                 obtain ⟨ji55, hji55⟩ : ∃ j_ : Int, (wrap64 ((wrap64 ((rd x5_2 x7_3) * a0_0)) + (rd x5_2 (ji52)))) = j_ := ⟨_, rfl⟩
                 replace H : (if 0 ≤ (ji55) then (if (ji55) < (x4_2.length : Int) then ((spec_l12Swap.f x5_2 x7_3).bind fun bt526 => (if x6_2.length < 17592186044416 then (spec_WiringOfSigns.l0 k3 (x4_2.set ((ji55) : Int).toNat true) bt526.2 (x6_2 ++ [x7_3]) a0_0 a0_1) else (none))) else (none)) else (none)) = some (r1, r2) := by first | (rw [hji55] at H; exact H) | (simp only [hji55] at H ⊢; exact H)
                 have hji55w : (IntKind.i64.wrap ((wrap64 ((rd x5_2 x7_3) * a0_0)) + (rd x5_2 (ji52)))) = ji55 := (i64_w _).trans hji55
                 by_cases c56 : 0 ≤ (ji55)
                 ·rw [if_pos c56] at H
                  have c56b0 : decide (0 ≤ (ji55)) = true := decide_eq_true c56
                  clear c56
                  by_cases c57 : (ji55) < (x4_2.length : Int)
                  ·rw [if_pos c57] at H
                   have c57b0 : decide ((ji55) < (x4_2.length : Int)) = true := decide_eq_true c57
                   clear c57
                   obtain ⟨y525, hy525⟩ : ∃ y_ : List Bool, y_ = (x4_2.set ((ji55) : Int).toNat true) := ⟨_, rfl⟩
                   replace H : ((spec_l12Swap.f x5_2 x7_3).bind fun bt526 => (if x6_2.length < 17592186044416 then (spec_WiringOfSigns.l0 k3 y525 bt526.2 (x6_2 ++ [x7_3]) a0_0 a0_1) else (none))) = some (r1, r2) := by first | (rw [hy525]; with_reducible exact H) | (have H2_ := (Option.bind_some _ _).symm.trans H; rw [hy525]; with_reducible exact H2_) | (have H2_ := (Option.bind_some _ _).symm.trans H; with_reducible exact H2_) | with_reducible exact H | (rw [hy525]; exact H) | exact H
                   have Ny525 := Aside0.mk hy525
                   clear hy525
                   replace H := Option.bind_eq_some_iff.mp H
                   obtain ⟨⟨t526, t527⟩, A590, H⟩ := H
                   (try dsimp only at H)
                   have A59 := Aside0.mk A590
                   clear A590
                   by_cases c60 : x6_2.length < 17592186044416
                   ·rw [if_pos c60] at H
                    have LMc60 := Aside0.mk c60
                    clear c60
                    obtain ⟨y528, hy528⟩ : ∃ y_ : List Int, y_ = (x6_2 ++ [x7_3]) := ⟨_, rfl⟩
                    replace H : (spec_WiringOfSigns.l0 k3 y525 t527 y528 a0_0 a0_1) = some (r1, r2) := by first | (rw [hy528]; with_reducible exact H) | (have H2_ := (Option.bind_some _ _).symm.trans H; rw [hy528]; with_reducible exact H2_) | (have H2_ := (Option.bind_some _ _).symm.trans H; with_reducible exact H2_) | with_reducible exact H | (rw [hy528]; exact H) | exact H
                    have Ny528 := Aside0.mk hy528
                    clear hy528
                    have H' := Aside0.mk H
                    clear H
                    try go_wp2
                    have n0_ := Aside0.mk (Kd.R_drew HO_4.out)
                    have n1_ := Aside0.mk (Kd.R_drew HO_5.out)
                    have n2_ := Aside0.mk (Kd.R_drew HO_6.out)
                    have n3_ := Aside0.mk (blk_drew BK501.out)
                    have n4_ := Aside0.mk (below_drew1 HB.out)
                    clear HO_4
                    clear HO_5
                    clear HO_6
                    clear BK501
                    clear HB
                    have HO_4 := n0_
                    have HO_5 := n1_
                    have HO_6 := n2_
                    have BK501 := n3_
                    have HB := n4_
                    clear n0_ n1_ n2_ n3_ n4_
                    obtain ⟨Ao62, co62, eo62⟩ := Kd.R_slice HO_5.out
                    (first | subst eo62 | (injection eo62 with f1_ f2_ f3_; have f4_ := f1_.symm; have f5_ := f3_.symm; clear f1_ f2_ f3_; subst f4_; subst f5_))
                    have p523 : 0 ≤ (x7_3 : Int) := of_decide_eq_true (by first | (with_reducible assumption) | assumption)
                    have q523 : x7_3 < (x5_2.length : Int) := of_decide_eq_true (by first | (with_reducible assumption) | assumption)
                    obtain ⟨ad523, e523, hx523_0⟩ := Kd.at_int (Kd.R_reads' HO_5.out).2.2 x7_3 p523 q523
                    cases e523
                    replace p523 := eq_true p523
                    replace q523 := eq_true q523
                    have p524 : 0 ≤ ((ji52) : Int) := of_decide_eq_true (by first | (with_reducible assumption) | assumption)
                    have q524 : (ji52) < (x5_2.length : Int) := of_decide_eq_true (by first | (with_reducible assumption) | assumption)
                    obtain ⟨ad524, e524, hx524_0⟩ := Kd.at_int (Kd.R_reads' HO_5.out).2.2 (ji52) p524 q524
                    obtain rfl : ad523 = ad524 := (by injection e524)
                    replace p524 := eq_true p524
                    replace q524 := eq_true q524
                    have p58 : 0 ≤ ((ji55) : Int) := of_decide_eq_true (by first | (with_reducible assumption) | assumption)
                    have q58 : ((ji55) : Int) < ((x4_2.length : Int) : Int) := of_decide_eq_true (by first | (with_reducible assumption) | assumption)
                    obtain ⟨go58, co58, eo58, gb58, gl58, cl58, HG58⟩ := Kd.R_form HO_4.out (by omega)
                    (first | cases eo58 | (injection eo58 with ea_ en_ ec_; (first | subst ea_ | (injection ea_ with ea_; subst ea_)); subst ec_; clear en_))
                    have GB58 := Aside0.mk gb58
                    have GG58 := Aside0.mk HG58
                    clear gb58 gl58 HG58
                    obtain ⟨hx58_0, hf58_0⟩ := Kd.R_celln false HO_4.out ((ji55) : Int) p58 q58
                    replace p58 := eq_true p58
                    replace q58 := eq_true q58
                    have HP63 := Kd.R_putn HO_4.out ((ji55) : Int) true
                    rw [← Ny525.out] at HP63
                    have HQ63 := Aside0.mk HP63
                    clear HP63
                    refine start_ (n := 16) (S := fun w' => w'.cell? ⟨gb501, 0, none⟩ = some (.int .i64 a0_0) ∧ w'.cell? ⟨gb501, 1, none⟩ = some (.string a0_1) ∧ w'.cell? (ad523.add (x7_3).toNat) = some (.int .i64 (rd x5_2 x7_3)) ∧ w'.cell? (ad523.add ((ji52)).toNat) = some (.int .i64 (rd x5_2 (ji52)))) (ds := [15]) #[false, false, false, false, false, false, false, false, false, false, false, false, false, false, false, false] (by kernel_rfl) rfl rfl ⟨(blk_cell BK501.out 0).trans rfl, (blk_cell BK501.out 1).trans rfl, hx523_0, hx524_0⟩ (fun hHeld => ?_); refine with_tabW spec_WiringOfSigns.tab15 spec_WiringOfSigns.bits15 (fun HT_ HW_ => ?_)
                    generalize wr.drew = w61 at HO_4 HO_5 HO_6 BK501 HB GG58 HQ63 hf58_0 hx523_0 hx524_0 hx58_0 hHeld ⊢
                    refine pu 0 74 HT_ ?_
                    refine pu 1 75 HT_ ?_
                    refine pu 2 76 HT_ ?_
                    refine pu 3 77 HT_ ?_
                    refine pu 5 79 HT_ ?_
                    refine pu 8 82 HT_ ?_
                    refine pu 9 83 HT_ ?_
                    refine pu 10 84 HT_ ?_
                    refine pu 11 85 HT_ ?_
                    refine take_ (i := 4) (N := some 78) (v := ?_) (a' := ?_) #[true, true, true, true, true, true, false, false, true, true, true, true, false, false, false, false] rfl rfl (take_ofW HT_.out HW_.out (by kernel_rfl)) (fun _ _ _ h => h) (Or.inl ⟨by rfl, ?_⟩) hHeld ?_ ?_
                    rotate_left
                    ·rintro w' ⟨s0, s1, s2, s3⟩
                     go_simp
                     with_reducible rfl
                    rotate_left
                    ·simp only [Act.put, List.setIfInBounds_toArray, List.set_cons_zero, List.set_cons_succ, i64_w, i32_w]
                     rfl
                    refine take_ (i := 6) (N := some 80) (v := ?_) (a' := ?_) #[true, true, true, true, true, true, true, false, true, true, true, true, false, false, false, false] rfl rfl (take_ofW HT_.out HW_.out (by kernel_rfl)) (fun _ _ _ h => h) (Or.inl ⟨by rfl, ?_⟩) hHeld ?_ ?_
                    rotate_left
                    ·rintro w' ⟨s0, s1, s2, s3⟩
                     go_simp
                     with_reducible rfl
                    rotate_left
                    ·simp only [Act.put, List.setIfInBounds_toArray, List.set_cons_zero, List.set_cons_succ, i64_w, i32_w]
                     rfl
                    refine pu 7 81 HT_ ?_
                    refine take_ (i := 12) (N := some 86) (v := ?_) (a' := ?_) #[true, true, true, true, true, true, true, true, true, true, true, true, true, false, false, false] rfl rfl (take_ofW HT_.out HW_.out (by kernel_rfl)) (fun _ _ _ h => h) (Or.inl ⟨by rfl, ?_⟩) hHeld ?_ ?_
                    rotate_left
                    ·rintro w' ⟨s0, s1, s2, s3⟩
                     go_simp
                     with_reducible rfl
                    rotate_left
                    ·simp only [Act.put, List.setIfInBounds_toArray, List.set_cons_zero, List.set_cons_succ, i64_w, i32_w]
                     rfl
                    refine pu 13 87 HT_ ?_
                    refine pu 14 88 HT_ ?_
                    refine last_ (i := 15) (N := none) #[true, true, true, true, true, true, true, true, true, true, true, true, true, true, true, true] rfl rfl (one_of HT_.out (by kernel_rfl)) (by decide) (fun K hK => ?_)
                    refine skip_ (w1 := ?_) (by rfl) rfl ?_ ?_
                    rotate_left
                    ·go_simp
                     rfl
                    refine hK.out _ _ ?_
                    clear hK K
                    refine done_ (done_of HT_.out (by kernel_rfl)) ?_
                    have n0_ : Aside0 (Kd.R Kd.bool 4 (w61.setCell ⟨go58, ((ji55) : Int).toNat, none⟩ (.bool true)) w.heap.size (fun _ => True) (.slice (some ⟨go58, 0, none⟩) x4_2.length co58) y525) := ⟨by (with_reducible repeat (first | apply Kd.R_alloc | apply Kd.R_drewN | apply Kd.R_drew)); exact HQ63.out⟩
                    have n1_ : Aside0 (Kd.R (Kd.int .i64) 3 (w61.setCell ⟨go58, ((ji55) : Int).toNat, none⟩ (.bool true)) w.heap.size (fun k_ => some k_ ≠ (.slice Ao26 x6_2.length co26 : Value).ownBlock) (.slice (some ad523) x5_2.length co62) x5_2) := ⟨by (with_reducible repeat (first | apply Kd.R_alloc | apply Kd.R_drewN | apply Kd.R_drew)); exact Kd.R_mono (Kd.R_far (p := ⟨go58, ((ji55) : Int).toNat, none⟩) (Kd.R_types HO_5.out GG58.out (by decide)) (fun _ hk => hk.2) (.bool true)) (fun _ hk => hk.1)⟩
                    have n2_ : Aside0 (Kd.R (Kd.int .i64) 3 (w61.setCell ⟨go58, ((ji55) : Int).toNat, none⟩ (.bool true)) w.heap.size (fun k_ => some k_ ≠ (.slice (some ad523) x5_2.length co62 : Value).ownBlock) (.slice Ao26 x6_2.length co26) x6_2) := ⟨by (with_reducible repeat (first | apply Kd.R_alloc | apply Kd.R_drewN | apply Kd.R_drew)); exact Kd.R_mono (Kd.R_far (p := ⟨go58, ((ji55) : Int).toNat, none⟩) (Kd.R_types HO_6.out GG58.out (by decide)) (fun _ hk => hk.2) (.bool true)) (fun _ hk => hk.1)⟩
                    have n3_ : Aside0 ((w61.setCell ⟨go58, ((ji55) : Int).toNat, none⟩ (.bool true)).heap[gb501]? = some (.cells #[.int .i64 a0_0, .string a0_1] 28 (0, 0))) := ⟨by (with_reducible repeat (first | refine blk_drewN ?_ _ | refine blk_drew ?_ | refine blk_alloc ?_ _)); refine blk_far ?_ (by have h_ := Kd.R_ne HO_4.out BK501.out (by decide); intro e_; exact h_ (by rw [e_]; rfl)) _; (with_reducible repeat (first | refine blk_drewN ?_ _ | refine blk_drew ?_ | refine blk_alloc ?_ _)); exact BK501.out⟩
                    have n4_ : Aside0 (Below w.heap.size w (w61.setCell ⟨go58, ((ji55) : Int).toNat, none⟩ (.bool true))) := ⟨by repeat (first | (with_reducible first | exact HB.out | apply below_alloc | apply pw_below_drewN | apply below_drew1 | refine below_set ?_ GB58.out | refine below_set ?_ GE501.out) | exact HB.out)⟩
                    (try clear HO_4)
                    (try clear HO_5)
                    (try clear HO_6)
                    (try clear BK501)
                    (try clear HB)
                    generalize (w61.setCell ⟨go58, ((ji55) : Int).toNat, none⟩ (.bool true)) = w64 at n0_ n1_ n2_ n3_ n4_ ⊢
                    have HO_4 := n0_
                    have HO_5 := n1_
                    have HO_6 := n2_
                    have BK501 := n3_
                    have HB := n4_
                    clear n0_ n1_ n2_ n3_ n4_
                    try go_wp2_with (first | ((with_reducible refine gate_callee (f := 51) rfl ?_); refine gL (some 91) rfl rfl Try.func51 (by kernel_rfl) rfl #[.slice (some ad523) x5_2.length co62, .int .i64 x7_3] rfl ?_; (with_reducible refine (spec_l12Swap.calls (fun k_ => some k_ = (.slice (some ad523) x5_2.length co62 : Value).ownBlock) (.slice (some ad523) x5_2.length co62) x5_2 x7_3 t526 t527 w _ ?side1 ?side2 A59.out).mono ?_); (case side1 => repeat (first | (with_reducible first | exact HB.out | apply below_alloc | apply pw_below_drewN | apply below_drew1 | refine below_set ?_ GE501.out) | exact HB.out)); (case side2 => exact Kd.R_tight rfl HO_5.out); rintro e w65 ⟨rfl, hy0, hb, hkp⟩; refine ⟨_, rfl, ?_⟩; have n0_ := Aside0.mk (Kd.R_mono (ok' := fun k_ => True) (Kd.R_keptB ((Kd.R_apart' HO_4.out (Kd.R_typed HO_5.out) (by decide))) hkp (fun k_ hk_ hs_ => (hk_.2) hs_)) (fun k_ hk_ => trivial)); have n1_ := Aside0.mk (Kd.R_reok rfl hy0 (fun k_ e_ => HO_5.out.1 k_ e_)); have n2_ := Aside0.mk (Kd.R_mono (ok' := fun k_ => some k_ ≠ (.slice (some ad523) x5_2.length co62 : Value).ownBlock) (Kd.R_keptB (HO_6.out) hkp (fun k_ hk_ hs_ => (hk_) hs_)) (fun k_ hk_ => hk_.1)); have n3_ := Aside0.mk (blk_kept (bk BK501) hkp (fun hs_ => (fun e_ => (Kd.R_ne HO_5.out BK501.out (by decide)) e_) hs_)); have n4_ := Aside0.mk (hb); clear HO_4; clear HO_5; clear HO_6; clear BK501; clear HB; have HO_4 := n0_; have HO_5 := n1_; have HO_6 := n2_; have BK501 := n3_; have HB := n4_; clear n0_ n1_ n2_ n3_ n4_; (try clear hb); (try clear hkp); (try clear hy0)) | ((with_reducible refine gate_builtin (b := .append) (xs := #[.tmp 92, .tmp 94]) rfl ?_); at_builtin; refine Kd.R_append (Kd.int .i64) (w0 := w) w.heap.size rfl (.tmp 92) (.tmp 94) 22 3 (.int .i64 0) 8 rfl Try.underlying22 info3 rfl (by decide) (by omega) (.slice Ao26 x6_2.length co26) x6_2 x7_3 [.int .i64 x7_3] (fun k_ => some k_ ≠ (.slice (some ad523) x5_2.length co62 : Value).ownBlock) (fun _ => False) rfl rfl ?aP (fun _ hk => hk.elim) ?aF ?aO ?aB ?aS ?aL ?_; (case aP => exact rfl); (case aB => exact (bg HB GE501)); (case aF => exact (fun k_ hk => Kd.fresh' (Kd.R_lt (rr HO_5)) k_ hk)); (case aO => exact (rr HO_6)); (case aS => exact (below_size (bg HB GE501))); (case aL => have := LMc60.out; omega); intro v529 w66 ho hb hg hat; rw [← Ny528.out] at ho; have n0_ := Aside0.mk (Kd.R_over' (rr HO_4) (Kd.R_typed (rr HO_6)) (by decide) hg); have n1_ := Aside0.mk (Kd.R_after (ok := (fun _ => True)) (by (with_reducible repeat (first | apply Kd.R_alloc | apply Kd.R_drewN | apply Kd.R_drew)); exact Kd.R_mono HO_5.out (fun _ hk => ⟨trivial, hk⟩)) hg hat); have n2_ := Aside0.mk (blk_grown (g := gb501) (o := .cells #[.int .i64 a0_0, .string a0_1] 28 (0, 0)) (bk BK501) hg (Kd.R_ne HO_6.out BK501.out (by decide))); have n3_ := Aside0.mk (hb); have n4_ := Aside0.mk (ho); clear HO_4; clear HO_5; clear BK501; clear HB; clear HO_6; have HO_4 := n0_; have HO_5 := n1_; have BK501 := n2_; have HB := n3_; have HO530 := n4_; clear n0_ n1_ n2_ n3_ n4_; clear ho hb hg hat))
                    go_roundg k3
                    case measure => have := HJ1.out; have := HK2.out; have := HK3.out; omega
                    case rel => exact ⟨(y525), (t527), (y528), H', ⟨by have := HJ1.out; have := HK2.out; have := HK3.out; omega⟩, ⟨by (with_reducible repeat (first | apply Kd.R_alloc | apply Kd.R_drewN | apply Kd.R_drew)); exact HO_4.out⟩, ⟨by (with_reducible repeat (first | apply Kd.R_alloc | apply Kd.R_drewN | apply Kd.R_drew)); exact Kd.R_mono HO_5.out (fun _ hk => hk.2)⟩, ⟨by (with_reducible repeat (first | apply Kd.R_alloc | apply Kd.R_drewN | apply Kd.R_drew)); exact HO530.out⟩, ⟨by (with_reducible repeat (first | refine blk_drewN ?_ _ | refine blk_drew ?_ | refine blk_alloc ?_ _)); exact BK501.out⟩, ⟨(bg HB GE501)⟩⟩
                   ·rw [if_neg c60] at H
                    exact absurd H (by simp)
                  ·rw [if_neg c57] at H
                   exact absurd H (by simp)
                 ·rw [if_neg c56] at H
                  exact absurd H (by simp)
                ·rw [if_neg c54] at H
                 exact absurd H (by simp)
               ·rw [if_neg c53] at H
                exact absurd H (by simp)
              ·rw [if_neg c51] at H
               exact absurd H (by simp)
             ·rw [if_neg c50] at H
              exact absurd H (by simp)
        ·rw [if_neg c25] at H
         have c25b0 : decide ((x6_2.length : Int) < (wrap64 (Int.tdiv (wrap64 (a0_0 * (wrap64 (a0_0 - 1)))) 2))) = false := decide_eq_false c25
         clear c25
         simp only [Option.some.injEq, Prod.mk.injEq] at H
         obtain ⟨rfl, rfl⟩ := H
         obtain ⟨Ao67, co67, eo67⟩ := Kd.R_slice HO_6.out
         subst eo67
         have hcz68_0 := bc BK501 0
         have hcz68_1 := bc BK501 1
         have hfz68_0 := bf BK501 0
         have hfz68_1 := bf BK501 1
         go_wp2
         go_ret2
         exact ⟨_, by first | rfl | (simp [errW_none, errW_some] <;> rfl) | (simp only [← hji14]; first | rfl | (simp [errW_none, errW_some] <;> rfl)) | (simp [*, errW_none, errW_some] <;> rfl), by (with_reducible repeat (first | apply Kd.R_alloc | apply Kd.R_drewN | apply Kd.R_drew)); exact Kd.R_mono HO_6.out (fun _ hk => trivial), (bg HB GE501)⟩
     ·rw [if_neg c16] at H
      exact absurd H (by simp)
    ·rw [if_neg c15] at H
     exact absurd H (by simp)

end Go.Proofs.Ythibphndihjcaaa.P
