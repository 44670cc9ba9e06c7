-- Printed by a program of this session (wip/tools/myprint.py, over the kit's print.py); not trusted: Lean checks it.
import Derived.Test.YtjjfjdejhddcnaaP0
import Derived.Test.YtjjfjdejhddcnaaP105
import Derived.Test.YtjjfjdejhddcnaaP46
import Derived.Test.YtjjfjdejhddcnaaP51
namespace Go.Proofs.Ytjjfjdejhddcnaa.P
open Go.RowKit Go.Proofs.YtjjfjdejhddcnaaW.PrintWords Go.Proofs.YtjjfjdejhddcnaaW.PrintLast Go.Proofs.YtjjfjdejhddcnaaW.PrintMore
attribute [local go_sem] max2_int min2_int max_two min_two max_three min_three max_four min_four   -- for this text's walks alone
set_option linter.unusedVariables false
set_option linter.unusedSimpArgs false

/-! ### spec_FreeEdges: function 21 -/
mutual
def spec_FreeEdges.l0 : Nat → Int → Int → Int → ByteArray → Option (Int)
 | 0, _, _, _, _ => none
 | k + 1, x3, x4, x347000, x347001 => if x4 < x347000 then ((spec_IsAcyclic.f k x347000 x347001).bind fun t347 => (spec_FreeEdges.j1 k x3 x4 t347 x347000 x347001)) else (spec_FreeEdges.j1 k x3 x4 false x347000 x347001)
def spec_FreeEdges.j1 : Nat → Int → Int → Bool → Int → ByteArray → Option (Int)
 | 0, _, _, _, _, _ => none
 | k + 1, x3, x4, x16, x347000, x347001 => if x16 = true then (spec_FreeEdges.l1 k x3 x4 (wrap64 (x4 + 1)) x347000 x347001) else (some x3)
def spec_FreeEdges.l1 : Nat → Int → Int → Int → Int → ByteArray → Option (Int)
 | 0, _, _, _, _, _ => none
 | k + 1, x3, x4, x5, x347000, x347001 => if x5 < x347000 then (spec_FreeEdges.l2 k x3 x4 x5 true 0 x347000 x347001) else (spec_FreeEdges.l0 k x3 (wrap64 (x4 + 1)) x347000 x347001)
def spec_FreeEdges.l2 : Nat → Int → Int → Int → Bool → Int → Int → ByteArray → Option (Int)
 | 0, _, _, _, _, _, _, _ => none
 | k + 1, x3, x4, x5, x6, x7, x347000, x347001 => if x7 < x347000 then (spec_FreeEdges.l3 k x3 x4 x5 x6 x7 (wrap64 (x7 + 1)) x347000 x347001) else (if x6 = true then ((spec_l9Index.f k x347000 x4 x5).bind fun t348 => (if 0 ≤ (IntKind.u64.wrap (t348)) then (spec_FreeEdges.l1 k (wrap64 (x3 + (shl .i64 1 (IntKind.u64.wrap (t348))))) x4 (wrap64 (x5 + 1)) x347000 x347001) else (none))) else (spec_FreeEdges.l1 k x3 x4 (wrap64 (x5 + 1)) x347000 x347001))
def spec_FreeEdges.l3 : Nat → Int → Int → Int → Bool → Int → Int → Int → ByteArray → Option (Int)
 | 0, _, _, _, _, _, _, _, _ => none
 | k + 1, x3, x4, x5, x6, x7, x8, x347000, x347001 => if x8 < x347000 then (if x6 = true then ((spec_l9Cross.f k x347000 x347001 x4 x5 x7 x8).bind fun t349 => (spec_FreeEdges.l3 k x3 x4 x5 (!t349) x7 (wrap64 (x8 + 1)) x347000 x347001)) else (spec_FreeEdges.l3 k x3 x4 x5 false x7 (wrap64 (x8 + 1)) x347000 x347001)) else (spec_FreeEdges.l2 k x3 x4 x5 x6 (wrap64 (x7 + 1)) x347000 x347001)
end
def spec_FreeEdges.f (k : Nat) (a0_0 : Int) (a0_1 : ByteArray) : Option (Int) := spec_FreeEdges.l0 k 0 0 a0_0 a0_1
theorem spec_FreeEdges.mono_l : ∀ k, (∀ y0 y1 y2 y3, LeO (spec_FreeEdges.l0 k y0 y1 y2 y3) (spec_FreeEdges.l0 (k + 1) y0 y1 y2 y3)) ∧ (∀ y0 y1 y2 y3 y4, LeO (spec_FreeEdges.j1 k y0 y1 y2 y3 y4) (spec_FreeEdges.j1 (k + 1) y0 y1 y2 y3 y4)) ∧ (∀ y0 y1 y2 y3 y4, LeO (spec_FreeEdges.l1 k y0 y1 y2 y3 y4) (spec_FreeEdges.l1 (k + 1) y0 y1 y2 y3 y4)) ∧ (∀ y0 y1 y2 y3 y4 y5 y6, LeO (spec_FreeEdges.l2 k y0 y1 y2 y3 y4 y5 y6) (spec_FreeEdges.l2 (k + 1) y0 y1 y2 y3 y4 y5 y6)) ∧ (∀ y0 y1 y2 y3 y4 y5 y6 y7, LeO (spec_FreeEdges.l3 k y0 y1 y2 y3 y4 y5 y6 y7) (spec_FreeEdges.l3 (k + 1) y0 y1 y2 y3 y4 y5 y6 y7))
 | 0 => ⟨fun _ _ _ _ r h => by simp [spec_FreeEdges.l0] at h, fun _ _ _ _ _ r h => by simp [spec_FreeEdges.j1] at h, fun _ _ _ _ _ r h => by simp [spec_FreeEdges.l1] at h, fun _ _ _ _ _ _ _ r h => by simp [spec_FreeEdges.l2] at h, fun _ _ _ _ _ _ _ _ r h => by simp [spec_FreeEdges.l3] at h⟩
 | k + 1 => by
  obtain ⟨ih0, ih1, ih2, ih3, ih4⟩ := spec_FreeEdges.mono_l k
  refine ⟨?_, ?_, ?_, ?_, ?_⟩
  ·intro y0 y1 y2 y3
   unfold spec_FreeEdges.l0
   repeat' first
   | (with_reducible exact ih0 _ _ _ _)
   | (with_reducible exact ih1 _ _ _ _ _)
   | (with_reducible exact ih2 _ _ _ _ _)
   | (with_reducible exact ih3 _ _ _ _ _ _ _)
   | (with_reducible exact ih4 _ _ _ _ _ _ _ _)
   | (with_reducible exact spec_IsAcyclic.mono _ _ _)
   | (with_reducible exact spec_l9Cross.mono _ _ _ _ _ _ _)
   | (with_reducible exact spec_l9Index.mono _ _ _ _)
   | (with_reducible exact LeO.refl _)
   | (with_reducible exact LeO.none _)
   | (with_reducible refine LeO.ite ?_ ?_)
   | (with_reducible refine LeO.bind ?_ (fun _ => ?_))
   | exact ih0 _ _ _ _
   | exact ih1 _ _ _ _ _
   | exact ih2 _ _ _ _ _
   | exact ih3 _ _ _ _ _ _ _
   | exact ih4 _ _ _ _ _ _ _ _
   | exact spec_IsAcyclic.mono _ _ _
   | exact spec_l9Cross.mono _ _ _ _ _ _ _
   | exact spec_l9Index.mono _ _ _ _
   | exact LeO.none _
   | refine LeO.ite ?_ ?_
   | refine LeO.bind ?_ (fun _ => ?_)
  ·intro y0 y1 y2 y3 y4
   unfold spec_FreeEdges.j1
   repeat' first
   | (with_reducible exact ih0 _ _ _ _)
   | (with_reducible exact ih1 _ _ _ _ _)
   | (with_reducible exact ih2 _ _ _ _ _)
   | (with_reducible exact ih3 _ _ _ _ _ _ _)
   | (with_reducible exact ih4 _ _ _ _ _ _ _ _)
   | (with_reducible exact spec_IsAcyclic.mono _ _ _)
   | (with_reducible exact spec_l9Cross.mono _ _ _ _ _ _ _)
   | (with_reducible exact spec_l9Index.mono _ _ _ _)
   | (with_reducible exact LeO.refl _)
   | (with_reducible exact LeO.none _)
   | (with_reducible refine LeO.ite ?_ ?_)
   | (with_reducible refine LeO.bind ?_ (fun _ => ?_))
   | exact ih0 _ _ _ _
   | exact ih1 _ _ _ _ _
   | exact ih2 _ _ _ _ _
   | exact ih3 _ _ _ _ _ _ _
   | exact ih4 _ _ _ _ _ _ _ _
   | exact spec_IsAcyclic.mono _ _ _
   | exact spec_l9Cross.mono _ _ _ _ _ _ _
   | exact spec_l9Index.mono _ _ _ _
   | exact LeO.none _
   | refine LeO.ite ?_ ?_
   | refine LeO.bind ?_ (fun _ => ?_)
  ·intro y0 y1 y2 y3 y4
   unfold spec_FreeEdges.l1
   repeat' first
   | (with_reducible exact ih0 _ _ _ _)
   | (with_reducible exact ih1 _ _ _ _ _)
   | (with_reducible exact ih2 _ _ _ _ _)
   | (with_reducible exact ih3 _ _ _ _ _ _ _)
   | (with_reducible exact ih4 _ _ _ _ _ _ _ _)
   | (with_reducible exact spec_IsAcyclic.mono _ _ _)
   | (with_reducible exact spec_l9Cross.mono _ _ _ _ _ _ _)
   | (with_reducible exact spec_l9Index.mono _ _ _ _)
   | (with_reducible exact LeO.refl _)
   | (with_reducible exact LeO.none _)
   | (with_reducible refine LeO.ite ?_ ?_)
   | (with_reducible refine LeO.bind ?_ (fun _ => ?_))
   | exact ih0 _ _ _ _
   | exact ih1 _ _ _ _ _
   | exact ih2 _ _ _ _ _
   | exact ih3 _ _ _ _ _ _ _
   | exact ih4 _ _ _ _ _ _ _ _
   | exact spec_IsAcyclic.mono _ _ _
   | exact spec_l9Cross.mono _ _ _ _ _ _ _
   | exact spec_l9Index.mono _ _ _ _
   | exact LeO.none _
   | refine LeO.ite ?_ ?_
   | refine LeO.bind ?_ (fun _ => ?_)
  ·intro y0 y1 y2 y3 y4 y5 y6
   unfold spec_FreeEdges.l2
   repeat' first
   | (with_reducible exact ih0 _ _ _ _)
   | (with_reducible exact ih1 _ _ _ _ _)
   | (with_reducible exact ih2 _ _ _ _ _)
   | (with_reducible exact ih3 _ _ _ _ _ _ _)
   | (with_reducible exact ih4 _ _ _ _ _ _ _ _)
   | (with_reducible exact spec_IsAcyclic.mono _ _ _)
   | (with_reducible exact spec_l9Cross.mono _ _ _ _ _ _ _)
   | (with_reducible exact spec_l9Index.mono _ _ _ _)
   | (with_reducible exact LeO.refl _)
   | (with_reducible exact LeO.none _)
   | (with_reducible refine LeO.ite ?_ ?_)
   | (with_reducible refine LeO.bind ?_ (fun _ => ?_))
   | exact ih0 _ _ _ _
   | exact ih1 _ _ _ _ _
   | exact ih2 _ _ _ _ _
   | exact ih3 _ _ _ _ _ _ _
   | exact ih4 _ _ _ _ _ _ _ _
   | exact spec_IsAcyclic.mono _ _ _
   | exact spec_l9Cross.mono _ _ _ _ _ _ _
   | exact spec_l9Index.mono _ _ _ _
   | exact LeO.none _
   | refine LeO.ite ?_ ?_
   | refine LeO.bind ?_ (fun _ => ?_)
  ·intro y0 y1 y2 y3 y4 y5 y6 y7
   unfold spec_FreeEdges.l3
   repeat' first
   | (with_reducible exact ih0 _ _ _ _)
   | (with_reducible exact ih1 _ _ _ _ _)
   | (with_reducible exact ih2 _ _ _ _ _)
   | (with_reducible exact ih3 _ _ _ _ _ _ _)
   | (with_reducible exact ih4 _ _ _ _ _ _ _ _)
   | (with_reducible exact spec_IsAcyclic.mono _ _ _)
   | (with_reducible exact spec_l9Cross.mono _ _ _ _ _ _ _)
   | (with_reducible exact spec_l9Index.mono _ _ _ _)
   | (with_reducible exact LeO.refl _)
   | (with_reducible exact LeO.none _)
   | (with_reducible refine LeO.ite ?_ ?_)
   | (with_reducible refine LeO.bind ?_ (fun _ => ?_))
   | exact ih0 _ _ _ _
   | exact ih1 _ _ _ _ _
   | exact ih2 _ _ _ _ _
   | exact ih3 _ _ _ _ _ _ _
   | exact ih4 _ _ _ _ _ _ _ _
   | exact spec_IsAcyclic.mono _ _ _
   | exact spec_l9Cross.mono _ _ _ _ _ _ _
   | exact spec_l9Index.mono _ _ _ _
   | exact LeO.none _
   | refine LeO.ite ?_ ?_
   | refine LeO.bind ?_ (fun _ => ?_)
theorem spec_FreeEdges.mono : ∀ a0 a1 k, LeO (spec_FreeEdges.f k a0 a1) (spec_FreeEdges.f (k + 1) a0 a1) := by
 intro a0 a1 k
 obtain ⟨ih0, ih1, ih2, ih3, ih4⟩ := spec_FreeEdges.mono_l k
 unfold spec_FreeEdges.f
 repeat' first
   | (with_reducible exact ih0 _ _ _ _)
   | (with_reducible exact ih1 _ _ _ _ _)
   | (with_reducible exact ih2 _ _ _ _ _)
   | (with_reducible exact ih3 _ _ _ _ _ _ _)
   | (with_reducible exact ih4 _ _ _ _ _ _ _ _)
   | (with_reducible exact spec_IsAcyclic.mono _ _ _)
   | (with_reducible exact spec_l9Cross.mono _ _ _ _ _ _ _)
   | (with_reducible exact spec_l9Index.mono _ _ _ _)
   | (with_reducible exact LeO.refl _)
   | (with_reducible exact LeO.none _)
   | (with_reducible refine LeO.ite ?_ ?_)
   | (with_reducible refine LeO.bind ?_ (fun _ => ?_))
   | exact ih0 _ _ _ _
   | exact ih1 _ _ _ _ _
   | exact ih2 _ _ _ _ _
   | exact ih3 _ _ _ _ _ _ _
   | exact ih4 _ _ _ _ _ _ _ _
   | exact spec_IsAcyclic.mono _ _ _
   | exact spec_l9Cross.mono _ _ _ _ _ _ _
   | exact spec_l9Index.mono _ _ _ _
   | exact LeO.none _
   | refine LeO.ite ?_ ?_
   | refine LeO.bind ?_ (fun _ => ?_)
set_option maxHeartbeats 8000000 in
set_option maxRecDepth 100000 in
theorem spec_FreeEdges.calls (k : Nat) (a0_0 : Int) (a0_1 : ByteArray) (r : Int) (w : World) (h : spec_FreeEdges.f k a0_0 a0_1 = some r) :
  Calls Try.prog 21 #[.agg #[.int .i64 a0_0, .string a0_1]] w fun e w' => e = .returned (.int .i64 r) ∧ Below w.heap.size w w' := by
 have hu26 := Try.underlying26
 have HB := Aside0.mk (Below.refl w.heap.size w)
 have H : (spec_FreeEdges.l0 k 0 0 a0_0 a0_1) = some r := h
 clear h
 have H' := Aside0.mk H
 clear H
 go_enter Try.func21, Try.ntmps21
 go_wp2_with (first | ((with_reducible refine gate_dst (N := 1) rfl ?_); refine box_event ?hg (N := 1) ?hd (cs := #[.int .i64 a0_0, .string a0_1]) (t := 26) ?hr ?_; (case hd => rfl); (case hg => rfl); (case hr => first | (go_simp; done) | (go_simp; rfl)); intro gb346 hg w2 hbox hb; have n0_ := Aside0.mk (below_step (by repeat (first | (with_reducible first | exact HB.out | apply below_alloc | apply pw_below_drewN | apply below_drew1) | exact HB.out)) hb); have n1_ := Aside0.mk (hbox); have n2_ := Aside0.mk ((by rw [hg]; exact (below_size (by repeat (first | (with_reducible first | exact HB.out | apply below_alloc | apply pw_below_drewN | apply below_drew1) | exact HB.out))) : w.heap.size ≤ gb346)); have n3_ := Aside0.mk ((by rw [hg]; exact (below_size (by repeat (first | (with_reducible first | exact HB.out | apply below_alloc | apply pw_below_drewN | apply below_drew1) | exact HB.out))) : w.heap.size ≤ gb346)); clear HB; have HB := n0_; have BK346 := n1_; have GW346 := n2_; have GE346 := n3_; clear n0_ n1_ n2_ n3_; clear hb hbox hg))
 go_loopg [3, 4] k (fun kq v3 v4 w' => ∃ (x3_1 : Int) (x4_1 : Int), v3 = .int .i64 x3_1 ∧ v4 = .int .i64 x4_1 ∧ Aside0 (spec_FreeEdges.l0 kq x3_1 x4_1 a0_0 a0_1 = some r) ∧ Aside0 (kq ≤ k) ∧ Aside0 (w'.heap[gb346]? = some (.cells #[.int .i64 a0_0, .string a0_1] 26 (0, 0))) ∧ Aside0 (Below w.heap.size w w'))
 case atStart => exact ⟨(0), (0), (by first | rfl | (simp; done) | (simp [*]; done)), (by first | rfl | (simp; done) | (simp [*]; done)), H', ⟨Nat.le_refl _⟩, ⟨by (with_reducible repeat (first | refine blk_drewN ?_ _ | refine blk_drew ?_ | refine blk_alloc ?_ _)); exact BK346.out⟩, ⟨by repeat (first | (with_reducible first | exact HB.out | apply below_alloc | apply pw_below_drewN | apply below_drew1 | refine below_set ?_ GE346.out) | exact HB.out)⟩⟩
 case round =>
  clear H'
  try clear c2
  try clear p2
  obtain ⟨x3_1, x4_1, rfl, rfl, HA, HK1, BK346, HB⟩ := hrel
  cases gk with
  | zero => exact absurd HA.out (by simp [spec_FreeEdges.l0])
  | succ k1 =>
   have H := HA.out
   clear HA
   simp only [spec_FreeEdges.l0] at H
   have HC3 := Aside0.mk H
   clear H
   go_upto_region 3 with (fail)
   go_cut [16] (fun v16 wc => ∃ (kq : Nat) (x16_2 : Bool), v16 = .bool x16_2 ∧ Aside0 (spec_FreeEdges.j1 kq x3_1 x4_1 x16_2 a0_0 a0_1 = some r) ∧ Aside0 (kq ≤ k1) ∧ Aside0 (wc.heap[gb346]? = some (.cells #[.int .i64 a0_0, .string a0_1] 26 (0, 0))) ∧ Aside0 (Below w.heap.size w wc))
   case first =>
    have H := HC3.out
    clear HC3
    by_cases c4 : x4_1 < a0_0
    ·rw [if_pos c4] at H
     have c4b0 : decide (x4_1 < a0_0) = true := decide_eq_true c4
     clear c4
     (first | rw [c4b0] | (simp only [i64_w, i32_w]; rw [c4b0]) | skip)
     replace H := Option.bind_eq_some_iff.mp H
     obtain ⟨t347, A50, H⟩ := H
     replace H : (spec_FreeEdges.j1 k1 x3_1 x4_1 t347 a0_0 a0_1) = some r := H
     have A5 := Aside0.mk A50
     clear A50
     have H' := Aside0.mk H
     clear H
     have hcz6_0 : wr.cell? ⟨gb346, 0, none⟩ = some (.int .i64 a0_0) := (blk_cell BK346.out 0).trans rfl
     have hcz6_1 : wr.cell? ⟨gb346, 1, none⟩ = some (.string a0_1) := (blk_cell BK346.out 1).trans rfl
     have hfz6_0 := blk_frozen BK346.out 0
     have hfz6_1 := blk_frozen BK346.out 1
     go_wp2_with (first | (go_at_call 44; (with_reducible refine (spec_IsAcyclic.calls k1 a0_0 a0_1 t347 _ A5.out).mono ?_); rintro e w7 ⟨rfl, hb⟩; have n0_ := Aside0.mk (blk_below (g := gb346) (o := .cells #[.int .i64 a0_0, .string a0_1] 26 (0, 0)) (by (with_reducible repeat (first | refine blk_drewN ?_ _ | refine blk_drew ?_ | refine blk_alloc ?_ _)); exact BK346.out) hb); have n1_ := Aside0.mk (below_step (by repeat (first | (with_reducible first | exact HB.out | apply below_alloc | apply pw_below_drewN | apply below_drew1 | refine below_set ?_ GE346.out) | exact HB.out)) hb); clear BK346; clear HB; have BK346 := n0_; have HB := n1_; clear n0_ n1_; (try clear hb); (try clear hb2); (try clear hk); (try clear hi)))
     go_meet
     case rel => exact ⟨_, (t347), (by first | rfl | (simp; done) | (simp [*]; done)), H', ⟨by have := HK1.out; first | omega | exact Nat.le_refl _⟩, ⟨by (with_reducible repeat (first | refine blk_drewN ?_ _ | refine blk_drew ?_ | refine blk_alloc ?_ _)); exact BK346.out⟩, ⟨by repeat (first | (with_reducible first | exact HB.out | apply below_alloc | apply pw_below_drewN | apply below_drew1 | refine below_set ?_ GE346.out) | exact HB.out)⟩⟩
    ·rw [if_neg c4] at H
     have c4b0 : decide (x4_1 < a0_0) = false := decide_eq_false c4
     clear c4
     (first | rw [c4b0] | (simp only [i64_w, i32_w]; rw [c4b0]) | skip)
     have H' := Aside0.mk H
     clear H
     have hcz8_0 : wr.cell? ⟨gb346, 0, none⟩ = some (.int .i64 a0_0) := (blk_cell BK346.out 0).trans rfl
     have hcz8_1 : wr.cell? ⟨gb346, 1, none⟩ = some (.string a0_1) := (blk_cell BK346.out 1).trans rfl
     have hfz8_0 := blk_frozen BK346.out 0
     have hfz8_1 := blk_frozen BK346.out 1
     go_wp2
     go_meet
     case rel => exact ⟨_, (false), (by first | rfl | (simp; done) | (simp [*]; done)), H', ⟨by have := HK1.out; first | omega | exact Nat.le_refl _⟩, ⟨by (with_reducible repeat (first | refine blk_drewN ?_ _ | refine blk_drew ?_ | refine blk_alloc ?_ _)); exact BK346.out⟩, ⟨by repeat (first | (with_reducible first | exact HB.out | apply below_alloc | apply pw_below_drewN | apply below_drew1 | refine below_set ?_ GE346.out) | exact HB.out)⟩⟩
   case rest =>
    clear HC3
    try clear c2
    try clear p2
    try clear c4
    try clear c4b0
    try clear hcz6_0
    try clear hcz6_1
    try clear hcz8_0
    try clear hcz8_1
    try clear hfz6_0
    try clear hfz6_1
    try clear hfz8_0
    try clear hfz8_1
    try clear p2
    obtain ⟨kq, x16_2, rfl, HA, HJ2, BK346, HB⟩ := hcut
    cases kq with
    | zero => exact absurd HA.out (by simp [spec_FreeEdges.j1])
    | succ kj2 =>
     have H := HA.out
     clear HA
     simp only [spec_FreeEdges.j1] at H
     by_cases c9 : x16_2 = true
     ·subst c9
      have H1 : (spec_FreeEdges.l1 kj2 x3_1 x4_1 (wrap64 (x4_1 + 1)) a0_0 a0_1) = some r := by rw [if_pos rfl] at H; exact H
      clear H
      have H := H1
      clear H1
      have H' := Aside0.mk H
      clear H
      go_wp2
      go_loopg [3, 5] kj2 (fun kq v3 v5 w' => ∃ (x3_3 : Int) (x5_3 : Int), v3 = .int .i64 x3_3 ∧ v5 = .int .i64 x5_3 ∧ Aside0 (spec_FreeEdges.l1 kq x3_3 x4_1 x5_3 a0_0 a0_1 = some r) ∧ Aside0 (kq ≤ kj2) ∧ Aside0 (w'.heap[gb346]? = some (.cells #[.int .i64 a0_0, .string a0_1] 26 (0, 0))) ∧ Aside0 (Below w.heap.size w w'))
      case atStart => exact ⟨(x3_1), (wrap64 (x4_1 + 1)), (by first | rfl | (simp; done) | (simp [*]; done)), (by first | rfl | (simp; done) | (simp [*]; done)), H', ⟨Nat.le_refl _⟩, ⟨by (with_reducible repeat (first | refine blk_drewN ?_ _ | refine blk_drew ?_ | refine blk_alloc ?_ _)); exact BK346.out⟩, ⟨by repeat (first | (with_reducible first | exact HB.out | apply below_alloc | apply pw_below_drewN | apply below_drew1 | refine below_set ?_ GE346.out) | exact HB.out)⟩⟩
      case round =>
       clear H'
       try clear c2
       try clear p2
       try clear c4
       try clear c4b0
       try clear p6
       try clear c9
       try clear hcz6_0
       try clear hcz6_1
       try clear hcz8_0
       try clear hcz8_1
       try clear hfz6_0
       try clear hfz6_1
       try clear hfz8_0
       try clear hfz8_1
       try clear p2
       obtain ⟨x3_3, x5_3, rfl, rfl, HA, HK3, BK346, HB⟩ := hrel
       cases gk with
       | zero => exact absurd HA.out (by simp [spec_FreeEdges.l1])
       | succ k3 =>
        have H := HA.out
        clear HA
        simp only [spec_FreeEdges.l1] at H
        by_cases c10 : x5_3 < a0_0
        ·rw [if_pos c10] at H
         have c10b0 : decide (x5_3 < a0_0) = true := decide_eq_true c10
         clear c10
         have H' := Aside0.mk H
         clear H
         have hcz11_0 : wr.cell? ⟨gb346, 0, none⟩ = some (.int .i64 a0_0) := (blk_cell BK346.out 0).trans rfl
         have hcz11_1 : wr.cell? ⟨gb346, 1, none⟩ = some (.string a0_1) := (blk_cell BK346.out 1).trans rfl
         have hfz11_0 := blk_frozen BK346.out 0
         have hfz11_1 := blk_frozen BK346.out 1
         go_wp2
         go_loopg [6, 7] k3 (fun kq v6 v7 w' => ∃ (x6_4 : Bool) (x7_4 : Int), v6 = .bool x6_4 ∧ v7 = .int .i64 x7_4 ∧ Aside0 (spec_FreeEdges.l2 kq x3_3 x4_1 x5_3 x6_4 x7_4 a0_0 a0_1 = some r) ∧ Aside0 (kq ≤ k3) ∧ Aside0 (w'.heap[gb346]? = some (.cells #[.int .i64 a0_0, .string a0_1] 26 (0, 0))) ∧ Aside0 (Below w.heap.size w w'))
         case atStart => exact ⟨(true), (0), (by first | rfl | (simp; done) | (simp [*]; done)), (by first | rfl | (simp; done) | (simp [*]; done)), H', ⟨Nat.le_refl _⟩, ⟨by (with_reducible repeat (first | refine blk_drewN ?_ _ | refine blk_drew ?_ | refine blk_alloc ?_ _)); exact BK346.out⟩, ⟨by repeat (first | (with_reducible first | exact HB.out | apply below_alloc | apply pw_below_drewN | apply below_drew1 | refine below_set ?_ GE346.out) | exact HB.out)⟩⟩
         case round =>
          clear H'
          try clear c1
          try clear c2
          try clear p2
          try clear c4
          try clear c4b0
          try clear p6
          try clear c9
          try clear c10
          try clear c10b0
          try clear hcz11_0
          try clear hcz11_1
          try clear hcz6_0
          try clear hcz6_1
          try clear hcz8_0
          try clear hcz8_1
          try clear hfz11_0
          try clear hfz11_1
          try clear hfz6_0
          try clear hfz6_1
          try clear hfz8_0
          try clear hfz8_1
          try clear p2
          try clear p6
          obtain ⟨x6_4, x7_4, rfl, rfl, HA, HK4, BK346, HB⟩ := hrel
          cases gk with
          | zero => exact absurd HA.out (by simp [spec_FreeEdges.l2])
          | succ k4 =>
           have H := HA.out
           clear HA
           simp only [spec_FreeEdges.l2] at H
           by_cases c12 : x7_4 < a0_0
           ·rw [if_pos c12] at H
            have c12b0 : decide (x7_4 < a0_0) = true := decide_eq_true c12
            clear c12
            have H' := Aside0.mk H
            clear H
            have hcz13_0 : wr.cell? ⟨gb346, 0, none⟩ = some (.int .i64 a0_0) := (blk_cell BK346.out 0).trans rfl
            have hcz13_1 : wr.cell? ⟨gb346, 1, none⟩ = some (.string a0_1) := (blk_cell BK346.out 1).trans rfl
            have hfz13_0 := blk_frozen BK346.out 0
            have hfz13_1 := blk_frozen BK346.out 1
            go_wp2
            go_loopg [6, 8] k4 (fun kq v6 v8 w' => ∃ (x6_5 : Bool) (x8_5 : Int), v6 = .bool x6_5 ∧ v8 = .int .i64 x8_5 ∧ Aside0 (spec_FreeEdges.l3 kq x3_3 x4_1 x5_3 x6_5 x7_4 x8_5 a0_0 a0_1 = some r) ∧ Aside0 (kq ≤ k4) ∧ Aside0 (w'.heap[gb346]? = some (.cells #[.int .i64 a0_0, .string a0_1] 26 (0, 0))) ∧ Aside0 (Below w.heap.size w w'))
            case atStart => exact ⟨(x6_4), (wrap64 (x7_4 + 1)), (by first | rfl | (simp; done) | (simp [*]; done)), (by first | rfl | (simp; done) | (simp [*]; done)), H', ⟨Nat.le_refl _⟩, ⟨by (with_reducible repeat (first | refine blk_drewN ?_ _ | refine blk_drew ?_ | refine blk_alloc ?_ _)); exact BK346.out⟩, ⟨by repeat (first | (with_reducible first | exact HB.out | apply below_alloc | apply pw_below_drewN | apply below_drew1 | refine below_set ?_ GE346.out) | exact HB.out)⟩⟩
            case round =>
             clear H'
             try clear c1
             try clear c2
             try clear p2
             try clear c4
             try clear c4b0
             try clear p6
             try clear c9
             try clear c10
             try clear c10b0
             try clear c12
             try clear c12b0
             try clear hcz11_0
             try clear hcz11_1
             try clear hcz13_0
             try clear hcz13_1
             try clear hcz6_0
             try clear hcz6_1
             try clear hcz8_0
             try clear hcz8_1
             try clear hfz11_0
             try clear hfz11_1
             try clear hfz13_0
             try clear hfz13_1
             try clear hfz6_0
             try clear hfz6_1
             try clear hfz8_0
             try clear hfz8_1
             try clear p2
             try clear p6
             obtain ⟨x6_5, x8_5, rfl, rfl, HA, HK5, BK346, HB⟩ := hrel
             cases gk with
             | zero => exact absurd HA.out (by simp [spec_FreeEdges.l3])
             | succ k5 =>
              have H := HA.out
              clear HA
              simp only [spec_FreeEdges.l3] at H
              by_cases c14 : x8_5 < a0_0
              ·rw [if_pos c14] at H
               have c14b0 : decide (x8_5 < a0_0) = true := decide_eq_true c14
               clear c14
               by_cases c15 : x6_5 = true
               ·subst c15
                have H1 : ((spec_l9Cross.f k5 a0_0 a0_1 x4_1 x5_3 x7_4 x8_5).bind fun t349 => (spec_FreeEdges.l3 k5 x3_3 x4_1 x5_3 (!t349) x7_4 (wrap64 (x8_5 + 1)) a0_0 a0_1)) = some r := by rw [if_pos rfl] at H; exact H
                clear H
                have H := H1
                clear H1
                replace H := Option.bind_eq_some_iff.mp H
                obtain ⟨t349, A160, H⟩ := H
                replace H : (spec_FreeEdges.l3 k5 x3_3 x4_1 x5_3 (!t349) x7_4 (wrap64 (x8_5 + 1)) a0_0 a0_1) = some r := H
                have A16 := Aside0.mk A160
                clear A160
                have H' := Aside0.mk H
                clear H
                have hcz17_0 : wr.cell? ⟨gb346, 0, none⟩ = some (.int .i64 a0_0) := (blk_cell BK346.out 0).trans rfl
                have hcz17_1 : wr.cell? ⟨gb346, 1, none⟩ = some (.string a0_1) := (blk_cell BK346.out 1).trans rfl
                have hfz17_0 := blk_frozen BK346.out 0
                have hfz17_1 := blk_frozen BK346.out 1
                go_wp2_with (first | (go_at_call 51; (with_reducible refine (spec_l9Cross.calls k5 a0_0 a0_1 x4_1 x5_3 x7_4 x8_5 t349 _ A16.out).mono ?_); rintro e w18 ⟨rfl, hb⟩; have n0_ := Aside0.mk (blk_below (g := gb346) (o := .cells #[.int .i64 a0_0, .string a0_1] 26 (0, 0)) (by (with_reducible repeat (first | refine blk_drewN ?_ _ | refine blk_drew ?_ | refine blk_alloc ?_ _)); exact BK346.out) hb); have n1_ := Aside0.mk (below_step (by repeat (first | (with_reducible first | exact HB.out | apply below_alloc | apply pw_below_drewN | apply below_drew1 | refine below_set ?_ GE346.out) | exact HB.out)) hb); clear BK346; clear HB; have BK346 := n0_; have HB := n1_; clear n0_ n1_; (try clear hb); (try clear hb2); (try clear hk); (try clear hi)))
                go_roundg k5
                case measure => have := HK1.out; have := HJ2.out; have := HK3.out; have := HK4.out; have := HK5.out; omega
                case rel => exact ⟨(!t349), (wrap64 (x8_5 + 1)), (by first | rfl | (simp; done) | (simp [*]; done)), (by first | rfl | (simp; done) | (simp [*]; done)), H', ⟨by have := HK1.out; have := HJ2.out; have := HK3.out; have := HK4.out; have := HK5.out; omega⟩, ⟨by (with_reducible repeat (first | refine blk_drewN ?_ _ | refine blk_drew ?_ | refine blk_alloc ?_ _)); exact BK346.out⟩, ⟨by repeat (first | (with_reducible first | exact HB.out | apply below_alloc | apply pw_below_drewN | apply below_drew1 | refine below_set ?_ GE346.out) | exact HB.out)⟩⟩
               ·replace c15 := Bool.eq_false_iff.mpr c15
                subst c15
                have H1 : (spec_FreeEdges.l3 k5 x3_3 x4_1 x5_3 false x7_4 (wrap64 (x8_5 + 1)) a0_0 a0_1) = some r := by rw [if_neg (show ¬ (false = true) by decide)] at H; exact H
                clear H
                have H := H1
                clear H1
                have H' := Aside0.mk H
                clear H
                have hcz19_0 : wr.cell? ⟨gb346, 0, none⟩ = some (.int .i64 a0_0) := (blk_cell BK346.out 0).trans rfl
                have hcz19_1 : wr.cell? ⟨gb346, 1, none⟩ = some (.string a0_1) := (blk_cell BK346.out 1).trans rfl
                have hfz19_0 := blk_frozen BK346.out 0
                have hfz19_1 := blk_frozen BK346.out 1
                go_wp2
                go_roundg k5
                case measure => have := HK1.out; have := HJ2.out; have := HK3.out; have := HK4.out; have := HK5.out; omega
                case rel => exact ⟨(false), (wrap64 (x8_5 + 1)), (by first | rfl | (simp; done) | (simp [*]; done)), (by first | rfl | (simp; done) | (simp [*]; done)), H', ⟨by have := HK1.out; have := HJ2.out; have := HK3.out; have := HK4.out; have := HK5.out; omega⟩, ⟨by (with_reducible repeat (first | refine blk_drewN ?_ _ | refine blk_drew ?_ | refine blk_alloc ?_ _)); exact BK346.out⟩, ⟨by repeat (first | (with_reducible first | exact HB.out | apply below_alloc | apply pw_below_drewN | apply below_drew1 | refine below_set ?_ GE346.out) | exact HB.out)⟩⟩
              ·rw [if_neg c14] at H
               have c14b0 : decide (x8_5 < a0_0) = false := decide_eq_false c14
               clear c14
               have H' := Aside0.mk H
               clear H
               have hcz20_0 : wr.cell? ⟨gb346, 0, none⟩ = some (.int .i64 a0_0) := (blk_cell BK346.out 0).trans rfl
               have hcz20_1 : wr.cell? ⟨gb346, 1, none⟩ = some (.string a0_1) := (blk_cell BK346.out 1).trans rfl
               have hfz20_0 := blk_frozen BK346.out 0
               have hfz20_1 := blk_frozen BK346.out 1
               go_wp2
               go_roundg k5
               case measure => have := HK1.out; have := HJ2.out; have := HK3.out; have := HK4.out; have := HK5.out; omega
               case rel => exact ⟨(x6_5), (wrap64 (x7_4 + 1)), (by first | rfl | (simp; done) | (simp [*]; done)), (by first | rfl | (simp; done) | (simp [*]; done)), H', ⟨by have := HK1.out; have := HJ2.out; have := HK3.out; have := HK4.out; have := HK5.out; omega⟩, ⟨by (with_reducible repeat (first | refine blk_drewN ?_ _ | refine blk_drew ?_ | refine blk_alloc ?_ _)); exact BK346.out⟩, ⟨by repeat (first | (with_reducible first | exact HB.out | apply below_alloc | apply pw_below_drewN | apply below_drew1 | refine below_set ?_ GE346.out) | exact HB.out)⟩⟩
           ·rw [if_neg c12] at H
            have c12b0 : decide (x7_4 < a0_0) = false := decide_eq_false c12
            clear c12
            by_cases c21 : x6_4 = true
            ·subst c21
             have H1 : ((spec_l9Index.f k4 a0_0 x4_1 x5_3).bind fun t348 => (if 0 ≤ (IntKind.u64.wrap (t348)) then (spec_FreeEdges.l1 k4 (wrap64 (x3_3 + (shl .i64 1 (IntKind.u64.wrap (t348))))) x4_1 (wrap64 (x5_3 + 1)) a0_0 a0_1) else (none))) = some r := by rw [if_pos rfl] at H; exact H
             clear H
             have H := H1
             clear H1
             replace H := Option.bind_eq_some_iff.mp H
             obtain ⟨t348, A220, H⟩ := H
             replace H : (if 0 ≤ (IntKind.u64.wrap (t348)) then (spec_FreeEdges.l1 k4 (wrap64 (x3_3 + (shl .i64 1 (IntKind.u64.wrap (t348))))) x4_1 (wrap64 (x5_3 + 1)) a0_0 a0_1) else (none)) = some r := H
             have A22 := Aside0.mk A220
             clear A220
             obtain ⟨ji23, hji23⟩ : ∃ j_ : Int, (IntKind.u64.wrap (t348)) = j_ := ⟨_, rfl⟩
             replace H : (if 0 ≤ (ji23) then (spec_FreeEdges.l1 k4 (wrap64 (x3_3 + (shl .i64 1 (ji23)))) x4_1 (wrap64 (x5_3 + 1)) a0_0 a0_1) else (none)) = some r := by first | (rw [hji23] at H; exact H) | (simp only [hji23] at H ⊢; exact H)
             (try rw [hji23] at A22)
             by_cases c24 : 0 ≤ (ji23)
             ·rw [if_pos c24] at H
              have c24b0 := eq_true c24
              have c24b1 : decide (0 ≤ (ji23)) = true := decide_eq_true c24
              clear c24
              obtain ⟨ji25, hji25⟩ : ∃ j_ : Int, (shl .i64 1 (ji23)) = j_ := ⟨_, rfl⟩
              replace H : (spec_FreeEdges.l1 k4 (wrap64 (x3_3 + (ji25))) x4_1 (wrap64 (x5_3 + 1)) a0_0 a0_1) = some r := by first | (rw [hji25] at H; exact H) | (simp only [hji25] at H ⊢; exact H)
              (try rw [hji25] at A22)
              have hji25_ : (IntKind.i64.wrap (1 * 2 ^ min (ji23).toNat 64)) = ji25 := hji25
              have hji25z : (ji23) ≤ 64 → (IntKind.i64.wrap (1 * 2 ^ (ji23).toNat)) = ji25 := shl_small hji25
              have hji25u : (IntKind.i64.wrap (2 ^ min (ji23).toNat 64)) = ji25 := by have h_ := hji25_; rw [Int.one_mul] at h_; exact h_
              have hji25v : (ji23) ≤ 64 → (IntKind.i64.wrap (2 ^ (ji23).toNat)) = ji25 := fun hle_ => by have h_ := hji25z hle_; rw [Int.one_mul] at h_; exact h_
              have hji25y : (wrap64 (1 * 2 ^ min (ji23).toNat 64)) = ji25 := (i64_w _).symm.trans hji25_
              have hji25x : (ji23) ≤ 64 → (wrap64 (1 * 2 ^ (ji23).toNat)) = ji25 := fun h_ => (i64_w _).symm.trans (hji25z h_)
              have H' := Aside0.mk H
              clear H
              have hcz26_0 : wr.cell? ⟨gb346, 0, none⟩ = some (.int .i64 a0_0) := (blk_cell BK346.out 0).trans rfl
              have hcz26_1 : wr.cell? ⟨gb346, 1, none⟩ = some (.string a0_1) := (blk_cell BK346.out 1).trans rfl
              have hfz26_0 := blk_frozen BK346.out 0
              have hfz26_1 := blk_frozen BK346.out 1
              go_wp2_with (first | ((with_reducible refine gate_callee (f := 46) rfl ?_); refine goesL_ (some 57) rfl rfl Try.func46 (by kernel_rfl) rfl #[.int .i64 a0_0, .int .i64 x4_1, .int .i64 x5_3] rfl (by (try simp only [List.map_toArray, List.map_cons, List.map_nil]); first | done | rfl | (simp only [List.length_drop, List.length_take]; rfl)) ?_; (with_reducible refine (spec_l9Index.calls k4 a0_0 x4_1 x5_3 t348 _ A22.out).mono ?_); rintro e w' ⟨rfl, ⟨nd, rfl⟩⟩; refine ⟨_, rfl, ?_⟩))
              go_roundg k4
              case measure => have := HK1.out; have := HJ2.out; have := HK3.out; have := HK4.out; omega
              case rel => exact ⟨(wrap64 (x3_3 + (ji25))), (wrap64 (x5_3 + 1)), (by first | rfl | (simp; done) | (simp only [← hji25] <;> (first | rfl | simp)) | (simp [*]; done)), (by first | rfl | (simp; done) | (simp [*]; done)), H', ⟨by have := HK1.out; have := HJ2.out; have := HK3.out; have := HK4.out; omega⟩, ⟨by (with_reducible repeat (first | refine blk_drewN ?_ _ | refine blk_drew ?_ | refine blk_alloc ?_ _)); exact BK346.out⟩, ⟨by repeat (first | (with_reducible first | exact HB.out | apply below_alloc | apply pw_below_drewN | apply below_drew1 | refine below_set ?_ GE346.out) | exact HB.out)⟩⟩
             ·rw [if_neg c24] at H
              exact absurd H (by simp)
            ·replace c21 := Bool.eq_false_iff.mpr c21
             subst c21
             have H1 : (spec_FreeEdges.l1 k4 x3_3 x4_1 (wrap64 (x5_3 + 1)) a0_0 a0_1) = some r := by rw [if_neg (show ¬ (false = true) by decide)] at H; exact H
             clear H
             have H := H1
             clear H1
             have H' := Aside0.mk H
             clear H
             have hcz27_0 : wr.cell? ⟨gb346, 0, none⟩ = some (.int .i64 a0_0) := (blk_cell BK346.out 0).trans rfl
             have hcz27_1 : wr.cell? ⟨gb346, 1, none⟩ = some (.string a0_1) := (blk_cell BK346.out 1).trans rfl
             have hfz27_0 := blk_frozen BK346.out 0
             have hfz27_1 := blk_frozen BK346.out 1
             go_wp2
             go_roundg k4
             case measure => have := HK1.out; have := HJ2.out; have := HK3.out; have := HK4.out; omega
             case rel => exact ⟨(x3_3), (wrap64 (x5_3 + 1)), (by first | rfl | (simp; done) | (simp [*]; done)), (by first | rfl | (simp; done) | (simp [*]; done)), H', ⟨by have := HK1.out; have := HJ2.out; have := HK3.out; have := HK4.out; omega⟩, ⟨by (with_reducible repeat (first | refine blk_drewN ?_ _ | refine blk_drew ?_ | refine blk_alloc ?_ _)); exact BK346.out⟩, ⟨by repeat (first | (with_reducible first | exact HB.out | apply below_alloc | apply pw_below_drewN | apply below_drew1 | refine below_set ?_ GE346.out) | exact HB.out)⟩⟩
        ·rw [if_neg c10] at H
         have c10b0 : decide (x5_3 < a0_0) = false := decide_eq_false c10
         clear c10
         have H' := Aside0.mk H
         clear H
         have hcz28_0 : wr.cell? ⟨gb346, 0, none⟩ = some (.int .i64 a0_0) := (blk_cell BK346.out 0).trans rfl
         have hcz28_1 : wr.cell? ⟨gb346, 1, none⟩ = some (.string a0_1) := (blk_cell BK346.out 1).trans rfl
         have hfz28_0 := blk_frozen BK346.out 0
         have hfz28_1 := blk_frozen BK346.out 1
         go_wp2
         go_roundg k3
         case measure => have := HK1.out; have := HJ2.out; have := HK3.out; omega
         case rel => exact ⟨(x3_3), (wrap64 (x4_1 + 1)), (by first | rfl | (simp; done) | (simp [*]; done)), (by first | rfl | (simp; done) | (simp [*]; done)), H', ⟨by have := HK1.out; have := HJ2.out; have := HK3.out; omega⟩, ⟨by (with_reducible repeat (first | refine blk_drewN ?_ _ | refine blk_drew ?_ | refine blk_alloc ?_ _)); exact BK346.out⟩, ⟨by repeat (first | (with_reducible first | exact HB.out | apply below_alloc | apply pw_below_drewN | apply below_drew1 | refine below_set ?_ GE346.out) | exact HB.out)⟩⟩
     ·replace c9 := Bool.eq_false_iff.mpr c9
      subst c9
      have H1 : (some x3_1) = some r := by rw [if_neg (show ¬ (false = true) by decide)] at H; exact H
      clear H
      have H := H1
      clear H1
      obtain rfl := Option.some.inj H
      go_wp2
      go_ret
      exact ⟨by first | rfl | (simp [errW_none, errW_some] <;> rfl) | (simp [*, errW_none, errW_some] <;> rfl), by repeat (first | (with_reducible first | exact HB.out | apply below_alloc | apply pw_below_drewN | apply below_drew1 | refine below_set ?_ GE346.out) | exact HB.out)⟩

end Go.Proofs.Ytjjfjdejhddcnaa.P
