-- Printed by a program of this session (wip/tools/myprint.py, over the kit's print.py); not trusted: Lean checks it.
import Derived.Test.YtjjfjdejhddcnaaP0
import Derived.Test.YtjjfjdejhddcnaaP105
import Derived.Test.YtjjfjdejhddcnaaP15
import Derived.Test.YtjjfjdejhddcnaaP46
import Derived.Test.YtjjfjdejhddcnaaP82
namespace Go.Proofs.Ytjjfjdejhddcnaa.P
open Go.RowKit Go.Proofs.YtjjfjdejhddcnaaW.PrintWords Go.Proofs.YtjjfjdejhddcnaaW.PrintLast Go.Proofs.YtjjfjdejhddcnaaW.PrintMore
attribute [local go_sem] max2_int min2_int max_two min_two max_three min_three max_four min_four   -- for this text's walks alone
set_option linter.unusedVariables false
set_option linter.unusedSimpArgs false

attribute [local go_sem] Go.Proofs.Try.underlying74 Go.Proofs.Try.underlying75 Go.Proofs.Try.underlying76 Go.Proofs.Try.underlying78
/-! ### spec_l7Left: function 45 -/
def spec_l7Left.l0 : Nat → Int → Int → Int → Int → Int → ByteArray → Option (Int)
 | 0, _, _, _, _, _, _ => none
 | k + 1, x1, x2, x7, x8, x159000, x159001 => if x8 < x159000 then (if x8 = x1 then ((spec_l1Bit.f false).bind fun t159 => (spec_l7Left.l0 k x1 x2 (wrap64 (x7 + t159)) (wrap64 (x8 + 1)) x159000 x159001)) else (if x8 = x2 then ((spec_l1Bit.f false).bind fun t160 => (spec_l7Left.l0 k x1 x2 (wrap64 (x7 + t160)) (wrap64 (x8 + 1)) x159000 x159001)) else ((spec_l3At.f k x159000 x159001 x1 x2 x8).bind fun t161 => ((spec_l1Bit.f (decide (t161 > 0))).bind fun t162 => (spec_l7Left.l0 k x1 x2 (wrap64 (x7 + t162)) (wrap64 (x8 + 1)) x159000 x159001))))) else (some x7)
def spec_l7Left.f (k : Nat) (a0_0 : Int) (a0_1 : ByteArray) (a1 : Int) (a2 : Int) : Option (Int) := spec_l7Left.l0 k a1 a2 0 0 a0_0 a0_1
theorem spec_l7Left.mono_l : ∀ k, (∀ y0 y1 y2 y3 y4 y5, LeO (spec_l7Left.l0 k y0 y1 y2 y3 y4 y5) (spec_l7Left.l0 (k + 1) y0 y1 y2 y3 y4 y5))
 | 0 => fun _ _ _ _ _ _ r h => by simp [spec_l7Left.l0] at h
 | k + 1 => by
  have ih0 := spec_l7Left.mono_l k
  ·intro y0 y1 y2 y3 y4 y5
   unfold spec_l7Left.l0
   repeat' first
   | (with_reducible exact ih0 _ _ _ _ _ _)
   | (with_reducible exact spec_l3At.mono _ _ _ _ _ _)
   | (with_reducible exact LeO.refl _)
   | (with_reducible exact LeO.none _)
   | (with_reducible refine LeO.ite ?_ ?_)
   | (with_reducible refine LeO.bind ?_ (fun _ => ?_))
   | exact ih0 _ _ _ _ _ _
   | exact spec_l3At.mono _ _ _ _ _ _
   | exact LeO.none _
   | refine LeO.ite ?_ ?_
   | refine LeO.bind ?_ (fun _ => ?_)
theorem spec_l7Left.mono : ∀ a0 a1 a2 a3 k, LeO (spec_l7Left.f k a0 a1 a2 a3) (spec_l7Left.f (k + 1) a0 a1 a2 a3) := by
 intro a0 a1 a2 a3 k
 have ih0 := spec_l7Left.mono_l k
 unfold spec_l7Left.f
 repeat' first
   | (with_reducible exact ih0 _ _ _ _ _ _)
   | (with_reducible exact spec_l3At.mono _ _ _ _ _ _)
   | (with_reducible exact LeO.refl _)
   | (with_reducible exact LeO.none _)
   | (with_reducible refine LeO.ite ?_ ?_)
   | (with_reducible refine LeO.bind ?_ (fun _ => ?_))
   | exact ih0 _ _ _ _ _ _
   | exact spec_l3At.mono _ _ _ _ _ _
   | exact LeO.none _
   | refine LeO.ite ?_ ?_
   | refine LeO.bind ?_ (fun _ => ?_)
set_option maxHeartbeats 8000000 in
set_option maxRecDepth 100000 in
theorem spec_l7Left.calls (k : Nat) (a0_0 : Int) (a0_1 : ByteArray) (a1 : Int) (a2 : Int) (r : Int) (w : World) (h : spec_l7Left.f k a0_0 a0_1 a1 a2 = some r) :
  Calls Try.prog 45 #[.agg #[.int .i64 a0_0, .string a0_1], .int .i64 a1, .int .i64 a2] w fun e w' => e = .returned (.int .i64 r) ∧ Below w.heap.size w w' := by
 have hu26 := Try.underlying26
 have HB := Aside0.mk (Below.refl w.heap.size w)
 have H : (spec_l7Left.l0 k a1 a2 0 0 a0_0 a0_1) = some r := h
 clear h
 have H' := Aside0.mk H
 clear H
 go_enter Try.func45, Try.ntmps45
 go_wp2_with (first | ((with_reducible refine gate_dst (N := 3) rfl ?_); refine box_event ?hg (N := 3) ?hd (cs := #[.int .i64 a0_0, .string a0_1]) (t := 26) ?hr ?_; (case hd => rfl); (case hg => rfl); (case hr => first | (go_simp; done) | (go_simp; rfl)); intro gb158 hg w4 hbox hb; have n0_ := Aside0.mk (below_step (by repeat (first | (with_reducible first | exact HB.out | apply below_alloc | apply pw_below_drewN | apply below_drew1) | exact HB.out)) hb); have n1_ := Aside0.mk (hbox); have n2_ := Aside0.mk ((by rw [hg]; exact (below_size (by repeat (first | (with_reducible first | exact HB.out | apply below_alloc | apply pw_below_drewN | apply below_drew1) | exact HB.out))) : w.heap.size ≤ gb158)); have n3_ := Aside0.mk ((by rw [hg]; exact (below_size (by repeat (first | (with_reducible first | exact HB.out | apply below_alloc | apply pw_below_drewN | apply below_drew1) | exact HB.out))) : w.heap.size ≤ gb158)); clear HB; have HB := n0_; have BK158 := n1_; have GW158 := n2_; have GE158 := n3_; clear n0_ n1_ n2_ n3_; clear hb hbox hg))
 go_loopg [7, 8] k (fun kq v7 v8 w' => ∃ (x7_1 : Int) (x8_1 : Int), v7 = .int .i64 x7_1 ∧ v8 = .int .i64 x8_1 ∧ Aside0 (spec_l7Left.l0 kq a1 a2 x7_1 x8_1 a0_0 a0_1 = some r) ∧ Aside0 (kq ≤ k) ∧ Aside0 (w'.heap[gb158]? = some (.cells #[.int .i64 a0_0, .string a0_1] 26 (0, 0))) ∧ Aside0 (Below w.heap.size w w'))
 case atStart => exact ⟨(0), (0), (by first | rfl | (simp; done) | (simp [*]; done)), (by first | rfl | (simp; done) | (simp [*]; done)), H', ⟨Nat.le_refl _⟩, ⟨by (with_reducible repeat (first | refine blk_drewN ?_ _ | refine blk_drew ?_ | refine blk_alloc ?_ _)); exact BK158.out⟩, ⟨by repeat (first | (with_reducible first | exact HB.out | apply below_alloc | apply pw_below_drewN | apply below_drew1 | refine below_set ?_ GE158.out) | exact HB.out)⟩⟩
 case round =>
  clear H'
  try clear p2
  try clear c4
  obtain ⟨x7_1, x8_1, rfl, rfl, HA, HK1, BK158, HB⟩ := hrel
  cases gk with
  | zero => exact absurd HA.out (by simp [spec_l7Left.l0])
  | succ k1 =>
   have H := HA.out
   clear HA
   simp only [spec_l7Left.l0] at H
   by_cases c5 : x8_1 < a0_0
   ·rw [if_pos c5] at H
    have c5b0 : decide (x8_1 < a0_0) = true := decide_eq_true c5
    clear c5
    by_cases c6 : x8_1 = a1
    ·rw [if_pos c6] at H
     have c6b0 : (x8_1 == a1) = true := beq_iff_eq.mpr c6
     have c6b1 : (x8_1 != a1) = false := bne_eq_false_iff_eq.mpr c6
     clear c6
     replace H := Option.bind_eq_some_iff.mp H
     obtain ⟨t159, A70, H⟩ := H
     replace H : (spec_l7Left.l0 k1 a1 a2 (wrap64 (x7_1 + t159)) (wrap64 (x8_1 + 1)) a0_0 a0_1) = some r := H
     have A7 := Aside0.mk A70
     clear A70
     have H' := Aside0.mk H
     clear H
     have hcz8_0 : wr.cell? ⟨gb158, 0, none⟩ = some (.int .i64 a0_0) := (blk_cell BK158.out 0).trans rfl
     have hcz8_1 : wr.cell? ⟨gb158, 1, none⟩ = some (.string a0_1) := (blk_cell BK158.out 1).trans rfl
     have hfz8_0 := blk_frozen BK158.out 0
     have hfz8_1 := blk_frozen BK158.out 1
     go_wp2_with (first | ((with_reducible refine gate_callee (f := 82) rfl ?_); refine goesL_ (some 32) rfl rfl Try.func82 (by kernel_rfl) rfl #[.bool false] rfl (by (try simp only [List.map_toArray, List.map_cons, List.map_nil]); first | done | rfl | (simp only [List.length_drop, List.length_take]; rfl)) ?_; (with_reducible refine (spec_l1Bit.calls false t159 _ A7.out).mono ?_); rintro e w' ⟨rfl, ⟨nd, rfl⟩⟩; refine ⟨_, rfl, ?_⟩))
     go_roundg k1
     case measure => have := HK1.out; omega
     case rel => exact ⟨(wrap64 (x7_1 + t159)), (wrap64 (x8_1 + 1)), (by first | rfl | (simp; done) | (simp [*]; done)), (by first | rfl | (simp; done) | (simp [*]; done)), H', ⟨by have := HK1.out; omega⟩, ⟨by (with_reducible repeat (first | refine blk_drewN ?_ _ | refine blk_drew ?_ | refine blk_alloc ?_ _)); exact BK158.out⟩, ⟨by repeat (first | (with_reducible first | exact HB.out | apply below_alloc | apply pw_below_drewN | apply below_drew1 | refine below_set ?_ GE158.out) | exact HB.out)⟩⟩
    ·rw [if_neg c6] at H
     have c6b0 : (x8_1 == a1) = false := beq_eq_false_iff_ne.mpr c6
     have c6b1 : (x8_1 != a1) = true := bne_iff_ne.mpr c6
     by_cases c9 : x8_1 = a2
     ·rw [if_pos c9] at H
      have c9b0 : (x8_1 == a2) = true := beq_iff_eq.mpr c9
      have c9b1 : (x8_1 != a2) = false := bne_eq_false_iff_eq.mpr c9
      clear c9
      replace H := Option.bind_eq_some_iff.mp H
      obtain ⟨t160, A100, H⟩ := H
      replace H : (spec_l7Left.l0 k1 a1 a2 (wrap64 (x7_1 + t160)) (wrap64 (x8_1 + 1)) a0_0 a0_1) = some r := H
      have A10 := Aside0.mk A100
      clear A100
      have H' := Aside0.mk H
      clear H
      have hcz11_0 : wr.cell? ⟨gb158, 0, none⟩ = some (.int .i64 a0_0) := (blk_cell BK158.out 0).trans rfl
      have hcz11_1 : wr.cell? ⟨gb158, 1, none⟩ = some (.string a0_1) := (blk_cell BK158.out 1).trans rfl
      have hfz11_0 := blk_frozen BK158.out 0
      have hfz11_1 := blk_frozen BK158.out 1
      go_wp2_with (first | ((with_reducible refine gate_callee (f := 82) rfl ?_); refine goesL_ (some 32) rfl rfl Try.func82 (by kernel_rfl) rfl #[.bool false] rfl (by (try simp only [List.map_toArray, List.map_cons, List.map_nil]); first | done | rfl | (simp only [List.length_drop, List.length_take]; rfl)) ?_; (with_reducible refine (spec_l1Bit.calls false t160 _ A10.out).mono ?_); rintro e w' ⟨rfl, ⟨nd, rfl⟩⟩; refine ⟨_, rfl, ?_⟩))
      go_roundg k1
      case measure => have := HK1.out; omega
      case rel => exact ⟨(wrap64 (x7_1 + t160)), (wrap64 (x8_1 + 1)), (by first | rfl | (simp; done) | (simp [*]; done)), (by first | rfl | (simp; done) | (simp [*]; done)), H', ⟨by have := HK1.out; omega⟩, ⟨by (with_reducible repeat (first | refine blk_drewN ?_ _ | refine blk_drew ?_ | refine blk_alloc ?_ _)); exact BK158.out⟩, ⟨by repeat (first | (with_reducible first | exact HB.out | apply below_alloc | apply pw_below_drewN | apply below_drew1 | refine below_set ?_ GE158.out) | exact HB.out)⟩⟩
     ·rw [if_neg c9] at H
      have c9b0 : (x8_1 == a2) = false := beq_eq_false_iff_ne.mpr c9
      have c9b1 : (x8_1 != a2) = true := bne_iff_ne.mpr c9
      replace H := Option.bind_eq_some_iff.mp H
      obtain ⟨t161, A120, H⟩ := H
      replace H : ((spec_l1Bit.f (decide (t161 > 0))).bind fun t162 => (spec_l7Left.l0 k1 a1 a2 (wrap64 (x7_1 + t162)) (wrap64 (x8_1 + 1)) a0_0 a0_1)) = some r := H
      have A12 := Aside0.mk A120
      clear A120
      replace H := Option.bind_eq_some_iff.mp H
      obtain ⟨t162, A130, H⟩ := H
      replace H : (spec_l7Left.l0 k1 a1 a2 (wrap64 (x7_1 + t162)) (wrap64 (x8_1 + 1)) a0_0 a0_1) = some r := H
      have A13 := Aside0.mk A130
      clear A130
      have H' := Aside0.mk H
      clear H
      have hcz14_0 : wr.cell? ⟨gb158, 0, none⟩ = some (.int .i64 a0_0) := (blk_cell BK158.out 0).trans rfl
      have hcz14_1 : wr.cell? ⟨gb158, 1, none⟩ = some (.string a0_1) := (blk_cell BK158.out 1).trans rfl
      have hfz14_0 := blk_frozen BK158.out 0
      have hfz14_1 := blk_frozen BK158.out 1
      go_wp2_with (first | (go_at_call 83; (with_reducible refine (spec_l3At.calls k1 a0_0 a0_1 a1 a2 x8_1 t161 _ A12.out).mono ?_); rintro e w15 ⟨rfl, hb⟩; have n0_ := Aside0.mk (blk_below (g := gb158) (o := .cells #[.int .i64 a0_0, .string a0_1] 26 (0, 0)) (by (with_reducible repeat (first | refine blk_drewN ?_ _ | refine blk_drew ?_ | refine blk_alloc ?_ _)); exact BK158.out) hb); have n1_ := Aside0.mk (below_step (by repeat (first | (with_reducible first | exact HB.out | apply below_alloc | apply pw_below_drewN | apply below_drew1 | refine below_set ?_ GE158.out) | exact HB.out)) hb); clear BK158; clear HB; have BK158 := n0_; have HB := n1_; clear n0_ n1_; (try clear hb); (try clear hb2); (try clear hk); (try clear hi)) | ((with_reducible refine gate_callee (f := 82) rfl ?_); refine goesL_ (some 32) rfl rfl Try.func82 (by kernel_rfl) rfl #[.bool (decide (t161 > 0))] rfl (by (try simp only [List.map_toArray, List.map_cons, List.map_nil]); first | done | rfl | (simp only [List.length_drop, List.length_take]; rfl)) ?_; (with_reducible refine (spec_l1Bit.calls (decide (t161 > 0)) t162 _ A13.out).mono ?_); rintro e w' ⟨rfl, ⟨nd, rfl⟩⟩; refine ⟨_, rfl, ?_⟩))
      go_roundg k1
      case measure => have := HK1.out; omega
      case rel => exact ⟨(wrap64 (x7_1 + t162)), (wrap64 (x8_1 + 1)), (by first | rfl | (simp; done) | (simp [*]; done)), (by first | rfl | (simp; done) | (simp [*]; done)), H', ⟨by have := HK1.out; omega⟩, ⟨by (with_reducible repeat (first | refine blk_drewN ?_ _ | refine blk_drew ?_ | refine blk_alloc ?_ _)); exact BK158.out⟩, ⟨by repeat (first | (with_reducible first | exact HB.out | apply below_alloc | apply pw_below_drewN | apply below_drew1 | refine below_set ?_ GE158.out) | exact HB.out)⟩⟩
   ·rw [if_neg c5] at H
    have c5b0 : decide (x8_1 < a0_0) = false := decide_eq_false c5
    clear c5
    obtain rfl := Option.some.inj H
    have hcz16_0 : wr.cell? ⟨gb158, 0, none⟩ = some (.int .i64 a0_0) := (blk_cell BK158.out 0).trans rfl
    have hcz16_1 : wr.cell? ⟨gb158, 1, none⟩ = some (.string a0_1) := (blk_cell BK158.out 1).trans rfl
    have hfz16_0 := blk_frozen BK158.out 0
    have hfz16_1 := blk_frozen BK158.out 1
    go_wp2
    go_ret
    exact ⟨by first | rfl | (simp [errW_none, errW_some] <;> rfl) | (simp [*, errW_none, errW_some] <;> rfl), by repeat (first | (with_reducible first | exact HB.out | apply below_alloc | apply pw_below_drewN | apply below_drew1 | refine below_set ?_ GE158.out) | exact HB.out)⟩

/-! ### spec_HullEdges: function 16 -/
mutual
def spec_HullEdges.l0 : Nat → Int → Int → Int → ByteArray → Option (Int)
 | 0, _, _, _, _ => none
 | k + 1, x3, x4, x164000, x164001 => if x4 < x164000 then ((spec_IsAcyclic.f k x164000 x164001).bind fun t164 => (spec_HullEdges.j1 k x3 x4 t164 x164000 x164001)) else (spec_HullEdges.j1 k x3 x4 false x164000 x164001)
def spec_HullEdges.j1 : Nat → Int → Int → Bool → Int → ByteArray → Option (Int)
 | 0, _, _, _, _, _ => none
 | k + 1, x3, x4, x13, x164000, x164001 => if x13 = true then (spec_HullEdges.l1 k x3 x4 (wrap64 (x4 + 1)) x164000 x164001) else (some x3)
def spec_HullEdges.l1 : Nat → Int → Int → Int → Int → ByteArray → Option (Int)
 | 0, _, _, _, _, _ => none
 | k + 1, x3, x4, x5, x164000, x164001 => if x5 < x164000 then ((spec_l7Left.f k x164000 x164001 x4 x5).bind fun t165 => (if t165 = 0 then ((spec_l9Index.f k x164000 x4 x5).bind fun t166 => (if 0 ≤ (IntKind.u64.wrap (t166)) then (spec_HullEdges.l1 k (wrap64 (x3 + (shl .i64 1 (IntKind.u64.wrap (t166))))) x4 (wrap64 (x5 + 1)) x164000 x164001) else (none))) else ((spec_l7Left.f k x164000 x164001 x5 x4).bind fun t167 => (if t167 = 0 then ((spec_l9Index.f k x164000 x4 x5).bind fun t168 => (if 0 ≤ (IntKind.u64.wrap (t168)) then (spec_HullEdges.l1 k (wrap64 (x3 + (shl .i64 1 (IntKind.u64.wrap (t168))))) x4 (wrap64 (x5 + 1)) x164000 x164001) else (none))) else (spec_HullEdges.l1 k x3 x4 (wrap64 (x5 + 1)) x164000 x164001))))) else (spec_HullEdges.l0 k x3 (wrap64 (x4 + 1)) x164000 x164001)
end
def spec_HullEdges.f (k : Nat) (a0_0 : Int) (a0_1 : ByteArray) : Option (Int) := spec_HullEdges.l0 k 0 0 a0_0 a0_1
theorem spec_HullEdges.mono_l : ∀ k, (∀ y0 y1 y2 y3, LeO (spec_HullEdges.l0 k y0 y1 y2 y3) (spec_HullEdges.l0 (k + 1) y0 y1 y2 y3)) ∧ (∀ y0 y1 y2 y3 y4, LeO (spec_HullEdges.j1 k y0 y1 y2 y3 y4) (spec_HullEdges.j1 (k + 1) y0 y1 y2 y3 y4)) ∧ (∀ y0 y1 y2 y3 y4, LeO (spec_HullEdges.l1 k y0 y1 y2 y3 y4) (spec_HullEdges.l1 (k + 1) y0 y1 y2 y3 y4))
 | 0 => ⟨fun _ _ _ _ r h => by simp [spec_HullEdges.l0] at h, fun _ _ _ _ _ r h => by simp [spec_HullEdges.j1] at h, fun _ _ _ _ _ r h => by simp [spec_HullEdges.l1] at h⟩
 | k + 1 => by
  obtain ⟨ih0, ih1, ih2⟩ := spec_HullEdges.mono_l k
  refine ⟨?_, ?_, ?_⟩
  ·intro y0 y1 y2 y3
   unfold spec_HullEdges.l0
   repeat' first
   | (with_reducible exact ih0 _ _ _ _)
   | (with_reducible exact ih1 _ _ _ _ _)
   | (with_reducible exact ih2 _ _ _ _ _)
   | (with_reducible exact spec_IsAcyclic.mono _ _ _)
   | (with_reducible exact spec_l7Left.mono _ _ _ _ _)
   | (with_reducible exact spec_l9Index.mono _ _ _ _)
   | (with_reducible exact LeO.refl _)
   | (with_reducible exact LeO.none _)
   | (with_reducible refine LeO.ite ?_ ?_)
   | (with_reducible refine LeO.bind ?_ (fun _ => ?_))
   | exact ih0 _ _ _ _
   | exact ih1 _ _ _ _ _
   | exact ih2 _ _ _ _ _
   | exact spec_IsAcyclic.mono _ _ _
   | exact spec_l7Left.mono _ _ _ _ _
   | exact spec_l9Index.mono _ _ _ _
   | exact LeO.none _
   | refine LeO.ite ?_ ?_
   | refine LeO.bind ?_ (fun _ => ?_)
  ·intro y0 y1 y2 y3 y4
   unfold spec_HullEdges.j1
   repeat' first
   | (with_reducible exact ih0 _ _ _ _)
   | (with_reducible exact ih1 _ _ _ _ _)
   | (with_reducible exact ih2 _ _ _ _ _)
   | (with_reducible exact spec_IsAcyclic.mono _ _ _)
   | (with_reducible exact spec_l7Left.mono _ _ _ _ _)
   | (with_reducible exact spec_l9Index.mono _ _ _ _)
   | (with_reducible exact LeO.refl _)
   | (with_reducible exact LeO.none _)
   | (with_reducible refine LeO.ite ?_ ?_)
   | (with_reducible refine LeO.bind ?_ (fun _ => ?_))
   | exact ih0 _ _ _ _
   | exact ih1 _ _ _ _ _
   | exact ih2 _ _ _ _ _
   | exact spec_IsAcyclic.mono _ _ _
   | exact spec_l7Left.mono _ _ _ _ _
   | exact spec_l9Index.mono _ _ _ _
   | exact LeO.none _
   | refine LeO.ite ?_ ?_
   | refine LeO.bind ?_ (fun _ => ?_)
  ·intro y0 y1 y2 y3 y4
   unfold spec_HullEdges.l1
   repeat' first
   | (with_reducible exact ih0 _ _ _ _)
   | (with_reducible exact ih1 _ _ _ _ _)
   | (with_reducible exact ih2 _ _ _ _ _)
   | (with_reducible exact spec_IsAcyclic.mono _ _ _)
   | (with_reducible exact spec_l7Left.mono _ _ _ _ _)
   | (with_reducible exact spec_l9Index.mono _ _ _ _)
   | (with_reducible exact LeO.refl _)
   | (with_reducible exact LeO.none _)
   | (with_reducible refine LeO.ite ?_ ?_)
   | (with_reducible refine LeO.bind ?_ (fun _ => ?_))
   | exact ih0 _ _ _ _
   | exact ih1 _ _ _ _ _
   | exact ih2 _ _ _ _ _
   | exact spec_IsAcyclic.mono _ _ _
   | exact spec_l7Left.mono _ _ _ _ _
   | exact spec_l9Index.mono _ _ _ _
   | exact LeO.none _
   | refine LeO.ite ?_ ?_
   | refine LeO.bind ?_ (fun _ => ?_)
theorem spec_HullEdges.mono : ∀ a0 a1 k, LeO (spec_HullEdges.f k a0 a1) (spec_HullEdges.f (k + 1) a0 a1) := by
 intro a0 a1 k
 obtain ⟨ih0, ih1, ih2⟩ := spec_HullEdges.mono_l k
 unfold spec_HullEdges.f
 repeat' first
   | (with_reducible exact ih0 _ _ _ _)
   | (with_reducible exact ih1 _ _ _ _ _)
   | (with_reducible exact ih2 _ _ _ _ _)
   | (with_reducible exact spec_IsAcyclic.mono _ _ _)
   | (with_reducible exact spec_l7Left.mono _ _ _ _ _)
   | (with_reducible exact spec_l9Index.mono _ _ _ _)
   | (with_reducible exact LeO.refl _)
   | (with_reducible exact LeO.none _)
   | (with_reducible refine LeO.ite ?_ ?_)
   | (with_reducible refine LeO.bind ?_ (fun _ => ?_))
   | exact ih0 _ _ _ _
   | exact ih1 _ _ _ _ _
   | exact ih2 _ _ _ _ _
   | exact spec_IsAcyclic.mono _ _ _
   | exact spec_l7Left.mono _ _ _ _ _
   | exact spec_l9Index.mono _ _ _ _
   | exact LeO.none _
   | refine LeO.ite ?_ ?_
   | refine LeO.bind ?_ (fun _ => ?_)
set_option maxHeartbeats 8000000 in
set_option maxRecDepth 100000 in
theorem spec_HullEdges.calls (k : Nat) (a0_0 : Int) (a0_1 : ByteArray) (r : Int) (w : World) (h : spec_HullEdges.f k a0_0 a0_1 = some r) :
  Calls Try.prog 16 #[.agg #[.int .i64 a0_0, .string a0_1]] w fun e w' => e = .returned (.int .i64 r) ∧ Below w.heap.size w w' := by
 have hu26 := Try.underlying26
 have HB := Aside0.mk (Below.refl w.heap.size w)
 have H : (spec_HullEdges.l0 k 0 0 a0_0 a0_1) = some r := h
 clear h
 have H' := Aside0.mk H
 clear H
 go_enter Try.func16, Try.ntmps16
 go_wp2_with (first | ((with_reducible refine gate_dst (N := 1) rfl ?_); refine box_event ?hg (N := 1) ?hd (cs := #[.int .i64 a0_0, .string a0_1]) (t := 26) ?hr ?_; (case hd => rfl); (case hg => rfl); (case hr => first | (go_simp; done) | (go_simp; rfl)); intro gb163 hg w2 hbox hb; have n0_ := Aside0.mk (below_step (by repeat (first | (with_reducible first | exact HB.out | apply below_alloc | apply pw_below_drewN | apply below_drew1) | exact HB.out)) hb); have n1_ := Aside0.mk (hbox); have n2_ := Aside0.mk ((by rw [hg]; exact (below_size (by repeat (first | (with_reducible first | exact HB.out | apply below_alloc | apply pw_below_drewN | apply below_drew1) | exact HB.out))) : w.heap.size ≤ gb163)); have n3_ := Aside0.mk ((by rw [hg]; exact (below_size (by repeat (first | (with_reducible first | exact HB.out | apply below_alloc | apply pw_below_drewN | apply below_drew1) | exact HB.out))) : w.heap.size ≤ gb163)); clear HB; have HB := n0_; have BK163 := n1_; have GW163 := n2_; have GE163 := n3_; clear n0_ n1_ n2_ n3_; clear hb hbox hg))
 go_loopg [3, 4] k (fun kq v3 v4 w' => ∃ (x3_1 : Int) (x4_1 : Int), v3 = .int .i64 x3_1 ∧ v4 = .int .i64 x4_1 ∧ Aside0 (spec_HullEdges.l0 kq x3_1 x4_1 a0_0 a0_1 = some r) ∧ Aside0 (kq ≤ k) ∧ Aside0 (w'.heap[gb163]? = some (.cells #[.int .i64 a0_0, .string a0_1] 26 (0, 0))) ∧ Aside0 (Below w.heap.size w w'))
 case atStart => exact ⟨(0), (0), (by first | rfl | (simp; done) | (simp [*]; done)), (by first | rfl | (simp; done) | (simp [*]; done)), H', ⟨Nat.le_refl _⟩, ⟨by (with_reducible repeat (first | refine blk_drewN ?_ _ | refine blk_drew ?_ | refine blk_alloc ?_ _)); exact BK163.out⟩, ⟨by repeat (first | (with_reducible first | exact HB.out | apply below_alloc | apply pw_below_drewN | apply below_drew1 | refine below_set ?_ GE163.out) | exact HB.out)⟩⟩
 case round =>
  clear H'
  try clear c1
  try clear p2
  obtain ⟨x3_1, x4_1, rfl, rfl, HA, HK1, BK163, HB⟩ := hrel
  cases gk with
  | zero => exact absurd HA.out (by simp [spec_HullEdges.l0])
  | succ k1 =>
   have H := HA.out
   clear HA
   simp only [spec_HullEdges.l0] at H
   have HC3 := Aside0.mk H
   clear H
   go_upto_region 3 with (fail)
   go_cut [13] (fun v13 wc => ∃ (kq : Nat) (x13_2 : Bool), v13 = .bool x13_2 ∧ Aside0 (spec_HullEdges.j1 kq x3_1 x4_1 x13_2 a0_0 a0_1 = some r) ∧ Aside0 (kq ≤ k1) ∧ Aside0 (wc.heap[gb163]? = some (.cells #[.int .i64 a0_0, .string a0_1] 26 (0, 0))) ∧ Aside0 (Below w.heap.size w wc))
   case first =>
    have H := HC3.out
    clear HC3
    by_cases c4 : x4_1 < a0_0
    ·rw [if_pos c4] at H
     have c4b0 : decide (x4_1 < a0_0) = true := decide_eq_true c4
     clear c4
     (first | rw [c4b0] | (simp only [i64_w, i32_w]; rw [c4b0]) | skip)
     replace H := Option.bind_eq_some_iff.mp H
     obtain ⟨t164, A50, H⟩ := H
     replace H : (spec_HullEdges.j1 k1 x3_1 x4_1 t164 a0_0 a0_1) = some r := H
     have A5 := Aside0.mk A50
     clear A50
     have H' := Aside0.mk H
     clear H
     have hcz6_0 : wr.cell? ⟨gb163, 0, none⟩ = some (.int .i64 a0_0) := (blk_cell BK163.out 0).trans rfl
     have hcz6_1 : wr.cell? ⟨gb163, 1, none⟩ = some (.string a0_1) := (blk_cell BK163.out 1).trans rfl
     have hfz6_0 := blk_frozen BK163.out 0
     have hfz6_1 := blk_frozen BK163.out 1
     go_wp2_with (first | (go_at_call 44; (with_reducible refine (spec_IsAcyclic.calls k1 a0_0 a0_1 t164 _ A5.out).mono ?_); rintro e w7 ⟨rfl, hb⟩; have n0_ := Aside0.mk (blk_below (g := gb163) (o := .cells #[.int .i64 a0_0, .string a0_1] 26 (0, 0)) (by (with_reducible repeat (first | refine blk_drewN ?_ _ | refine blk_drew ?_ | refine blk_alloc ?_ _)); exact BK163.out) hb); have n1_ := Aside0.mk (below_step (by repeat (first | (with_reducible first | exact HB.out | apply below_alloc | apply pw_below_drewN | apply below_drew1 | refine below_set ?_ GE163.out) | exact HB.out)) hb); clear BK163; clear HB; have BK163 := n0_; have HB := n1_; clear n0_ n1_; (try clear hb); (try clear hb2); (try clear hk); (try clear hi)))
     go_meet
     case rel => exact ⟨_, (t164), (by first | rfl | (simp; done) | (simp [*]; done)), H', ⟨by have := HK1.out; first | omega | exact Nat.le_refl _⟩, ⟨by (with_reducible repeat (first | refine blk_drewN ?_ _ | refine blk_drew ?_ | refine blk_alloc ?_ _)); exact BK163.out⟩, ⟨by repeat (first | (with_reducible first | exact HB.out | apply below_alloc | apply pw_below_drewN | apply below_drew1 | refine below_set ?_ GE163.out) | exact HB.out)⟩⟩
    ·rw [if_neg c4] at H
     have c4b0 : decide (x4_1 < a0_0) = false := decide_eq_false c4
     clear c4
     (first | rw [c4b0] | (simp only [i64_w, i32_w]; rw [c4b0]) | skip)
     have H' := Aside0.mk H
     clear H
     have hcz8_0 : wr.cell? ⟨gb163, 0, none⟩ = some (.int .i64 a0_0) := (blk_cell BK163.out 0).trans rfl
     have hcz8_1 : wr.cell? ⟨gb163, 1, none⟩ = some (.string a0_1) := (blk_cell BK163.out 1).trans rfl
     have hfz8_0 := blk_frozen BK163.out 0
     have hfz8_1 := blk_frozen BK163.out 1
     go_wp2
     go_meet
     case rel => exact ⟨_, (false), (by first | rfl | (simp; done) | (simp [*]; done)), H', ⟨by have := HK1.out; first | omega | exact Nat.le_refl _⟩, ⟨by (with_reducible repeat (first | refine blk_drewN ?_ _ | refine blk_drew ?_ | refine blk_alloc ?_ _)); exact BK163.out⟩, ⟨by repeat (first | (with_reducible first | exact HB.out | apply below_alloc | apply pw_below_drewN | apply below_drew1 | refine below_set ?_ GE163.out) | exact HB.out)⟩⟩
   case rest =>
    clear HC3
    try clear c1
    try clear p2
    try clear c4
    try clear c4b0
    try clear hcz6_0
    try clear hcz6_1
    try clear hcz8_0
    try clear hcz8_1
    try clear hfz6_0
    try clear hfz6_1
    try clear hfz8_0
    try clear hfz8_1
    try clear p2
    obtain ⟨kq, x13_2, rfl, HA, HJ2, BK163, HB⟩ := hcut
    cases kq with
    | zero => exact absurd HA.out (by simp [spec_HullEdges.j1])
    | succ kj2 =>
     have H := HA.out
     clear HA
     simp only [spec_HullEdges.j1] at H
     by_cases c9 : x13_2 = true
     ·subst c9
      have H1 : (spec_HullEdges.l1 kj2 x3_1 x4_1 (wrap64 (x4_1 + 1)) a0_0 a0_1) = some r := by rw [if_pos rfl] at H; exact H
      clear H
      have H := H1
      clear H1
      have H' := Aside0.mk H
      clear H
      go_wp2
      go_loopg [3, 5] kj2 (fun kq v3 v5 w' => ∃ (x3_3 : Int) (x5_3 : Int), v3 = .int .i64 x3_3 ∧ v5 = .int .i64 x5_3 ∧ Aside0 (spec_HullEdges.l1 kq x3_3 x4_1 x5_3 a0_0 a0_1 = some r) ∧ Aside0 (kq ≤ kj2) ∧ Aside0 (w'.heap[gb163]? = some (.cells #[.int .i64 a0_0, .string a0_1] 26 (0, 0))) ∧ Aside0 (Below w.heap.size w w'))
      case atStart => exact ⟨(x3_1), (wrap64 (x4_1 + 1)), (by first | rfl | (simp; done) | (simp [*]; done)), (by first | rfl | (simp; done) | (simp [*]; done)), H', ⟨Nat.le_refl _⟩, ⟨by (with_reducible repeat (first | refine blk_drewN ?_ _ | refine blk_drew ?_ | refine blk_alloc ?_ _)); exact BK163.out⟩, ⟨by repeat (first | (with_reducible first | exact HB.out | apply below_alloc | apply pw_below_drewN | apply below_drew1 | refine below_set ?_ GE163.out) | exact HB.out)⟩⟩
      case round =>
       clear H'
       try clear c1
       try clear p2
       try clear c4
       try clear c4b0
       try clear p6
       try clear c9
       try clear hcz6_0
       try clear hcz6_1
       try clear hcz8_0
       try clear hcz8_1
       try clear hfz6_0
       try clear hfz6_1
       try clear hfz8_0
       try clear hfz8_1
       try clear p2
       obtain ⟨x3_3, x5_3, rfl, rfl, HA, HK3, BK163, HB⟩ := hrel
       cases gk with
       | zero => exact absurd HA.out (by simp [spec_HullEdges.l1])
       | succ k3 =>
        have H := HA.out
        clear HA
        simp only [spec_HullEdges.l1] at H
        by_cases c10 : x5_3 < a0_0
        ·rw [if_pos c10] at H
         have c10b0 : decide (x5_3 < a0_0) = true := decide_eq_true c10
         clear c10
         replace H := Option.bind_eq_some_iff.mp H
         obtain ⟨t165, A110, H⟩ := H
         replace H : (if t165 = 0 then ((spec_l9Index.f k3 a0_0 x4_1 x5_3).bind fun t166 => (if 0 ≤ (IntKind.u64.wrap (t166)) then (spec_HullEdges.l1 k3 (wrap64 (x3_3 + (shl .i64 1 (IntKind.u64.wrap (t166))))) x4_1 (wrap64 (x5_3 + 1)) a0_0 a0_1) else (none))) else ((spec_l7Left.f k3 a0_0 a0_1 x5_3 x4_1).bind fun t167 => (if t167 = 0 then ((spec_l9Index.f k3 a0_0 x4_1 x5_3).bind fun t168 => (if 0 ≤ (IntKind.u64.wrap (t168)) then (spec_HullEdges.l1 k3 (wrap64 (x3_3 + (shl .i64 1 (IntKind.u64.wrap (t168))))) x4_1 (wrap64 (x5_3 + 1)) a0_0 a0_1) else (none))) else (spec_HullEdges.l1 k3 x3_3 x4_1 (wrap64 (x5_3 + 1)) a0_0 a0_1)))) = some r := H
         have A11 := Aside0.mk A110
         clear A110
         by_cases c12 : t165 = 0
         ·rw [if_pos c12] at H
          have c12b0 : (t165 == 0) = true := beq_iff_eq.mpr c12
          have c12b1 : (t165 != 0) = false := bne_eq_false_iff_eq.mpr c12
          clear c12
          replace H := Option.bind_eq_some_iff.mp H
          obtain ⟨t166, A130, H⟩ := H
          replace H : (if 0 ≤ (IntKind.u64.wrap (t166)) then (spec_HullEdges.l1 k3 (wrap64 (x3_3 + (shl .i64 1 (IntKind.u64.wrap (t166))))) x4_1 (wrap64 (x5_3 + 1)) a0_0 a0_1) else (none)) = some r := H
          have A13 := Aside0.mk A130
          clear A130
          obtain ⟨ji14, hji14⟩ : ∃ j_ : Int, (IntKind.u64.wrap (t166)) = j_ := ⟨_, rfl⟩
          replace H : (if 0 ≤ (ji14) then (spec_HullEdges.l1 k3 (wrap64 (x3_3 + (shl .i64 1 (ji14)))) x4_1 (wrap64 (x5_3 + 1)) a0_0 a0_1) else (none)) = some r := by first | (rw [hji14] at H; exact H) | (simp only [hji14] at H ⊢; exact H)
          (try rw [hji14] at A11)
          (try rw [hji14] at A13)
          by_cases c15 : 0 ≤ (ji14)
          ·rw [if_pos c15] at H
           have c15b0 := eq_true c15
           have c15b1 : decide (0 ≤ (ji14)) = true := decide_eq_true c15
           clear c15
           obtain ⟨ji16, hji16⟩ : ∃ j_ : Int, (shl .i64 1 (ji14)) = j_ := ⟨_, rfl⟩
           replace H : (spec_HullEdges.l1 k3 (wrap64 (x3_3 + (ji16))) x4_1 (wrap64 (x5_3 + 1)) a0_0 a0_1) = some r := by first | (rw [hji16] at H; exact H) | (simp only [hji16] at H ⊢; exact H)
           (try rw [hji16] at A11)
           (try rw [hji16] at A13)
           have hji16_ : (IntKind.i64.wrap (1 * 2 ^ min (ji14).toNat 64)) = ji16 := hji16
           have hji16z : (ji14) ≤ 64 → (IntKind.i64.wrap (1 * 2 ^ (ji14).toNat)) = ji16 := shl_small hji16
           have hji16u : (IntKind.i64.wrap (2 ^ min (ji14).toNat 64)) = ji16 := by have h_ := hji16_; rw [Int.one_mul] at h_; exact h_
           have hji16v : (ji14) ≤ 64 → (IntKind.i64.wrap (2 ^ (ji14).toNat)) = ji16 := fun hle_ => by have h_ := hji16z hle_; rw [Int.one_mul] at h_; exact h_
           have hji16y : (wrap64 (1 * 2 ^ min (ji14).toNat 64)) = ji16 := (i64_w _).symm.trans hji16_
           have hji16x : (ji14) ≤ 64 → (wrap64 (1 * 2 ^ (ji14).toNat)) = ji16 := fun h_ => (i64_w _).symm.trans (hji16z h_)
           have H' := Aside0.mk H
           clear H
           have hcz17_0 : wr.cell? ⟨gb163, 0, none⟩ = some (.int .i64 a0_0) := (blk_cell BK163.out 0).trans rfl
           have hcz17_1 : wr.cell? ⟨gb163, 1, none⟩ = some (.string a0_1) := (blk_cell BK163.out 1).trans rfl
           have hfz17_0 := blk_frozen BK163.out 0
           have hfz17_1 := blk_frozen BK163.out 1
           go_wp2_with (first | ((with_reducible refine gate_callee (f := 45) rfl ?_); refine goesL_ (some 27) rfl rfl Try.func45 (by kernel_rfl) rfl #[.agg #[.int .i64 a0_0, .string a0_1], .int .i64 x4_1, .int .i64 x5_3] rfl (by (try simp only [List.map_toArray, List.map_cons, List.map_nil]); first | done | rfl | (simp only [List.length_drop, List.length_take]; rfl)) ?_; (with_reducible refine (spec_l7Left.calls k3 a0_0 a0_1 x4_1 x5_3 t165 _ A11.out).mono ?_); rintro e w18 ⟨rfl, hb⟩; refine ⟨_, rfl, ?_⟩; have n0_ := Aside0.mk (blk_below (g := gb163) (o := .cells #[.int .i64 a0_0, .string a0_1] 26 (0, 0)) (by (with_reducible repeat (first | refine blk_drewN ?_ _ | refine blk_drew ?_ | refine blk_alloc ?_ _)); exact BK163.out) hb); have n1_ := Aside0.mk (below_step (by repeat (first | (with_reducible first | exact HB.out | apply below_alloc | apply pw_below_drewN | apply below_drew1 | refine below_set ?_ GE163.out) | exact HB.out)) hb); clear BK163; clear HB; have BK163 := n0_; have HB := n1_; clear n0_ n1_; (try clear hb); (try clear hb2); (try clear hk); (try clear hi); have hcz19_0 : w18.cell? ⟨gb163, 0, none⟩ = some (.int .i64 a0_0) := (blk_cell BK163.out 0).trans rfl; have hcz19_1 : w18.cell? ⟨gb163, 1, none⟩ = some (.string a0_1) := (blk_cell BK163.out 1).trans rfl; have hfz19_0 := blk_frozen BK163.out 0; have hfz19_1 := blk_frozen BK163.out 1) | ((with_reducible refine gate_callee (f := 46) rfl ?_); refine goesL_ (some 41) rfl rfl Try.func46 (by kernel_rfl) rfl #[.int .i64 a0_0, .int .i64 x4_1, .int .i64 x5_3] rfl (by (try simp only [List.map_toArray, List.map_cons, List.map_nil]); first | done | rfl | (simp only [List.length_drop, List.length_take]; rfl)) ?_; (with_reducible refine (spec_l9Index.calls k3 a0_0 x4_1 x5_3 t166 _ A13.out).mono ?_); rintro e w' ⟨rfl, ⟨nd, rfl⟩⟩; refine ⟨_, rfl, ?_⟩))
           go_roundg k3
           case measure => have := HK1.out; have := HJ2.out; have := HK3.out; omega
           case rel => exact ⟨(wrap64 (x3_3 + (ji16))), (wrap64 (x5_3 + 1)), (by first | rfl | (simp; done) | (simp only [← hji16] <;> (first | rfl | simp)) | (simp [*]; done)), (by first | rfl | (simp; done) | (simp [*]; done)), H', ⟨by have := HK1.out; have := HJ2.out; have := HK3.out; omega⟩, ⟨by (with_reducible repeat (first | refine blk_drewN ?_ _ | refine blk_drew ?_ | refine blk_alloc ?_ _)); exact BK163.out⟩, ⟨by repeat (first | (with_reducible first | exact HB.out | apply below_alloc | apply pw_below_drewN | apply below_drew1 | refine below_set ?_ GE163.out) | exact HB.out)⟩⟩
          ·rw [if_neg c15] at H
           exact absurd H (by simp)
         ·rw [if_neg c12] at H
          have c12b0 : (t165 == 0) = false := beq_eq_false_iff_ne.mpr c12
          have c12b1 : (t165 != 0) = true := bne_iff_ne.mpr c12
          replace H := Option.bind_eq_some_iff.mp H
          obtain ⟨t167, A200, H⟩ := H
          replace H : (if t167 = 0 then ((spec_l9Index.f k3 a0_0 x4_1 x5_3).bind fun t168 => (if 0 ≤ (IntKind.u64.wrap (t168)) then (spec_HullEdges.l1 k3 (wrap64 (x3_3 + (shl .i64 1 (IntKind.u64.wrap (t168))))) x4_1 (wrap64 (x5_3 + 1)) a0_0 a0_1) else (none))) else (spec_HullEdges.l1 k3 x3_3 x4_1 (wrap64 (x5_3 + 1)) a0_0 a0_1)) = some r := H
          have A20 := Aside0.mk A200
          clear A200
          by_cases c21 : t167 = 0
          ·rw [if_pos c21] at H
           have c21b0 : (t167 == 0) = true := beq_iff_eq.mpr c21
           have c21b1 : (t167 != 0) = false := bne_eq_false_iff_eq.mpr c21
           clear c21
           replace H := Option.bind_eq_some_iff.mp H
           obtain ⟨t168, A220, H⟩ := H
           replace H : (if 0 ≤ (IntKind.u64.wrap (t168)) then (spec_HullEdges.l1 k3 (wrap64 (x3_3 + (shl .i64 1 (IntKind.u64.wrap (t168))))) x4_1 (wrap64 (x5_3 + 1)) a0_0 a0_1) else (none)) = some r := H
           have A22 := Aside0.mk A220
           clear A220
           obtain ⟨ji23, hji23⟩ : ∃ j_ : Int, (IntKind.u64.wrap (t168)) = j_ := ⟨_, rfl⟩
           replace H : (if 0 ≤ (ji23) then (spec_HullEdges.l1 k3 (wrap64 (x3_3 + (shl .i64 1 (ji23)))) x4_1 (wrap64 (x5_3 + 1)) a0_0 a0_1) else (none)) = some r := by first | (rw [hji23] at H; exact H) | (simp only [hji23] at H ⊢; exact H)
           (try rw [hji23] at A11)
           (try rw [hji23] at A20)
           (try rw [hji23] at A22)
           by_cases c24 : 0 ≤ (ji23)
           ·rw [if_pos c24] at H
            have c24b0 := eq_true c24
            have c24b1 : decide (0 ≤ (ji23)) = true := decide_eq_true c24
            clear c24
            obtain ⟨ji25, hji25⟩ : ∃ j_ : Int, (shl .i64 1 (ji23)) = j_ := ⟨_, rfl⟩
            replace H : (spec_HullEdges.l1 k3 (wrap64 (x3_3 + (ji25))) x4_1 (wrap64 (x5_3 + 1)) a0_0 a0_1) = some r := by first | (rw [hji25] at H; exact H) | (simp only [hji25] at H ⊢; exact H)
            (try rw [hji25] at A11)
            (try rw [hji25] at A20)
            (try rw [hji25] at A22)
            have hji25_ : (IntKind.i64.wrap (1 * 2 ^ min (ji23).toNat 64)) = ji25 := hji25
            have hji25z : (ji23) ≤ 64 → (IntKind.i64.wrap (1 * 2 ^ (ji23).toNat)) = ji25 := shl_small hji25
            have hji25u : (IntKind.i64.wrap (2 ^ min (ji23).toNat 64)) = ji25 := by have h_ := hji25_; rw [Int.one_mul] at h_; exact h_
            have hji25v : (ji23) ≤ 64 → (IntKind.i64.wrap (2 ^ (ji23).toNat)) = ji25 := fun hle_ => by have h_ := hji25z hle_; rw [Int.one_mul] at h_; exact h_
            have hji25y : (wrap64 (1 * 2 ^ min (ji23).toNat 64)) = ji25 := (i64_w _).symm.trans hji25_
            have hji25x : (ji23) ≤ 64 → (wrap64 (1 * 2 ^ (ji23).toNat)) = ji25 := fun h_ => (i64_w _).symm.trans (hji25z h_)
            have H' := Aside0.mk H
            clear H
            have hcz26_0 : wr.cell? ⟨gb163, 0, none⟩ = some (.int .i64 a0_0) := (blk_cell BK163.out 0).trans rfl
            have hcz26_1 : wr.cell? ⟨gb163, 1, none⟩ = some (.string a0_1) := (blk_cell BK163.out 1).trans rfl
            have hfz26_0 := blk_frozen BK163.out 0
            have hfz26_1 := blk_frozen BK163.out 1
            go_wp2_with (first | ((with_reducible refine gate_callee (f := 45) rfl ?_); refine goesL_ (some 27) rfl rfl Try.func45 (by kernel_rfl) rfl #[.agg #[.int .i64 a0_0, .string a0_1], .int .i64 x4_1, .int .i64 x5_3] rfl (by (try simp only [List.map_toArray, List.map_cons, List.map_nil]); first | done | rfl | (simp only [List.length_drop, List.length_take]; rfl)) ?_; (with_reducible refine (spec_l7Left.calls k3 a0_0 a0_1 x4_1 x5_3 t165 _ A11.out).mono ?_); rintro e w27 ⟨rfl, hb⟩; refine ⟨_, rfl, ?_⟩; have n0_ := Aside0.mk (blk_below (g := gb163) (o := .cells #[.int .i64 a0_0, .string a0_1] 26 (0, 0)) (by (with_reducible repeat (first | refine blk_drewN ?_ _ | refine blk_drew ?_ | refine blk_alloc ?_ _)); exact BK163.out) hb); have n1_ := Aside0.mk (below_step (by repeat (first | (with_reducible first | exact HB.out | apply below_alloc | apply pw_below_drewN | apply below_drew1 | refine below_set ?_ GE163.out) | exact HB.out)) hb); clear BK163; clear HB; have BK163 := n0_; have HB := n1_; clear n0_ n1_; (try clear hb); (try clear hb2); (try clear hk); (try clear hi); have hcz28_0 : w27.cell? ⟨gb163, 0, none⟩ = some (.int .i64 a0_0) := (blk_cell BK163.out 0).trans rfl; have hcz28_1 : w27.cell? ⟨gb163, 1, none⟩ = some (.string a0_1) := (blk_cell BK163.out 1).trans rfl; have hfz28_0 := blk_frozen BK163.out 0; have hfz28_1 := blk_frozen BK163.out 1) | (go_at_call 45; (with_reducible refine (spec_l7Left.calls k3 a0_0 a0_1 x5_3 x4_1 t167 _ A20.out).mono ?_); rintro e w29 ⟨rfl, hb⟩; have n0_ := Aside0.mk (blk_below (g := gb163) (o := .cells #[.int .i64 a0_0, .string a0_1] 26 (0, 0)) (by (with_reducible repeat (first | refine blk_drewN ?_ _ | refine blk_drew ?_ | refine blk_alloc ?_ _)); exact BK163.out) hb); have n1_ := Aside0.mk (below_step (by repeat (first | (with_reducible first | exact HB.out | apply below_alloc | apply pw_below_drewN | apply below_drew1 | refine below_set ?_ GE163.out) | exact HB.out)) hb); clear BK163; clear HB; have BK163 := n0_; have HB := n1_; clear n0_ n1_; (try clear hb); (try clear hb2); (try clear hk); (try clear hi); have hcz30_0 : w29.cell? ⟨gb163, 0, none⟩ = some (.int .i64 a0_0) := (blk_cell BK163.out 0).trans rfl; have hcz30_1 : w29.cell? ⟨gb163, 1, none⟩ = some (.string a0_1) := (blk_cell BK163.out 1).trans rfl; have hfz30_0 := blk_frozen BK163.out 0; have hfz30_1 := blk_frozen BK163.out 1) | ((with_reducible refine gate_callee (f := 46) rfl ?_); refine goesL_ (some 41) rfl rfl Try.func46 (by kernel_rfl) rfl #[.int .i64 a0_0, .int .i64 x4_1, .int .i64 x5_3] rfl (by (try simp only [List.map_toArray, List.map_cons, List.map_nil]); first | done | rfl | (simp only [List.length_drop, List.length_take]; rfl)) ?_; (with_reducible refine (spec_l9Index.calls k3 a0_0 x4_1 x5_3 t168 _ A22.out).mono ?_); rintro e w' ⟨rfl, ⟨nd, rfl⟩⟩; refine ⟨_, rfl, ?_⟩))
            go_roundg k3
            case measure => have := HK1.out; have := HJ2.out; have := HK3.out; omega
            case rel => exact ⟨(wrap64 (x3_3 + (ji25))), (wrap64 (x5_3 + 1)), (by first | rfl | (simp; done) | (simp only [← hji25] <;> (first | rfl | simp)) | (simp [*]; done)), (by first | rfl | (simp; done) | (simp [*]; done)), H', ⟨by have := HK1.out; have := HJ2.out; have := HK3.out; omega⟩, ⟨by (with_reducible repeat (first | refine blk_drewN ?_ _ | refine blk_drew ?_ | refine blk_alloc ?_ _)); exact BK163.out⟩, ⟨by repeat (first | (with_reducible first | exact HB.out | apply below_alloc | apply pw_below_drewN | apply below_drew1 | refine below_set ?_ GE163.out) | exact HB.out)⟩⟩
           ·rw [if_neg c24] at H
            exact absurd H (by simp)
          ·rw [if_neg c21] at H
           have c21b0 : (t167 == 0) = false := beq_eq_false_iff_ne.mpr c21
           have c21b1 : (t167 != 0) = true := bne_iff_ne.mpr c21
           have H' := Aside0.mk H
           clear H
           have hcz31_0 : wr.cell? ⟨gb163, 0, none⟩ = some (.int .i64 a0_0) := (blk_cell BK163.out 0).trans rfl
           have hcz31_1 : wr.cell? ⟨gb163, 1, none⟩ = some (.string a0_1) := (blk_cell BK163.out 1).trans rfl
           have hfz31_0 := blk_frozen BK163.out 0
           have hfz31_1 := blk_frozen BK163.out 1
           go_wp2_with (first | ((with_reducible refine gate_callee (f := 45) rfl ?_); refine goesL_ (some 27) rfl rfl Try.func45 (by kernel_rfl) rfl #[.agg #[.int .i64 a0_0, .string a0_1], .int .i64 x4_1, .int .i64 x5_3] rfl (by (try simp only [List.map_toArray, List.map_cons, List.map_nil]); first | done | rfl | (simp only [List.length_drop, List.length_take]; rfl)) ?_; (with_reducible refine (spec_l7Left.calls k3 a0_0 a0_1 x4_1 x5_3 t165 _ A11.out).mono ?_); rintro e w32 ⟨rfl, hb⟩; refine ⟨_, rfl, ?_⟩; have n0_ := Aside0.mk (blk_below (g := gb163) (o := .cells #[.int .i64 a0_0, .string a0_1] 26 (0, 0)) (by (with_reducible repeat (first | refine blk_drewN ?_ _ | refine blk_drew ?_ | refine blk_alloc ?_ _)); exact BK163.out) hb); have n1_ := Aside0.mk (below_step (by repeat (first | (with_reducible first | exact HB.out | apply below_alloc | apply pw_below_drewN | apply below_drew1 | refine below_set ?_ GE163.out) | exact HB.out)) hb); clear BK163; clear HB; have BK163 := n0_; have HB := n1_; clear n0_ n1_; (try clear hb); (try clear hb2); (try clear hk); (try clear hi); have hcz33_0 : w32.cell? ⟨gb163, 0, none⟩ = some (.int .i64 a0_0) := (blk_cell BK163.out 0).trans rfl; have hcz33_1 : w32.cell? ⟨gb163, 1, none⟩ = some (.string a0_1) := (blk_cell BK163.out 1).trans rfl; have hfz33_0 := blk_frozen BK163.out 0; have hfz33_1 := blk_frozen BK163.out 1) | (go_at_call 45; (with_reducible refine (spec_l7Left.calls k3 a0_0 a0_1 x5_3 x4_1 t167 _ A20.out).mono ?_); rintro e w34 ⟨rfl, hb⟩; have n0_ := Aside0.mk (blk_below (g := gb163) (o := .cells #[.int .i64 a0_0, .string a0_1] 26 (0, 0)) (by (with_reducible repeat (first | refine blk_drewN ?_ _ | refine blk_drew ?_ | refine blk_alloc ?_ _)); exact BK163.out) hb); have n1_ := Aside0.mk (below_step (by repeat (first | (with_reducible first | exact HB.out | apply below_alloc | apply pw_below_drewN | apply below_drew1 | refine below_set ?_ GE163.out) | exact HB.out)) hb); clear BK163; clear HB; have BK163 := n0_; have HB := n1_; clear n0_ n1_; (try clear hb); (try clear hb2); (try clear hk); (try clear hi)))
           go_roundg k3
           case measure => have := HK1.out; have := HJ2.out; have := HK3.out; omega
           case rel => exact ⟨(x3_3), (wrap64 (x5_3 + 1)), (by first | rfl | (simp; done) | (simp [*]; done)), (by first | rfl | (simp; done) | (simp [*]; done)), H', ⟨by have := HK1.out; have := HJ2.out; have := HK3.out; omega⟩, ⟨by (with_reducible repeat (first | refine blk_drewN ?_ _ | refine blk_drew ?_ | refine blk_alloc ?_ _)); exact BK163.out⟩, ⟨by repeat (first | (with_reducible first | exact HB.out | apply below_alloc | apply pw_below_drewN | apply below_drew1 | refine below_set ?_ GE163.out) | exact HB.out)⟩⟩
        ·rw [if_neg c10] at H
         have c10b0 : decide (x5_3 < a0_0) = false := decide_eq_false c10
         clear c10
         have H' := Aside0.mk H
         clear H
         have hcz35_0 : wr.cell? ⟨gb163, 0, none⟩ = some (.int .i64 a0_0) := (blk_cell BK163.out 0).trans rfl
         have hcz35_1 : wr.cell? ⟨gb163, 1, none⟩ = some (.string a0_1) := (blk_cell BK163.out 1).trans rfl
         have hfz35_0 := blk_frozen BK163.out 0
         have hfz35_1 := blk_frozen BK163.out 1
         go_wp2
         go_roundg k3
         case measure => have := HK1.out; have := HJ2.out; have := HK3.out; omega
         case rel => exact ⟨(x3_3), (wrap64 (x4_1 + 1)), (by first | rfl | (simp; done) | (simp [*]; done)), (by first | rfl | (simp; done) | (simp [*]; done)), H', ⟨by have := HK1.out; have := HJ2.out; have := HK3.out; omega⟩, ⟨by (with_reducible repeat (first | refine blk_drewN ?_ _ | refine blk_drew ?_ | refine blk_alloc ?_ _)); exact BK163.out⟩, ⟨by repeat (first | (with_reducible first | exact HB.out | apply below_alloc | apply pw_below_drewN | apply below_drew1 | refine below_set ?_ GE163.out) | exact HB.out)⟩⟩
     ·replace c9 := Bool.eq_false_iff.mpr c9
      subst c9
      have H1 : (some x3_1) = some r := by rw [if_neg (show ¬ (false = true) by decide)] at H; exact H
      clear H
      have H := H1
      clear H1
      obtain rfl := Option.some.inj H
      go_wp2
      go_ret
      exact ⟨by first | rfl | (simp [errW_none, errW_some] <;> rfl) | (simp [*, errW_none, errW_some] <;> rfl), by repeat (first | (with_reducible first | exact HB.out | apply below_alloc | apply pw_below_drewN | apply below_drew1 | refine below_set ?_ GE163.out) | exact HB.out)⟩

/-! ### impl_chi_left: function 49 -/
def impl_chi_left.l0 : Nat → List Int → Int → Int → Int → Int → Option (Int)
 | 0, _, _, _, _, _ => none
 | k + 1, x0, x1, x2, x7, x8 => if 344 ≤ (x0.length : Int) then (if x8 < (rd x0 0) then (if 0 ≤ x1 then (if x1 < 7 then (if 0 ≤ x2 then (if x2 < 7 then (if 0 ≤ x8 then (if x8 < 7 then (if (rd x0 (cidx x1 x2 x8)) = 1 then (impl_chi_left.l0 k x0 x1 x2 (wrap64 (x7 + 1)) (wrap64 (x8 + 1))) else (impl_chi_left.l0 k x0 x1 x2 x7 (wrap64 (x8 + 1)))) else (none)) else (none)) else (none)) else (none)) else (none)) else (none)) else (some x7)) else (none)
def impl_chi_left.f (k : Nat) (l0 : List Int) (a1 : Int) (a2 : Int) : Option (Int) := impl_chi_left.l0 k l0 a1 a2 0 0
theorem impl_chi_left.mono_l : ∀ k, (∀ y0 y1 y2 y3 y4, LeO (impl_chi_left.l0 k y0 y1 y2 y3 y4) (impl_chi_left.l0 (k + 1) y0 y1 y2 y3 y4))
 | 0 => fun _ _ _ _ _ r h => by simp [impl_chi_left.l0] at h
 | k + 1 => by
  have ih0 := impl_chi_left.mono_l k
  ·intro y0 y1 y2 y3 y4
   unfold impl_chi_left.l0
   repeat' first
   | (with_reducible exact ih0 _ _ _ _ _)
   | (with_reducible exact LeO.refl _)
   | (with_reducible exact LeO.none _)
   | (with_reducible refine LeO.ite ?_ ?_)
   | (with_reducible refine LeO.bind ?_ (fun _ => ?_))
   | exact ih0 _ _ _ _ _
   | exact LeO.none _
   | refine LeO.ite ?_ ?_
   | refine LeO.bind ?_ (fun _ => ?_)
theorem impl_chi_left.mono : ∀ a0 a1 a2 k, LeO (impl_chi_left.f k a0 a1 a2) (impl_chi_left.f (k + 1) a0 a1 a2) := by
 intro a0 a1 a2 k
 have ih0 := impl_chi_left.mono_l k
 unfold impl_chi_left.f
 repeat' first
   | (with_reducible exact ih0 _ _ _ _ _)
   | (with_reducible exact LeO.refl _)
   | (with_reducible exact LeO.none _)
   | (with_reducible refine LeO.ite ?_ ?_)
   | (with_reducible refine LeO.bind ?_ (fun _ => ?_))
   | exact ih0 _ _ _ _ _
   | exact LeO.none _
   | refine LeO.ite ?_ ?_
   | refine LeO.bind ?_ (fun _ => ?_)
set_option maxHeartbeats 8000000 in
set_option maxRecDepth 100000 in
theorem impl_chi_left.calls (k : Nat) (A0 : Option Addr) (c0 : Nat) (l0 : List Int) (a1 : Int) (a2 : Int) (r : Int) (w : World) (hr0 : Kd.C (Kd.int .i64) w A0 l0.length l0) (hc0 : l0.length ≤ c0) (h : impl_chi_left.f k l0 a1 a2 = some r) :
  Calls Try.prog 49 #[.pointer A0, .int .i64 a1, .int .i64 a2] w fun e w' => e = .returned (.int .i64 r) ∧ Drawn0 w w' := by
 have HR0 := Aside0.mk hr0
 have HC0 := Aside0.mk hc0
 clear hr0 hc0
 have H : (impl_chi_left.l0 k l0 a1 a2 0 0) = some r := h
 clear h
 have H' := Aside0.mk H
 clear H
 go_enter Try.func49, Try.ntmps49
 go_wp2
 go_loopg [7, 8] k (fun kq v7 v8 w' => ∃ (x7_1 : Int) (x8_1 : Int), v7 = .int .i64 x7_1 ∧ v8 = .int .i64 x8_1 ∧ Aside0 (impl_chi_left.l0 kq l0 a1 a2 x7_1 x8_1 = some r) ∧ Aside0 (kq ≤ k) ∧ Drawn0 w w')
 case atStart => exact ⟨(0), (0), (by first | rfl | (simp; done) | (simp [*]; done)), (by first | rfl | (simp; done) | (simp [*]; done)), H', ⟨Nat.le_refl _⟩, by repeat (first | exact Drawn0.refl _ | apply Drawn0.step)⟩
 case round =>
  clear H'
  try clear p2
  obtain ⟨x7_1, x8_1, rfl, rfl, HA, HK1, ⟨m1, rfl⟩⟩ := hrel
  cases gk with
  | zero => exact absurd HA.out (by simp [impl_chi_left.l0])
  | succ k1 =>
   have H := HA.out
   clear HA
   simp only [impl_chi_left.l0] at H
   by_cases c4 : 344 ≤ (l0.length : Int)
   ·rw [if_pos c4] at H
    have c4b0 := eq_true c4
    have c4b1 : decide (344 ≤ (l0.length : Int)) = true := decide_eq_true c4
    clear c4
    by_cases c5 : x8_1 < (rd l0 0)
    ·rw [if_pos c5] at H
     have c5b0 : decide (x8_1 < (rd l0 0)) = true := decide_eq_true c5
     clear c5
     by_cases c6 : 0 ≤ a1
     ·rw [if_pos c6] at H
      have c6b0 : decide (0 ≤ a1) = true := decide_eq_true c6
      clear c6
      by_cases c7 : a1 < 7
      ·rw [if_pos c7] at H
       have c7b0 : decide (a1 < 7) = true := decide_eq_true c7
       clear c7
       by_cases c8 : 0 ≤ a2
       ·rw [if_pos c8] at H
        have c8b0 : decide (0 ≤ a2) = true := decide_eq_true c8
        clear c8
        by_cases c9 : a2 < 7
        ·rw [if_pos c9] at H
         have c9b0 : decide (a2 < 7) = true := decide_eq_true c9
         clear c9
         by_cases c10 : 0 ≤ x8_1
         ·rw [if_pos c10] at H
          have c10b0 : decide (0 ≤ x8_1) = true := decide_eq_true c10
          clear c10
          by_cases c11 : x8_1 < 7
          ·rw [if_pos c11] at H
           have c11b0 : decide (x8_1 < 7) = true := decide_eq_true c11
           clear c11
           have c12b0 := eq_true (of_decide_eq_true (by first | (with_reducible assumption) | assumption) : 344 ≤ (l0.length : Int))
           by_cases c13 : (rd l0 (cidx a1 a2 x8_1)) = 1
           ·rw [if_pos c13] at H
            have c13b0 : ((rd l0 (cidx a1 a2 x8_1)) == 1) = true := beq_iff_eq.mpr c13
            have c13b1 : ((rd l0 (cidx a1 a2 x8_1)) != 1) = false := bne_eq_false_iff_eq.mpr c13
            clear c13
            have H' := Aside0.mk H
            clear H
            have cl268 : (344 : Int) ≤ (l0.length : Int) := of_decide_eq_true (by first | (with_reducible assumption) | assumption)
            have p268 : 0 ≤ (0 : Int) := (by omega)
            have q268 : 0 < (l0.length : Int) := (by omega)
            obtain ⟨ad268, e268, hx268_0⟩ := Kd.at_int HR0.out 0 p268 q268
            cases e268
            have qi268 : (0 < l0.length) = True := eq_true (by omega)
            (try rw [show ((0 : Int)).toNat = 0 from rfl] at hx268_0)
            (try rw [Addr.add_zero'] at hx268_0)
            replace p268 := eq_true p268
            replace q268 := eq_true q268
            have cp269_0 : 0 ≤ (a1 : Int) := of_decide_eq_true (by first | (with_reducible assumption) | assumption)
            have cq269_0 : (a1 : Int) < 7 := of_decide_eq_true (by first | (with_reducible assumption) | assumption)
            have cp269_1 : 0 ≤ (a2 : Int) := of_decide_eq_true (by first | (with_reducible assumption) | assumption)
            have cq269_1 : (a2 : Int) < 7 := of_decide_eq_true (by first | (with_reducible assumption) | assumption)
            have cp269_2 : 0 ≤ (x8_1 : Int) := of_decide_eq_true (by first | (with_reducible assumption) | assumption)
            have cq269_2 : (x8_1 : Int) < 7 := of_decide_eq_true (by first | (with_reducible assumption) | assumption)
            have cl269 : (344 : Int) ≤ (l0.length : Int) := of_decide_eq_true (by first | (with_reducible assumption) | assumption)
            have p269 : 0 ≤ ((cidx a1 a2 x8_1) : Int) := cidx_nonneg _ _ _
            have q269 : (cidx a1 a2 x8_1) < (l0.length : Int) := cidx_lt cq269_0 cq269_1 cq269_2 cl269
            obtain ⟨ad269, e269, hx269_0⟩ := Kd.at_int HR0.out (cidx a1 a2 x8_1) p269 q269
            obtain rfl : ad268 = ad269 := (by injection e269)
            (first | rw [chi_add] at hx269_0 | simp only [cidx_nat] at hx269_0)
            replace cp269_0 := eq_true cp269_0
            replace cq269_0 := eq_true cq269_0
            replace cp269_1 := eq_true cp269_1
            replace cq269_1 := eq_true cq269_1
            replace cp269_2 := eq_true cp269_2
            replace cq269_2 := eq_true cq269_2
            replace p269 := eq_true p269
            replace q269 := eq_true q269
            go_wp2
            go_roundg k1
            case measure => have := HK1.out; omega
            case rel => exact ⟨(wrap64 (x7_1 + 1)), (wrap64 (x8_1 + 1)), (by first | rfl | (simp; done) | (simp [*]; done)), (by first | rfl | (simp; done) | (simp [*]; done)), H', ⟨by have := HK1.out; omega⟩, by repeat (first | exact Drawn0.refl _ | apply Drawn0.step)⟩
           ·rw [if_neg c13] at H
            have c13b0 : ((rd l0 (cidx a1 a2 x8_1)) == 1) = false := beq_eq_false_iff_ne.mpr c13
            have c13b1 : ((rd l0 (cidx a1 a2 x8_1)) != 1) = true := bne_iff_ne.mpr c13
            have H' := Aside0.mk H
            clear H
            have cl268 : (344 : Int) ≤ (l0.length : Int) := of_decide_eq_true (by first | (with_reducible assumption) | assumption)
            have p268 : 0 ≤ (0 : Int) := (by omega)
            have q268 : 0 < (l0.length : Int) := (by omega)
            obtain ⟨ad268, e268, hx268_0⟩ := Kd.at_int HR0.out 0 p268 q268
            cases e268
            have qi268 : (0 < l0.length) = True := eq_true (by omega)
            (try rw [show ((0 : Int)).toNat = 0 from rfl] at hx268_0)
            (try rw [Addr.add_zero'] at hx268_0)
            replace p268 := eq_true p268
            replace q268 := eq_true q268
            have cp269_0 : 0 ≤ (a1 : Int) := of_decide_eq_true (by first | (with_reducible assumption) | assumption)
            have cq269_0 : (a1 : Int) < 7 := of_decide_eq_true (by first | (with_reducible assumption) | assumption)
            have cp269_1 : 0 ≤ (a2 : Int) := of_decide_eq_true (by first | (with_reducible assumption) | assumption)
            have cq269_1 : (a2 : Int) < 7 := of_decide_eq_true (by first | (with_reducible assumption) | assumption)
            have cp269_2 : 0 ≤ (x8_1 : Int) := of_decide_eq_true (by first | (with_reducible assumption) | assumption)
            have cq269_2 : (x8_1 : Int) < 7 := of_decide_eq_true (by first | (with_reducible assumption) | assumption)
            have cl269 : (344 : Int) ≤ (l0.length : Int) := of_decide_eq_true (by first | (with_reducible assumption) | assumption)
            have p269 : 0 ≤ ((cidx a1 a2 x8_1) : Int) := cidx_nonneg _ _ _
            have q269 : (cidx a1 a2 x8_1) < (l0.length : Int) := cidx_lt cq269_0 cq269_1 cq269_2 cl269
            obtain ⟨ad269, e269, hx269_0⟩ := Kd.at_int HR0.out (cidx a1 a2 x8_1) p269 q269
            obtain rfl : ad268 = ad269 := (by injection e269)
            (first | rw [chi_add] at hx269_0 | simp only [cidx_nat] at hx269_0)
            replace cp269_0 := eq_true cp269_0
            replace cq269_0 := eq_true cq269_0
            replace cp269_1 := eq_true cp269_1
            replace cq269_1 := eq_true cq269_1
            replace cp269_2 := eq_true cp269_2
            replace cq269_2 := eq_true cq269_2
            replace p269 := eq_true p269
            replace q269 := eq_true q269
            go_wp2
            go_roundg k1
            case measure => have := HK1.out; omega
            case rel => exact ⟨(x7_1), (wrap64 (x8_1 + 1)), (by first | rfl | (simp; done) | (simp [*]; done)), (by first | rfl | (simp; done) | (simp [*]; done)), H', ⟨by have := HK1.out; omega⟩, by repeat (first | exact Drawn0.refl _ | apply Drawn0.step)⟩
          ·rw [if_neg c11] at H
           exact absurd H (by simp)
         ·rw [if_neg c10] at H
          exact absurd H (by simp)
        ·rw [if_neg c9] at H
         exact absurd H (by simp)
       ·rw [if_neg c8] at H
        exact absurd H (by simp)
      ·rw [if_neg c7] at H
       exact absurd H (by simp)
     ·rw [if_neg c6] at H
      exact absurd H (by simp)
    ·rw [if_neg c5] at H
     have c5b0 : decide (x8_1 < (rd l0 0)) = false := decide_eq_false c5
     clear c5
     obtain rfl := Option.some.inj H
     have cl268 : (344 : Int) ≤ (l0.length : Int) := of_decide_eq_true (by first | (with_reducible assumption) | assumption)
     have p268 : 0 ≤ (0 : Int) := (by omega)
     have q268 : 0 < (l0.length : Int) := (by omega)
     obtain ⟨ad268, e268, hx268_0⟩ := Kd.at_int HR0.out 0 p268 q268
     cases e268
     have qi268 : (0 < l0.length) = True := eq_true (by omega)
     (try rw [show ((0 : Int)).toNat = 0 from rfl] at hx268_0)
     (try rw [Addr.add_zero'] at hx268_0)
     replace p268 := eq_true p268
     replace q268 := eq_true q268
     go_wp2
     go_ret
     exact ⟨by first | rfl | (simp; done) | (simp [*]; done), by repeat (first | exact Drawn0.refl _ | apply Drawn0.step)⟩
   ·rw [if_neg c4] at H
    exact absurd H (by simp)

end Go.Proofs.Ytjjfjdejhddcnaa.P
