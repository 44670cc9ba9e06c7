-- Printed by a program of this session (wip/tools/myprint.py, over the kit's print.py); not trusted: Lean checks it.
import Derived.Test.YtjjfjdejhddcnaaP0
import Derived.Test.YtjjfjdejhddcnaaP109
import Derived.Test.YtjjfjdejhddcnaaP54
import Derived.Test.YtjjfjdejhddcnaaP57
import Derived.Test.YtjjfjdejhddcnaaP91
namespace Go.Proofs.Ytjjfjdejhddcnaa.P
open Go.RowKit Go.Proofs.YtjjfjdejhddcnaaW.PrintWords Go.Proofs.YtjjfjdejhddcnaaW.PrintLast Go.Proofs.YtjjfjdejhddcnaaW.PrintMore
attribute [local go_sem] max2_int min2_int max_two min_two max_three min_three max_four min_four   -- for this text's walks alone
set_option linter.unusedVariables false
set_option linter.unusedSimpArgs false

/-! ### impl_CrossingPairs: function 26 -/
mutual
def impl_CrossingPairs.j0 : Nat → Int → List Int → Bool → Option (Int)
 | 0, _, _, _ => none
 | k + 1, x1, x5, x23 => if x23 = true then (some (-1)) else ((impl_chi_crossings.f k x5).bind fun t446 => (impl_CrossingPairs.l0 k x1 0 t446 (t446.length : Int) 0))
def impl_CrossingPairs.l0 : Nat → Int → Int → List Int → Int → Int → Option (Int)
 | 0, _, _, _, _, _ => none
 | k + 1, x1, x7, x25, x26, x27 => if x27 < x26 then (if 0 ≤ x27 then (if x27 < (x25.length : Int) then (if (Go.bits .and .i64 (shr .i64 x1 x27) 1) = 1 then ((bits_OnesCount.f (IntKind.u64.wrap (Go.bits .and .i64 (rd x25 x27) x1))).bind fun t450 => (impl_CrossingPairs.l0 k x1 (wrap64 (x7 + t450)) x25 x26 (wrap64 (x27 + 1)))) else (impl_CrossingPairs.l0 k x1 x7 x25 x26 (wrap64 (x27 + 1)))) else (none)) else (none)) else (some (wrap64 (Int.tdiv x7 2)))
end
def impl_CrossingPairs.f (k : Nat) (a0_0 : Int) (a0_1 : ByteArray) (a1 : Int) : Option (Int) := (impl_orderOf.f k a0_0 a0_1).bind fun bt441 => (if bt441.2 = true then ((impl_areEdges.f a0_0 a1).bind fun t445 => (impl_CrossingPairs.j0 k a1 bt441.1 (!t445))) else (impl_CrossingPairs.j0 k a1 bt441.1 true))
theorem impl_CrossingPairs.mono_l : ∀ k, (∀ y0 y1 y2, LeO (impl_CrossingPairs.j0 k y0 y1 y2) (impl_CrossingPairs.j0 (k + 1) y0 y1 y2)) ∧ (∀ y0 y1 y2 y3 y4, LeO (impl_CrossingPairs.l0 k y0 y1 y2 y3 y4) (impl_CrossingPairs.l0 (k + 1) y0 y1 y2 y3 y4))
 | 0 => ⟨fun _ _ _ r h => by simp [impl_CrossingPairs.j0] at h, fun _ _ _ _ _ r h => by simp [impl_CrossingPairs.l0] at h⟩
 | k + 1 => by
  obtain ⟨ih0, ih1⟩ := impl_CrossingPairs.mono_l k
  refine ⟨?_, ?_⟩
  ·intro y0 y1 y2
   unfold impl_CrossingPairs.j0
   repeat' first
   | (with_reducible exact ih0 _ _ _)
   | (with_reducible exact ih1 _ _ _ _ _)
   | (with_reducible exact impl_chi_crossings.mono _ _)
   | (with_reducible exact impl_orderOf.mono _ _ _)
   | (with_reducible exact LeO.refl _)
   | (with_reducible exact LeO.none _)
   | (with_reducible refine LeO.ite ?_ ?_)
   | (with_reducible refine LeO.bind ?_ (fun _ => ?_))
   | exact ih0 _ _ _
   | exact ih1 _ _ _ _ _
   | exact impl_chi_crossings.mono _ _
   | exact impl_orderOf.mono _ _ _
   | exact LeO.none _
   | refine LeO.ite ?_ ?_
   | refine LeO.bind ?_ (fun _ => ?_)
  ·intro y0 y1 y2 y3 y4
   unfold impl_CrossingPairs.l0
   repeat' first
   | (with_reducible exact ih0 _ _ _)
   | (with_reducible exact ih1 _ _ _ _ _)
   | (with_reducible exact impl_chi_crossings.mono _ _)
   | (with_reducible exact impl_orderOf.mono _ _ _)
   | (with_reducible exact LeO.refl _)
   | (with_reducible exact LeO.none _)
   | (with_reducible refine LeO.ite ?_ ?_)
   | (with_reducible refine LeO.bind ?_ (fun _ => ?_))
   | exact ih0 _ _ _
   | exact ih1 _ _ _ _ _
   | exact impl_chi_crossings.mono _ _
   | exact impl_orderOf.mono _ _ _
   | exact LeO.none _
   | refine LeO.ite ?_ ?_
   | refine LeO.bind ?_ (fun _ => ?_)
theorem impl_CrossingPairs.mono : ∀ a0 a1 a2 k, LeO (impl_CrossingPairs.f k a0 a1 a2) (impl_CrossingPairs.f (k + 1) a0 a1 a2) := by
 intro a0 a1 a2 k
 obtain ⟨ih0, ih1⟩ := impl_CrossingPairs.mono_l k
 unfold impl_CrossingPairs.f
 repeat' first
   | (with_reducible exact ih0 _ _ _)
   | (with_reducible exact ih1 _ _ _ _ _)
   | (with_reducible exact impl_chi_crossings.mono _ _)
   | (with_reducible exact impl_orderOf.mono _ _ _)
   | (with_reducible exact LeO.refl _)
   | (with_reducible exact LeO.none _)
   | (with_reducible refine LeO.ite ?_ ?_)
   | (with_reducible refine LeO.bind ?_ (fun _ => ?_))
   | exact ih0 _ _ _
   | exact ih1 _ _ _ _ _
   | exact impl_chi_crossings.mono _ _
   | exact impl_orderOf.mono _ _ _
   | exact LeO.none _
   | refine LeO.ite ?_ ?_
   | refine LeO.bind ?_ (fun _ => ?_)
set_option maxHeartbeats 8000000 in
set_option maxRecDepth 100000 in
theorem impl_CrossingPairs.calls (k : Nat) (a0_0 : Int) (a0_1 : ByteArray) (a1 : Int) (r : Int) (w : World) (h : impl_CrossingPairs.f k a0_0 a0_1 a1 = some r) :
  Calls Try.prog 26 #[.agg #[.int .i64 a0_0, .string a0_1], .int .i64 a1] w fun e w' => e = .returned (.int .i64 r) ∧ Below w.heap.size w w' := by
 have hu26 := Try.underlying26
 have HB := Aside0.mk (Below.refl w.heap.size w)
 have H : ((impl_orderOf.f k a0_0 a0_1).bind fun bt441 => (if bt441.2 = true then ((impl_areEdges.f a0_0 a1).bind fun t445 => (impl_CrossingPairs.j0 k a1 bt441.1 (!t445))) else (impl_CrossingPairs.j0 k a1 bt441.1 true))) = some r := h
 clear h
 replace H := Option.bind_eq_some_iff.mp H
 obtain ⟨⟨t441, t444⟩, A30, H⟩ := H
 replace H : (if t444 = true then ((impl_areEdges.f a0_0 a1).bind fun t445 => (impl_CrossingPairs.j0 k a1 t441 (!t445))) else (impl_CrossingPairs.j0 k a1 t441 true)) = some r := H
 have A3 := Aside0.mk A30
 clear A30
 have HC4 := Aside0.mk H
 clear H
 go_enter Try.func26, Try.ntmps26
 go_upto_region 2 with (first | ((with_reducible refine gate_dst (N := 2) rfl ?_); refine box_event ?hg (N := 2) ?hd (cs := #[.int .i64 a0_0, .string a0_1]) (t := 26) ?hr ?_; (case hd => rfl); (case hg => rfl); (case hr => first | (go_simp; done) | (go_simp; rfl)); intro gb440 hg w5 hbox hb; have n0_ := Aside0.mk (below_step (by repeat (first | (with_reducible first | exact HB.out | apply below_alloc | apply pw_below_drewN | apply below_drew1) | exact HB.out)) hb); have n1_ := Aside0.mk (hbox); have n2_ := Aside0.mk ((by rw [hg]; exact (below_size (by repeat (first | (with_reducible first | exact HB.out | apply below_alloc | apply pw_below_drewN | apply below_drew1) | exact HB.out))) : w.heap.size ≤ gb440)); have n3_ := Aside0.mk ((by rw [hg]; exact (below_size (by repeat (first | (with_reducible first | exact HB.out | apply below_alloc | apply pw_below_drewN | apply below_drew1) | exact HB.out))) : w.heap.size ≤ gb440)); clear HB; have HB := n0_; have BK440 := n1_; have GW440 := n2_; have GE440 := n3_; clear n0_ n1_ n2_ n3_; clear hb hbox hg; have hcz6_0 : w5.cell? ⟨gb440, 0, none⟩ = some (.int .i64 a0_0) := (blk_cell BK440.out 0).trans rfl; have hcz6_1 : w5.cell? ⟨gb440, 1, none⟩ = some (.string a0_1) := (blk_cell BK440.out 1).trans rfl; have hfz6_0 := blk_frozen BK440.out 0; have hfz6_1 := blk_frozen BK440.out 1) | ((with_reducible refine gate_callee (f := 47) rfl ?_); refine goesL_ (some 12) rfl rfl Try.func47 (by kernel_rfl) rfl #[.agg #[.int .i64 a0_0, .string a0_1]] rfl (by (try simp only [List.map_toArray, List.map_cons, List.map_nil]); first | done | rfl | (simp only [List.length_drop, List.length_take]; rfl)) ?_; (with_reducible refine (impl_orderOf.calls k a0_0 a0_1 t441 t444 _ A3.out).mono ?_); rintro e w7 ⟨v442, rfl, ho0, hb⟩; refine ⟨_, rfl, ?_⟩; have n0_ := Aside0.mk (Kd.R_lower ho0 (below_size (by repeat (first | (with_reducible first | exact HB.out | apply below_alloc | apply pw_below_drewN | apply below_drew1 | refine below_set ?_ GE440.out) | exact HB.out)))); have n1_ := Aside0.mk (blk_below (g := gb440) (o := .cells #[.int .i64 a0_0, .string a0_1] 26 (0, 0)) (by (with_reducible repeat (first | refine blk_drewN ?_ _ | refine blk_drew ?_ | refine blk_alloc ?_ _)); exact BK440.out) hb); have n2_ := Aside0.mk (below_step (by repeat (first | (with_reducible first | exact HB.out | apply below_alloc | apply pw_below_drewN | apply below_drew1 | refine below_set ?_ GE440.out) | exact HB.out)) hb); clear BK440; clear HB; have HO443 := n0_; have BK440 := n1_; have HB := n2_; clear n0_ n1_ n2_; (try clear hb); (try clear hb2); (try clear hk); (try clear hi); (try clear ho0)))
 (try simp only [Act.put, List.setIfInBounds_toArray, List.set_cons_zero, List.set_cons_succ])
 go_cut [23] (fun v23 wc => ∃ (kq : Nat) (x23_3 : Bool), v23 = .bool x23_3 ∧ Aside0 (impl_CrossingPairs.j0 kq a1 t441 x23_3 = some r) ∧ Aside0 (kq ≤ k) ∧ Aside0 (Kd.R (Kd.int .i64) 78 wc w.heap.size (fun _ => True) v442 t441) ∧ Aside0 (wc.heap[gb440]? = some (.cells #[.int .i64 a0_0, .string a0_1] 26 (0, 0))) ∧ Aside0 (Below w.heap.size w wc))
 case first =>
  have H := HC4.out
  clear HC4
  by_cases c8 : t444 = true
  ·subst c8
   have H1 : ((impl_areEdges.f a0_0 a1).bind fun t445 => (impl_CrossingPairs.j0 k a1 t441 (!t445))) = some r := by rw [if_pos rfl] at H; exact H
   clear H
   have H := H1
   clear H1
   replace H := Option.bind_eq_some_iff.mp H
   obtain ⟨t445, A90, H⟩ := H
   replace H : (impl_CrossingPairs.j0 k a1 t441 (!t445)) = some r := H
   have A9 := Aside0.mk A90
   clear A90
   have H' := Aside0.mk H
   clear H
   have hcz10_0 : w7.cell? ⟨gb440, 0, none⟩ = some (.int .i64 a0_0) := (blk_cell BK440.out 0).trans rfl
   have hcz10_1 : w7.cell? ⟨gb440, 1, none⟩ = some (.string a0_1) := (blk_cell BK440.out 1).trans rfl
   have hfz10_0 := blk_frozen BK440.out 0
   have hfz10_1 := blk_frozen BK440.out 1
   go_wp2_with (first | (go_at_call 61; (with_reducible refine (impl_areEdges.calls a0_0 a1 t445 _ A9.out).mono ?_); rintro e w' ⟨rfl, ⟨nd, rfl⟩⟩))
   go_meet
   case rel => exact ⟨_, (!t445), (by first | rfl | (simp; done) | (simp [*]; done)), H', ⟨by first | omega | exact Nat.le_refl _⟩, ⟨by (with_reducible repeat (first | apply Kd.R_alloc | apply Kd.R_drewN | apply Kd.R_drew)); exact HO443.out⟩, ⟨by (with_reducible repeat (first | refine blk_drewN ?_ _ | refine blk_drew ?_ | refine blk_alloc ?_ _)); exact BK440.out⟩, ⟨by repeat (first | (with_reducible first | exact HB.out | apply below_alloc | apply pw_below_drewN | apply below_drew1 | refine below_set ?_ GE440.out) | exact HB.out)⟩⟩
  ·replace c8 := Bool.eq_false_iff.mpr c8
   subst c8
   have H1 : (impl_CrossingPairs.j0 k a1 t441 true) = some r := by rw [if_neg (show ¬ (false = true) by decide)] at H; exact H
   clear H
   have H := H1
   clear H1
   have H' := Aside0.mk H
   clear H
   go_wp2
   go_meet
   case rel => exact ⟨_, (true), (by first | rfl | (simp; done) | (simp [*]; done)), H', ⟨by first | omega | exact Nat.le_refl _⟩, ⟨by (with_reducible repeat (first | apply Kd.R_alloc | apply Kd.R_drewN | apply Kd.R_drew)); exact HO443.out⟩, ⟨by (with_reducible repeat (first | refine blk_drewN ?_ _ | refine blk_drew ?_ | refine blk_alloc ?_ _)); exact BK440.out⟩, ⟨by repeat (first | (with_reducible first | exact HB.out | apply below_alloc | apply pw_below_drewN | apply below_drew1 | refine below_set ?_ GE440.out) | exact HB.out)⟩⟩
 case rest =>
  clear HC4
  try clear c2
  try clear p2
  try clear c4
  try clear c8
  try clear hcz10_0
  try clear hcz10_1
  try clear hcz6_0
  try clear hcz6_1
  try clear hfz10_0
  try clear hfz10_1
  try clear hfz6_0
  try clear hfz6_1
  obtain ⟨kq, x23_3, rfl, HA, HJ3, HO_5, BK440, HB⟩ := hcut
  cases kq with
  | zero => exact absurd HA.out (by simp [impl_CrossingPairs.j0])
  | succ kj3 =>
   have H := HA.out
   clear HA
   simp only [impl_CrossingPairs.j0] at H
   by_cases c11 : x23_3 = true
   ·subst c11
    have H1 : (some (-1)) = some r := by rw [if_pos rfl] at H; exact H
    clear H
    have H := H1
    clear H1
    obtain rfl := Option.some.inj H
    go_wp2
    go_ret
    exact ⟨by first | rfl | (simp [errW_none, errW_some] <;> rfl) | (simp [*, errW_none, errW_some] <;> rfl), by repeat (first | (with_reducible first | exact HB.out | apply below_alloc | apply pw_below_drewN | apply below_drew1 | refine below_set ?_ GE440.out) | exact HB.out)⟩
   ·replace c11 := Bool.eq_false_iff.mpr c11
    subst c11
    have H1 : ((impl_chi_crossings.f kj3 t441).bind fun t446 => (impl_CrossingPairs.l0 kj3 a1 0 t446 (t446.length : Int) 0)) = some r := by rw [if_neg (show ¬ (false = true) by decide)] at H; exact H
    clear H
    have H := H1
    clear H1
    replace H := Option.bind_eq_some_iff.mp H
    obtain ⟨t446, A120, H⟩ := H
    replace H : (impl_CrossingPairs.l0 kj3 a1 0 t446 (t446.length : Int) 0) = some r := H
    have A12 := Aside0.mk A120
    clear A120
    have H' := Aside0.mk H
    clear H
    obtain ⟨Ao13, co13, eo13⟩ := Kd.R_slice HO_5.out
    subst eo13
    go_wp2_with (first | ((with_reducible refine gate_callee (f := 54) rfl ?_); refine goesL_ (some 25) rfl rfl Try.func54 (by kernel_rfl) rfl #[.pointer Ao13] rfl (by (try simp only [List.map_toArray, List.map_cons, List.map_nil]); first | done | rfl | (simp only [List.length_drop, List.length_take]; rfl)) ?_; (with_reducible refine (impl_chi_crossings.calls kj3 _ co13 t441 t446 _ ?side1 ?side2 A12.out).mono ?_); (case side1 => repeat (first | exact (Kd.R_reads' HO_5.out).2.2 | (with_reducible refine Kd.C_alloc ?_ _) | (with_reducible refine Kd.C_drewN ?_ _) | (with_reducible refine Kd.C_drew ?_))); (case side2 => exact (Kd.R_reads' HO_5.out).2.1); rintro e w14 ⟨v447, rfl, ho0, hb⟩; refine ⟨_, rfl, ?_⟩; have n0_ := Aside0.mk (Kd.R_below (by (with_reducible repeat (first | apply Kd.R_alloc | apply Kd.R_drewN | apply Kd.R_drew)); exact HO_5.out) hb); have n1_ := Aside0.mk (Kd.R_lower ho0 (below_size (by repeat (first | (with_reducible first | exact HB.out | apply below_alloc | apply pw_below_drewN | apply below_drew1 | refine below_set ?_ GE440.out) | exact HB.out)))); have n2_ := Aside0.mk (blk_below (g := gb440) (o := .cells #[.int .i64 a0_0, .string a0_1] 26 (0, 0)) (by (with_reducible repeat (first | refine blk_drewN ?_ _ | refine blk_drew ?_ | refine blk_alloc ?_ _)); exact BK440.out) hb); have n3_ := Aside0.mk (below_step (by repeat (first | (with_reducible first | exact HB.out | apply below_alloc | apply pw_below_drewN | apply below_drew1 | refine below_set ?_ GE440.out) | exact HB.out)) hb); clear HO_5; clear BK440; clear HB; have HO_5 := n0_; have HO448 := n1_; have BK440 := n2_; have HB := n3_; clear n0_ n1_ n2_ n3_; (try clear hb); (try clear hb2); (try clear hk); (try clear hi); (try clear ho0); obtain ⟨Ao15, co15, eo15⟩ := Kd.R_slice HO448.out; subst eo15))
    go_loopg [7, 27] kj3 (fun kq v7 v27 w' => ∃ (x7_2 : Int) (x27_2 : Int), v7 = .int .i64 x7_2 ∧ v27 = .int .i64 x27_2 ∧ Aside0 (impl_CrossingPairs.l0 kq a1 x7_2 t446 (t446.length : Int) x27_2 = some r) ∧ Aside0 (kq ≤ kj3) ∧ Aside0 (Kd.R (Kd.int .i64) 3 w' w.heap.size (fun _ => True) (.slice Ao15 t446.length co15) t446) ∧ Aside0 (w'.heap[gb440]? = some (.cells #[.int .i64 a0_0, .string a0_1] 26 (0, 0))) ∧ Aside0 (Below w.heap.size w w'))
    case atStart => exact ⟨(0), (0), (by first | rfl | (simp; done) | (simp [*]; done)), (by first | rfl | (simp; done) | (simp [*]; done)), H', ⟨Nat.le_refl _⟩, ⟨by (with_reducible repeat (first | apply Kd.R_alloc | apply Kd.R_drewN | apply Kd.R_drew)); exact HO448.out⟩, ⟨by (with_reducible repeat (first | refine blk_drewN ?_ _ | refine blk_drew ?_ | refine blk_alloc ?_ _)); exact BK440.out⟩, ⟨by repeat (first | (with_reducible first | exact HB.out | apply below_alloc | apply pw_below_drewN | apply below_drew1 | refine below_set ?_ GE440.out) | exact HB.out)⟩⟩
    case round =>
     clear H'
     try clear c1
     try clear c2
     try clear p2
     try clear c4
     try clear c5
     try clear c8
     try clear c11
     try clear hcz10_0
     try clear hcz10_1
     try clear hcz6_0
     try clear hcz6_1
     try clear hfz10_0
     try clear hfz10_1
     try clear hfz6_0
     try clear hfz6_1
     try clear p2
     obtain ⟨x7_2, x27_2, rfl, rfl, HA, HK2, HO_25, BK440, HB⟩ := hrel
     cases gk with
     | zero => exact absurd HA.out (by simp [impl_CrossingPairs.l0])
     | succ k2 =>
      have H := HA.out
      clear HA
      simp only [impl_CrossingPairs.l0] at H
      by_cases c16 : x27_2 < (t446.length : Int)
      ·rw [if_pos c16] at H
       have c16b0 : decide (x27_2 < (t446.length : Int)) = true := decide_eq_true c16
       clear c16
       by_cases c17 : 0 ≤ x27_2
       ·rw [if_pos c17] at H
        have c17b0 : decide (0 ≤ x27_2) = true := decide_eq_true c17
        clear c17
        by_cases c18 : x27_2 < (t446.length : Int)
        ·rw [if_pos c18] at H
         have c18b0 : decide (x27_2 < (t446.length : Int)) = true := decide_eq_true c18
         clear c18
         have c19b0 := eq_true (of_decide_eq_true (by first | (with_reducible assumption) | assumption) : 0 ≤ x27_2)
         obtain ⟨ji20, hji20⟩ : ∃ j_ : Int, (shr .i64 a1 x27_2) = j_ := ⟨_, rfl⟩
         replace H : (if (Go.bits .and .i64 (ji20) 1) = 1 then ((bits_OnesCount.f (IntKind.u64.wrap (Go.bits .and .i64 (rd t446 x27_2) a1))).bind fun t450 => (impl_CrossingPairs.l0 k2 a1 (wrap64 (x7_2 + t450)) t446 (t446.length : Int) (wrap64 (x27_2 + 1)))) else (impl_CrossingPairs.l0 k2 a1 x7_2 t446 (t446.length : Int) (wrap64 (x27_2 + 1)))) = some r := by first | (rw [hji20] at H; exact H) | (simp only [hji20] at H ⊢; exact H)
         have hji20_ : (a1 / 2 ^ min x27_2.toNat 64) = ji20 := hji20
         have hji20z : x27_2 ≤ 64 → (a1 / 2 ^ x27_2.toNat) = ji20 := shr_small hji20
         by_cases c21 : (Go.bits .and .i64 (ji20) 1) = 1
         ·rw [if_pos c21] at H
          have c21b0 : ((Go.bits .and .i64 (ji20) 1) == 1) = true := beq_iff_eq.mpr c21
          have c21b1 : ((Go.bits .and .i64 (ji20) 1) != 1) = false := bne_eq_false_iff_eq.mpr c21
          clear c21
          replace H := Option.bind_eq_some_iff.mp H
          obtain ⟨t450, A220, H⟩ := H
          replace H : (impl_CrossingPairs.l0 k2 a1 (wrap64 (x7_2 + t450)) t446 (t446.length : Int) (wrap64 (x27_2 + 1))) = some r := H
          have A22 := Aside0.mk A220
          clear A220
          have H' := Aside0.mk H
          clear H
          have p449 : 0 ≤ (x27_2 : Int) := of_decide_eq_true (by first | (with_reducible assumption) | assumption)
          have q449 : x27_2 < (t446.length : Int) := of_decide_eq_true (by first | (with_reducible assumption) | assumption)
          obtain ⟨ad449, e449, hx449_0⟩ := Kd.at_int (Kd.R_reads' HO_25.out).2.2 x27_2 p449 q449
          cases e449
          replace p449 := eq_true p449
          replace q449 := eq_true q449
          go_wp2_with (first | ((with_reducible refine gate_callee (f := 64) rfl ?_); refine goesL_ (some 42) rfl rfl Try.func64 (by kernel_rfl) rfl #[.int .u64 (IntKind.u64.wrap (Go.bits .and .i64 (rd t446 x27_2) a1))] rfl (by (try simp only [List.map_toArray, List.map_cons, List.map_nil]); first | done | rfl | (simp only [List.length_drop, List.length_take]; rfl)) ?_; (with_reducible refine (bits_OnesCount.calls (IntKind.u64.wrap (Go.bits .and .i64 (rd t446 x27_2) a1)) t450 _ A22.out).mono ?_); rintro e w' ⟨rfl, ⟨nd, rfl⟩⟩; refine ⟨_, rfl, ?_⟩))
          go_roundg k2
          case measure => have := HJ3.out; have := HK2.out; omega
          case rel => exact ⟨(wrap64 (x7_2 + t450)), (wrap64 (x27_2 + 1)), (by first | rfl | (simp; done) | (simp [*]; done)), (by first | rfl | (simp; done) | (simp [*]; done)), H', ⟨by have := HJ3.out; have := HK2.out; omega⟩, ⟨by (with_reducible repeat (first | apply Kd.R_alloc | apply Kd.R_drewN | apply Kd.R_drew)); exact HO_25.out⟩, ⟨by (with_reducible repeat (first | refine blk_drewN ?_ _ | refine blk_drew ?_ | refine blk_alloc ?_ _)); exact BK440.out⟩, ⟨by repeat (first | (with_reducible first | exact HB.out | apply below_alloc | apply pw_below_drewN | apply below_drew1 | refine below_set ?_ GE440.out) | exact HB.out)⟩⟩
         ·rw [if_neg c21] at H
          have c21b0 : ((Go.bits .and .i64 (ji20) 1) == 1) = false := beq_eq_false_iff_ne.mpr c21
          have c21b1 : ((Go.bits .and .i64 (ji20) 1) != 1) = true := bne_iff_ne.mpr c21
          have H' := Aside0.mk H
          clear H
          have p449 : 0 ≤ (x27_2 : Int) := of_decide_eq_true (by first | (with_reducible assumption) | assumption)
          have q449 : x27_2 < (t446.length : Int) := of_decide_eq_true (by first | (with_reducible assumption) | assumption)
          obtain ⟨ad449, e449, hx449_0⟩ := Kd.at_int (Kd.R_reads' HO_25.out).2.2 x27_2 p449 q449
          cases e449
          replace p449 := eq_true p449
          replace q449 := eq_true q449
          go_wp2
          go_roundg k2
          case measure => have := HJ3.out; have := HK2.out; omega
          case rel => exact ⟨(x7_2), (wrap64 (x27_2 + 1)), (by first | rfl | (simp; done) | (simp [*]; done)), (by first | rfl | (simp; done) | (simp [*]; done)), H', ⟨by have := HJ3.out; have := HK2.out; omega⟩, ⟨by (with_reducible repeat (first | apply Kd.R_alloc | apply Kd.R_drewN | apply Kd.R_drew)); exact HO_25.out⟩, ⟨by (with_reducible repeat (first | refine blk_drewN ?_ _ | refine blk_drew ?_ | refine blk_alloc ?_ _)); exact BK440.out⟩, ⟨by repeat (first | (with_reducible first | exact HB.out | apply below_alloc | apply pw_below_drewN | apply below_drew1 | refine below_set ?_ GE440.out) | exact HB.out)⟩⟩
        ·rw [if_neg c18] at H
         exact absurd H (by simp)
       ·rw [if_neg c17] at H
        exact absurd H (by simp)
      ·rw [if_neg c16] at H
       have c16b0 : decide (x27_2 < (t446.length : Int)) = false := decide_eq_false c16
       clear c16
       obtain rfl := Option.some.inj H
       go_wp2
       go_ret
       exact ⟨by first | rfl | (simp [errW_none, errW_some] <;> rfl) | (simp [*, errW_none, errW_some] <;> rfl), by repeat (first | (with_reducible first | exact HB.out | apply below_alloc | apply pw_below_drewN | apply below_drew1 | refine below_set ?_ GE440.out) | exact HB.out)⟩

end Go.Proofs.Ytjjfjdejhddcnaa.P
