-- Printed by a program of this session (wip/tools/myprint.py, over the kit's print.py); not trusted: Lean checks it.
import Derived.Test.YtjjfjdejhddcnaaP0
import Derived.Test.YtjjfjdejhddcnaaP117
import Derived.Test.YtjjfjdejhddcnaaP23
import Derived.Test.YtjjfjdejhddcnaaP46
import Derived.Test.YtjjfjdejhddcnaaP51
import Derived.Test.YtjjfjdejhddcnaaP65
import Derived.Test.YtjjfjdejhddcnaaP88
import Derived.Test.YtjjfjdejhddcnaaPE0
namespace Go.Proofs.Ytjjfjdejhddcnaa.P
open Go.RowKit Go.Proofs.YtjjfjdejhddcnaaW.PrintWords Go.Proofs.YtjjfjdejhddcnaaW.PrintLast Go.Proofs.YtjjfjdejhddcnaaW.PrintMore
attribute [local go_sem] max2_int min2_int max_two min_two max_three min_three max_four min_four   -- for this text's walks alone
set_option linter.unusedVariables false
set_option linter.unusedSimpArgs false

attribute [local go_sem high] eqA51
/-! ### spec_l5Inside: function 75 -/
def spec_l5Inside.l0 : Nat → Int → Int → Int → Int → Int → Int → ByteArray → Option (Int)
 | 0, _, _, _, _, _, _, _ => none
 | k + 1, x1, x2, x3, x9, x10, x677000, x677001 => if x10 < x677000 then (if x10 = x1 then (spec_l5Inside.l0 k x1 x2 x3 x9 (wrap64 (x10 + 1)) x677000 x677001) else (if x10 = x2 then (spec_l5Inside.l0 k x1 x2 x3 x9 (wrap64 (x10 + 1)) x677000 x677001) else (if x10 = x3 then (spec_l5Inside.l0 k x1 x2 x3 x9 (wrap64 (x10 + 1)) x677000 x677001) else ((spec_l5Inner.f k x677000 x677001 (([x10, x1, x2, x3] : List Int))).bind fun t680 => (if t680 = x10 then (spec_l5Inside.l0 k x1 x2 x3 (wrap64 (x9 + 1)) (wrap64 (x10 + 1)) x677000 x677001) else (spec_l5Inside.l0 k x1 x2 x3 x9 (wrap64 (x10 + 1)) x677000 x677001)))))) else (some x9)
def spec_l5Inside.f (k : Nat) (a0_0 : Int) (a0_1 : ByteArray) (a1 : Int) (a2 : Int) (a3 : Int) : Option (Int) := spec_l5Inside.l0 k a1 a2 a3 0 0 a0_0 a0_1
theorem spec_l5Inside.mono_l : ∀ k, (∀ y0 y1 y2 y3 y4 y5 y6, LeO (spec_l5Inside.l0 k y0 y1 y2 y3 y4 y5 y6) (spec_l5Inside.l0 (k + 1) y0 y1 y2 y3 y4 y5 y6))
 | 0 => fun _ _ _ _ _ _ _ r h => by simp [spec_l5Inside.l0] at h
 | k + 1 => by
  have ih0 := spec_l5Inside.mono_l k
  ·intro y0 y1 y2 y3 y4 y5 y6
   unfold spec_l5Inside.l0
   repeat' first
   | (with_reducible exact ih0 _ _ _ _ _ _ _)
   | (with_reducible exact spec_l5Inner.mono _ _ _ _)
   | (with_reducible exact LeO.refl _)
   | (with_reducible exact LeO.none _)
   | (with_reducible refine LeO.ite ?_ ?_)
   | (with_reducible refine LeO.bind ?_ (fun _ => ?_))
   | exact ih0 _ _ _ _ _ _ _
   | exact spec_l5Inner.mono _ _ _ _
   | exact LeO.none _
   | refine LeO.ite ?_ ?_
   | refine LeO.bind ?_ (fun _ => ?_)
theorem spec_l5Inside.mono : ∀ a0 a1 a2 a3 a4 k, LeO (spec_l5Inside.f k a0 a1 a2 a3 a4) (spec_l5Inside.f (k + 1) a0 a1 a2 a3 a4) := by
 intro a0 a1 a2 a3 a4 k
 have ih0 := spec_l5Inside.mono_l k
 unfold spec_l5Inside.f
 repeat' first
   | (with_reducible exact ih0 _ _ _ _ _ _ _)
   | (with_reducible exact spec_l5Inner.mono _ _ _ _)
   | (with_reducible exact LeO.refl _)
   | (with_reducible exact LeO.none _)
   | (with_reducible refine LeO.ite ?_ ?_)
   | (with_reducible refine LeO.bind ?_ (fun _ => ?_))
   | exact ih0 _ _ _ _ _ _ _
   | exact spec_l5Inner.mono _ _ _ _
   | exact LeO.none _
   | refine LeO.ite ?_ ?_
   | refine LeO.bind ?_ (fun _ => ?_)
set_option maxHeartbeats 8000000 in
set_option maxRecDepth 100000 in
theorem spec_l5Inside.calls (k : Nat) (a0_0 : Int) (a0_1 : ByteArray) (a1 : Int) (a2 : Int) (a3 : Int) (r : Int) (w : World) (h : spec_l5Inside.f k a0_0 a0_1 a1 a2 a3 = some r) :
  Calls Try.prog 75 #[.agg #[.int .i64 a0_0, .string a0_1], .int .i64 a1, .int .i64 a2, .int .i64 a3] w fun e w' => e = .returned (.int .i64 r) ∧ Below w.heap.size w w' := by
 have hu26 := Try.underlying26
 have HB := Aside0.mk (Below.refl w.heap.size w)
 have H : (spec_l5Inside.l0 k a1 a2 a3 0 0 a0_0 a0_1) = some r := h
 clear h
 have H' := Aside0.mk H
 clear H
 go_enter Try.func75, Try.ntmps75
 go_wp2_with (first | ((with_reducible refine gate_dst (N := 4) rfl ?_); (try (refine gate_guard (by rfl) ?_; dsimp only)); refine bx 4 #[.int .i64 a0_0, .string a0_1] 26 ?_; intro gb676 hg w5 hbox hb; have BK676 := Aside0.mk hbox; have GE676 := gs HB hg; have GW676 := GE676; replace HB := bs HB hb; clear hb hbox hg))
 go_loopg [9, 10] k (fun kq v9 v10 w' => ∃ (x9_1 : Int) (x10_1 : Int), v9 = .int .i64 x9_1 ∧ v10 = .int .i64 x10_1 ∧ Aside0 (spec_l5Inside.l0 kq a1 a2 a3 x9_1 x10_1 a0_0 a0_1 = some r) ∧ Aside0 (kq ≤ k) ∧ Aside0 (w'.heap[gb676]? = some (.cells #[.int .i64 a0_0, .string a0_1] 26 (0, 0))) ∧ Aside0 (Below w.heap.size w w'))
 case atStart => exact ⟨(0), (0), (by first | rfl | (simp; done) | (simp [*]; done)), (by first | rfl | (simp; done) | (simp [*]; done)), H', ⟨Nat.le_refl _⟩, ⟨by (with_reducible repeat (first | refine blk_drewN ?_ _ | refine blk_drew ?_ | refine blk_alloc ?_ _)); exact BK676.out⟩, ⟨(bg HB GE676)⟩⟩
 case round =>
  clear H'
  try clear p2
  obtain ⟨x9_1, x10_1, rfl, rfl, HA, HK1, BK676, HB⟩ := hrel
  cases gk with
  | zero => exact absurd HA.out (by simp [spec_l5Inside.l0])
  | succ k1 =>
   have H := HA.out
   clear HA
   simp only [spec_l5Inside.l0] at H
   by_cases c6 : x10_1 < a0_0
   ·rw [if_pos c6] at H
    have c6b0 : decide (x10_1 < a0_0) = true := decide_eq_true c6
    clear c6
    by_cases c7 : x10_1 = a1
    ·rw [if_pos c7] at H
     have c7b0 : (x10_1 == a1) = true := beq_iff_eq.mpr c7
     have c7b1 : (x10_1 != a1) = false := bne_eq_false_iff_eq.mpr c7
     clear c7
     have H' := Aside0.mk H
     clear H
     have hcz8_0 := bc BK676 0
     have hcz8_1 := bc BK676 1
     have hfz8_0 := bf BK676 0
     have hfz8_1 := bf BK676 1
     go_wp2
     go_roundg k1
     case measure => have := HK1.out; omega
     case rel => exact ⟨(x9_1), (wrap64 (x10_1 + 1)), (by first | rfl | (simp; done) | (simp [*]; done)), (by first | rfl | (simp; done) | (simp [*]; done)), H', ⟨by have := HK1.out; omega⟩, ⟨by (with_reducible repeat (first | refine blk_drewN ?_ _ | refine blk_drew ?_ | refine blk_alloc ?_ _)); exact BK676.out⟩, ⟨(bg HB GE676)⟩⟩
    ·rw [if_neg c7] at H
     have c7b0 : (x10_1 == a1) = false := beq_eq_false_iff_ne.mpr c7
     have c7b1 : (x10_1 != a1) = true := bne_iff_ne.mpr c7
     by_cases c9 : x10_1 = a2
     ·rw [if_pos c9] at H
      have c9b0 : (x10_1 == a2) = true := beq_iff_eq.mpr c9
      have c9b1 : (x10_1 != a2) = false := bne_eq_false_iff_eq.mpr c9
      clear c9
      have H' := Aside0.mk H
      clear H
      have hcz10_0 := bc BK676 0
      have hcz10_1 := bc BK676 1
      have hfz10_0 := bf BK676 0
      have hfz10_1 := bf BK676 1
      go_wp2
      go_roundg k1
      case measure => have := HK1.out; omega
      case rel => exact ⟨(x9_1), (wrap64 (x10_1 + 1)), (by first | rfl | (simp; done) | (simp [*]; done)), (by first | rfl | (simp; done) | (simp [*]; done)), H', ⟨by have := HK1.out; omega⟩, ⟨by (with_reducible repeat (first | refine blk_drewN ?_ _ | refine blk_drew ?_ | refine blk_alloc ?_ _)); exact BK676.out⟩, ⟨(bg HB GE676)⟩⟩
     ·rw [if_neg c9] at H
      have c9b0 : (x10_1 == a2) = false := beq_eq_false_iff_ne.mpr c9
      have c9b1 : (x10_1 != a2) = true := bne_iff_ne.mpr c9
      by_cases c11 : x10_1 = a3
      ·rw [if_pos c11] at H
       have c11b0 : (x10_1 == a3) = true := beq_iff_eq.mpr c11
       have c11b1 : (x10_1 != a3) = false := bne_eq_false_iff_eq.mpr c11
       clear c11
       have H' := Aside0.mk H
       clear H
       have hcz12_0 := bc BK676 0
       have hcz12_1 := bc BK676 1
       have hfz12_0 := bf BK676 0
       have hfz12_1 := bf BK676 1
       go_wp2
       go_roundg k1
       case measure => have := HK1.out; omega
       case rel => exact ⟨(x9_1), (wrap64 (x10_1 + 1)), (by first | rfl | (simp; done) | (simp [*]; done)), (by first | rfl | (simp; done) | (simp [*]; done)), H', ⟨by have := HK1.out; omega⟩, ⟨by (with_reducible repeat (first | refine blk_drewN ?_ _ | refine blk_drew ?_ | refine blk_alloc ?_ _)); exact BK676.out⟩, ⟨(bg HB GE676)⟩⟩
      ·rw [if_neg c11] at H
       have c11b0 : (x10_1 == a3) = false := beq_eq_false_iff_ne.mpr c11
       have c11b1 : (x10_1 != a3) = true := bne_iff_ne.mpr c11
       obtain ⟨y677, hy677⟩ : ∃ y_ : List Int, y_ = (([x10_1, a1, a2, a3] : List Int)) := ⟨_, rfl⟩
       replace H : ((spec_l5Inner.f k1 a0_0 a0_1 y677).bind fun t680 => (if t680 = x10_1 then (spec_l5Inside.l0 k1 a1 a2 a3 (wrap64 (x9_1 + 1)) (wrap64 (x10_1 + 1)) a0_0 a0_1) else (spec_l5Inside.l0 k1 a1 a2 a3 x9_1 (wrap64 (x10_1 + 1)) a0_0 a0_1))) = some r := by first | (rw [hy677]; with_reducible exact H) | (have H2_ := (Option.bind_some _ _).symm.trans H; rw [hy677]; with_reducible exact H2_) | (have H2_ := (Option.bind_some _ _).symm.trans H; with_reducible exact H2_) | with_reducible exact H | (rw [hy677]; exact H) | exact H
       have Ny677 := Aside0.mk hy677
       clear hy677
       replace H := Option.bind_eq_some_iff.mp H
       obtain ⟨t680, A130, H⟩ := H
       (try dsimp only at H)
       have A13 := Aside0.mk A130
       clear A130
       by_cases c14 : t680 = x10_1
       ·rw [if_pos c14] at H
        have c14b0 : (t680 == x10_1) = true := beq_iff_eq.mpr c14
        have c14b1 : (t680 != x10_1) = false := bne_eq_false_iff_eq.mpr c14
        clear c14
        have H' := Aside0.mk H
        clear H
        have hcz15_0 := bc BK676 0
        have hcz15_1 := bc BK676 1
        have hfz15_0 := bf BK676 0
        have hfz15_1 := bf BK676 1
        go_wp2_with (first | ((with_reducible refine gate_dst (N := 36) rfl ?_); (try (refine gate_guard (by rfl) ?_; dsimp only)); refine Kd.R_lit (Kd.int .i64) _ 3 ?hg (N := 36) ?hd (xs := ([x10_1, a1, a2, a3] : List Int)) (inner := [.int .i64 x10_1, .int .i64 a1, .int .i64 a2, .int .i64 a3]) (ok := fun _ => True) (okp := fun _ => True) ?hr ?hp (fun _ hk => hk) trivial (Below.refl _ _) (Nat.le_refl _) (by simp) ?_; (case hd => rfl); (case hg => rfl); (case hr => first | (go_simp; done) | (go_simp; rfl)); (case hp => exact (Reps.one (show Kd.M (Kd.int .i64) _ _ _ x10_1 [.int .i64 x10_1] from rfl) (Reps.one (show Kd.M (Kd.int .i64) _ _ _ a1 [.int .i64 a1] from rfl) (Reps.one (show Kd.M (Kd.int .i64) _ _ _ a2 [.int .i64 a2] from rfl) (Reps.one (show Kd.M (Kd.int .i64) _ _ _ a3 [.int .i64 a3] from rfl) (Reps.none _ _)))))); intro v678 w16 ho17 hb hg_ hnew_; clear hg_ hnew_; (first | rw [← Ny677.out] at ho17 | (simp only [Int.reduceToNat] at ho17; rw [← Ny677.out] at ho17)); have n0_ := Aside0.mk (Kd.R_lower ho17 (below_size (bg HB GE676))); have n1_ := Aside0.mk (blk_below (g := gb676) (o := .cells #[.int .i64 a0_0, .string a0_1] 26 (0, 0)) (bk BK676) hb); have n2_ := bsg HB GE676 hb; clear BK676; clear HB; have HO679 := n0_; have BK676 := n1_; have HB := n2_; clear n0_ n1_ n2_; clear hb ho17; obtain ⟨Ao18, co18, eo18⟩ := Kd.R_slice HO679.out; subst eo18) | (go_at_call 101; (with_reducible refine (spec_l5Inner.calls k1 a0_0 a0_1 _ _ y677 t680 _ ?side1 ?side2 A13.out).mono ?_); (case side1 => repeat (first | exact (Kd.R_reads' HO679.out).2.2 | (with_reducible refine Kd.C_alloc ?_ _) | (with_reducible refine Kd.C_drewN ?_ _) | (with_reducible refine Kd.C_drew ?_))); (case side2 => exact (Kd.R_reads' HO679.out).2.1); rintro e w19 ⟨rfl, hb⟩; have n0_ := Aside0.mk (Kd.R_below (rr HO679) hb); have n1_ := Aside0.mk (blk_below (g := gb676) (o := .cells #[.int .i64 a0_0, .string a0_1] 26 (0, 0)) (bk BK676) hb); have n2_ := bsg HB GE676 hb; clear HO679; clear BK676; clear HB; have HO679 := n0_; have BK676 := n1_; have HB := n2_; clear n0_ n1_ n2_; (try clear hb); (try clear hb2); (try clear hk); (try clear hi)))
        go_roundg k1
        case measure => have := HK1.out; omega
        case rel => exact ⟨(wrap64 (x9_1 + 1)), (wrap64 (x10_1 + 1)), (by first | rfl | (simp; done) | (simp [*]; done)), (by first | rfl | (simp; done) | (simp [*]; done)), H', ⟨by have := HK1.out; omega⟩, ⟨by (with_reducible repeat (first | refine blk_drewN ?_ _ | refine blk_drew ?_ | refine blk_alloc ?_ _)); exact BK676.out⟩, ⟨(bg HB GE676)⟩⟩
       ·rw [if_neg c14] at H
        have c14b0 : (t680 == x10_1) = false := beq_eq_false_iff_ne.mpr c14
        have c14b1 : (t680 != x10_1) = true := bne_iff_ne.mpr c14
        have H' := Aside0.mk H
        clear H
        have hcz20_0 := bc BK676 0
        have hcz20_1 := bc BK676 1
        have hfz20_0 := bf BK676 0
        have hfz20_1 := bf BK676 1
        go_wp2_with (first | ((with_reducible refine gate_dst (N := 36) rfl ?_); (try (refine gate_guard (by rfl) ?_; dsimp only)); refine Kd.R_lit (Kd.int .i64) _ 3 ?hg (N := 36) ?hd (xs := ([x10_1, a1, a2, a3] : List Int)) (inner := [.int .i64 x10_1, .int .i64 a1, .int .i64 a2, .int .i64 a3]) (ok := fun _ => True) (okp := fun _ => True) ?hr ?hp (fun _ hk => hk) trivial (Below.refl _ _) (Nat.le_refl _) (by simp) ?_; (case hd => rfl); (case hg => rfl); (case hr => first | (go_simp; done) | (go_simp; rfl)); (case hp => exact (Reps.one (show Kd.M (Kd.int .i64) _ _ _ x10_1 [.int .i64 x10_1] from rfl) (Reps.one (show Kd.M (Kd.int .i64) _ _ _ a1 [.int .i64 a1] from rfl) (Reps.one (show Kd.M (Kd.int .i64) _ _ _ a2 [.int .i64 a2] from rfl) (Reps.one (show Kd.M (Kd.int .i64) _ _ _ a3 [.int .i64 a3] from rfl) (Reps.none _ _)))))); intro v678 w21 ho22 hb hg_ hnew_; clear hg_ hnew_; (first | rw [← Ny677.out] at ho22 | (simp only [Int.reduceToNat] at ho22; rw [← Ny677.out] at ho22)); have n0_ := Aside0.mk (Kd.R_lower ho22 (below_size (bg HB GE676))); have n1_ := Aside0.mk (blk_below (g := gb676) (o := .cells #[.int .i64 a0_0, .string a0_1] 26 (0, 0)) (bk BK676) hb); have n2_ := bsg HB GE676 hb; clear BK676; clear HB; have HO679 := n0_; have BK676 := n1_; have HB := n2_; clear n0_ n1_ n2_; clear hb ho22; obtain ⟨Ao23, co23, eo23⟩ := Kd.R_slice HO679.out; subst eo23) | (go_at_call 101; (with_reducible refine (spec_l5Inner.calls k1 a0_0 a0_1 _ _ y677 t680 _ ?side1 ?side2 A13.out).mono ?_); (case side1 => repeat (first | exact (Kd.R_reads' HO679.out).2.2 | (with_reducible refine Kd.C_alloc ?_ _) | (with_reducible refine Kd.C_drewN ?_ _) | (with_reducible refine Kd.C_drew ?_))); (case side2 => exact (Kd.R_reads' HO679.out).2.1); rintro e w24 ⟨rfl, hb⟩; have n0_ := Aside0.mk (Kd.R_below (rr HO679) hb); have n1_ := Aside0.mk (blk_below (g := gb676) (o := .cells #[.int .i64 a0_0, .string a0_1] 26 (0, 0)) (bk BK676) hb); have n2_ := bsg HB GE676 hb; clear HO679; clear BK676; clear HB; have HO679 := n0_; have BK676 := n1_; have HB := n2_; clear n0_ n1_ n2_; (try clear hb); (try clear hb2); (try clear hk); (try clear hi)))
        go_roundg k1
        case measure => have := HK1.out; omega
        case rel => exact ⟨(x9_1), (wrap64 (x10_1 + 1)), (by first | rfl | (simp; done) | (simp [*]; done)), (by first | rfl | (simp; done) | (simp [*]; done)), H', ⟨by have := HK1.out; omega⟩, ⟨by (with_reducible repeat (first | refine blk_drewN ?_ _ | refine blk_drew ?_ | refine blk_alloc ?_ _)); exact BK676.out⟩, ⟨(bg HB GE676)⟩⟩
   ·rw [if_neg c6] at H
    have c6b0 : decide (x10_1 < a0_0) = false := decide_eq_false c6
    clear c6
    obtain rfl := Option.some.inj H
    have hcz25_0 := bc BK676 0
    have hcz25_1 := bc BK676 1
    have hfz25_0 := bf BK676 0
    have hfz25_1 := bf BK676 1
    go_wp2
    go_ret
    exact ⟨by first | rfl | (simp [errW_none, errW_some] <;> rfl) | (simp [*, errW_none, errW_some] <;> rfl), (bg HB GE676)⟩

/-! ### spec_TrianglesOf: function 42 -/
mutual
def spec_TrianglesOf.l0 : Nat → Int → Int → Int → Int → ByteArray → Option (Int)
 | 0, _, _, _, _, _ => none
 | k + 1, x1, x5, x6, x682000, x682001 => if x6 < x682000 then (spec_TrianglesOf.l1 k x1 x5 x6 (wrap64 (x6 + 1)) x682000 x682001) else (some x5)
def spec_TrianglesOf.l1 : Nat → Int → Int → Int → Int → Int → ByteArray → Option (Int)
 | 0, _, _, _, _, _, _ => none
 | k + 1, x1, x5, x6, x7, x682000, x682001 => if x7 < x682000 then (spec_TrianglesOf.l2 k x1 x5 x6 x7 (wrap64 (x7 + 1)) x682000 x682001) else (spec_TrianglesOf.l0 k x1 x5 (wrap64 (x6 + 1)) x682000 x682001)
def spec_TrianglesOf.l2 : Nat → Int → Int → Int → Int → Int → Int → ByteArray → Option (Int)
 | 0, _, _, _, _, _, _, _ => none
 | k + 1, x1, x5, x6, x7, x8, x682000, x682001 => if x8 < x682000 then ((spec_l9Index.f k x682000 x6 x7).bind fun t683 => ((spec_l6Has.f x1 t683).bind fun t684 => (if t684 = true then ((spec_l9Index.f k x682000 x7 x8).bind fun t685 => ((spec_l6Has.f x1 t685).bind fun t686 => (if t686 = true then ((spec_l9Index.f k x682000 x6 x8).bind fun t687 => ((spec_l6Has.f x1 t687).bind fun t688 => (if t688 = true then ((spec_l5Inside.f k x682000 x682001 x6 x7 x8).bind fun t689 => (if t689 = 0 then (spec_TrianglesOf.l2 k x1 (wrap64 (x5 + 1)) x6 x7 (wrap64 (x8 + 1)) x682000 x682001) else (spec_TrianglesOf.l2 k x1 x5 x6 x7 (wrap64 (x8 + 1)) x682000 x682001))) else (spec_TrianglesOf.l2 k x1 x5 x6 x7 (wrap64 (x8 + 1)) x682000 x682001)))) else (spec_TrianglesOf.l2 k x1 x5 x6 x7 (wrap64 (x8 + 1)) x682000 x682001)))) else (spec_TrianglesOf.l2 k x1 x5 x6 x7 (wrap64 (x8 + 1)) x682000 x682001)))) else (spec_TrianglesOf.l1 k x1 x5 x6 (wrap64 (x7 + 1)) x682000 x682001)
end
def spec_TrianglesOf.f (k : Nat) (a0_0 : Int) (a0_1 : ByteArray) (a1 : Int) : Option (Int) := (spec_IsTriangulation.f k a0_0 a0_1 a1).bind fun t682 => (if t682 = true then (spec_TrianglesOf.l0 k a1 0 0 a0_0 a0_1) else (some (-1)))
theorem spec_TrianglesOf.mono_l : ∀ k, (∀ y0 y1 y2 y3 y4, LeO (spec_TrianglesOf.l0 k y0 y1 y2 y3 y4) (spec_TrianglesOf.l0 (k + 1) y0 y1 y2 y3 y4)) ∧ (∀ y0 y1 y2 y3 y4 y5, LeO (spec_TrianglesOf.l1 k y0 y1 y2 y3 y4 y5) (spec_TrianglesOf.l1 (k + 1) y0 y1 y2 y3 y4 y5)) ∧ (∀ y0 y1 y2 y3 y4 y5 y6, LeO (spec_TrianglesOf.l2 k y0 y1 y2 y3 y4 y5 y6) (spec_TrianglesOf.l2 (k + 1) y0 y1 y2 y3 y4 y5 y6))
 | 0 => ⟨fun _ _ _ _ _ r h => by simp [spec_TrianglesOf.l0] at h, fun _ _ _ _ _ _ r h => by simp [spec_TrianglesOf.l1] at h, fun _ _ _ _ _ _ _ r h => by simp [spec_TrianglesOf.l2] at h⟩
 | k + 1 => by
  obtain ⟨ih0, ih1, ih2⟩ := spec_TrianglesOf.mono_l k
  refine ⟨?_, ?_, ?_⟩
  ·intro y0 y1 y2 y3 y4
   unfold spec_TrianglesOf.l0
   repeat' first
   | (with_reducible exact ih0 _ _ _ _ _)
   | (with_reducible exact ih1 _ _ _ _ _ _)
   | (with_reducible exact ih2 _ _ _ _ _ _ _)
   | (with_reducible exact spec_IsTriangulation.mono _ _ _ _)
   | (with_reducible exact spec_l5Inside.mono _ _ _ _ _ _)
   | (with_reducible exact spec_l9Index.mono _ _ _ _)
   | (with_reducible exact LeO.refl _)
   | (with_reducible exact LeO.none _)
   | (with_reducible refine LeO.ite ?_ ?_)
   | (with_reducible refine LeO.bind ?_ (fun _ => ?_))
   | exact ih0 _ _ _ _ _
   | exact ih1 _ _ _ _ _ _
   | exact ih2 _ _ _ _ _ _ _
   | exact spec_IsTriangulation.mono _ _ _ _
   | exact spec_l5Inside.mono _ _ _ _ _ _
   | exact spec_l9Index.mono _ _ _ _
   | exact LeO.none _
   | refine LeO.ite ?_ ?_
   | refine LeO.bind ?_ (fun _ => ?_)
  ·intro y0 y1 y2 y3 y4 y5
   unfold spec_TrianglesOf.l1
   repeat' first
   | (with_reducible exact ih0 _ _ _ _ _)
   | (with_reducible exact ih1 _ _ _ _ _ _)
   | (with_reducible exact ih2 _ _ _ _ _ _ _)
   | (with_reducible exact spec_IsTriangulation.mono _ _ _ _)
   | (with_reducible exact spec_l5Inside.mono _ _ _ _ _ _)
   | (with_reducible exact spec_l9Index.mono _ _ _ _)
   | (with_reducible exact LeO.refl _)
   | (with_reducible exact LeO.none _)
   | (with_reducible refine LeO.ite ?_ ?_)
   | (with_reducible refine LeO.bind ?_ (fun _ => ?_))
   | exact ih0 _ _ _ _ _
   | exact ih1 _ _ _ _ _ _
   | exact ih2 _ _ _ _ _ _ _
   | exact spec_IsTriangulation.mono _ _ _ _
   | exact spec_l5Inside.mono _ _ _ _ _ _
   | exact spec_l9Index.mono _ _ _ _
   | exact LeO.none _
   | refine LeO.ite ?_ ?_
   | refine LeO.bind ?_ (fun _ => ?_)
  ·intro y0 y1 y2 y3 y4 y5 y6
   unfold spec_TrianglesOf.l2
   repeat' first
   | (with_reducible exact ih0 _ _ _ _ _)
   | (with_reducible exact ih1 _ _ _ _ _ _)
   | (with_reducible exact ih2 _ _ _ _ _ _ _)
   | (with_reducible exact spec_IsTriangulation.mono _ _ _ _)
   | (with_reducible exact spec_l5Inside.mono _ _ _ _ _ _)
   | (with_reducible exact spec_l9Index.mono _ _ _ _)
   | (with_reducible exact LeO.refl _)
   | (with_reducible exact LeO.none _)
   | (with_reducible refine LeO.ite ?_ ?_)
   | (with_reducible refine LeO.bind ?_ (fun _ => ?_))
   | exact ih0 _ _ _ _ _
   | exact ih1 _ _ _ _ _ _
   | exact ih2 _ _ _ _ _ _ _
   | exact spec_IsTriangulation.mono _ _ _ _
   | exact spec_l5Inside.mono _ _ _ _ _ _
   | exact spec_l9Index.mono _ _ _ _
   | exact LeO.none _
   | refine LeO.ite ?_ ?_
   | refine LeO.bind ?_ (fun _ => ?_)
theorem spec_TrianglesOf.mono : ∀ a0 a1 a2 k, LeO (spec_TrianglesOf.f k a0 a1 a2) (spec_TrianglesOf.f (k + 1) a0 a1 a2) := by
 intro a0 a1 a2 k
 obtain ⟨ih0, ih1, ih2⟩ := spec_TrianglesOf.mono_l k
 unfold spec_TrianglesOf.f
 repeat' first
   | (with_reducible exact ih0 _ _ _ _ _)
   | (with_reducible exact ih1 _ _ _ _ _ _)
   | (with_reducible exact ih2 _ _ _ _ _ _ _)
   | (with_reducible exact spec_IsTriangulation.mono _ _ _ _)
   | (with_reducible exact spec_l5Inside.mono _ _ _ _ _ _)
   | (with_reducible exact spec_l9Index.mono _ _ _ _)
   | (with_reducible exact LeO.refl _)
   | (with_reducible exact LeO.none _)
   | (with_reducible refine LeO.ite ?_ ?_)
   | (with_reducible refine LeO.bind ?_ (fun _ => ?_))
   | exact ih0 _ _ _ _ _
   | exact ih1 _ _ _ _ _ _
   | exact ih2 _ _ _ _ _ _ _
   | exact spec_IsTriangulation.mono _ _ _ _
   | exact spec_l5Inside.mono _ _ _ _ _ _
   | exact spec_l9Index.mono _ _ _ _
   | exact LeO.none _
   | refine LeO.ite ?_ ?_
   | refine LeO.bind ?_ (fun _ => ?_)
set_option maxHeartbeats 8000000 in
set_option maxRecDepth 100000 in
theorem spec_TrianglesOf.calls (k : Nat) (a0_0 : Int) (a0_1 : ByteArray) (a1 : Int) (r : Int) (w : World) (h : spec_TrianglesOf.f k a0_0 a0_1 a1 = some r) :
  Calls Try.prog 42 #[.agg #[.int .i64 a0_0, .string a0_1], .int .i64 a1] w fun e w' => e = .returned (.int .i64 r) ∧ Below w.heap.size w w' := by
 have hu26 := Try.underlying26
 have HB := Aside0.mk (Below.refl w.heap.size w)
 have H : ((spec_IsTriangulation.f k a0_0 a0_1 a1).bind fun t682 => (if t682 = true then (spec_TrianglesOf.l0 k a1 0 0 a0_0 a0_1) else (some (-1)))) = some r := h
 clear h
 replace H := Option.bind_eq_some_iff.mp H
 obtain ⟨t682, A30, H⟩ := H
 (try dsimp only at H)
 have A3 := Aside0.mk A30
 clear A30
 by_cases c4 : t682 = true
 ·subst c4
  have H1 : (spec_TrianglesOf.l0 k a1 0 0 a0_0 a0_1) = some r := by rw [if_pos rfl] at H; exact H
  clear H
  have H := H1
  clear H1
  have H' := Aside0.mk H
  clear H
  go_enter Try.func42, Try.ntmps42
  go_wp2_with (first | ((with_reducible refine gate_dst (N := 2) rfl ?_); refine bx 2 #[.int .i64 a0_0, .string a0_1] 26 ?_; intro gb681 hg w5 hbox hb; have BK681 := Aside0.mk hbox; have GE681 := gs HB hg; have GW681 := GE681; replace HB := bs HB hb; clear hb hbox hg; have hcz6_0 := bc BK681 0; have hcz6_1 := bc BK681 1; have hfz6_0 := bf BK681 0; have hfz6_1 := bf BK681 1) | ((with_reducible refine gate_callee (f := 23) rfl ?_); refine gL (some 11) rfl rfl Try.func23 (by kernel_rfl) rfl #[.agg #[.int .i64 a0_0, .string a0_1], .int .i64 a1] rfl ?_; (with_reducible refine (spec_IsTriangulation.calls k a0_0 a0_1 a1 true _ A3.out).mono ?_); rintro e w7 ⟨rfl, hb⟩; refine ⟨_, rfl, ?_⟩; have n0_ := Aside0.mk (blk_below (g := gb681) (o := .cells #[.int .i64 a0_0, .string a0_1] 26 (0, 0)) (bk BK681) hb); have n1_ := bsg HB GE681 hb; clear BK681; clear HB; have BK681 := n0_; have HB := n1_; clear n0_ n1_; (try clear hb); (try clear hb2); (try clear hk); (try clear hi)))
  go_loopg [5, 6] k (fun kq v5 v6 w' => ∃ (x5_1 : Int) (x6_1 : Int), v5 = .int .i64 x5_1 ∧ v6 = .int .i64 x6_1 ∧ Aside0 (spec_TrianglesOf.l0 kq a1 x5_1 x6_1 a0_0 a0_1 = some r) ∧ Aside0 (kq ≤ k) ∧ Aside0 (w'.heap[gb681]? = some (.cells #[.int .i64 a0_0, .string a0_1] 26 (0, 0))) ∧ Aside0 (Below w.heap.size w w'))
  case atStart => exact ⟨(0), (0), (by first | rfl | (simp; done) | (simp [*]; done)), (by first | rfl | (simp; done) | (simp [*]; done)), H', ⟨Nat.le_refl _⟩, ⟨by (with_reducible repeat (first | refine blk_drewN ?_ _ | refine blk_drew ?_ | refine blk_alloc ?_ _)); exact BK681.out⟩, ⟨(bg HB GE681)⟩⟩
  case round =>
   clear H'
   try clear c2
   try clear p2
   try clear c4
   try clear hcz6_0
   try clear hcz6_1
   try clear hfz6_0
   try clear hfz6_1
   obtain ⟨x5_1, x6_1, rfl, rfl, HA, HK1, BK681, HB⟩ := hrel
   cases gk with
   | zero => exact absurd HA.out (by simp [spec_TrianglesOf.l0])
   | succ k1 =>
    have H := HA.out
    clear HA
    simp only [spec_TrianglesOf.l0] at H
    by_cases c8 : x6_1 < a0_0
    ·rw [if_pos c8] at H
     have c8b0 : decide (x6_1 < a0_0) = true := decide_eq_true c8
     clear c8
     have H' := Aside0.mk H
     clear H
     have hcz9_0 := bc BK681 0
     have hcz9_1 := bc BK681 1
     have hfz9_0 := bf BK681 0
     have hfz9_1 := bf BK681 1
     go_wp2
     go_loopg [5, 7] k1 (fun kq v5 v7 w' => ∃ (x5_2 : Int) (x7_2 : Int), v5 = .int .i64 x5_2 ∧ v7 = .int .i64 x7_2 ∧ Aside0 (spec_TrianglesOf.l1 kq a1 x5_2 x6_1 x7_2 a0_0 a0_1 = some r) ∧ Aside0 (kq ≤ k1) ∧ Aside0 (w'.heap[gb681]? = some (.cells #[.int .i64 a0_0, .string a0_1] 26 (0, 0))) ∧ Aside0 (Below w.heap.size w w'))
     case atStart => exact ⟨(x5_1), (wrap64 (x6_1 + 1)), (by first | rfl | (simp; done) | (simp [*]; done)), (by first | rfl | (simp; done) | (simp [*]; done)), H', ⟨Nat.le_refl _⟩, ⟨by (with_reducible repeat (first | refine blk_drewN ?_ _ | refine blk_drew ?_ | refine blk_alloc ?_ _)); exact BK681.out⟩, ⟨(bg HB GE681)⟩⟩
     case round =>
      clear H'
      try clear c2
      try clear p2
      try clear c4
      try clear p6
      try clear c8
      try clear c8b0
      try clear hcz6_0
      try clear hcz6_1
      try clear hcz9_0
      try clear hcz9_1
      try clear hfz6_0
      try clear hfz6_1
      try clear hfz9_0
      try clear hfz9_1
      try clear p2
      obtain ⟨x5_2, x7_2, rfl, rfl, HA, HK2, BK681, HB⟩ := hrel
      cases gk with
      | zero => exact absurd HA.out (by simp [spec_TrianglesOf.l1])
      | succ k2 =>
       have H := HA.out
       clear HA
       simp only [spec_TrianglesOf.l1] at H
       by_cases c10 : x7_2 < a0_0
       ·rw [if_pos c10] at H
        have c10b0 : decide (x7_2 < a0_0) = true := decide_eq_true c10
        clear c10
        have H' := Aside0.mk H
        clear H
        have hcz11_0 := bc BK681 0
        have hcz11_1 := bc BK681 1
        have hfz11_0 := bf BK681 0
        have hfz11_1 := bf BK681 1
        go_wp2
        go_loopg [5, 8] k2 (fun kq v5 v8 w' => ∃ (x5_3 : Int) (x8_3 : Int), v5 = .int .i64 x5_3 ∧ v8 = .int .i64 x8_3 ∧ Aside0 (spec_TrianglesOf.l2 kq a1 x5_3 x6_1 x7_2 x8_3 a0_0 a0_1 = some r) ∧ Aside0 (kq ≤ k2) ∧ Aside0 (w'.heap[gb681]? = some (.cells #[.int .i64 a0_0, .string a0_1] 26 (0, 0))) ∧ Aside0 (Below w.heap.size w w'))
        case atStart => exact ⟨(x5_2), (wrap64 (x7_2 + 1)), (by first | rfl | (simp; done) | (simp [*]; done)), (by first | rfl | (simp; done) | (simp [*]; done)), H', ⟨Nat.le_refl _⟩, ⟨by (with_reducible repeat (first | refine blk_drewN ?_ _ | refine blk_drew ?_ | refine blk_alloc ?_ _)); exact BK681.out⟩, ⟨(bg HB GE681)⟩⟩
        case round =>
         clear H'
         try clear c1
         try clear c2
         try clear p2
         try clear c4
         try clear p6
         try clear c8
         try clear c8b0
         try clear c10
         try clear c10b0
         try clear hcz11_0
         try clear hcz11_1
         try clear hcz6_0
         try clear hcz6_1
         try clear hcz9_0
         try clear hcz9_1
         try clear hfz11_0
         try clear hfz11_1
         try clear hfz6_0
         try clear hfz6_1
         try clear hfz9_0
         try clear hfz9_1
         try clear p2
         try clear p6
         obtain ⟨x5_3, x8_3, rfl, rfl, HA, HK3, BK681, HB⟩ := hrel
         cases gk with
         | zero => exact absurd HA.out (by simp [spec_TrianglesOf.l2])
         | succ k3 =>
          have H := HA.out
          clear HA
          simp only [spec_TrianglesOf.l2] at H
          by_cases c12 : x8_3 < a0_0
          ·rw [if_pos c12] at H
           have c12b0 : decide (x8_3 < a0_0) = true := decide_eq_true c12
           clear c12
           replace H := Option.bind_eq_some_iff.mp H
           obtain ⟨t683, A130, H⟩ := H
           (try dsimp only at H)
           have A13 := Aside0.mk A130
           clear A130
           replace H := Option.bind_eq_some_iff.mp H
           obtain ⟨t684, A140, H⟩ := H
           (try dsimp only at H)
           have A14 := Aside0.mk A140
           clear A140
           by_cases c15 : t684 = true
           ·subst c15
            have H1 : ((spec_l9Index.f k3 a0_0 x7_2 x8_3).bind fun t685 => ((spec_l6Has.f a1 t685).bind fun t686 => (if t686 = true then ((spec_l9Index.f k3 a0_0 x6_1 x8_3).bind fun t687 => ((spec_l6Has.f a1 t687).bind fun t688 => (if t688 = true then ((spec_l5Inside.f k3 a0_0 a0_1 x6_1 x7_2 x8_3).bind fun t689 => (if t689 = 0 then (spec_TrianglesOf.l2 k3 a1 (wrap64 (x5_3 + 1)) x6_1 x7_2 (wrap64 (x8_3 + 1)) a0_0 a0_1) else (spec_TrianglesOf.l2 k3 a1 x5_3 x6_1 x7_2 (wrap64 (x8_3 + 1)) a0_0 a0_1))) else (spec_TrianglesOf.l2 k3 a1 x5_3 x6_1 x7_2 (wrap64 (x8_3 + 1)) a0_0 a0_1)))) else (spec_TrianglesOf.l2 k3 a1 x5_3 x6_1 x7_2 (wrap64 (x8_3 + 1)) a0_0 a0_1)))) = some r := by rw [if_pos rfl] at H; exact H
            clear H
            have H := H1
            clear H1
            replace H := Option.bind_eq_some_iff.mp H
            obtain ⟨t685, A160, H⟩ := H
            (try dsimp only at H)
            have A16 := Aside0.mk A160
            clear A160
            replace H := Option.bind_eq_some_iff.mp H
            obtain ⟨t686, A170, H⟩ := H
            (try dsimp only at H)
            have A17 := Aside0.mk A170
            clear A170
            by_cases c18 : t686 = true
            ·subst c18
             have H1 : ((spec_l9Index.f k3 a0_0 x6_1 x8_3).bind fun t687 => ((spec_l6Has.f a1 t687).bind fun t688 => (if t688 = true then ((spec_l5Inside.f k3 a0_0 a0_1 x6_1 x7_2 x8_3).bind fun t689 => (if t689 = 0 then (spec_TrianglesOf.l2 k3 a1 (wrap64 (x5_3 + 1)) x6_1 x7_2 (wrap64 (x8_3 + 1)) a0_0 a0_1) else (spec_TrianglesOf.l2 k3 a1 x5_3 x6_1 x7_2 (wrap64 (x8_3 + 1)) a0_0 a0_1))) else (spec_TrianglesOf.l2 k3 a1 x5_3 x6_1 x7_2 (wrap64 (x8_3 + 1)) a0_0 a0_1)))) = some r := by rw [if_pos rfl] at H; exact H
             clear H
             have H := H1
             clear H1
             replace H := Option.bind_eq_some_iff.mp H
             obtain ⟨t687, A190, H⟩ := H
             (try dsimp only at H)
             have A19 := Aside0.mk A190
             clear A190
             replace H := Option.bind_eq_some_iff.mp H
             obtain ⟨t688, A200, H⟩ := H
             (try dsimp only at H)
             have A20 := Aside0.mk A200
             clear A200
             by_cases c21 : t688 = true
             ·subst c21
              have H1 : ((spec_l5Inside.f k3 a0_0 a0_1 x6_1 x7_2 x8_3).bind fun t689 => (if t689 = 0 then (spec_TrianglesOf.l2 k3 a1 (wrap64 (x5_3 + 1)) x6_1 x7_2 (wrap64 (x8_3 + 1)) a0_0 a0_1) else (spec_TrianglesOf.l2 k3 a1 x5_3 x6_1 x7_2 (wrap64 (x8_3 + 1)) a0_0 a0_1))) = some r := by rw [if_pos rfl] at H; exact H
              clear H
              have H := H1
              clear H1
              replace H := Option.bind_eq_some_iff.mp H
              obtain ⟨t689, A220, H⟩ := H
              (try dsimp only at H)
              have A22 := Aside0.mk A220
              clear A220
              by_cases c23 : t689 = 0
              ·rw [if_pos c23] at H
               have c23b0 : (t689 == 0) = true := beq_iff_eq.mpr c23
               have c23b1 : (t689 != 0) = false := bne_eq_false_iff_eq.mpr c23
               clear c23
               have H' := Aside0.mk H
               clear H
               have hcz24_0 := bc BK681 0
               have hcz24_1 := bc BK681 1
               have hfz24_0 := bf BK681 0
               have hfz24_1 := bf BK681 1
               go_wp2_with (first | ((with_reducible refine gate_callee (f := 46) rfl ?_); refine gL (some 40) rfl rfl Try.func46 (by kernel_rfl) rfl #[.int .i64 a0_0, .int .i64 x6_1, .int .i64 x7_2] rfl ?_; (with_reducible refine (spec_l9Index.calls k3 a0_0 x6_1 x7_2 t683 _ A13.out).mono ?_); rintro e w' ⟨rfl, ⟨nd, rfl⟩⟩; refine ⟨_, rfl, ?_⟩) | ((with_reducible refine gate_callee (f := 65) rfl ?_); refine gL (some 41) rfl rfl Try.func65 (by kernel_rfl) rfl #[.int .i64 a1, .int .i64 t683] rfl ?_; (with_reducible refine (spec_l6Has.calls a1 t683 true _ A14.out).mono ?_); rintro e w' ⟨rfl, ⟨nd, rfl⟩⟩; refine ⟨_, rfl, ?_⟩) | (go_at_call 46; (with_reducible refine (spec_l9Index.calls k3 a0_0 x7_2 x8_3 t685 _ A16.out).mono ?_); rintro e w' ⟨rfl, ⟨nd, rfl⟩⟩) | (go_at_call 65; (with_reducible refine (spec_l6Has.calls a1 t685 true _ A17.out).mono ?_); rintro e w' ⟨rfl, ⟨nd, rfl⟩⟩) | (go_at_call 46; (with_reducible refine (spec_l9Index.calls k3 a0_0 x6_1 x8_3 t687 _ A19.out).mono ?_); rintro e w' ⟨rfl, ⟨nd, rfl⟩⟩) | (go_at_call 65; (with_reducible refine (spec_l6Has.calls a1 t687 true _ A20.out).mono ?_); rintro e w' ⟨rfl, ⟨nd, rfl⟩⟩) | (go_at_call 75; (with_reducible refine (spec_l5Inside.calls k3 a0_0 a0_1 x6_1 x7_2 x8_3 t689 _ A22.out).mono ?_); rintro e w25 ⟨rfl, hb⟩; have n0_ := Aside0.mk (blk_below (g := gb681) (o := .cells #[.int .i64 a0_0, .string a0_1] 26 (0, 0)) (bk BK681) hb); have n1_ := bsg HB GE681 hb; clear BK681; clear HB; have BK681 := n0_; have HB := n1_; clear n0_ n1_; (try clear hb); (try clear hb2); (try clear hk); (try clear hi)))
               go_roundg k3
               case measure => have := HK1.out; have := HK2.out; have := HK3.out; omega
               case rel => exact ⟨(wrap64 (x5_3 + 1)), (wrap64 (x8_3 + 1)), (by first | rfl | (simp; done) | (simp [*]; done)), (by first | rfl | (simp; done) | (simp [*]; done)), H', ⟨by have := HK1.out; have := HK2.out; have := HK3.out; omega⟩, ⟨by (with_reducible repeat (first | refine blk_drewN ?_ _ | refine blk_drew ?_ | refine blk_alloc ?_ _)); exact BK681.out⟩, ⟨(bg HB GE681)⟩⟩
              ·rw [if_neg c23] at H
               have c23b0 : (t689 == 0) = false := beq_eq_false_iff_ne.mpr c23
               have c23b1 : (t689 != 0) = true := bne_iff_ne.mpr c23
               have H' := Aside0.mk H
               clear H
               have hcz26_0 := bc BK681 0
               have hcz26_1 := bc BK681 1
               have hfz26_0 := bf BK681 0
               have hfz26_1 := bf BK681 1
               go_wp2_with (first | ((with_reducible refine gate_callee (f := 46) rfl ?_); refine gL (some 40) rfl rfl Try.func46 (by kernel_rfl) rfl #[.int .i64 a0_0, .int .i64 x6_1, .int .i64 x7_2] rfl ?_; (with_reducible refine (spec_l9Index.calls k3 a0_0 x6_1 x7_2 t683 _ A13.out).mono ?_); rintro e w' ⟨rfl, ⟨nd, rfl⟩⟩; refine ⟨_, rfl, ?_⟩) | ((with_reducible refine gate_callee (f := 65) rfl ?_); refine gL (some 41) rfl rfl Try.func65 (by kernel_rfl) rfl #[.int .i64 a1, .int .i64 t683] rfl ?_; (with_reducible refine (spec_l6Has.calls a1 t683 true _ A14.out).mono ?_); rintro e w' ⟨rfl, ⟨nd, rfl⟩⟩; refine ⟨_, rfl, ?_⟩) | (go_at_call 46; (with_reducible refine (spec_l9Index.calls k3 a0_0 x7_2 x8_3 t685 _ A16.out).mono ?_); rintro e w' ⟨rfl, ⟨nd, rfl⟩⟩) | (go_at_call 65; (with_reducible refine (spec_l6Has.calls a1 t685 true _ A17.out).mono ?_); rintro e w' ⟨rfl, ⟨nd, rfl⟩⟩) | (go_at_call 46; (with_reducible refine (spec_l9Index.calls k3 a0_0 x6_1 x8_3 t687 _ A19.out).mono ?_); rintro e w' ⟨rfl, ⟨nd, rfl⟩⟩) | (go_at_call 65; (with_reducible refine (spec_l6Has.calls a1 t687 true _ A20.out).mono ?_); rintro e w' ⟨rfl, ⟨nd, rfl⟩⟩) | (go_at_call 75; (with_reducible refine (spec_l5Inside.calls k3 a0_0 a0_1 x6_1 x7_2 x8_3 t689 _ A22.out).mono ?_); rintro e w27 ⟨rfl, hb⟩; have n0_ := Aside0.mk (blk_below (g := gb681) (o := .cells #[.int .i64 a0_0, .string a0_1] 26 (0, 0)) (bk BK681) hb); have n1_ := bsg HB GE681 hb; clear BK681; clear HB; have BK681 := n0_; have HB := n1_; clear n0_ n1_; (try clear hb); (try clear hb2); (try clear hk); (try clear hi)))
               go_roundg k3
               case measure => have := HK1.out; have := HK2.out; have := HK3.out; omega
               case rel => exact ⟨(x5_3), (wrap64 (x8_3 + 1)), (by first | rfl | (simp; done) | (simp [*]; done)), (by first | rfl | (simp; done) | (simp [*]; done)), H', ⟨by have := HK1.out; have := HK2.out; have := HK3.out; omega⟩, ⟨by (with_reducible repeat (first | refine blk_drewN ?_ _ | refine blk_drew ?_ | refine blk_alloc ?_ _)); exact BK681.out⟩, ⟨(bg HB GE681)⟩⟩
             ·replace c21 := Bool.eq_false_iff.mpr c21
              subst c21
              have H1 : (spec_TrianglesOf.l2 k3 a1 x5_3 x6_1 x7_2 (wrap64 (x8_3 + 1)) a0_0 a0_1) = some r := by rw [if_neg (show ¬ (false = true) by decide)] at H; exact H
              clear H
              have H := H1
              clear H1
              have H' := Aside0.mk H
              clear H
              have hcz28_0 := bc BK681 0
              have hcz28_1 := bc BK681 1
              have hfz28_0 := bf BK681 0
              have hfz28_1 := bf BK681 1
              go_wp2_with (first | ((with_reducible refine gate_callee (f := 46) rfl ?_); refine gL (some 40) rfl rfl Try.func46 (by kernel_rfl) rfl #[.int .i64 a0_0, .int .i64 x6_1, .int .i64 x7_2] rfl ?_; (with_reducible refine (spec_l9Index.calls k3 a0_0 x6_1 x7_2 t683 _ A13.out).mono ?_); rintro e w' ⟨rfl, ⟨nd, rfl⟩⟩; refine ⟨_, rfl, ?_⟩) | ((with_reducible refine gate_callee (f := 65) rfl ?_); refine gL (some 41) rfl rfl Try.func65 (by kernel_rfl) rfl #[.int .i64 a1, .int .i64 t683] rfl ?_; (with_reducible refine (spec_l6Has.calls a1 t683 true _ A14.out).mono ?_); rintro e w' ⟨rfl, ⟨nd, rfl⟩⟩; refine ⟨_, rfl, ?_⟩) | (go_at_call 46; (with_reducible refine (spec_l9Index.calls k3 a0_0 x7_2 x8_3 t685 _ A16.out).mono ?_); rintro e w' ⟨rfl, ⟨nd, rfl⟩⟩) | (go_at_call 65; (with_reducible refine (spec_l6Has.calls a1 t685 true _ A17.out).mono ?_); rintro e w' ⟨rfl, ⟨nd, rfl⟩⟩) | (go_at_call 46; (with_reducible refine (spec_l9Index.calls k3 a0_0 x6_1 x8_3 t687 _ A19.out).mono ?_); rintro e w' ⟨rfl, ⟨nd, rfl⟩⟩) | (go_at_call 65; (with_reducible refine (spec_l6Has.calls a1 t687 false _ A20.out).mono ?_); rintro e w' ⟨rfl, ⟨nd, rfl⟩⟩))
              go_roundg k3
              case measure => have := HK1.out; have := HK2.out; have := HK3.out; omega
              case rel => exact ⟨(x5_3), (wrap64 (x8_3 + 1)), (by first | rfl | (simp; done) | (simp [*]; done)), (by first | rfl | (simp; done) | (simp [*]; done)), H', ⟨by have := HK1.out; have := HK2.out; have := HK3.out; omega⟩, ⟨by (with_reducible repeat (first | refine blk_drewN ?_ _ | refine blk_drew ?_ | refine blk_alloc ?_ _)); exact BK681.out⟩, ⟨(bg HB GE681)⟩⟩
            ·replace c18 := Bool.eq_false_iff.mpr c18
             subst c18
             have H1 : (spec_TrianglesOf.l2 k3 a1 x5_3 x6_1 x7_2 (wrap64 (x8_3 + 1)) a0_0 a0_1) = some r := by rw [if_neg (show ¬ (false = true) by decide)] at H; exact H
             clear H
             have H := H1
             clear H1
             have H' := Aside0.mk H
             clear H
             have hcz29_0 := bc BK681 0
             have hcz29_1 := bc BK681 1
             have hfz29_0 := bf BK681 0
             have hfz29_1 := bf BK681 1
             go_wp2_with (first | ((with_reducible refine gate_callee (f := 46) rfl ?_); refine gL (some 40) rfl rfl Try.func46 (by kernel_rfl) rfl #[.int .i64 a0_0, .int .i64 x6_1, .int .i64 x7_2] rfl ?_; (with_reducible refine (spec_l9Index.calls k3 a0_0 x6_1 x7_2 t683 _ A13.out).mono ?_); rintro e w' ⟨rfl, ⟨nd, rfl⟩⟩; refine ⟨_, rfl, ?_⟩) | ((with_reducible refine gate_callee (f := 65) rfl ?_); refine gL (some 41) rfl rfl Try.func65 (by kernel_rfl) rfl #[.int .i64 a1, .int .i64 t683] rfl ?_; (with_reducible refine (spec_l6Has.calls a1 t683 true _ A14.out).mono ?_); rintro e w' ⟨rfl, ⟨nd, rfl⟩⟩; refine ⟨_, rfl, ?_⟩) | (go_at_call 46; (with_reducible refine (spec_l9Index.calls k3 a0_0 x7_2 x8_3 t685 _ A16.out).mono ?_); rintro e w' ⟨rfl, ⟨nd, rfl⟩⟩) | (go_at_call 65; (with_reducible refine (spec_l6Has.calls a1 t685 false _ A17.out).mono ?_); rintro e w' ⟨rfl, ⟨nd, rfl⟩⟩))
             go_roundg k3
             case measure => have := HK1.out; have := HK2.out; have := HK3.out; omega
             case rel => exact ⟨(x5_3), (wrap64 (x8_3 + 1)), (by first | rfl | (simp; done) | (simp [*]; done)), (by first | rfl | (simp; done) | (simp [*]; done)), H', ⟨by have := HK1.out; have := HK2.out; have := HK3.out; omega⟩, ⟨by (with_reducible repeat (first | refine blk_drewN ?_ _ | refine blk_drew ?_ | refine blk_alloc ?_ _)); exact BK681.out⟩, ⟨(bg HB GE681)⟩⟩
           ·replace c15 := Bool.eq_false_iff.mpr c15
            subst c15
            have H1 : (spec_TrianglesOf.l2 k3 a1 x5_3 x6_1 x7_2 (wrap64 (x8_3 + 1)) a0_0 a0_1) = some r := by rw [if_neg (show ¬ (false = true) by decide)] at H; exact H
            clear H
            have H := H1
            clear H1
            have H' := Aside0.mk H
            clear H
            have hcz30_0 := bc BK681 0
            have hcz30_1 := bc BK681 1
            have hfz30_0 := bf BK681 0
            have hfz30_1 := bf BK681 1
            go_wp2_with (first | ((with_reducible refine gate_callee (f := 46) rfl ?_); refine gL (some 40) rfl rfl Try.func46 (by kernel_rfl) rfl #[.int .i64 a0_0, .int .i64 x6_1, .int .i64 x7_2] rfl ?_; (with_reducible refine (spec_l9Index.calls k3 a0_0 x6_1 x7_2 t683 _ A13.out).mono ?_); rintro e w' ⟨rfl, ⟨nd, rfl⟩⟩; refine ⟨_, rfl, ?_⟩) | ((with_reducible refine gate_callee (f := 65) rfl ?_); refine gL (some 41) rfl rfl Try.func65 (by kernel_rfl) rfl #[.int .i64 a1, .int .i64 t683] rfl ?_; (with_reducible refine (spec_l6Has.calls a1 t683 false _ A14.out).mono ?_); rintro e w' ⟨rfl, ⟨nd, rfl⟩⟩; refine ⟨_, rfl, ?_⟩))
            go_roundg k3
            case measure => have := HK1.out; have := HK2.out; have := HK3.out; omega
            case rel => exact ⟨(x5_3), (wrap64 (x8_3 + 1)), (by first | rfl | (simp; done) | (simp [*]; done)), (by first | rfl | (simp; done) | (simp [*]; done)), H', ⟨by have := HK1.out; have := HK2.out; have := HK3.out; omega⟩, ⟨by (with_reducible repeat (first | refine blk_drewN ?_ _ | refine blk_drew ?_ | refine blk_alloc ?_ _)); exact BK681.out⟩, ⟨(bg HB GE681)⟩⟩
          ·rw [if_neg c12] at H
           have c12b0 : decide (x8_3 < a0_0) = false := decide_eq_false c12
           clear c12
           have H' := Aside0.mk H
           clear H
           have hcz31_0 := bc BK681 0
           have hcz31_1 := bc BK681 1
           have hfz31_0 := bf BK681 0
           have hfz31_1 := bf BK681 1
           go_wp2
           go_roundg k3
           case measure => have := HK1.out; have := HK2.out; have := HK3.out; omega
           case rel => exact ⟨(x5_3), (wrap64 (x7_2 + 1)), (by first | rfl | (simp; done) | (simp [*]; done)), (by first | rfl | (simp; done) | (simp [*]; done)), H', ⟨by have := HK1.out; have := HK2.out; have := HK3.out; omega⟩, ⟨by (with_reducible repeat (first | refine blk_drewN ?_ _ | refine blk_drew ?_ | refine blk_alloc ?_ _)); exact BK681.out⟩, ⟨(bg HB GE681)⟩⟩
       ·rw [if_neg c10] at H
        have c10b0 : decide (x7_2 < a0_0) = false := decide_eq_false c10
        clear c10
        have H' := Aside0.mk H
        clear H
        have hcz32_0 := bc BK681 0
        have hcz32_1 := bc BK681 1
        have hfz32_0 := bf BK681 0
        have hfz32_1 := bf BK681 1
        go_wp2
        go_roundg k2
        case measure => have := HK1.out; have := HK2.out; omega
        case rel => exact ⟨(x5_2), (wrap64 (x6_1 + 1)), (by first | rfl | (simp; done) | (simp [*]; done)), (by first | rfl | (simp; done) | (simp [*]; done)), H', ⟨by have := HK1.out; have := HK2.out; omega⟩, ⟨by (with_reducible repeat (first | refine blk_drewN ?_ _ | refine blk_drew ?_ | refine blk_alloc ?_ _)); exact BK681.out⟩, ⟨(bg HB GE681)⟩⟩
    ·rw [if_neg c8] at H
     have c8b0 : decide (x6_1 < a0_0) = false := decide_eq_false c8
     clear c8
     obtain rfl := Option.some.inj H
     have hcz33_0 := bc BK681 0
     have hcz33_1 := bc BK681 1
     have hfz33_0 := bf BK681 0
     have hfz33_1 := bf BK681 1
     go_wp2
     go_ret
     exact ⟨by first | rfl | (simp [errW_none, errW_some] <;> rfl) | (simp [*, errW_none, errW_some] <;> rfl), (bg HB GE681)⟩
 ·replace c4 := Bool.eq_false_iff.mpr c4
  subst c4
  have H1 : (some (-1)) = some r := by rw [if_neg (show ¬ (false = true) by decide)] at H; exact H
  clear H
  have H := H1
  clear H1
  obtain rfl := Option.some.inj H
  go_enter Try.func42, Try.ntmps42
  go_wp2_with (first | ((with_reducible refine gate_dst (N := 2) rfl ?_); refine bx 2 #[.int .i64 a0_0, .string a0_1] 26 ?_; intro gb681 hg w34 hbox hb; have BK681 := Aside0.mk hbox; have GE681 := gs HB hg; have GW681 := GE681; replace HB := bs HB hb; clear hb hbox hg; have hcz35_0 := bc BK681 0; have hcz35_1 := bc BK681 1; have hfz35_0 := bf BK681 0; have hfz35_1 := bf BK681 1) | ((with_reducible refine gate_callee (f := 23) rfl ?_); refine gL (some 11) rfl rfl Try.func23 (by kernel_rfl) rfl #[.agg #[.int .i64 a0_0, .string a0_1], .int .i64 a1] rfl ?_; (with_reducible refine (spec_IsTriangulation.calls k a0_0 a0_1 a1 false _ A3.out).mono ?_); rintro e w36 ⟨rfl, hb⟩; refine ⟨_, rfl, ?_⟩; have n0_ := Aside0.mk (blk_below (g := gb681) (o := .cells #[.int .i64 a0_0, .string a0_1] 26 (0, 0)) (bk BK681) hb); have n1_ := bsg HB GE681 hb; clear BK681; clear HB; have BK681 := n0_; have HB := n1_; clear n0_ n1_; (try clear hb); (try clear hb2); (try clear hk); (try clear hi)))
  go_ret
  exact ⟨by first | rfl | (simp [errW_none, errW_some] <;> rfl) | (simp [*, errW_none, errW_some] <;> rfl), (bg HB GE681)⟩

/-! ### impl_EdgeIndex: function 78 -/
mutual
def impl_EdgeIndex.j0 : Nat → Int → Int → Int → Bool → Option (Int)
 | 0, _, _, _, _ => none
 | k + 1, x0, x1, x2, x19 => if x19 = true then (some (-1)) else ((impl_edgesOf.f k x0).bind fun t695 => (impl_EdgeIndex.l0 k x1 x2 t695 (t695.length : Int) 0))
def impl_EdgeIndex.l0 : Nat → Int → Int → List (S51) → Int → Int → Option (Int)
 | 0, _, _, _, _, _ => none
 | k + 1, x1, x2, x21, x22, x23 => if x23 < x22 then (if 0 ≤ x23 then (if x23 < (x21.length : Int) then (if (((rd_T51 x21 x23).f0) == (mn x1 x2) && (((rd_T51 x21 x23).f1) == (mx x1 x2))) = true then (some x23) else (impl_EdgeIndex.l0 k x1 x2 x21 x22 (wrap64 (x23 + 1)))) else (none)) else (none)) else (some (-1))
end
def impl_EdgeIndex.f (k : Nat) (a0 : Int) (a1 : Int) (a2 : Int) : Option (Int) := (impl_isCount.f a0).bind fun t690 => (if t690 = true then ((impl_areDifferent.f k a0 (([a1, a2] : List Int))).bind fun t694 => (impl_EdgeIndex.j0 k a0 a1 a2 (!t694))) else (impl_EdgeIndex.j0 k a0 a1 a2 true))
theorem impl_EdgeIndex.mono_l : ∀ k, (∀ y0 y1 y2 y3, LeO (impl_EdgeIndex.j0 k y0 y1 y2 y3) (impl_EdgeIndex.j0 (k + 1) y0 y1 y2 y3)) ∧ (∀ y0 y1 y2 y3 y4, LeO (impl_EdgeIndex.l0 k y0 y1 y2 y3 y4) (impl_EdgeIndex.l0 (k + 1) y0 y1 y2 y3 y4))
 | 0 => ⟨fun _ _ _ _ r h => by simp [impl_EdgeIndex.j0] at h, fun _ _ _ _ _ r h => by simp [impl_EdgeIndex.l0] at h⟩
 | k + 1 => by
  obtain ⟨ih0, ih1⟩ := impl_EdgeIndex.mono_l k
  refine ⟨?_, ?_⟩
  ·intro y0 y1 y2 y3
   unfold impl_EdgeIndex.j0
   repeat' first
   | (with_reducible exact ih0 _ _ _ _)
   | (with_reducible exact ih1 _ _ _ _ _)
   | (with_reducible exact impl_areDifferent.mono _ _ _)
   | (with_reducible exact impl_edgesOf.mono _ _)
   | (with_reducible exact LeO.refl _)
   | (with_reducible exact LeO.none _)
   | (with_reducible refine LeO.ite ?_ ?_)
   | (with_reducible refine LeO.bind ?_ (fun _ => ?_))
   | exact ih0 _ _ _ _
   | exact ih1 _ _ _ _ _
   | exact impl_areDifferent.mono _ _ _
   | exact impl_edgesOf.mono _ _
   | exact LeO.none _
   | refine LeO.ite ?_ ?_
   | refine LeO.bind ?_ (fun _ => ?_)
  ·intro y0 y1 y2 y3 y4
   unfold impl_EdgeIndex.l0
   repeat' first
   | (with_reducible exact ih0 _ _ _ _)
   | (with_reducible exact ih1 _ _ _ _ _)
   | (with_reducible exact impl_areDifferent.mono _ _ _)
   | (with_reducible exact impl_edgesOf.mono _ _)
   | (with_reducible exact LeO.refl _)
   | (with_reducible exact LeO.none _)
   | (with_reducible refine LeO.ite ?_ ?_)
   | (with_reducible refine LeO.bind ?_ (fun _ => ?_))
   | exact ih0 _ _ _ _
   | exact ih1 _ _ _ _ _
   | exact impl_areDifferent.mono _ _ _
   | exact impl_edgesOf.mono _ _
   | exact LeO.none _
   | refine LeO.ite ?_ ?_
   | refine LeO.bind ?_ (fun _ => ?_)
theorem impl_EdgeIndex.mono : ∀ a0 a1 a2 k, LeO (impl_EdgeIndex.f k a0 a1 a2) (impl_EdgeIndex.f (k + 1) a0 a1 a2) := by
 intro a0 a1 a2 k
 obtain ⟨ih0, ih1⟩ := impl_EdgeIndex.mono_l k
 unfold impl_EdgeIndex.f
 repeat' first
   | (with_reducible exact ih0 _ _ _ _)
   | (with_reducible exact ih1 _ _ _ _ _)
   | (with_reducible exact impl_areDifferent.mono _ _ _)
   | (with_reducible exact impl_edgesOf.mono _ _)
   | (with_reducible exact LeO.refl _)
   | (with_reducible exact LeO.none _)
   | (with_reducible refine LeO.ite ?_ ?_)
   | (with_reducible refine LeO.bind ?_ (fun _ => ?_))
   | exact ih0 _ _ _ _
   | exact ih1 _ _ _ _ _
   | exact impl_areDifferent.mono _ _ _
   | exact impl_edgesOf.mono _ _
   | exact LeO.none _
   | refine LeO.ite ?_ ?_
   | refine LeO.bind ?_ (fun _ => ?_)
set_option maxHeartbeats 8000000 in
set_option maxRecDepth 100000 in
theorem impl_EdgeIndex.calls (k : Nat) (a0 : Int) (a1 : Int) (a2 : Int) (r : Int) (w : World) (h : impl_EdgeIndex.f k a0 a1 a2 = some r) :
  Calls Try.prog 78 #[.int .i64 a0, .int .i64 a1, .int .i64 a2] w fun e w' => e = .returned (.int .i64 r) ∧ Below w.heap.size w w' := by
 have hu51 := Try.underlying51
 have HB := Aside0.mk (Below.refl w.heap.size w)
 have H : ((impl_isCount.f a0).bind fun t690 => (if t690 = true then ((impl_areDifferent.f k a0 (([a1, a2] : List Int))).bind fun t694 => (impl_EdgeIndex.j0 k a0 a1 a2 (!t694))) else (impl_EdgeIndex.j0 k a0 a1 a2 true))) = some r := h
 clear h
 have HC4 := Aside0.mk H
 clear H
 go_enter Try.func78, Try.ntmps78
 go_upto_region 1 with (fail)
 go_cut [19] (fun v19 wc => ∃ (kq : Nat) (x19_3 : Bool), v19 = .bool x19_3 ∧ Aside0 (impl_EdgeIndex.j0 kq a0 a1 a2 x19_3 = some r) ∧ Aside0 (kq ≤ k) ∧ Aside0 (Below w.heap.size w wc))
 case first =>
  have H := HC4.out
  clear HC4
  replace H := Option.bind_eq_some_iff.mp H
  obtain ⟨t690, A50, H⟩ := H
  (try dsimp only at H)
  have A5 := Aside0.mk A50
  clear A50
  by_cases c6 : t690 = true
  ·subst c6
   have H1 : ((impl_areDifferent.f k a0 (([a1, a2] : List Int))).bind fun t694 => (impl_EdgeIndex.j0 k a0 a1 a2 (!t694))) = some r := by rw [if_pos rfl] at H; exact H
   clear H
   have H := H1
   clear H1
   obtain ⟨y691, hy691⟩ : ∃ y_ : List Int, y_ = (([a1, a2] : List Int)) := ⟨_, rfl⟩
   replace H : ((impl_areDifferent.f k a0 y691).bind fun t694 => (impl_EdgeIndex.j0 k a0 a1 a2 (!t694))) = some r := by first | (rw [hy691]; with_reducible exact H) | (have H2_ := (Option.bind_some _ _).symm.trans H; rw [hy691]; with_reducible exact H2_) | (have H2_ := (Option.bind_some _ _).symm.trans H; with_reducible exact H2_) | with_reducible exact H | (rw [hy691]; exact H) | exact H
   have Ny691 := Aside0.mk hy691
   clear hy691
   replace H := Option.bind_eq_some_iff.mp H
   obtain ⟨t694, A70, H⟩ := H
   (try dsimp only at H)
   have A7 := Aside0.mk A70
   clear A70
   have H' := Aside0.mk H
   clear H
   go_wp2_with (first | ((with_reducible refine gate_callee (f := 103) rfl ?_); refine gL (some 10) rfl rfl Try.func103 (by kernel_rfl) rfl #[.int .i64 a0] rfl ?_; (with_reducible refine (impl_isCount.calls a0 true _ A5.out).mono ?_); rintro e w' ⟨rfl, ⟨nd, rfl⟩⟩; refine ⟨_, rfl, ?_⟩) | ((with_reducible refine gate_dst (N := 16) rfl ?_); (try (refine gate_guard (by rfl) ?_; dsimp only)); refine Kd.R_lit (Kd.int .i64) _ 3 ?hg (N := 16) ?hd (xs := ([a1, a2] : List Int)) (inner := [.int .i64 a1, .int .i64 a2]) (ok := fun _ => True) (okp := fun _ => True) ?hr ?hp (fun _ hk => hk) trivial (Below.refl _ _) (Nat.le_refl _) (by simp) ?_; (case hd => rfl); (case hg => rfl); (case hr => first | (go_simp; done) | (go_simp; rfl)); (case hp => exact (Reps.one (show Kd.M (Kd.int .i64) _ _ _ a1 [.int .i64 a1] from rfl) (Reps.one (show Kd.M (Kd.int .i64) _ _ _ a2 [.int .i64 a2] from rfl) (Reps.none _ _)))); intro v692 w8 ho9 hb hg_ hnew_; clear hg_ hnew_; (first | rw [← Ny691.out] at ho9 | (simp only [Int.reduceToNat] at ho9; rw [← Ny691.out] at ho9)); have n0_ := Aside0.mk (Kd.R_lower ho9 (below_size (bl HB))); have n1_ := bs HB hb; clear HB; have HO693 := n0_; have HB := n1_; clear n0_ n1_; clear hb ho9; obtain ⟨Ao10, co10, eo10⟩ := Kd.R_slice HO693.out; subst eo10) | (go_at_call 52; (with_reducible refine (impl_areDifferent.calls k a0 _ _ y691 t694 _ ?side1 ?side2 A7.out).mono ?_); (case side1 => repeat (first | exact (Kd.R_reads' HO693.out).2.2 | (with_reducible refine Kd.C_alloc ?_ _) | (with_reducible refine Kd.C_drewN ?_ _) | (with_reducible refine Kd.C_drew ?_))); (case side2 => exact (Kd.R_reads' HO693.out).2.1); rintro e w' ⟨rfl, ⟨nd, rfl⟩⟩))
   go_meet
   case rel => exact ⟨_, (!t694), (by first | rfl | (simp; done) | (simp [*]; done)), H', ⟨by first | omega | exact Nat.le_refl _⟩, ⟨(bl HB)⟩⟩
  ·replace c6 := Bool.eq_false_iff.mpr c6
   subst c6
   have H1 : (impl_EdgeIndex.j0 k a0 a1 a2 true) = some r := by rw [if_neg (show ¬ (false = true) by decide)] at H; exact H
   clear H
   have H := H1
   clear H1
   have H' := Aside0.mk H
   clear H
   go_wp2_with (first | ((with_reducible refine gate_callee (f := 103) rfl ?_); refine gL (some 10) rfl rfl Try.func103 (by kernel_rfl) rfl #[.int .i64 a0] rfl ?_; (with_reducible refine (impl_isCount.calls a0 false _ A5.out).mono ?_); rintro e w' ⟨rfl, ⟨nd, rfl⟩⟩; refine ⟨_, rfl, ?_⟩))
   go_meet
   case rel => exact ⟨_, (true), (by first | rfl | (simp; done) | (simp [*]; done)), H', ⟨by first | omega | exact Nat.le_refl _⟩, ⟨(bl HB)⟩⟩
 case rest =>
  clear HC4
  try clear c1
  try clear p2
  try clear c6
  try clear c7
  try clear c10
  obtain ⟨kq, x19_3, rfl, HA, HJ3, HB⟩ := hcut
  cases kq with
  | zero => exact absurd HA.out (by simp [impl_EdgeIndex.j0])
  | succ kj3 =>
   have H := HA.out
   clear HA
   simp only [impl_EdgeIndex.j0] at H
   by_cases c11 : x19_3 = true
   ·subst c11
    have H1 : (some (-1)) = some r := by rw [if_pos rfl] at H; exact H
    clear H
    have H := H1
    clear H1
    obtain rfl := Option.some.inj H
    go_wp2
    go_ret
    exact ⟨by first | rfl | (simp [errW_none, errW_some] <;> rfl) | (simp [*, errW_none, errW_some] <;> rfl), (bl HB)⟩
   ·replace c11 := Bool.eq_false_iff.mpr c11
    subst c11
    have H1 : ((impl_edgesOf.f kj3 a0).bind fun t695 => (impl_EdgeIndex.l0 kj3 a1 a2 t695 (t695.length : Int) 0)) = some r := by rw [if_neg (show ¬ (false = true) by decide)] at H; exact H
    clear H
    have H := H1
    clear H1
    replace H := Option.bind_eq_some_iff.mp H
    obtain ⟨t695, A120, H⟩ := H
    (try dsimp only at H)
    have A12 := Aside0.mk A120
    clear A120
    have H' := Aside0.mk H
    clear H
    go_wp2_with (first | ((with_reducible refine gate_callee (f := 48) rfl ?_); refine gL (some 21) rfl rfl Try.func48 (by kernel_rfl) rfl #[.int .i64 a0] rfl ?_; (with_reducible refine (impl_edgesOf.calls kj3 a0 t695 _ A12.out).mono ?_); rintro e w13 ⟨v696, rfl, ho0, hb⟩; refine ⟨_, rfl, ?_⟩; have n0_ := Aside0.mk (Kd.R_lower ho0 (below_size (bl HB))); have n1_ := bs HB hb; clear HB; have HO697 := n0_; have HB := n1_; clear n0_ n1_; (try clear hb); (try clear hb2); (try clear hk); (try clear hi); (try clear ho0); obtain ⟨Ao14, co14, eo14⟩ := Kd.R_slice HO697.out; subst eo14))
    go_loopg [23] kj3 (fun kq v23 w' => ∃ (x23_2 : Int), v23 = .int .i64 x23_2 ∧ Aside0 (impl_EdgeIndex.l0 kq a1 a2 t695 (t695.length : Int) x23_2 = some r) ∧ Aside0 (kq ≤ kj3) ∧ Aside0 (Kd.R k51 51 w' w.heap.size (fun _ => True) (.slice Ao14 t695.length co14) t695) ∧ Aside0 (Below w.heap.size w w'))
    case atStart => exact ⟨(0), (by first | rfl | (simp; done) | (simp [*]; done)), H', ⟨Nat.le_refl _⟩, ⟨by (with_reducible repeat (first | apply Kd.R_alloc | apply Kd.R_drewN | apply Kd.R_drew)); exact HO697.out⟩, ⟨(bl HB)⟩⟩
    case round =>
     clear H'
     try clear c1
     try clear p2
     try clear c4
     try clear c6
     try clear c7
     try clear c10
     try clear c11
     try clear p2
     obtain ⟨x23_2, rfl, HA, HK2, HO_21, HB⟩ := hrel
     cases gk with
     | zero => exact absurd HA.out (by simp [impl_EdgeIndex.l0])
     | succ k2 =>
      have H := HA.out
      clear HA
      simp only [impl_EdgeIndex.l0] at H
      by_cases c15 : x23_2 < (t695.length : Int)
      ·rw [if_pos c15] at H
       have c15b0 : decide (x23_2 < (t695.length : Int)) = true := decide_eq_true c15
       clear c15
       by_cases c16 : 0 ≤ x23_2
       ·rw [if_pos c16] at H
        have c16b0 : decide (0 ≤ x23_2) = true := decide_eq_true c16
        clear c16
        by_cases c17 : x23_2 < (t695.length : Int)
        ·rw [if_pos c17] at H
         have c17b0 : decide (x23_2 < (t695.length : Int)) = true := decide_eq_true c17
         clear c17
         obtain ⟨ji18, hji18⟩ : ∃ j_ : Int, (mn a1 a2) = j_ := ⟨_, rfl⟩
         replace H : (if (((rd_T51 t695 x23_2).f0) == (ji18) && (((rd_T51 t695 x23_2).f1) == (mx a1 a2))) = true then (some x23_2) else (impl_EdgeIndex.l0 k2 a1 a2 t695 (t695.length : Int) (wrap64 (x23_2 + 1)))) = some r := by first | (rw [hji18] at H; exact H) | (simp only [hji18] at H ⊢; exact H)
         have hji18_ : (if a2 < a1 then a2 else a1) = ji18 := hji18
         obtain ⟨ji19, hji19⟩ : ∃ j_ : Int, (mx a1 a2) = j_ := ⟨_, rfl⟩
         replace H : (if (((rd_T51 t695 x23_2).f0) == (ji18) && (((rd_T51 t695 x23_2).f1) == (ji19))) = true then (some x23_2) else (impl_EdgeIndex.l0 k2 a1 a2 t695 (t695.length : Int) (wrap64 (x23_2 + 1)))) = some r := by first | (rw [hji19] at H; exact H) | (simp only [hji19] at H ⊢; exact H)
         have hji19_ : (if a1 < a2 then a2 else a1) = ji19 := hji19
         by_cases c20 : (((rd_T51 t695 x23_2).f0) == (ji18) && (((rd_T51 t695 x23_2).f1) == (ji19))) = true
         ·rw [if_pos c20] at H
          have c20b0 : (((rd_T51 t695 x23_2).f0) == (ji18) && (((rd_T51 t695 x23_2).f1) == (ji19))) = true := c20
          (try (have c20b1 : decide (((rd_T51 t695 x23_2).f0) = (ji18) && (((rd_T51 t695 x23_2).f1) == (ji19))) = true := by simpa using c20))
          (try (have c20b2 : (((rd_T51 t695 x23_2).f0) == (ji18) && (((rd_T51 t695 x23_2).f1) == (ji19))) = true := by simpa using c20))
          clear c20
          obtain rfl := Option.some.inj H
          have p698 : 0 ≤ (x23_2 : Int) := of_decide_eq_true (by first | (with_reducible assumption) | assumption)
          have q698 : x23_2 < (t695.length : Int) := of_decide_eq_true (by first | (with_reducible assumption) | assumption)
          obtain ⟨ad698, e698, hx698_0, hx698_1⟩ := at_T51 (Kd.R_reads' HO_21.out).2.2 x23_2 p698 q698
          cases e698
          replace p698 := eq_true p698
          replace q698 := eq_true q698
          go_wp2_with (first | ((with_reducible refine gate_dst (N := 8) rfl ?_); (try (refine gate_guard (by rfl) ?_; dsimp only)); refine bx 8 #[.int .i64 0, .int .i64 0] 51 ?_; intro gb699 hg w21 hbox hb; have n0_ := Aside0.mk (Kd.R_below (Kd.R_elderB (rr HO_21) gb699 (Nat.le_of_eq hg.symm)) hb); have n1_ := bs HB hb; have n2_ := Aside0.mk (hbox); have n3_ := Aside0.mk ((by rw [hg]; exact (below_size (bl HB)) : w.heap.size ≤ gb699)); have n4_ := Aside0.mk ((by rw [hg]; exact (below_size (bl HB)) : w.heap.size ≤ gb699)); clear HO_21; clear HB; have HO_21 := n0_; have HB := n1_; have BK699 := n2_; have GW699 := n3_; have GE699 := n4_; clear n0_ n1_ n2_ n3_ n4_; clear hb hbox hg; have hcz22_0 := bc BK699 0; have hcz22_1 := bc BK699 1; have hfz22_0 := bf BK699 0; have hfz22_1 := bf BK699 1))
          go_ret
          exact ⟨by first | rfl | (simp [errW_none, errW_some] <;> rfl) | (simp only [← hji18, ← hji19]; first | rfl | (simp [errW_none, errW_some] <;> rfl)) | (simp [*, errW_none, errW_some] <;> rfl), (bg HB GE699)⟩
         ·rw [if_neg c20] at H
          have c20b0 : (((rd_T51 t695 x23_2).f0) == (ji18) && (((rd_T51 t695 x23_2).f1) == (ji19))) = false := by simpa using c20
          (try (have c20b1 : decide (((rd_T51 t695 x23_2).f0) = (ji18) && (((rd_T51 t695 x23_2).f1) == (ji19))) = false := by simpa using c20))
          (try (have c20b2 : (((rd_T51 t695 x23_2).f0) == (ji18) && (((rd_T51 t695 x23_2).f1) == (ji19))) = false := by simpa using c20))
          (try (have c20b3 : ¬ (((rd_T51 t695 x23_2).f0) = (ji18) && (((rd_T51 t695 x23_2).f1) == (ji19))) := by simpa using c20))
          clear c20
          have H' := Aside0.mk H
          clear H
          have p698 : 0 ≤ (x23_2 : Int) := of_decide_eq_true (by first | (with_reducible assumption) | assumption)
          have q698 : x23_2 < (t695.length : Int) := of_decide_eq_true (by first | (with_reducible assumption) | assumption)
          obtain ⟨ad698, e698, hx698_0, hx698_1⟩ := at_T51 (Kd.R_reads' HO_21.out).2.2 x23_2 p698 q698
          cases e698
          replace p698 := eq_true p698
          replace q698 := eq_true q698
          go_wp2_with (first | ((with_reducible refine gate_dst (N := 8) rfl ?_); (try (refine gate_guard (by rfl) ?_; dsimp only)); refine bx 8 #[.int .i64 0, .int .i64 0] 51 ?_; intro gb699 hg w23 hbox hb; have n0_ := Aside0.mk (Kd.R_below (Kd.R_elderB (rr HO_21) gb699 (Nat.le_of_eq hg.symm)) hb); have n1_ := bs HB hb; have n2_ := Aside0.mk (hbox); have n3_ := Aside0.mk ((by rw [hg]; exact (below_size (bl HB)) : w.heap.size ≤ gb699)); have n4_ := Aside0.mk ((by rw [hg]; exact (below_size (bl HB)) : w.heap.size ≤ gb699)); clear HO_21; clear HB; have HO_21 := n0_; have HB := n1_; have BK699 := n2_; have GW699 := n3_; have GE699 := n4_; clear n0_ n1_ n2_ n3_ n4_; clear hb hbox hg; have hcz24_0 := bc BK699 0; have hcz24_1 := bc BK699 1; have hfz24_0 := bf BK699 0; have hfz24_1 := bf BK699 1))
          go_roundg k2
          case measure => have := HJ3.out; have := HK2.out; omega
          case rel => exact ⟨(wrap64 (x23_2 + 1)), (by first | rfl | (simp; done) | (simp [*]; done)), H', ⟨by have := HJ3.out; have := HK2.out; omega⟩, ⟨by (with_reducible repeat (first | apply Kd.R_alloc | apply Kd.R_drewN | apply Kd.R_drew)); exact Kd.R_mono (Kd.R_far (p := ⟨gb699, 1, none⟩) (Kd.R_far (p := ⟨gb699, 0, none⟩) (Kd.R_mono HO_21.out (fun k_ hk => (⟨hk, hk.2⟩ : _ ∧ k_ ≠ gb699))) (fun _ hk => hk.2) (.int .i64 ((rd_T51 t695 x23_2).f0))) (fun _ hk => hk.2) (.int .i64 ((rd_T51 t695 x23_2).f1))) (fun _ hk => trivial)⟩, ⟨(bg HB GE699)⟩⟩
        ·rw [if_neg c17] at H
         exact absurd H (by simp)
       ·rw [if_neg c16] at H
        exact absurd H (by simp)
      ·rw [if_neg c15] at H
       have c15b0 : decide (x23_2 < (t695.length : Int)) = false := decide_eq_false c15
       clear c15
       obtain rfl := Option.some.inj H
       go_wp2
       go_ret
       exact ⟨by first | rfl | (simp [errW_none, errW_some] <;> rfl) | (simp [*, errW_none, errW_some] <;> rfl), (bl HB)⟩

end Go.Proofs.Ytjjfjdejhddcnaa.P
