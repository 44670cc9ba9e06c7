-- Printed by a program of this session (wip/tools/myprint.py, over the kit's print.py); not trusted: Lean checks it.
import Derived.Test.YthibphndihjcaaaP0
import Derived.Test.YthibphndihjcaaaOWait
namespace Go.Proofs.Ythibphndihjcaaa.P
open Go.RowKit Go.Proofs.YthibphndihjcaaaW.PrintWords Go.Proofs.YthibphndihjcaaaW.PrintLast Go.Proofs.YthibphndihjcaaaW.PrintMore
attribute [local go_sem] max2_int min2_int max_two min_two max_three min_three max_four min_four   -- for this text's walks alone
set_option linter.unusedVariables false
set_option linter.unusedSimpArgs false

/-! ### spec_l14Count: function 70 -/
mutual
def spec_l14Count.l0 : Nat → List Bool → List Int → Int → Bool → Int → Int → ByteArray → Option (Int × List Bool × List Int)
 | 0, _, _, _, _, _, _, _ => none
 | k + 1, x1, x2, x7, x8, x9, x631000, x631001 => if (wrap64 (x9 + 1)) < x631000 then (if 0 ≤ x9 then (if x9 < (x2.length : Int) then (if 0 ≤ (wrap64 (x9 + 1)) then (if (wrap64 (x9 + 1)) < (x2.length : Int) then (if (rd x2 x9) > (rd x2 (wrap64 (x9 + 1))) then (spec_l14Count.l0 k x1 x2 x7 x8 (wrap64 (x9 + 1)) x631000 x631001) else ((spec_l13Waits.f k x631000 x631001 x1 (rd x2 x9) (rd x2 (wrap64 (x9 + 1)))).bind fun t633 => (if t633 = true then (spec_l14Count.l0 k x1 x2 x7 true (wrap64 (x9 + 1)) x631000 x631001) else (if 0 ≤ (wrap64 ((wrap64 ((rd x2 x9) * x631000)) + (rd x2 (wrap64 (x9 + 1))))) then (if (wrap64 ((wrap64 ((rd x2 x9) * x631000)) + (rd x2 (wrap64 (x9 + 1))))) < (x1.length : Int) then ((spec_l14Count.f k x631000 x631001 (x1.set ((wrap64 ((wrap64 ((rd x2 x9) * x631000)) + (rd x2 (wrap64 (x9 + 1))))) : Int).toNat true) ((x2.set (x9 : Int).toNat (rd x2 (wrap64 (x9 + 1)))).set ((wrap64 (x9 + 1)) : Int).toNat (rd x2 x9))).bind fun bt637 => (spec_l14Count.l0 k (bt637.2.1.set ((wrap64 ((wrap64 ((rd x2 x9) * x631000)) + (rd x2 (wrap64 (x9 + 1))))) : Int).toNat false) ((bt637.2.2.set (x9 : Int).toNat (rd x2 x9)).set ((wrap64 (x9 + 1)) : Int).toNat (rd x2 (wrap64 (x9 + 1)))) (wrap64 (x7 + bt637.1)) true (wrap64 (x9 + 1)) x631000 x631001)) else (none)) else (none))))) else (none)) else (none)) else (none)) else (none)) else (if x8 = true then (some (x7, x1, x2)) else (some (1, x1, x2)))
def spec_l14Count.f : Nat → Int → ByteArray → List Bool → List Int → Option (Int × List Bool × List Int)
 | 0, _, _, _, _ => none
 | k + 1, a0_0, a0_1, l1, l2 => spec_l14Count.l0 k l1 l2 0 false 0 a0_0 a0_1
end
theorem spec_l14Count.mono_l : ∀ k, (∀ y0 y1 y2 y3, LeO (spec_l14Count.f k y0 y1 y2 y3) (spec_l14Count.f (k + 1) y0 y1 y2 y3)) ∧ (∀ y0 y1 y2 y3 y4 y5 y6, LeO (spec_l14Count.l0 k y0 y1 y2 y3 y4 y5 y6) (spec_l14Count.l0 (k + 1) y0 y1 y2 y3 y4 y5 y6))
 | 0 => ⟨fun _ _ _ _ r h => by simp [spec_l14Count.f] at h, fun _ _ _ _ _ _ _ r h => by simp [spec_l14Count.l0] at h⟩
 | k + 1 => by
  obtain ⟨ih0, ih1⟩ := spec_l14Count.mono_l k
  refine ⟨?_, ?_⟩
  ·intro y0 y1 y2 y3
   unfold spec_l14Count.f
   repeat' first
   | (with_reducible exact ih0 _ _ _ _)
   | (with_reducible exact ih1 _ _ _ _ _ _ _)
   | (with_reducible exact spec_l13Waits.mono _ _ _ _ _ _)
   | (with_reducible exact LeO.refl _)
   | (with_reducible exact LeO.none _)
   | (with_reducible refine LeO.ite ?_ ?_)
   | (with_reducible refine LeO.bind ?_ (fun _ => ?_))
   | exact ih0 _ _ _ _
   | exact ih1 _ _ _ _ _ _ _
   | exact spec_l13Waits.mono _ _ _ _ _ _
   | exact LeO.none _
   | refine LeO.ite ?_ ?_
   | refine LeO.bind ?_ (fun _ => ?_)
  ·intro y0 y1 y2 y3 y4 y5 y6
   unfold spec_l14Count.l0
   repeat' first
   | (with_reducible exact ih0 _ _ _ _)
   | (with_reducible exact ih1 _ _ _ _ _ _ _)
   | (with_reducible exact spec_l13Waits.mono _ _ _ _ _ _)
   | (with_reducible exact LeO.refl _)
   | (with_reducible exact LeO.none _)
   | (with_reducible refine LeO.ite ?_ ?_)
   | (with_reducible refine LeO.bind ?_ (fun _ => ?_))
   | exact ih0 _ _ _ _
   | exact ih1 _ _ _ _ _ _ _
   | exact spec_l13Waits.mono _ _ _ _ _ _
   | exact LeO.none _
   | refine LeO.ite ?_ ?_
   | refine LeO.bind ?_ (fun _ => ?_)
theorem spec_l14Count.mono : ∀ a0 a1 a2 a3 k, LeO (spec_l14Count.f k a0 a1 a2 a3) (spec_l14Count.f (k + 1) a0 a1 a2 a3) := by
 intro a0 a1 a2 a3 k
 obtain ⟨ih0, ih1⟩ := spec_l14Count.mono_l k
 exact ih0 a0 a1 a2 a3
set_option maxHeartbeats 8000000 in
set_option maxRecDepth 100000 in
theorem spec_l14Count.calls (k : Nat) : ∀ (a0_0 : Int) (a0_1 : ByteArray) (P1_ : Nat → Prop) (u9000_ : Value) (l1 : List Bool) (P2_ : Nat → Prop) (u9001_ : Value) (l2 : List Int) (r1 : Int) (r2 : List Bool) (r3 : List Int) (w0 w : World) (hB : Below w0.heap.size w0 w) (ho1 : Kd.R Kd.bool 4 w w0.heap.size P1_ u9000_ l1) (ho2 : Kd.R (Kd.int .i64) 3 w w0.heap.size P2_ u9001_ l2) (h : spec_l14Count.f k a0_0 a0_1 l1 l2 = some (r1, r2, r3)),
  Calls Try.prog 70 #[.agg #[.int .i64 a0_0, .string a0_1], u9000_, u9001_] w fun e w' => e = .returned (.int .i64 r1) ∧ Kd.R Kd.bool 4 w' w0.heap.size (fun k_ => ((P1_ k_ ∨ P2_ k_) ∨ w.heap.size ≤ k_)) u9000_ r2 ∧ Kd.R (Kd.int .i64) 3 w' w0.heap.size (fun k_ => ((P1_ k_ ∨ P2_ k_) ∨ w.heap.size ≤ k_)) u9001_ r3 ∧ Below w0.heap.size w0 w' ∧ Kept w w' (fun k_ => P1_ k_ ∨ P2_ k_) := by
 induction k using Nat.strongRecOn with
 | _ k ih =>
 intro a0_0 a0_1 P1_ u9000_ l1 P2_ u9001_ l2 r1 r2 r3 w0 w hB ho1 ho2 h
 cases k with
 | zero => exact absurd h (by simp [spec_l14Count.f])
 | succ k =>
 simp only [spec_l14Count.f] at h
 have hu28 := Try.underlying28
 have HO1 := Aside0.mk (show Kd.R Kd.bool 4 w w0.heap.size (fun k_ => ((P1_ k_ ∨ P2_ k_) ∨ w.heap.size ≤ k_)) u9000_ l1 from Kd.R_mono ho1 (fun k_ hk => (.inl (.inl hk))))
 have HO2 := Aside0.mk (show Kd.R (Kd.int .i64) 3 w w0.heap.size (fun k_ => ((P1_ k_ ∨ P2_ k_) ∨ w.heap.size ≤ k_)) u9001_ l2 from Kd.R_mono ho2 (fun k_ hk => (.inl (.inr hk))))
 have HK := Aside0.mk (Kept.refl w (fun k_ => P1_ k_ ∨ P2_ k_))
 have HW0 := Aside0.mk hB.size
 have HB := Aside0.mk hB
 clear hB
 have H : (spec_l14Count.l0 k l1 l2 0 false 0 a0_0 a0_1) = some (r1, r2, r3) := h
 clear h
 have H' := Aside0.mk H
 clear H
 go_enter Try.func70, Try.ntmps70
 go_wp2_with (first | ((with_reducible refine gate_dst (N := 3) rfl ?_); refine bx 3 #[.int .i64 a0_0, .string a0_1] 28 ?_; intro gb630 hg w4 hbox hb; have n0_ := Aside0.mk (Kd.R_below (rr HO1) hb); have n1_ := Aside0.mk (Kd.R_below (rr HO2) hb); have n2_ := Aside0.mk (Kept.below (S := (fun k_ => P1_ k_ ∨ P2_ k_)) (by repeat (first | (with_reducible first | exact HK.out | apply Kept.alloc | apply Kept.drewN | apply Kept.drew) | exact HK.out)) hb); have n3_ := bs HB hb; have n4_ := Aside0.mk (hbox); have n5_ := Aside0.mk ((by rw [hg]; exact (by first | exact HK.out.1 | exact (show Kept w _ (fun k_ => P1_ k_ ∨ P2_ k_) from by repeat (first | (with_reducible first | exact HK.out | apply Kept.alloc | apply Kept.drewN | apply Kept.drew) | exact HK.out)).1) : w.heap.size ≤ gb630)); have n6_ := Aside0.mk ((by rw [hg]; exact (below_size (bl HB)) : w0.heap.size ≤ gb630)); clear HO1; clear HO2; clear HK; clear HB; have HO1 := n0_; have HO2 := n1_; have HK := n2_; have HB := n3_; have BK630 := n4_; have GW630 := n5_; have GE630 := n6_; clear n0_ n1_ n2_ n3_ n4_ n5_ n6_; clear hb hbox hg))
 go_loopg [7, 8, 9] k (fun kq v7 v8 v9 w' => ∃ (x1_1 : List Bool) (x2_1 : List Int) (x7_1 : Int) (x8_1 : Bool) (x9_1 : Int), v7 = .int .i64 x7_1 ∧ v8 = .bool x8_1 ∧ v9 = .int .i64 x9_1 ∧ Aside0 (spec_l14Count.l0 kq x1_1 x2_1 x7_1 x8_1 x9_1 a0_0 a0_1 = some (r1, r2, r3)) ∧ Aside0 (kq ≤ k) ∧ Aside0 (Kd.R Kd.bool 4 w' w0.heap.size (fun k_ => ((P1_ k_ ∨ P2_ k_) ∨ w.heap.size ≤ k_)) u9000_ x1_1) ∧ Aside0 (Kd.R (Kd.int .i64) 3 w' w0.heap.size (fun k_ => ((P1_ k_ ∨ P2_ k_) ∨ w.heap.size ≤ k_)) u9001_ x2_1) ∧ Aside0 (w'.heap[gb630]? = some (.cells #[.int .i64 a0_0, .string a0_1] 28 (0, 0))) ∧ Aside0 (Kept w w' (fun k_ => P1_ k_ ∨ P2_ k_)) ∧ Aside0 (Below w0.heap.size w0 w'))
 case atStart => exact ⟨(l1), (l2), (0), (false), (0), (by first | rfl | (simp; done) | (simp [*]; done)), (by first | rfl | (simp; done) | (simp [*]; done)), (by first | rfl | (simp; done) | (simp [*]; done)), H', ⟨Nat.le_refl _⟩, ⟨by (with_reducible repeat (first | apply Kd.R_alloc | apply Kd.R_drewN | apply Kd.R_drew)); exact HO1.out⟩, ⟨by (with_reducible repeat (first | apply Kd.R_alloc | apply Kd.R_drewN | apply Kd.R_drew)); exact HO2.out⟩, ⟨by (with_reducible repeat (first | refine blk_drewN ?_ _ | refine blk_drew ?_ | refine blk_alloc ?_ _)); exact BK630.out⟩, ⟨by repeat (first | (with_reducible first | exact HK.out | apply Kept.alloc | apply Kept.drewN | apply Kept.drew | refine Kept.setCell ?_ (.inr GW630.out) _) | exact HK.out)⟩, ⟨(bg HB GE630)⟩⟩
 case round =>
  clear H'
  try clear p2
  obtain ⟨x1_1, x2_1, x7_1, x8_1, x9_1, rfl, rfl, rfl, HA, HK1, HO_1, HO_2, BK630, HK, HB⟩ := hrel
  cases gk with
  | zero => exact absurd HA.out (by simp [spec_l14Count.l0])
  | succ k1 =>
   have H := HA.out
   clear HA
   simp only [spec_l14Count.l0] at H
   by_cases c5 : (wrap64 (x9_1 + 1)) < a0_0
   ·rw [if_pos c5] at H
    have c5b0 : decide ((wrap64 (x9_1 + 1)) < a0_0) = true := decide_eq_true c5
    clear c5
    by_cases c6 : 0 ≤ x9_1
    ·rw [if_pos c6] at H
     have c6b0 : decide (0 ≤ x9_1) = true := decide_eq_true c6
     clear c6
     by_cases c7 : x9_1 < (x2_1.length : Int)
     ·rw [if_pos c7] at H
      have c7b0 : decide (x9_1 < (x2_1.length : Int)) = true := decide_eq_true c7
      clear c7
      obtain ⟨ji8, hji8⟩ : ∃ j_ : Int, (wrap64 (x9_1 + 1)) = j_ := ⟨_, rfl⟩
      replace H : (if 0 ≤ (ji8) then (if (ji8) < (x2_1.length : Int) then (if (rd x2_1 x9_1) > (rd x2_1 (ji8)) then (spec_l14Count.l0 k1 x1_1 x2_1 x7_1 x8_1 ji8 a0_0 a0_1) else ((spec_l13Waits.f k1 a0_0 a0_1 x1_1 (rd x2_1 x9_1) (rd x2_1 (ji8))).bind fun t633 => (if t633 = true then (spec_l14Count.l0 k1 x1_1 x2_1 x7_1 true ji8 a0_0 a0_1) else (if 0 ≤ (wrap64 ((wrap64 ((rd x2_1 x9_1) * a0_0)) + (rd x2_1 (ji8)))) then (if (wrap64 ((wrap64 ((rd x2_1 x9_1) * a0_0)) + (rd x2_1 (ji8)))) < (x1_1.length : Int) then ((spec_l14Count.f k1 a0_0 a0_1 (x1_1.set ((wrap64 ((wrap64 ((rd x2_1 x9_1) * a0_0)) + (rd x2_1 (ji8)))) : Int).toNat true) ((x2_1.set (x9_1 : Int).toNat (rd x2_1 (ji8))).set ((ji8) : Int).toNat (rd x2_1 x9_1))).bind fun bt637 => (spec_l14Count.l0 k1 (bt637.2.1.set ((wrap64 ((wrap64 ((rd x2_1 x9_1) * a0_0)) + (rd x2_1 (ji8)))) : Int).toNat false) ((bt637.2.2.set (x9_1 : Int).toNat (rd x2_1 x9_1)).set ((ji8) : Int).toNat (rd x2_1 (ji8))) (wrap64 (x7_1 + bt637.1)) true ji8 a0_0 a0_1)) else (none)) else (none))))) else (none)) else (none)) = some (r1, r2, r3) := by first | (rw [hji8] at H; exact H) | (simp only [hji8] at H ⊢; exact H)
      (try rw [hji8] at c5b0)
      have hji8w : (IntKind.i64.wrap (x9_1 + 1)) = ji8 := (i64_w _).trans hji8
      by_cases c9 : 0 ≤ (ji8)
      ·rw [if_pos c9] at H
       have c9b0 : decide (0 ≤ (ji8)) = true := decide_eq_true c9
       clear c9
       by_cases c10 : (ji8) < (x2_1.length : Int)
       ·rw [if_pos c10] at H
        have c10b0 : decide ((ji8) < (x2_1.length : Int)) = true := decide_eq_true c10
        clear c10
        by_cases c11 : (rd x2_1 x9_1) > (rd x2_1 (ji8))
        ·rw [if_pos c11] at H
         have c11b0 : decide ((rd x2_1 (ji8)) < (rd x2_1 x9_1)) = true := decide_eq_true c11
         clear c11
         have H' := Aside0.mk H
         clear H
         have hcz12_0 := bc BK630 0
         have hcz12_1 := bc BK630 1
         have hfz12_0 := bf BK630 0
         have hfz12_1 := bf BK630 1
         obtain ⟨Ao13, co13, eo13⟩ := Kd.R_slice HO_2.out
         subst eo13
         have p631 : 0 ≤ (x9_1 : Int) := of_decide_eq_true (by first | (with_reducible assumption) | assumption)
         have q631 : x9_1 < (x2_1.length : Int) := of_decide_eq_true (by first | (with_reducible assumption) | assumption)
         obtain ⟨ad631, e631, hx631_0⟩ := Kd.at_int (Kd.R_reads' HO_2.out).2.2 x9_1 p631 q631
         cases e631
         replace p631 := eq_true p631
         replace q631 := eq_true q631
         have p632 : 0 ≤ ((ji8) : Int) := of_decide_eq_true (by first | (with_reducible assumption) | assumption)
         have q632 : (ji8) < (x2_1.length : Int) := of_decide_eq_true (by first | (with_reducible assumption) | assumption)
         obtain ⟨ad632, e632, hx632_0⟩ := Kd.at_int (Kd.R_reads' HO_2.out).2.2 (ji8) p632 q632
         obtain rfl : ad631 = ad632 := (by injection e632)
         replace p632 := eq_true p632
         replace q632 := eq_true q632
         go_wp2
         go_roundg k1
         case measure => have := HK1.out; omega
         case rel => exact ⟨(x1_1), (x2_1), (x7_1), (x8_1), (ji8), (by first | rfl | (simp; done) | (simp [*]; done)), (by first | rfl | (simp; done) | (simp [*]; done)), (by first | rfl | (simp; done) | (simp only [← hji8] <;> (first | rfl | simp)) | (simp [*]; done)), H', ⟨by have := HK1.out; omega⟩, ⟨by (with_reducible repeat (first | apply Kd.R_alloc | apply Kd.R_drewN | apply Kd.R_drew)); exact HO_1.out⟩, ⟨by (with_reducible repeat (first | apply Kd.R_alloc | apply Kd.R_drewN | apply Kd.R_drew)); exact HO_2.out⟩, ⟨by (with_reducible repeat (first | refine blk_drewN ?_ _ | refine blk_drew ?_ | refine blk_alloc ?_ _)); exact BK630.out⟩, ⟨by repeat (first | (with_reducible first | exact HK.out | apply Kept.alloc | apply Kept.drewN | apply Kept.drew | refine Kept.setCell ?_ (.inr GW630.out) _) | exact HK.out)⟩, ⟨(bg HB GE630)⟩⟩
        ·rw [if_neg c11] at H
         have c11b0 : decide ((rd x2_1 (ji8)) < (rd x2_1 x9_1)) = false := decide_eq_false c11
         clear c11
         replace H := Option.bind_eq_some_iff.mp H
         obtain ⟨t633, A140, H⟩ := H
         (try dsimp only at H)
         have A14 := Aside0.mk A140
         clear A140
         by_cases c15 : t633 = true
         ·subst c15
          have H1 : (spec_l14Count.l0 k1 x1_1 x2_1 x7_1 true ji8 a0_0 a0_1) = some (r1, r2, r3) := by rw [if_pos rfl] at H; exact H
          clear H
          have H := H1
          clear H1
          have H' := Aside0.mk H
          clear H
          have hcz16_0 := bc BK630 0
          have hcz16_1 := bc BK630 1
          have hfz16_0 := bf BK630 0
          have hfz16_1 := bf BK630 1
          obtain ⟨Ao17, co17, eo17⟩ := Kd.R_slice HO_2.out
          subst eo17
          have p631 : 0 ≤ (x9_1 : Int) := of_decide_eq_true (by first | (with_reducible assumption) | assumption)
          have q631 : x9_1 < (x2_1.length : Int) := of_decide_eq_true (by first | (with_reducible assumption) | assumption)
          obtain ⟨ad631, e631, hx631_0⟩ := Kd.at_int (Kd.R_reads' HO_2.out).2.2 x9_1 p631 q631
          cases e631
          replace p631 := eq_true p631
          replace q631 := eq_true q631
          have p632 : 0 ≤ ((ji8) : Int) := of_decide_eq_true (by first | (with_reducible assumption) | assumption)
          have q632 : (ji8) < (x2_1.length : Int) := of_decide_eq_true (by first | (with_reducible assumption) | assumption)
          obtain ⟨ad632, e632, hx632_0⟩ := Kd.at_int (Kd.R_reads' HO_2.out).2.2 (ji8) p632 q632
          obtain rfl : ad631 = ad632 := (by injection e632)
          replace p632 := eq_true p632
          replace q632 := eq_true q632
          obtain ⟨Ao18, co18, eo18⟩ := Kd.R_slice HO_1.out
          subst eo18
          go_wp2_with (first | ((with_reducible refine gate_callee (f := 66) rfl ?_); refine goesL_ (some 35) rfl rfl Try.func66 (by kernel_rfl) rfl #[.agg #[.int .i64 a0_0, .string a0_1], .slice Ao18 x1_1.length co18, .int .i64 (rd x2_1 x9_1), .int .i64 (rd x2_1 (ji8))] rfl (by (try simp only [List.map_toArray, List.map_cons, List.map_nil]); first | done | (simp only [hji8]; rfl) | rfl | (simp only [List.length_drop, List.length_take]; rfl)) ?_; (with_reducible refine (spec_l13Waits.calls k1 a0_0 a0_1 _ _ x1_1 (rd x2_1 x9_1) (rd x2_1 (ji8)) true _ ?side1 ?side2 A14.out).mono ?_); (case side1 => repeat (first | exact (Kd.R_reads' HO_1.out).2.2 | (with_reducible refine Kd.C_alloc ?_ _) | (with_reducible refine Kd.C_drewN ?_ _) | (with_reducible refine Kd.C_drew ?_))); (case side2 => exact (Kd.R_reads' HO_1.out).2.1); rintro e w19 ⟨rfl, hb⟩; refine ⟨_, rfl, ?_⟩; have n0_ := Aside0.mk (Kd.R_below (rr HO_1) hb); have n1_ := Aside0.mk (Kd.R_below (rr HO_2) hb); have n2_ := Aside0.mk (blk_below (g := gb630) (o := .cells #[.int .i64 a0_0, .string a0_1] 28 (0, 0)) (bk BK630) hb); have n3_ := Aside0.mk (Kept.below (S := (fun k_ => P1_ k_ ∨ P2_ k_)) (by repeat (first | (with_reducible first | exact HK.out | apply Kept.alloc | apply Kept.drewN | apply Kept.drew | refine Kept.setCell ?_ (.inr GW630.out) _) | exact HK.out)) hb); have n4_ := bsg HB GE630 hb; clear HO_1; clear HO_2; clear BK630; clear HK; clear HB; have HO_1 := n0_; have HO_2 := n1_; have BK630 := n2_; have HK := n3_; have HB := n4_; clear n0_ n1_ n2_ n3_ n4_; (try clear hb); (try clear hb2); (try clear hk); (try clear hi)))
          go_roundg k1
          case measure => have := HK1.out; omega
          case rel => exact ⟨(x1_1), (x2_1), (x7_1), (true), (ji8), (by first | rfl | (simp; done) | (simp [*]; done)), (by first | rfl | (simp; done) | (simp [*]; done)), (by first | rfl | (simp; done) | (simp only [← hji8] <;> (first | rfl | simp)) | (simp [*]; done)), H', ⟨by have := HK1.out; omega⟩, ⟨by (with_reducible repeat (first | apply Kd.R_alloc | apply Kd.R_drewN | apply Kd.R_drew)); exact HO_1.out⟩, ⟨by (with_reducible repeat (first | apply Kd.R_alloc | apply Kd.R_drewN | apply Kd.R_drew)); exact HO_2.out⟩, ⟨by (with_reducible repeat (first | refine blk_drewN ?_ _ | refine blk_drew ?_ | refine blk_alloc ?_ _)); exact BK630.out⟩, ⟨by repeat (first | (with_reducible first | exact HK.out | apply Kept.alloc | apply Kept.drewN | apply Kept.drew | refine Kept.setCell ?_ (.inr GW630.out) _) | exact HK.out)⟩, ⟨(bg HB GE630)⟩⟩
         ·replace c15 := Bool.eq_false_iff.mpr c15
          subst c15
          have H1 : (if 0 ≤ (wrap64 ((wrap64 ((rd x2_1 x9_1) * a0_0)) + (rd x2_1 (ji8)))) then (if (wrap64 ((wrap64 ((rd x2_1 x9_1) * a0_0)) + (rd x2_1 (ji8)))) < (x1_1.length : Int) then ((spec_l14Count.f k1 a0_0 a0_1 (x1_1.set ((wrap64 ((wrap64 ((rd x2_1 x9_1) * a0_0)) + (rd x2_1 (ji8)))) : Int).toNat true) ((x2_1.set (x9_1 : Int).toNat (rd x2_1 (ji8))).set ((ji8) : Int).toNat (rd x2_1 x9_1))).bind fun bt637 => (spec_l14Count.l0 k1 (bt637.2.1.set ((wrap64 ((wrap64 ((rd x2_1 x9_1) * a0_0)) + (rd x2_1 (ji8)))) : Int).toNat false) ((bt637.2.2.set (x9_1 : Int).toNat (rd x2_1 x9_1)).set ((ji8) : Int).toNat (rd x2_1 (ji8))) (wrap64 (x7_1 + bt637.1)) true ji8 a0_0 a0_1)) else (none)) else (none)) = some (r1, r2, r3) := by rw [if_neg (show ¬ (false = true) by decide)] at H; exact H
          clear H
          have H := H1
          clear H1
          obtain ⟨ji20, hji20⟩ : ∃ j_ : Int, (wrap64 ((wrap64 ((rd x2_1 x9_1) * a0_0)) + (rd x2_1 (ji8)))) = j_ := ⟨_, rfl⟩
          replace H : (if 0 ≤ (ji20) then (if (ji20) < (x1_1.length : Int) then ((spec_l14Count.f k1 a0_0 a0_1 (x1_1.set ((ji20) : Int).toNat true) ((x2_1.set (x9_1 : Int).toNat (rd x2_1 (ji8))).set ((ji8) : Int).toNat (rd x2_1 x9_1))).bind fun bt637 => (spec_l14Count.l0 k1 (bt637.2.1.set ((ji20) : Int).toNat false) ((bt637.2.2.set (x9_1 : Int).toNat (rd x2_1 x9_1)).set ((ji8) : Int).toNat (rd x2_1 (ji8))) (wrap64 (x7_1 + bt637.1)) true ji8 a0_0 a0_1)) else (none)) else (none)) = some (r1, r2, r3) := by first | (rw [hji20] at H; exact H) | (simp only [hji20] at H ⊢; exact H)
          (try rw [hji20] at A14)
          have hji20w : (IntKind.i64.wrap ((wrap64 ((rd x2_1 x9_1) * a0_0)) + (rd x2_1 (ji8)))) = ji20 := (i64_w _).trans hji20
          by_cases c21 : 0 ≤ (ji20)
          ·rw [if_pos c21] at H
           have c21b0 : decide (0 ≤ (ji20)) = true := decide_eq_true c21
           clear c21
           by_cases c22 : (ji20) < (x1_1.length : Int)
           ·rw [if_pos c22] at H
            have c22b0 : decide ((ji20) < (x1_1.length : Int)) = true := decide_eq_true c22
            clear c22
            obtain ⟨y634, hy634⟩ : ∃ y_ : List Bool, y_ = (x1_1.set ((ji20) : Int).toNat true) := ⟨_, rfl⟩
            replace H : ((spec_l14Count.f k1 a0_0 a0_1 y634 ((x2_1.set (x9_1 : Int).toNat (rd x2_1 (ji8))).set ((ji8) : Int).toNat (rd x2_1 x9_1))).bind fun bt637 => (spec_l14Count.l0 k1 (bt637.2.1.set ((ji20) : Int).toNat false) ((bt637.2.2.set (x9_1 : Int).toNat (rd x2_1 x9_1)).set ((ji8) : Int).toNat (rd x2_1 (ji8))) (wrap64 (x7_1 + bt637.1)) true ji8 a0_0 a0_1)) = some (r1, r2, r3) := by first | (rw [hy634]; with_reducible exact H) | (have H2_ := (Option.bind_some _ _).symm.trans H; rw [hy634]; with_reducible exact H2_) | (have H2_ := (Option.bind_some _ _).symm.trans H; with_reducible exact H2_) | with_reducible exact H | (rw [hy634]; exact H) | exact H
            have Ny634 := Aside0.mk hy634
            clear hy634
            obtain ⟨y635, hy635⟩ : ∃ y_ : List Int, y_ = (x2_1.set (x9_1 : Int).toNat (rd x2_1 (ji8))) := ⟨_, rfl⟩
            replace H : ((spec_l14Count.f k1 a0_0 a0_1 y634 (y635.set ((ji8) : Int).toNat (rd x2_1 x9_1))).bind fun bt637 => (spec_l14Count.l0 k1 (bt637.2.1.set ((ji20) : Int).toNat false) ((bt637.2.2.set (x9_1 : Int).toNat (rd x2_1 x9_1)).set ((ji8) : Int).toNat (rd x2_1 (ji8))) (wrap64 (x7_1 + bt637.1)) true ji8 a0_0 a0_1)) = some (r1, r2, r3) := by first | (rw [hy635]; with_reducible exact H) | (have H2_ := (Option.bind_some _ _).symm.trans H; rw [hy635]; with_reducible exact H2_) | (have H2_ := (Option.bind_some _ _).symm.trans H; with_reducible exact H2_) | with_reducible exact H | (rw [hy635]; exact H) | exact H
            have Ny635 := Aside0.mk hy635
            clear hy635
            obtain ⟨y636, hy636⟩ : ∃ y_ : List Int, y_ = (y635.set ((ji8) : Int).toNat (rd x2_1 x9_1)) := ⟨_, rfl⟩
            replace H : ((spec_l14Count.f k1 a0_0 a0_1 y634 y636).bind fun bt637 => (spec_l14Count.l0 k1 (bt637.2.1.set ((ji20) : Int).toNat false) ((bt637.2.2.set (x9_1 : Int).toNat (rd x2_1 x9_1)).set ((ji8) : Int).toNat (rd x2_1 (ji8))) (wrap64 (x7_1 + bt637.1)) true ji8 a0_0 a0_1)) = some (r1, r2, r3) := by first | (rw [hy636]; with_reducible exact H) | (have H2_ := (Option.bind_some _ _).symm.trans H; rw [hy636]; with_reducible exact H2_) | (have H2_ := (Option.bind_some _ _).symm.trans H; with_reducible exact H2_) | with_reducible exact H | (rw [hy636]; exact H) | exact H
            have Ny636 := Aside0.mk hy636
            clear hy636
            replace H := Option.bind_eq_some_iff.mp H
            obtain ⟨⟨t637, t638, t639⟩, A260, H⟩ := H
            (try dsimp only at H)
            have A26 := Aside0.mk A260
            clear A260
            obtain ⟨y640, hy640⟩ : ∃ y_ : List Int, y_ = (t639.set (x9_1 : Int).toNat (rd x2_1 x9_1)) := ⟨_, rfl⟩
            replace H : (spec_l14Count.l0 k1 (t638.set ((ji20) : Int).toNat false) (y640.set ((ji8) : Int).toNat (rd x2_1 (ji8))) (wrap64 (x7_1 + t637)) true ji8 a0_0 a0_1) = some (r1, r2, r3) := by first | (rw [hy640]; with_reducible exact H) | (have H2_ := (Option.bind_some _ _).symm.trans H; rw [hy640]; with_reducible exact H2_) | (have H2_ := (Option.bind_some _ _).symm.trans H; with_reducible exact H2_) | with_reducible exact H | (rw [hy640]; exact H) | exact H
            have Ny640 := Aside0.mk hy640
            clear hy640
            obtain ⟨y641, hy641⟩ : ∃ y_ : List Int, y_ = (y640.set ((ji8) : Int).toNat (rd x2_1 (ji8))) := ⟨_, rfl⟩
            replace H : (spec_l14Count.l0 k1 (t638.set ((ji20) : Int).toNat false) y641 (wrap64 (x7_1 + t637)) true ji8 a0_0 a0_1) = some (r1, r2, r3) := by first | (rw [hy641]; with_reducible exact H) | (have H2_ := (Option.bind_some _ _).symm.trans H; rw [hy641]; with_reducible exact H2_) | (have H2_ := (Option.bind_some _ _).symm.trans H; with_reducible exact H2_) | with_reducible exact H | (rw [hy641]; exact H) | exact H
            have Ny641 := Aside0.mk hy641
            clear hy641
            obtain ⟨y642, hy642⟩ : ∃ y_ : List Bool, y_ = (t638.set ((ji20) : Int).toNat false) := ⟨_, rfl⟩
            replace H : (spec_l14Count.l0 k1 y642 y641 (wrap64 (x7_1 + t637)) true ji8 a0_0 a0_1) = some (r1, r2, r3) := by first | (rw [hy642]; with_reducible exact H) | (have H2_ := (Option.bind_some _ _).symm.trans H; rw [hy642]; with_reducible exact H2_) | (have H2_ := (Option.bind_some _ _).symm.trans H; with_reducible exact H2_) | with_reducible exact H | (rw [hy642]; exact H) | exact H
            have Ny642 := Aside0.mk hy642
            clear hy642
            have H' := Aside0.mk H
            clear H
            have hcz30_0 := bc BK630 0
            have hcz30_1 := bc BK630 1
            have hfz30_0 := bf BK630 0
            have hfz30_1 := bf BK630 1
            obtain ⟨Ao31, co31, eo31⟩ := Kd.R_slice HO_2.out
            subst eo31
            have p631 : 0 ≤ (x9_1 : Int) := of_decide_eq_true (by first | (with_reducible assumption) | assumption)
            have q631 : x9_1 < (x2_1.length : Int) := of_decide_eq_true (by first | (with_reducible assumption) | assumption)
            obtain ⟨ad631, e631, hx631_0⟩ := Kd.at_int (Kd.R_reads' HO_2.out).2.2 x9_1 p631 q631
            cases e631
            replace p631 := eq_true p631
            replace q631 := eq_true q631
            have p632 : 0 ≤ ((ji8) : Int) := of_decide_eq_true (by first | (with_reducible assumption) | assumption)
            have q632 : (ji8) < (x2_1.length : Int) := of_decide_eq_true (by first | (with_reducible assumption) | assumption)
            obtain ⟨ad632, e632, hx632_0⟩ := Kd.at_int (Kd.R_reads' HO_2.out).2.2 (ji8) p632 q632
            obtain rfl : ad631 = ad632 := (by injection e632)
            replace p632 := eq_true p632
            replace q632 := eq_true q632
            obtain ⟨Ao32, co32, eo32⟩ := Kd.R_slice HO_1.out
            subst eo32
            go_wp2_with (first | ((with_reducible refine gate_callee (f := 66) rfl ?_); refine goesL_ (some 35) rfl rfl Try.func66 (by kernel_rfl) rfl #[.agg #[.int .i64 a0_0, .string a0_1], .slice Ao32 x1_1.length co32, .int .i64 (rd x2_1 x9_1), .int .i64 (rd x2_1 (ji8))] rfl (by (try simp only [List.map_toArray, List.map_cons, List.map_nil]); first | done | (simp only [hji8]; rfl) | rfl | (simp only [List.length_drop, List.length_take]; rfl)) ?_; (with_reducible refine (spec_l13Waits.calls k1 a0_0 a0_1 _ _ x1_1 (rd x2_1 x9_1) (rd x2_1 (ji8)) false _ ?side1 ?side2 A14.out).mono ?_); (case side1 => repeat (first | exact (Kd.R_reads' HO_1.out).2.2 | (with_reducible refine Kd.C_alloc ?_ _) | (with_reducible refine Kd.C_drewN ?_ _) | (with_reducible refine Kd.C_drew ?_))); (case side2 => exact (Kd.R_reads' HO_1.out).2.1); rintro e w33 ⟨rfl, hb⟩; refine ⟨_, rfl, ?_⟩; have n0_ := Aside0.mk (Kd.R_below (rr HO_1) hb); have n1_ := Aside0.mk (Kd.R_below (rr HO_2) hb); have n2_ := Aside0.mk (blk_below (g := gb630) (o := .cells #[.int .i64 a0_0, .string a0_1] 28 (0, 0)) (bk BK630) hb); have n3_ := Aside0.mk (Kept.below (S := (fun k_ => P1_ k_ ∨ P2_ k_)) (by repeat (first | (with_reducible first | exact HK.out | apply Kept.alloc | apply Kept.drewN | apply Kept.drew | refine Kept.setCell ?_ (.inr GW630.out) _) | exact HK.out)) hb); have n4_ := bsg HB GE630 hb; clear HO_1; clear HO_2; clear BK630; clear HK; clear HB; have HO_1 := n0_; have HO_2 := n1_; have BK630 := n2_; have HK := n3_; have HB := n4_; clear n0_ n1_ n2_ n3_ n4_; (try clear hb); (try clear hb2); (try clear hk); (try clear hi); have hcz34_0 := bc BK630 0; have hcz34_1 := bc BK630 1; have hfz34_0 := bf BK630 0; have hfz34_1 := bf BK630 1; have p23 : 0 ≤ ((ji20) : Int) := of_decide_eq_true (by first | (with_reducible assumption) | assumption); have q23 : ((ji20) : Int) < ((x1_1.length : Int) : Int) := of_decide_eq_true (by first | (with_reducible assumption) | assumption); obtain ⟨go23, co23, eo23, gb23, gl23, cl23, HG23⟩ := Kd.R_form HO_1.out (by omega); (first | cases eo23 | (injection eo23 with ea_ en_ ec_; (first | subst ea_ | (injection ea_ with ea_; subst ea_)); subst ec_; clear en_)); have GB23 := Aside0.mk gb23; have GG23 := Aside0.mk HG23; clear gb23 gl23 HG23; have HMgo23 := Aside0.mk (show ((P1_ go23 ∨ P2_ go23) ∨ w.heap.size ≤ go23) from (HO_1.out.1 _ rfl)); obtain ⟨hx23_0, hf23_0⟩ := Kd.R_celln false HO_1.out ((ji20) : Int) p23 q23; replace p23 := eq_true p23; replace q23 := eq_true q23; obtain ⟨hy35_, hz35_⟩ := Kd.R_celln false HO_1.out ((ji20) : Int) (of_decide_eq_true (by first | (with_reducible assumption) | assumption)) (of_decide_eq_true (by first | (with_reducible assumption) | assumption)); have HP35 := Kd.R_putg HO_1.out ((ji20) : Int) true) | ((with_reducible refine gate_store (t := 4) (p := 43) rfl ?_); refine store_event (t := 4) (p := 43) (v := ?vo_w36) (w1 := (w33.setCell ⟨go23, ((ji20) : Int).toNat, none⟩ (.bool true))) ?hg ?ho ?hn ?hr ?_; (case ho => rfl); (case hg => rfl); (case hn => rfl); (case hr => first | (go_simp; done) | (go_simp; rfl)); intro w36 hw; have hg : w33.grownBy w36 (some go23) := (by rw [hw]; exact HP35.2); have hp_ : Kd.R Kd.bool 4 w36 w0.heap.size (fun k_ => ((P1_ k_ ∨ P2_ k_) ∨ w.heap.size ≤ k_)) (.slice (some ⟨go23, 0, none⟩) x1_1.length co32) y634 := (by rw [hw, Ny634.out]; exact HP35.1); clear HP35; have n0_ := Aside0.mk (hp_); have n1_ := Aside0.mk (Kd.R_over' (v := (.slice (some ⟨go23, 0, none⟩) x1_1.length co32)) (rr HO_2) (Kd.R_typed HO_1.out) (by decide) hg); have n2_ := Aside0.mk (blk_grown (g := gb630) (o := .cells #[.int .i64 a0_0, .string a0_1] 28 (0, 0)) (bk BK630) hg (Kd.R_ne HO_1.out BK630.out (by decide))); have n3_ := Aside0.mk ((by rw [hw]; exact below_set (HB.out) GB23.out : Below w0.heap.size w0 w36)); have n4_ := Aside0.mk (Kept.of_grown (S := (fun k_ => P1_ k_ ∨ P2_ k_)) hg (by repeat (first | (with_reducible first | exact HK.out | apply Kept.alloc | apply Kept.drewN | apply Kept.drew | refine Kept.setCell ?_ (.inr GW630.out) _) | exact HK.out)) (fun k_ e_ => (HO_1.out.1 k_ e_))); clear HO_1; clear HO_2; clear BK630; clear HB; clear HK; have HO_1 := n0_; have HO_2 := n1_; have BK630 := n2_; have HB := n3_; have HK := n4_; clear n0_ n1_ n2_ n3_ n4_; clear hg hw hp_; have p24 : 0 ≤ (x9_1 : Int) := of_decide_eq_true (by first | (with_reducible assumption) | assumption); have q24 : (x9_1 : Int) < ((x2_1.length : Int) : Int) := of_decide_eq_true (by first | (with_reducible assumption) | assumption); obtain ⟨go24, co24, eo24, gb24, gl24, cl24, HG24⟩ := Kd.R_form HO_2.out (by omega); (first | cases eo24 | (injection eo24 with ea_ en_ ec_; (first | subst ea_ | (injection ea_ with ea_; subst ea_)); subst ec_; clear en_)); have GB24 := Aside0.mk gb24; have GG24 := Aside0.mk HG24; clear gb24 gl24 HG24; have HMgo24 := Aside0.mk (show ((P1_ go24 ∨ P2_ go24) ∨ w.heap.size ≤ go24) from (HO_2.out.1 _ rfl)); (first | simp only [add_plain] at hx631_0 | skip); (first | simp only [add_plain] at hx632_0 | skip); obtain ⟨hx24_0, hf24_0⟩ := Kd.R_celln 0 HO_2.out (x9_1 : Int) p24 q24; replace p24 := eq_true p24; replace q24 := eq_true q24; obtain ⟨hy37_, hz37_⟩ := Kd.R_celln 0 HO_2.out (x9_1 : Int) (of_decide_eq_true (by first | (with_reducible assumption) | assumption)) (of_decide_eq_true (by first | (with_reducible assumption) | assumption)); have HP37 := Kd.R_putg HO_2.out (x9_1 : Int) (rd x2_1 (ji8))) | ((with_reducible refine gate_store (t := 3) (p := 47) rfl ?_); refine store_event (t := 3) (p := 47) (v := ?vo_w38) (w1 := (w36.setCell ⟨go24, (x9_1 : Int).toNat, none⟩ (.int .i64 (rd x2_1 (ji8))))) ?hg ?ho ?hn ?hr ?_; (case ho => rfl); (case hg => rfl); (case hn => rfl); (case hr => first | (go_simp; done) | (go_simp; rfl)); intro w38 hw; have hg : w36.grownBy w38 (some go24) := (by rw [hw]; exact HP37.2); have hp_ : Kd.R (Kd.int .i64) 3 w38 w0.heap.size (fun k_ => ((P1_ k_ ∨ P2_ k_) ∨ w.heap.size ≤ k_)) (.slice (some ⟨go24, 0, none⟩) x2_1.length co31) y635 := (by rw [hw, Ny635.out]; exact HP37.1); clear HP37; have n0_ := Aside0.mk (Kd.R_over' (v := (.slice (some ⟨go24, 0, none⟩) x2_1.length co31)) (rr HO_1) (Kd.R_typed HO_2.out) (by decide) hg); have n1_ := Aside0.mk (hp_); have n2_ := Aside0.mk (blk_grown (g := gb630) (o := .cells #[.int .i64 a0_0, .string a0_1] 28 (0, 0)) (bk BK630) hg (Kd.R_ne HO_2.out BK630.out (by decide))); have n3_ := Aside0.mk ((by rw [hw]; exact below_set (HB.out) GB24.out : Below w0.heap.size w0 w38)); have n4_ := Aside0.mk (Kept.of_grown (S := (fun k_ => P1_ k_ ∨ P2_ k_)) hg (by repeat (first | (with_reducible first | exact HK.out | apply Kept.alloc | apply Kept.drewN | apply Kept.drew | refine Kept.setCell ?_ (.inr GW630.out) _) | exact HK.out)) (fun k_ e_ => (HO_2.out.1 k_ e_))); clear HO_1; clear HO_2; clear BK630; clear HB; clear HK; have HO_1 := n0_; have HO_2 := n1_; have BK630 := n2_; have HB := n3_; have HK := n4_; clear n0_ n1_ n2_ n3_ n4_; clear hg hw hp_; have p25 : 0 ≤ ((ji8) : Int) := of_decide_eq_true (by first | (with_reducible assumption) | assumption); have q25 : ((ji8) : Int) < ((x2_1.length : Int) : Int) := of_decide_eq_true (by first | (with_reducible assumption) | assumption); obtain ⟨hx25_0, hf25_0⟩ := Kd.R_celln 0 HO_2.out ((ji8) : Int) p25 q25; replace p25 := eq_true p25; replace q25 := eq_true q25; obtain ⟨hy39_, hz39_⟩ := Kd.R_celln 0 HO_2.out ((ji8) : Int) (of_decide_eq_true (by first | (with_reducible assumption) | assumption)) (of_decide_eq_true (by first | (with_reducible assumption) | assumption)); have HP39 := Kd.R_putg HO_2.out ((ji8) : Int) (rd x2_1 x9_1)) | ((with_reducible refine gate_store (t := 3) (p := 52) rfl ?_); refine store_event (t := 3) (p := 52) (v := ?vo_w40) (w1 := (w38.setCell ⟨go24, ((ji8) : Int).toNat, none⟩ (.int .i64 (rd x2_1 x9_1)))) ?hg ?ho ?hn ?hr ?_; (case ho => rfl); (case hg => rfl); (case hn => rfl); (case hr => first | (go_simp; done) | (go_simp; rfl)); intro w40 hw; have hg : w38.grownBy w40 (some go24) := (by rw [hw]; exact HP39.2); have hp_ : Kd.R (Kd.int .i64) 3 w40 w0.heap.size (fun k_ => ((P1_ k_ ∨ P2_ k_) ∨ w.heap.size ≤ k_)) (.slice (some ⟨go24, 0, none⟩) x2_1.length co31) y636 := (by rw [hw, Ny636.out]; exact HP39.1); clear HP39; have n0_ := Aside0.mk (Kd.R_over' (v := (.slice (some ⟨go24, 0, none⟩) x2_1.length co31)) (rr HO_1) (Kd.R_typed HO_2.out) (by decide) hg); have n1_ := Aside0.mk (hp_); have n2_ := Aside0.mk (blk_grown (g := gb630) (o := .cells #[.int .i64 a0_0, .string a0_1] 28 (0, 0)) (bk BK630) hg (Kd.R_ne HO_2.out BK630.out (by decide))); have n3_ := Aside0.mk ((by rw [hw]; exact below_set (HB.out) GB24.out : Below w0.heap.size w0 w40)); have n4_ := Aside0.mk (Kept.of_grown (S := (fun k_ => P1_ k_ ∨ P2_ k_)) hg (by repeat (first | (with_reducible first | exact HK.out | apply Kept.alloc | apply Kept.drewN | apply Kept.drew | refine Kept.setCell ?_ (.inr GW630.out) _) | exact HK.out)) (fun k_ e_ => (HO_2.out.1 k_ e_))); clear HO_1; clear HO_2; clear BK630; clear HB; clear HK; have HO_1 := n0_; have HO_2 := n1_; have BK630 := n2_; have HB := n3_; have HK := n4_; clear n0_ n1_ n2_ n3_ n4_; clear hg hw hp_; have hcz41_0 := bc BK630 0; have hcz41_1 := bc BK630 1; have hfz41_0 := bf BK630 0; have hfz41_1 := bf BK630 1) | ((with_reducible refine gate_callee (f := 70) rfl ?_); refine gL (some 57) rfl rfl Try.func70 (by kernel_rfl) rfl #[.agg #[.int .i64 a0_0, .string a0_1], .slice (some ⟨go23, 0, none⟩) x1_1.length co32, .slice (some ⟨go24, 0, none⟩) x2_1.length co31] rfl ?_; (with_reducible refine (ih k1 (by have := HK1.out; omega) a0_0 a0_1 (fun k_ => some k_ = (.slice (some ⟨go23, 0, none⟩) x1_1.length co32 : Value).ownBlock) (.slice (some ⟨go23, 0, none⟩) x1_1.length co32) y634 (fun k_ => some k_ = (.slice (some ⟨go24, 0, none⟩) x2_1.length co31 : Value).ownBlock) (.slice (some ⟨go24, 0, none⟩) x2_1.length co31) y636 t637 t638 t639 w0 _ ?side1 ?side2 ?side3 A26.out).mono ?_); (case side1 => repeat (first | (with_reducible first | exact HB.out | apply below_alloc | apply pw_below_drewN | apply below_drew1 | refine below_set ?_ GE630.out) | exact HB.out)); (case side2 => exact Kd.R_tight rfl HO_1.out); (case side3 => exact Kd.R_tight rfl HO_2.out); rintro e w42 ⟨rfl, hy0, hy1, hb, hkp⟩; refine ⟨_, rfl, ?_⟩; have n0_ := Aside0.mk (Kd.R_reok rfl hy0 (fun k_ e_ => HO_1.out.1 k_ e_)); have n1_ := Aside0.mk (Kd.R_reok rfl hy1 (fun k_ e_ => HO_2.out.1 k_ e_)); have n2_ := Aside0.mk (blk_kept (bk BK630) hkp (fun hs_ => Or.elim hs_ (fun e_ => (fun e_ => (Kd.R_ne HO_1.out BK630.out (by decide)) e_) e_) (fun e_ => (fun e_ => (Kd.R_ne HO_2.out BK630.out (by decide)) e_) e_))); have n3_ := Aside0.mk (Kept.then_ (S := (fun k_ => P1_ k_ ∨ P2_ k_)) (by repeat (first | (with_reducible first | exact HK.out | apply Kept.alloc | apply Kept.drewN | apply Kept.drew | refine Kept.setCell ?_ (.inr GW630.out) _) | exact HK.out)) hkp (fun k_ hs_ => Or.elim hs_ (fun e_ => (fun e_ => (HO_1.out.1 k_ e_.symm)) e_) (fun e_ => (fun e_ => (HO_2.out.1 k_ e_.symm)) e_))); have n4_ := Aside0.mk (hb); clear HO_1; clear HO_2; clear BK630; clear HK; clear HB; have HO_1 := n0_; have HO_2 := n1_; have BK630 := n2_; have HK := n3_; have HB := n4_; clear n0_ n1_ n2_ n3_ n4_; (try clear hb); (try clear hkp); (try clear hy0); (try clear hy1); have p27 : 0 ≤ (x9_1 : Int) := of_decide_eq_true (by first | (with_reducible assumption) | assumption); have q27 : (x9_1 : Int) < ((x2_1.length : Int) : Int) := of_decide_eq_true (by first | (with_reducible assumption) | assumption); obtain ⟨hx27_0, hf27_0⟩ := Kd.R_celln 0 HO_2.out (x9_1 : Int) p27 q27; replace p27 := eq_true p27; replace q27 := eq_true q27; obtain ⟨hy43_, hz43_⟩ := Kd.R_celln 0 HO_2.out (x9_1 : Int) (of_decide_eq_true (by first | (with_reducible assumption) | assumption)) (of_decide_eq_true (by first | (with_reducible assumption) | assumption)); have HP43 := Kd.R_putg HO_2.out (x9_1 : Int) (rd x2_1 x9_1)) | ((with_reducible refine gate_store (t := 3) (p := 62) rfl ?_); refine store_event (t := 3) (p := 62) (v := ?vo_w44) (w1 := (w42.setCell ⟨go24, (x9_1 : Int).toNat, none⟩ (.int .i64 (rd x2_1 x9_1)))) ?hg ?ho ?hn ?hr ?_; (case ho => rfl); (case hg => rfl); (case hn => rfl); (case hr => first | (go_simp; done) | (go_simp; rfl)); intro w44 hw; have hg : w42.grownBy w44 (some go24) := (by rw [hw]; exact HP43.2); have hp_ : Kd.R (Kd.int .i64) 3 w44 w0.heap.size (fun k_ => ((P1_ k_ ∨ P2_ k_) ∨ w.heap.size ≤ k_)) (.slice (some ⟨go24, 0, none⟩) x2_1.length co31) y640 := (by rw [hw, Ny640.out]; exact HP43.1); clear HP43; have n0_ := Aside0.mk (Kd.R_over' (v := (.slice (some ⟨go24, 0, none⟩) x2_1.length co31)) (rr HO_1) (Kd.R_typed HO_2.out) (by decide) hg); have n1_ := Aside0.mk (hp_); have n2_ := Aside0.mk (blk_grown (g := gb630) (o := .cells #[.int .i64 a0_0, .string a0_1] 28 (0, 0)) (bk BK630) hg (Kd.R_ne HO_2.out BK630.out (by decide))); have n3_ := Aside0.mk ((by rw [hw]; exact below_set (HB.out) GB24.out : Below w0.heap.size w0 w44)); have n4_ := Aside0.mk (Kept.of_grown (S := (fun k_ => P1_ k_ ∨ P2_ k_)) hg (by repeat (first | (with_reducible first | exact HK.out | apply Kept.alloc | apply Kept.drewN | apply Kept.drew | refine Kept.setCell ?_ (.inr GW630.out) _) | exact HK.out)) (fun k_ e_ => (HO_2.out.1 k_ e_))); clear HO_1; clear HO_2; clear BK630; clear HB; clear HK; have HO_1 := n0_; have HO_2 := n1_; have BK630 := n2_; have HB := n3_; have HK := n4_; clear n0_ n1_ n2_ n3_ n4_; clear hg hw hp_; have p28 : 0 ≤ ((ji8) : Int) := of_decide_eq_true (by first | (with_reducible assumption) | assumption); have q28 : ((ji8) : Int) < ((x2_1.length : Int) : Int) := of_decide_eq_true (by first | (with_reducible assumption) | assumption); obtain ⟨hx28_0, hf28_0⟩ := Kd.R_celln 0 HO_2.out ((ji8) : Int) p28 q28; replace p28 := eq_true p28; replace q28 := eq_true q28; obtain ⟨hy45_, hz45_⟩ := Kd.R_celln 0 HO_2.out ((ji8) : Int) (of_decide_eq_true (by first | (with_reducible assumption) | assumption)) (of_decide_eq_true (by first | (with_reducible assumption) | assumption)); have HP45 := Kd.R_putg HO_2.out ((ji8) : Int) (rd x2_1 (ji8))) | ((with_reducible refine gate_store (t := 3) (p := 67) rfl ?_); refine store_event (t := 3) (p := 67) (v := ?vo_w46) (w1 := (w44.setCell ⟨go24, ((ji8) : Int).toNat, none⟩ (.int .i64 (rd x2_1 (ji8))))) ?hg ?ho ?hn ?hr ?_; (case ho => rfl); (case hg => rfl); (case hn => rfl); (case hr => first | (go_simp; done) | (go_simp; rfl)); intro w46 hw; have hg : w44.grownBy w46 (some go24) := (by rw [hw]; exact HP45.2); have hp_ : Kd.R (Kd.int .i64) 3 w46 w0.heap.size (fun k_ => ((P1_ k_ ∨ P2_ k_) ∨ w.heap.size ≤ k_)) (.slice (some ⟨go24, 0, none⟩) x2_1.length co31) y641 := (by rw [hw, Ny641.out]; exact HP45.1); clear HP45; have n0_ := Aside0.mk (Kd.R_over' (v := (.slice (some ⟨go24, 0, none⟩) x2_1.length co31)) (rr HO_1) (Kd.R_typed HO_2.out) (by decide) hg); have n1_ := Aside0.mk (hp_); have n2_ := Aside0.mk (blk_grown (g := gb630) (o := .cells #[.int .i64 a0_0, .string a0_1] 28 (0, 0)) (bk BK630) hg (Kd.R_ne HO_2.out BK630.out (by decide))); have n3_ := Aside0.mk ((by rw [hw]; exact below_set (HB.out) GB24.out : Below w0.heap.size w0 w46)); have n4_ := Aside0.mk (Kept.of_grown (S := (fun k_ => P1_ k_ ∨ P2_ k_)) hg (by repeat (first | (with_reducible first | exact HK.out | apply Kept.alloc | apply Kept.drewN | apply Kept.drew | refine Kept.setCell ?_ (.inr GW630.out) _) | exact HK.out)) (fun k_ e_ => (HO_2.out.1 k_ e_))); clear HO_1; clear HO_2; clear BK630; clear HB; clear HK; have HO_1 := n0_; have HO_2 := n1_; have BK630 := n2_; have HB := n3_; have HK := n4_; clear n0_ n1_ n2_ n3_ n4_; clear hg hw hp_; have hcz47_0 := bc BK630 0; have hcz47_1 := bc BK630 1; have hfz47_0 := bf BK630 0; have hfz47_1 := bf BK630 1; have p29 : 0 ≤ ((ji20) : Int) := of_decide_eq_true (by first | (with_reducible assumption) | assumption); have q29 : ((ji20) : Int) < ((x1_1.length : Int) : Int) := of_decide_eq_true (by first | (with_reducible assumption) | assumption); obtain ⟨hx29_0, hf29_0⟩ := Kd.R_celln false HO_1.out ((ji20) : Int) p29 q29; replace p29 := eq_true p29; replace q29 := eq_true q29; obtain ⟨hy48_, hz48_⟩ := Kd.R_celln false HO_1.out ((ji20) : Int) (of_decide_eq_true (by first | (with_reducible assumption) | assumption)) (of_decide_eq_true (by first | (with_reducible assumption) | assumption)); have HP48 := Kd.R_putg HO_1.out ((ji20) : Int) false) | ((with_reducible refine gate_store (t := 4) (p := 75) rfl ?_); refine store_event (t := 4) (p := 75) (v := ?vo_w49) (w1 := (w46.setCell ⟨go23, ((ji20) : Int).toNat, none⟩ (.bool false))) ?hg ?ho ?hn ?hr ?_; (case ho => rfl); (case hg => rfl); (case hn => rfl); (case hr => first | (go_simp; done) | (go_simp; rfl)); intro w49 hw; have hg : w46.grownBy w49 (some go23) := (by rw [hw]; exact HP48.2); have hp_ : Kd.R Kd.bool 4 w49 w0.heap.size (fun k_ => ((P1_ k_ ∨ P2_ k_) ∨ w.heap.size ≤ k_)) (.slice (some ⟨go23, 0, none⟩) x1_1.length co32) y642 := (by rw [hw, Ny642.out]; exact HP48.1); clear HP48; have n0_ := Aside0.mk (hp_); have n1_ := Aside0.mk (Kd.R_over' (v := (.slice (some ⟨go23, 0, none⟩) x1_1.length co32)) (rr HO_2) (Kd.R_typed HO_1.out) (by decide) hg); have n2_ := Aside0.mk (blk_grown (g := gb630) (o := .cells #[.int .i64 a0_0, .string a0_1] 28 (0, 0)) (bk BK630) hg (Kd.R_ne HO_1.out BK630.out (by decide))); have n3_ := Aside0.mk ((by rw [hw]; exact below_set (HB.out) GB23.out : Below w0.heap.size w0 w49)); have n4_ := Aside0.mk (Kept.of_grown (S := (fun k_ => P1_ k_ ∨ P2_ k_)) hg (by repeat (first | (with_reducible first | exact HK.out | apply Kept.alloc | apply Kept.drewN | apply Kept.drew | refine Kept.setCell ?_ (.inr GW630.out) _) | exact HK.out)) (fun k_ e_ => (HO_1.out.1 k_ e_))); clear HO_1; clear HO_2; clear BK630; clear HB; clear HK; have HO_1 := n0_; have HO_2 := n1_; have BK630 := n2_; have HB := n3_; have HK := n4_; clear n0_ n1_ n2_ n3_ n4_; clear hg hw hp_))
            go_roundg k1
            case measure => have := HK1.out; omega
            case rel => exact ⟨(y642), (y641), (wrap64 (x7_1 + t637)), (true), (ji8), (by first | rfl | (simp; done) | (simp [*]; done)), (by first | rfl | (simp; done) | (simp [*]; done)), (by first | rfl | (simp; done) | (simp only [← hji8] <;> (first | rfl | simp)) | (simp [*]; done)), H', ⟨by have := HK1.out; omega⟩, ⟨by (with_reducible repeat (first | apply Kd.R_alloc | apply Kd.R_drewN | apply Kd.R_drew)); exact HO_1.out⟩, ⟨by (with_reducible repeat (first | apply Kd.R_alloc | apply Kd.R_drewN | apply Kd.R_drew)); exact HO_2.out⟩, ⟨by (with_reducible repeat (first | refine blk_drewN ?_ _ | refine blk_drew ?_ | refine blk_alloc ?_ _)); exact BK630.out⟩, ⟨by repeat (first | (with_reducible first | exact HK.out | apply Kept.alloc | apply Kept.drewN | apply Kept.drew | refine Kept.setCell ?_ (.inr GW630.out) _) | exact HK.out)⟩, ⟨(bg HB GE630)⟩⟩
           ·rw [if_neg c22] at H
            exact absurd H (by simp)
          ·rw [if_neg c21] at H
           exact absurd H (by simp)
       ·rw [if_neg c10] at H
        exact absurd H (by simp)
      ·rw [if_neg c9] at H
       exact absurd H (by simp)
     ·rw [if_neg c7] at H
      exact absurd H (by simp)
    ·rw [if_neg c6] at H
     exact absurd H (by simp)
   ·rw [if_neg c5] at H
    have c5b0 : decide ((wrap64 (x9_1 + 1)) < a0_0) = false := decide_eq_false c5
    clear c5
    by_cases c50 : x8_1 = true
    ·subst c50
     have H1 : (some (x7_1, x1_1, x2_1)) = some (r1, r2, r3) := by rw [if_pos rfl] at H; exact H
     clear H
     have H := H1
     clear H1
     simp only [Option.some.injEq, Prod.mk.injEq] at H
     obtain ⟨rfl, rfl, rfl⟩ := H
     have hcz51_0 := bc BK630 0
     have hcz51_1 := bc BK630 1
     have hfz51_0 := bf BK630 0
     have hfz51_1 := bf BK630 1
     go_wp2
     go_ret
     exact ⟨by first | rfl | (simp [errW_none, errW_some] <;> rfl) | (simp [*, errW_none, errW_some] <;> rfl), by (with_reducible repeat (first | apply Kd.R_alloc | apply Kd.R_drewN | apply Kd.R_drew)); exact HO_1.out, by (with_reducible repeat (first | apply Kd.R_alloc | apply Kd.R_drewN | apply Kd.R_drew)); exact HO_2.out, (bg HB GE630), by repeat (first | (with_reducible first | exact HK.out | apply Kept.alloc | apply Kept.drewN | apply Kept.drew | refine Kept.setCell ?_ (.inr GW630.out) _) | exact HK.out)⟩
    ·replace c50 := Bool.eq_false_iff.mpr c50
     subst c50
     have H1 : (some (1, x1_1, x2_1)) = some (r1, r2, r3) := by rw [if_neg (show ¬ (false = true) by decide)] at H; exact H
     clear H
     have H := H1
     clear H1
     simp only [Option.some.injEq, Prod.mk.injEq] at H
     obtain ⟨rfl, rfl, rfl⟩ := H
     have hcz52_0 := bc BK630 0
     have hcz52_1 := bc BK630 1
     have hfz52_0 := bf BK630 0
     have hfz52_1 := bf BK630 1
     go_wp2
     go_ret
     exact ⟨by first | rfl | (simp [errW_none, errW_some] <;> rfl) | (simp [*, errW_none, errW_some] <;> rfl), by (with_reducible repeat (first | apply Kd.R_alloc | apply Kd.R_drewN | apply Kd.R_drew)); exact HO_1.out, by (with_reducible repeat (first | apply Kd.R_alloc | apply Kd.R_drewN | apply Kd.R_drew)); exact HO_2.out, (bg HB GE630), by repeat (first | (with_reducible first | exact HK.out | apply Kept.alloc | apply Kept.drewN | apply Kept.drew | refine Kept.setCell ?_ (.inr GW630.out) _) | exact HK.out)⟩

end Go.Proofs.Ythibphndihjcaaa.P
