-- Printed by a program of this session (wip/tools/myprint.py, over the kit's print.py); not trusted: Lean checks it.
import Derived.Test.YtiimkifkakdalaaP0
import Derived.Test.YtiimkifkakdalaaP108
import Derived.Test.YtiimkifkakdalaaP68
namespace Go.Proofs.Ytiimkifkakdalaa.P
open Go.RowKit Go.Proofs.YtiimkifkakdalaaW.PrintWords Go.Proofs.YtiimkifkakdalaaW.PrintLast Go.Proofs.YtiimkifkakdalaaW.PrintMore
attribute [local go_sem] max2_int min2_int max_two min_two max_three min_three max_four min_four   -- for this text's walks alone
set_option linter.unusedVariables false
set_option linter.unusedSimpArgs false

/-! ### impl_isConnected: function 38 -/
mutual
def impl_isConnected.l0 : Nat → Int → Int → Int → Bool → Option (Bool)
 | 0, _, _, _, _ => none
 | k + 1, x0, x1, x5, x6 => if x6 = true then ((impl_edgesOf.f k x0).bind fun t261 => (impl_isConnected.l1 k x0 x1 x5 false t261 (t261.length : Int) 0)) else ((impl_fullSet.f x0).bind fun t260 => (some (x5 == t260)))
def impl_isConnected.l1 : Nat → Int → Int → Int → Bool → List (S72) → Int → Int → Option (Bool)
 | 0, _, _, _, _, _, _, _ => none
 | k + 1, x0, x1, x5, x6, x12, x13, x14 => if x14 < x13 then (if 0 ≤ x14 then (if x14 < (x12.length : Int) then (if 0 ≤ ((rd_T72 x12 x14).f0) then (if 0 ≤ ((rd_T72 x12 x14).f1) then (if (Go.bits .and .i64 (shr .i64 x1 x14) 1) = 1 then (if (Go.bits .and .i64 x5 (Go.bits .or .i64 (shl .i64 1 ((rd_T72 x12 x14).f0)) (shl .i64 1 ((rd_T72 x12 x14).f1)))) = 0 then (impl_isConnected.l1 k x0 x1 x5 x6 x12 x13 (wrap64 (x14 + 1))) else (if (Go.bits .and .i64 x5 (Go.bits .or .i64 (shl .i64 1 ((rd_T72 x12 x14).f0)) (shl .i64 1 ((rd_T72 x12 x14).f1)))) = (Go.bits .or .i64 (shl .i64 1 ((rd_T72 x12 x14).f0)) (shl .i64 1 ((rd_T72 x12 x14).f1))) then (impl_isConnected.l1 k x0 x1 x5 x6 x12 x13 (wrap64 (x14 + 1))) else (impl_isConnected.l1 k x0 x1 (Go.bits .or .i64 x5 (Go.bits .or .i64 (shl .i64 1 ((rd_T72 x12 x14).f0)) (shl .i64 1 ((rd_T72 x12 x14).f1)))) true x12 x13 (wrap64 (x14 + 1))))) else (impl_isConnected.l1 k x0 x1 x5 x6 x12 x13 (wrap64 (x14 + 1)))) else (none)) else (none)) else (none)) else (none)) else (impl_isConnected.l0 k x0 x1 x5 x6)
end
def impl_isConnected.f (k : Nat) (a0 : Int) (a1 : Int) : Option (Bool) := impl_isConnected.l0 k a0 a1 1 true
theorem impl_isConnected.mono_l : ∀ k, (∀ y0 y1 y2 y3, LeO (impl_isConnected.l0 k y0 y1 y2 y3) (impl_isConnected.l0 (k + 1) y0 y1 y2 y3)) ∧ (∀ y0 y1 y2 y3 y4 y5 y6, LeO (impl_isConnected.l1 k y0 y1 y2 y3 y4 y5 y6) (impl_isConnected.l1 (k + 1) y0 y1 y2 y3 y4 y5 y6))
 | 0 => ⟨fun _ _ _ _ r h => by simp [impl_isConnected.l0] at h, fun _ _ _ _ _ _ _ r h => by simp [impl_isConnected.l1] at h⟩
 | k + 1 => by
  obtain ⟨ih0, ih1⟩ := impl_isConnected.mono_l k
  refine ⟨?_, ?_⟩
  ·intro y0 y1 y2 y3
   unfold impl_isConnected.l0
   repeat' first
   | (with_reducible exact ih0 _ _ _ _)
   | (with_reducible exact ih1 _ _ _ _ _ _ _)
   | (with_reducible exact impl_edgesOf.mono _ _)
   | (with_reducible exact LeO.refl _)
   | (with_reducible exact LeO.none _)
   | (with_reducible refine LeO.ite ?_ ?_)
   | (with_reducible refine LeO.bind ?_ (fun _ => ?_))
   | exact ih0 _ _ _ _
   | exact ih1 _ _ _ _ _ _ _
   | exact impl_edgesOf.mono _ _
   | exact LeO.none _
   | refine LeO.ite ?_ ?_
   | refine LeO.bind ?_ (fun _ => ?_)
  ·intro y0 y1 y2 y3 y4 y5 y6
   unfold impl_isConnected.l1
   repeat' first
   | (with_reducible exact ih0 _ _ _ _)
   | (with_reducible exact ih1 _ _ _ _ _ _ _)
   | (with_reducible exact impl_edgesOf.mono _ _)
   | (with_reducible exact LeO.refl _)
   | (with_reducible exact LeO.none _)
   | (with_reducible refine LeO.ite ?_ ?_)
   | (with_reducible refine LeO.bind ?_ (fun _ => ?_))
   | exact ih0 _ _ _ _
   | exact ih1 _ _ _ _ _ _ _
   | exact impl_edgesOf.mono _ _
   | exact LeO.none _
   | refine LeO.ite ?_ ?_
   | refine LeO.bind ?_ (fun _ => ?_)
theorem impl_isConnected.mono : ∀ a0 a1 k, LeO (impl_isConnected.f k a0 a1) (impl_isConnected.f (k + 1) a0 a1) := by
 intro a0 a1 k
 obtain ⟨ih0, ih1⟩ := impl_isConnected.mono_l k
 unfold impl_isConnected.f
 repeat' first
   | (with_reducible exact ih0 _ _ _ _)
   | (with_reducible exact ih1 _ _ _ _ _ _ _)
   | (with_reducible exact impl_edgesOf.mono _ _)
   | (with_reducible exact LeO.refl _)
   | (with_reducible exact LeO.none _)
   | (with_reducible refine LeO.ite ?_ ?_)
   | (with_reducible refine LeO.bind ?_ (fun _ => ?_))
   | exact ih0 _ _ _ _
   | exact ih1 _ _ _ _ _ _ _
   | exact impl_edgesOf.mono _ _
   | exact LeO.none _
   | refine LeO.ite ?_ ?_
   | refine LeO.bind ?_ (fun _ => ?_)
set_option maxHeartbeats 8000000 in
set_option maxRecDepth 100000 in
theorem impl_isConnected.calls (k : Nat) (a0 : Int) (a1 : Int) (r : Bool) (w : World) (h : impl_isConnected.f k a0 a1 = some r) :
  Calls Try.prog 38 #[.int .i64 a0, .int .i64 a1] w fun e w' => e = .returned (.bool r) ∧ Below w.heap.size w w' := by
 have hu72 := Try.underlying72
 have HB := Aside0.mk (Below.refl w.heap.size w)
 have H : (impl_isConnected.l0 k a0 a1 1 true) = some r := h
 clear h
 have H' := Aside0.mk H
 clear H
 go_enter Try.func38, Try.ntmps38
 go_wp2
 repeat (go_quiet (fail); try go_wp2)
 go_loopg [5, 6] k (fun kq v5 v6 w' => ∃ (x5_1 : Int) (x6_1 : Bool), v5 = .int .i64 x5_1 ∧ v6 = .bool x6_1 ∧ Aside0 (impl_isConnected.l0 kq a0 a1 x5_1 x6_1 = some r) ∧ Aside0 (kq ≤ k) ∧ Aside0 (Below w.heap.size w w'))
 case atStart => exact ⟨(1), (true), (by first | rfl | (simp; done) | (simp [*]; done)), (by first | rfl | (simp; done) | (simp [*]; done)), H', ⟨Nat.le_refl _⟩, ⟨(bl HB)⟩⟩
 case round =>
  clear H'
  try clear p2
  obtain ⟨x5_1, x6_1, rfl, rfl, HA, HK1, HB⟩ := hrel
  cases gk with
  | zero => exact absurd HA.out (by simp [impl_isConnected.l0])
  | succ k1 =>
   have H := HA.out
   clear HA
   simp only [impl_isConnected.l0] at H
   by_cases c3 : x6_1 = true
   ·subst c3
    have H1 : ((impl_edgesOf.f k1 a0).bind fun t261 => (impl_isConnected.l1 k1 a0 a1 x5_1 false t261 (t261.length : Int) 0)) = some r := by rw [if_pos rfl] at H; exact H
    clear H
    have H := H1
    clear H1
    replace H := Option.bind_eq_some_iff.mp H
    obtain ⟨t261, A40, H⟩ := H
    (try dsimp only at H)
    have A4 := Aside0.mk A40
    clear A40
    have H' := Aside0.mk H
    clear H
    go_wp2_with (first | (go_at_call 58; (with_reducible refine (impl_edgesOf.calls k1 a0 t261 _ A4.out).mono ?_); rintro e w5 ⟨v262, rfl, ho0, hb⟩; have n0_ := Aside0.mk (Kd.R_lower ho0 (below_size (bl HB))); have n1_ := bs HB hb; clear HB; have HO263 := n0_; have HB := n1_; clear n0_ n1_; (try clear hb); (try clear hb2); (try clear hk); (try clear hi); (try clear ho0); obtain ⟨Ao6, co6, eo6⟩ := Kd.R_slice HO263.out; subst eo6))
    repeat (go_quiet (first | (go_at_call 58; (with_reducible refine (impl_edgesOf.calls k1 a0 t261 _ A4.out).mono ?_); rintro e w5 ⟨v262, rfl, ho0, hb⟩; have n0_ := Aside0.mk (Kd.R_lower ho0 (below_size (bl HB))); have n1_ := bs HB hb; clear HB; have HO263 := n0_; have HB := n1_; clear n0_ n1_; (try clear hb); (try clear hb2); (try clear hk); (try clear hi); (try clear ho0); obtain ⟨Ao6, co6, eo6⟩ := Kd.R_slice HO263.out; subst eo6)); try go_wp2_with (first | (go_at_call 58; (with_reducible refine (impl_edgesOf.calls k1 a0 t261 _ A4.out).mono ?_); rintro e w5 ⟨v262, rfl, ho0, hb⟩; have n0_ := Aside0.mk (Kd.R_lower ho0 (below_size (bl HB))); have n1_ := bs HB hb; clear HB; have HO263 := n0_; have HB := n1_; clear n0_ n1_; (try clear hb); (try clear hb2); (try clear hk); (try clear hi); (try clear ho0); obtain ⟨Ao6, co6, eo6⟩ := Kd.R_slice HO263.out; subst eo6)))
    go_loopg [5, 6, 14] k1 (fun kq v5 v6 v14 w' => ∃ (x5_2 : Int) (x6_2 : Bool) (x14_2 : Int), v5 = .int .i64 x5_2 ∧ v6 = .bool x6_2 ∧ v14 = .int .i64 x14_2 ∧ Aside0 (impl_isConnected.l1 kq a0 a1 x5_2 x6_2 t261 (t261.length : Int) x14_2 = some r) ∧ Aside0 (kq ≤ k1) ∧ Aside0 (Kd.R k72 72 w' w.heap.size (fun _ => True) (.slice Ao6 t261.length co6) t261) ∧ Aside0 (Below w.heap.size w w'))
    case atStart => exact ⟨(x5_1), (false), (0), (by first | rfl | (simp; done) | (simp [*]; done)), (by first | rfl | (simp; done) | (simp [*]; done)), (by first | rfl | (simp; done) | (simp [*]; done)), H', ⟨Nat.le_refl _⟩, ⟨by (with_reducible repeat (first | apply Kd.R_alloc | apply Kd.R_drewN | apply Kd.R_drew)); exact HO263.out⟩, ⟨(bl HB)⟩⟩
    case round =>
     clear H'
     try clear p2
     try clear c3
     try clear p2
     obtain ⟨x5_2, x6_2, x14_2, rfl, rfl, rfl, HA, HK2, HO_12, HB⟩ := hrel
     cases gk with
     | zero => exact absurd HA.out (by simp [impl_isConnected.l1])
     | succ k2 =>
      have H := HA.out
      clear HA
      simp only [impl_isConnected.l1] at H
      by_cases c7 : x14_2 < (t261.length : Int)
      ·rw [if_pos c7] at H
       have c7b0 : decide (x14_2 < (t261.length : Int)) = true := decide_eq_true c7
       clear c7
       by_cases c8 : 0 ≤ x14_2
       ·rw [if_pos c8] at H
        have c8b0 : decide (0 ≤ x14_2) = true := decide_eq_true c8
        clear c8
        by_cases c9 : x14_2 < (t261.length : Int)
        ·rw [if_pos c9] at H
         have c9b0 : decide (x14_2 < (t261.length : Int)) = true := decide_eq_true c9
         clear c9
         by_cases c10 : 0 ≤ ((rd_T72 t261 x14_2).f0)
         ·rw [if_pos c10] at H
          have c10b0 := eq_true c10
          have c10b1 : decide (0 ≤ ((rd_T72 t261 x14_2).f0)) = true := decide_eq_true c10
          clear c10
          obtain ⟨ji11, hji11⟩ : ∃ j_ : Int, (shl .i64 1 ((rd_T72 t261 x14_2).f0)) = j_ := ⟨_, rfl⟩
          replace H : (if 0 ≤ ((rd_T72 t261 x14_2).f1) then (if (Go.bits .and .i64 (shr .i64 a1 x14_2) 1) = 1 then (if (Go.bits .and .i64 x5_2 (Go.bits .or .i64 (ji11) (shl .i64 1 ((rd_T72 t261 x14_2).f1)))) = 0 then (impl_isConnected.l1 k2 a0 a1 x5_2 x6_2 t261 (t261.length : Int) (wrap64 (x14_2 + 1))) else (if (Go.bits .and .i64 x5_2 (Go.bits .or .i64 (ji11) (shl .i64 1 ((rd_T72 t261 x14_2).f1)))) = (Go.bits .or .i64 (ji11) (shl .i64 1 ((rd_T72 t261 x14_2).f1))) then (impl_isConnected.l1 k2 a0 a1 x5_2 x6_2 t261 (t261.length : Int) (wrap64 (x14_2 + 1))) else (impl_isConnected.l1 k2 a0 a1 (Go.bits .or .i64 x5_2 (Go.bits .or .i64 (ji11) (shl .i64 1 ((rd_T72 t261 x14_2).f1)))) true t261 (t261.length : Int) (wrap64 (x14_2 + 1))))) else (impl_isConnected.l1 k2 a0 a1 x5_2 x6_2 t261 (t261.length : Int) (wrap64 (x14_2 + 1)))) else (none)) = some r := by first | (rw [hji11] at H; exact H) | (simp only [hji11] at H ⊢; exact H)
          have hji11_ : (IntKind.i64.wrap (1 * 2 ^ min ((rd_T72 t261 x14_2).f0).toNat 64)) = ji11 := hji11
          have hji11z : ((rd_T72 t261 x14_2).f0) ≤ 64 → (IntKind.i64.wrap (1 * 2 ^ ((rd_T72 t261 x14_2).f0).toNat)) = ji11 := shl_small hji11
          have hji11u : (IntKind.i64.wrap (2 ^ min ((rd_T72 t261 x14_2).f0).toNat 64)) = ji11 := by have h_ := hji11_; rw [Int.one_mul] at h_; exact h_
          have hji11v : ((rd_T72 t261 x14_2).f0) ≤ 64 → (IntKind.i64.wrap (2 ^ ((rd_T72 t261 x14_2).f0).toNat)) = ji11 := fun hle_ => by have h_ := hji11z hle_; rw [Int.one_mul] at h_; exact h_
          have hji11y : (wrap64 (1 * 2 ^ min ((rd_T72 t261 x14_2).f0).toNat 64)) = ji11 := (i64_w _).symm.trans hji11_
          have hji11x : ((rd_T72 t261 x14_2).f0) ≤ 64 → (wrap64 (1 * 2 ^ ((rd_T72 t261 x14_2).f0).toNat)) = ji11 := fun h_ => (i64_w _).symm.trans (hji11z h_)
          by_cases c12 : 0 ≤ ((rd_T72 t261 x14_2).f1)
          ·rw [if_pos c12] at H
           have c12b0 := eq_true c12
           have c12b1 : decide (0 ≤ ((rd_T72 t261 x14_2).f1)) = true := decide_eq_true c12
           clear c12
           obtain ⟨ji13, hji13⟩ : ∃ j_ : Int, (shl .i64 1 ((rd_T72 t261 x14_2).f1)) = j_ := ⟨_, rfl⟩
           replace H : (if (Go.bits .and .i64 (shr .i64 a1 x14_2) 1) = 1 then (if (Go.bits .and .i64 x5_2 (Go.bits .or .i64 (ji11) (ji13))) = 0 then (impl_isConnected.l1 k2 a0 a1 x5_2 x6_2 t261 (t261.length : Int) (wrap64 (x14_2 + 1))) else (if (Go.bits .and .i64 x5_2 (Go.bits .or .i64 (ji11) (ji13))) = (Go.bits .or .i64 (ji11) (ji13)) then (impl_isConnected.l1 k2 a0 a1 x5_2 x6_2 t261 (t261.length : Int) (wrap64 (x14_2 + 1))) else (impl_isConnected.l1 k2 a0 a1 (Go.bits .or .i64 x5_2 (Go.bits .or .i64 (ji11) (ji13))) true t261 (t261.length : Int) (wrap64 (x14_2 + 1))))) else (impl_isConnected.l1 k2 a0 a1 x5_2 x6_2 t261 (t261.length : Int) (wrap64 (x14_2 + 1)))) = some r := by first | (rw [hji13] at H; exact H) | (simp only [hji13] at H ⊢; exact H)
           have hji13_ : (IntKind.i64.wrap (1 * 2 ^ min ((rd_T72 t261 x14_2).f1).toNat 64)) = ji13 := hji13
           have hji13z : ((rd_T72 t261 x14_2).f1) ≤ 64 → (IntKind.i64.wrap (1 * 2 ^ ((rd_T72 t261 x14_2).f1).toNat)) = ji13 := shl_small hji13
           have hji13u : (IntKind.i64.wrap (2 ^ min ((rd_T72 t261 x14_2).f1).toNat 64)) = ji13 := by have h_ := hji13_; rw [Int.one_mul] at h_; exact h_
           have hji13v : ((rd_T72 t261 x14_2).f1) ≤ 64 → (IntKind.i64.wrap (2 ^ ((rd_T72 t261 x14_2).f1).toNat)) = ji13 := fun hle_ => by have h_ := hji13z hle_; rw [Int.one_mul] at h_; exact h_
           have hji13y : (wrap64 (1 * 2 ^ min ((rd_T72 t261 x14_2).f1).toNat 64)) = ji13 := (i64_w _).symm.trans hji13_
           have hji13x : ((rd_T72 t261 x14_2).f1) ≤ 64 → (wrap64 (1 * 2 ^ ((rd_T72 t261 x14_2).f1).toNat)) = ji13 := fun h_ => (i64_w _).symm.trans (hji13z h_)
           have c14b0 := eq_true (of_decide_eq_true (by first | (with_reducible assumption) | assumption) : 0 ≤ x14_2)
           obtain ⟨ji15, hji15⟩ : ∃ j_ : Int, (shr .i64 a1 x14_2) = j_ := ⟨_, rfl⟩
           replace H : (if (Go.bits .and .i64 (ji15) 1) = 1 then (if (Go.bits .and .i64 x5_2 (Go.bits .or .i64 (ji11) (ji13))) = 0 then (impl_isConnected.l1 k2 a0 a1 x5_2 x6_2 t261 (t261.length : Int) (wrap64 (x14_2 + 1))) else (if (Go.bits .and .i64 x5_2 (Go.bits .or .i64 (ji11) (ji13))) = (Go.bits .or .i64 (ji11) (ji13)) then (impl_isConnected.l1 k2 a0 a1 x5_2 x6_2 t261 (t261.length : Int) (wrap64 (x14_2 + 1))) else (impl_isConnected.l1 k2 a0 a1 (Go.bits .or .i64 x5_2 (Go.bits .or .i64 (ji11) (ji13))) true t261 (t261.length : Int) (wrap64 (x14_2 + 1))))) else (impl_isConnected.l1 k2 a0 a1 x5_2 x6_2 t261 (t261.length : Int) (wrap64 (x14_2 + 1)))) = some r := by first | (rw [hji15] at H; exact H) | (simp only [hji15] at H ⊢; exact H)
           have hji15_ : (a1 / 2 ^ min x14_2.toNat 64) = ji15 := hji15
           have hji15z : x14_2 ≤ 64 → (a1 / 2 ^ x14_2.toNat) = ji15 := shr_small hji15
           by_cases c16 : (Go.bits .and .i64 (ji15) 1) = 1
           ·rw [if_pos c16] at H
            have c16b0 : ((Go.bits .and .i64 (ji15) 1) == 1) = true := beq_iff_eq.mpr c16
            have c16b1 : ((Go.bits .and .i64 (ji15) 1) != 1) = false := bne_eq_false_iff_eq.mpr c16
            clear c16
            by_cases c17 : (Go.bits .and .i64 x5_2 (Go.bits .or .i64 (ji11) (ji13))) = 0
            ·rw [if_pos c17] at H
             have c17b0 : ((Go.bits .and .i64 x5_2 (Go.bits .or .i64 (ji11) (ji13))) == 0) = true := beq_iff_eq.mpr c17
             have c17b1 : ((Go.bits .and .i64 x5_2 (Go.bits .or .i64 (ji11) (ji13))) != 0) = false := bne_eq_false_iff_eq.mpr c17
             clear c17
             have H' := Aside0.mk H
             clear H
             have p264 : 0 ≤ (x14_2 : Int) := of_decide_eq_true (by first | (with_reducible assumption) | assumption)
             have q264 : x14_2 < (t261.length : Int) := of_decide_eq_true (by first | (with_reducible assumption) | assumption)
             obtain ⟨ad264, e264, hx264_0, hx264_1⟩ := at_T72 (Kd.R_reads' HO_12.out).2.2 x14_2 p264 q264
             cases e264
             replace p264 := eq_true p264
             replace q264 := eq_true q264
             go_wp2_with (first | ((with_reducible refine gate_dst (N := 8) rfl ?_); refine bx 8 #[.int .i64 0, .int .i64 0] 72 ?_; intro gb265 hg w18 hbox hb; have n0_ := Aside0.mk (Kd.R_below (Kd.R_elderB (rr HO_12) gb265 (Nat.le_of_eq hg.symm)) hb); have n1_ := bs HB hb; have n2_ := Aside0.mk (hbox); have n3_ := Aside0.mk ((by rw [hg]; exact (below_size (bl HB)) : w.heap.size ≤ gb265)); have n4_ := Aside0.mk ((by rw [hg]; exact (below_size (bl HB)) : w.heap.size ≤ gb265)); clear HO_12; clear HB; have HO_12 := n0_; have HB := n1_; have BK265 := n2_; have GW265 := n3_; have GE265 := n4_; clear n0_ n1_ n2_ n3_ n4_; clear hb hbox hg; have hcz19_0 := bc BK265 0; have hcz19_1 := bc BK265 1; have hfz19_0 := bf BK265 0; have hfz19_1 := bf BK265 1))
             repeat (go_quiet (first | ((with_reducible refine gate_dst (N := 8) rfl ?_); refine bx 8 #[.int .i64 0, .int .i64 0] 72 ?_; intro gb265 hg w18 hbox hb; have n0_ := Aside0.mk (Kd.R_below (Kd.R_elderB (rr HO_12) gb265 (Nat.le_of_eq hg.symm)) hb); have n1_ := bs HB hb; have n2_ := Aside0.mk (hbox); have n3_ := Aside0.mk ((by rw [hg]; exact (below_size (bl HB)) : w.heap.size ≤ gb265)); have n4_ := Aside0.mk ((by rw [hg]; exact (below_size (bl HB)) : w.heap.size ≤ gb265)); clear HO_12; clear HB; have HO_12 := n0_; have HB := n1_; have BK265 := n2_; have GW265 := n3_; have GE265 := n4_; clear n0_ n1_ n2_ n3_ n4_; clear hb hbox hg; have hcz19_0 := bc BK265 0; have hcz19_1 := bc BK265 1; have hfz19_0 := bf BK265 0; have hfz19_1 := bf BK265 1)); try go_wp2_with (first | ((with_reducible refine gate_dst (N := 8) rfl ?_); refine bx 8 #[.int .i64 0, .int .i64 0] 72 ?_; intro gb265 hg w18 hbox hb; have n0_ := Aside0.mk (Kd.R_below (Kd.R_elderB (rr HO_12) gb265 (Nat.le_of_eq hg.symm)) hb); have n1_ := bs HB hb; have n2_ := Aside0.mk (hbox); have n3_ := Aside0.mk ((by rw [hg]; exact (below_size (bl HB)) : w.heap.size ≤ gb265)); have n4_ := Aside0.mk ((by rw [hg]; exact (below_size (bl HB)) : w.heap.size ≤ gb265)); clear HO_12; clear HB; have HO_12 := n0_; have HB := n1_; have BK265 := n2_; have GW265 := n3_; have GE265 := n4_; clear n0_ n1_ n2_ n3_ n4_; clear hb hbox hg; have hcz19_0 := bc BK265 0; have hcz19_1 := bc BK265 1; have hfz19_0 := bf BK265 0; have hfz19_1 := bf BK265 1)))
             go_roundg k2
             case measure => have := HK1.out; have := HK2.out; omega
             case rel => exact ⟨(x5_2), (x6_2), (wrap64 (x14_2 + 1)), (by first | rfl | (simp; done) | (simp [*]; done)), (by first | rfl | (simp; done) | (simp [*]; done)), (by first | rfl | (simp; done) | (simp [*]; done)), H', ⟨by have := HK1.out; have := HK2.out; omega⟩, ⟨by (with_reducible repeat (first | apply Kd.R_alloc | apply Kd.R_drewN | apply Kd.R_drew)); exact Kd.R_mono (Kd.R_far (p := ⟨gb265, 1, none⟩) (Kd.R_far (p := ⟨gb265, 0, none⟩) (Kd.R_mono HO_12.out (fun k_ hk => (⟨hk, hk.2⟩ : _ ∧ k_ ≠ gb265))) (fun _ hk => hk.2) (.int .i64 ((rd_T72 t261 x14_2).f0))) (fun _ hk => hk.2) (.int .i64 ((rd_T72 t261 x14_2).f1))) (fun _ hk => trivial)⟩, ⟨(bg HB GE265)⟩⟩
            ·rw [if_neg c17] at H
             have c17b0 : ((Go.bits .and .i64 x5_2 (Go.bits .or .i64 (ji11) (ji13))) == 0) = false := beq_eq_false_iff_ne.mpr c17
             have c17b1 : ((Go.bits .and .i64 x5_2 (Go.bits .or .i64 (ji11) (ji13))) != 0) = true := bne_iff_ne.mpr c17
             by_cases c20 : (Go.bits .and .i64 x5_2 (Go.bits .or .i64 (ji11) (ji13))) = (Go.bits .or .i64 (ji11) (ji13))
             ·rw [if_pos c20] at H
              have c20b0 : ((Go.bits .and .i64 x5_2 (Go.bits .or .i64 (ji11) (ji13))) == (Go.bits .or .i64 (ji11) (ji13))) = true := beq_iff_eq.mpr c20
              have c20b1 : ((Go.bits .and .i64 x5_2 (Go.bits .or .i64 (ji11) (ji13))) != (Go.bits .or .i64 (ji11) (ji13))) = false := bne_eq_false_iff_eq.mpr c20
              clear c20
              have H' := Aside0.mk H
              clear H
              have p264 : 0 ≤ (x14_2 : Int) := of_decide_eq_true (by first | (with_reducible assumption) | assumption)
              have q264 : x14_2 < (t261.length : Int) := of_decide_eq_true (by first | (with_reducible assumption) | assumption)
              obtain ⟨ad264, e264, hx264_0, hx264_1⟩ := at_T72 (Kd.R_reads' HO_12.out).2.2 x14_2 p264 q264
              cases e264
              replace p264 := eq_true p264
              replace q264 := eq_true q264
              go_wp2_with (first | ((with_reducible refine gate_dst (N := 8) rfl ?_); refine bx 8 #[.int .i64 0, .int .i64 0] 72 ?_; intro gb265 hg w21 hbox hb; have n0_ := Aside0.mk (Kd.R_below (Kd.R_elderB (rr HO_12) gb265 (Nat.le_of_eq hg.symm)) hb); have n1_ := bs HB hb; have n2_ := Aside0.mk (hbox); have n3_ := Aside0.mk ((by rw [hg]; exact (below_size (bl HB)) : w.heap.size ≤ gb265)); have n4_ := Aside0.mk ((by rw [hg]; exact (below_size (bl HB)) : w.heap.size ≤ gb265)); clear HO_12; clear HB; have HO_12 := n0_; have HB := n1_; have BK265 := n2_; have GW265 := n3_; have GE265 := n4_; clear n0_ n1_ n2_ n3_ n4_; clear hb hbox hg; have hcz22_0 := bc BK265 0; have hcz22_1 := bc BK265 1; have hfz22_0 := bf BK265 0; have hfz22_1 := bf BK265 1))
              repeat (go_quiet (first | ((with_reducible refine gate_dst (N := 8) rfl ?_); refine bx 8 #[.int .i64 0, .int .i64 0] 72 ?_; intro gb265 hg w21 hbox hb; have n0_ := Aside0.mk (Kd.R_below (Kd.R_elderB (rr HO_12) gb265 (Nat.le_of_eq hg.symm)) hb); have n1_ := bs HB hb; have n2_ := Aside0.mk (hbox); have n3_ := Aside0.mk ((by rw [hg]; exact (below_size (bl HB)) : w.heap.size ≤ gb265)); have n4_ := Aside0.mk ((by rw [hg]; exact (below_size (bl HB)) : w.heap.size ≤ gb265)); clear HO_12; clear HB; have HO_12 := n0_; have HB := n1_; have BK265 := n2_; have GW265 := n3_; have GE265 := n4_; clear n0_ n1_ n2_ n3_ n4_; clear hb hbox hg; have hcz22_0 := bc BK265 0; have hcz22_1 := bc BK265 1; have hfz22_0 := bf BK265 0; have hfz22_1 := bf BK265 1)); try go_wp2_with (first | ((with_reducible refine gate_dst (N := 8) rfl ?_); refine bx 8 #[.int .i64 0, .int .i64 0] 72 ?_; intro gb265 hg w21 hbox hb; have n0_ := Aside0.mk (Kd.R_below (Kd.R_elderB (rr HO_12) gb265 (Nat.le_of_eq hg.symm)) hb); have n1_ := bs HB hb; have n2_ := Aside0.mk (hbox); have n3_ := Aside0.mk ((by rw [hg]; exact (below_size (bl HB)) : w.heap.size ≤ gb265)); have n4_ := Aside0.mk ((by rw [hg]; exact (below_size (bl HB)) : w.heap.size ≤ gb265)); clear HO_12; clear HB; have HO_12 := n0_; have HB := n1_; have BK265 := n2_; have GW265 := n3_; have GE265 := n4_; clear n0_ n1_ n2_ n3_ n4_; clear hb hbox hg; have hcz22_0 := bc BK265 0; have hcz22_1 := bc BK265 1; have hfz22_0 := bf BK265 0; have hfz22_1 := bf BK265 1)))
              go_roundg k2
              case measure => have := HK1.out; have := HK2.out; omega
              case rel => exact ⟨(x5_2), (x6_2), (wrap64 (x14_2 + 1)), (by first | rfl | (simp; done) | (simp [*]; done)), (by first | rfl | (simp; done) | (simp [*]; done)), (by first | rfl | (simp; done) | (simp [*]; done)), H', ⟨by have := HK1.out; have := HK2.out; omega⟩, ⟨by (with_reducible repeat (first | apply Kd.R_alloc | apply Kd.R_drewN | apply Kd.R_drew)); exact Kd.R_mono (Kd.R_far (p := ⟨gb265, 1, none⟩) (Kd.R_far (p := ⟨gb265, 0, none⟩) (Kd.R_mono HO_12.out (fun k_ hk => (⟨hk, hk.2⟩ : _ ∧ k_ ≠ gb265))) (fun _ hk => hk.2) (.int .i64 ((rd_T72 t261 x14_2).f0))) (fun _ hk => hk.2) (.int .i64 ((rd_T72 t261 x14_2).f1))) (fun _ hk => trivial)⟩, ⟨(bg HB GE265)⟩⟩
             ·rw [if_neg c20] at H
              have c20b0 : ((Go.bits .and .i64 x5_2 (Go.bits .or .i64 (ji11) (ji13))) == (Go.bits .or .i64 (ji11) (ji13))) = false := beq_eq_false_iff_ne.mpr c20
              have c20b1 : ((Go.bits .and .i64 x5_2 (Go.bits .or .i64 (ji11) (ji13))) != (Go.bits .or .i64 (ji11) (ji13))) = true := bne_iff_ne.mpr c20
              have H' := Aside0.mk H
              clear H
              have p264 : 0 ≤ (x14_2 : Int) := of_decide_eq_true (by first | (with_reducible assumption) | assumption)
              have q264 : x14_2 < (t261.length : Int) := of_decide_eq_true (by first | (with_reducible assumption) | assumption)
              obtain ⟨ad264, e264, hx264_0, hx264_1⟩ := at_T72 (Kd.R_reads' HO_12.out).2.2 x14_2 p264 q264
              cases e264
              replace p264 := eq_true p264
              replace q264 := eq_true q264
              go_wp2_with (first | ((with_reducible refine gate_dst (N := 8) rfl ?_); refine bx 8 #[.int .i64 0, .int .i64 0] 72 ?_; intro gb265 hg w23 hbox hb; have n0_ := Aside0.mk (Kd.R_below (Kd.R_elderB (rr HO_12) gb265 (Nat.le_of_eq hg.symm)) hb); have n1_ := bs HB hb; have n2_ := Aside0.mk (hbox); have n3_ := Aside0.mk ((by rw [hg]; exact (below_size (bl HB)) : w.heap.size ≤ gb265)); have n4_ := Aside0.mk ((by rw [hg]; exact (below_size (bl HB)) : w.heap.size ≤ gb265)); clear HO_12; clear HB; have HO_12 := n0_; have HB := n1_; have BK265 := n2_; have GW265 := n3_; have GE265 := n4_; clear n0_ n1_ n2_ n3_ n4_; clear hb hbox hg; have hcz24_0 := bc BK265 0; have hcz24_1 := bc BK265 1; have hfz24_0 := bf BK265 0; have hfz24_1 := bf BK265 1))
              repeat (go_quiet (first | ((with_reducible refine gate_dst (N := 8) rfl ?_); refine bx 8 #[.int .i64 0, .int .i64 0] 72 ?_; intro gb265 hg w23 hbox hb; have n0_ := Aside0.mk (Kd.R_below (Kd.R_elderB (rr HO_12) gb265 (Nat.le_of_eq hg.symm)) hb); have n1_ := bs HB hb; have n2_ := Aside0.mk (hbox); have n3_ := Aside0.mk ((by rw [hg]; exact (below_size (bl HB)) : w.heap.size ≤ gb265)); have n4_ := Aside0.mk ((by rw [hg]; exact (below_size (bl HB)) : w.heap.size ≤ gb265)); clear HO_12; clear HB; have HO_12 := n0_; have HB := n1_; have BK265 := n2_; have GW265 := n3_; have GE265 := n4_; clear n0_ n1_ n2_ n3_ n4_; clear hb hbox hg; have hcz24_0 := bc BK265 0; have hcz24_1 := bc BK265 1; have hfz24_0 := bf BK265 0; have hfz24_1 := bf BK265 1)); try go_wp2_with (first | ((with_reducible refine gate_dst (N := 8) rfl ?_); refine bx 8 #[.int .i64 0, .int .i64 0] 72 ?_; intro gb265 hg w23 hbox hb; have n0_ := Aside0.mk (Kd.R_below (Kd.R_elderB (rr HO_12) gb265 (Nat.le_of_eq hg.symm)) hb); have n1_ := bs HB hb; have n2_ := Aside0.mk (hbox); have n3_ := Aside0.mk ((by rw [hg]; exact (below_size (bl HB)) : w.heap.size ≤ gb265)); have n4_ := Aside0.mk ((by rw [hg]; exact (below_size (bl HB)) : w.heap.size ≤ gb265)); clear HO_12; clear HB; have HO_12 := n0_; have HB := n1_; have BK265 := n2_; have GW265 := n3_; have GE265 := n4_; clear n0_ n1_ n2_ n3_ n4_; clear hb hbox hg; have hcz24_0 := bc BK265 0; have hcz24_1 := bc BK265 1; have hfz24_0 := bf BK265 0; have hfz24_1 := bf BK265 1)))
              go_roundg k2
              case measure => have := HK1.out; have := HK2.out; omega
              case rel => exact ⟨(Go.bits .or .i64 x5_2 (Go.bits .or .i64 (ji11) (ji13))), (true), (wrap64 (x14_2 + 1)), (by first | rfl | (simp; done) | (simp only [← hji11, ← hji13] <;> (first | rfl | simp)) | (simp [*]; done)), (by first | rfl | (simp; done) | (simp [*]; done)), (by first | rfl | (simp; done) | (simp [*]; done)), H', ⟨by have := HK1.out; have := HK2.out; omega⟩, ⟨by (with_reducible repeat (first | apply Kd.R_alloc | apply Kd.R_drewN | apply Kd.R_drew)); exact Kd.R_mono (Kd.R_far (p := ⟨gb265, 1, none⟩) (Kd.R_far (p := ⟨gb265, 0, none⟩) (Kd.R_mono HO_12.out (fun k_ hk => (⟨hk, hk.2⟩ : _ ∧ k_ ≠ gb265))) (fun _ hk => hk.2) (.int .i64 ((rd_T72 t261 x14_2).f0))) (fun _ hk => hk.2) (.int .i64 ((rd_T72 t261 x14_2).f1))) (fun _ hk => trivial)⟩, ⟨(bg HB GE265)⟩⟩
           ·rw [if_neg c16] at H
            have c16b0 : ((Go.bits .and .i64 (ji15) 1) == 1) = false := beq_eq_false_iff_ne.mpr c16
            have c16b1 : ((Go.bits .and .i64 (ji15) 1) != 1) = true := bne_iff_ne.mpr c16
            have H' := Aside0.mk H
            clear H
            have p264 : 0 ≤ (x14_2 : Int) := of_decide_eq_true (by first | (with_reducible assumption) | assumption)
            have q264 : x14_2 < (t261.length : Int) := of_decide_eq_true (by first | (with_reducible assumption) | assumption)
            obtain ⟨ad264, e264, hx264_0, hx264_1⟩ := at_T72 (Kd.R_reads' HO_12.out).2.2 x14_2 p264 q264
            cases e264
            replace p264 := eq_true p264
            replace q264 := eq_true q264
            go_wp2_with (first | ((with_reducible refine gate_dst (N := 8) rfl ?_); refine bx 8 #[.int .i64 0, .int .i64 0] 72 ?_; intro gb265 hg w25 hbox hb; have n0_ := Aside0.mk (Kd.R_below (Kd.R_elderB (rr HO_12) gb265 (Nat.le_of_eq hg.symm)) hb); have n1_ := bs HB hb; have n2_ := Aside0.mk (hbox); have n3_ := Aside0.mk ((by rw [hg]; exact (below_size (bl HB)) : w.heap.size ≤ gb265)); have n4_ := Aside0.mk ((by rw [hg]; exact (below_size (bl HB)) : w.heap.size ≤ gb265)); clear HO_12; clear HB; have HO_12 := n0_; have HB := n1_; have BK265 := n2_; have GW265 := n3_; have GE265 := n4_; clear n0_ n1_ n2_ n3_ n4_; clear hb hbox hg; have hcz26_0 := bc BK265 0; have hcz26_1 := bc BK265 1; have hfz26_0 := bf BK265 0; have hfz26_1 := bf BK265 1))
            repeat (go_quiet (first | ((with_reducible refine gate_dst (N := 8) rfl ?_); refine bx 8 #[.int .i64 0, .int .i64 0] 72 ?_; intro gb265 hg w25 hbox hb; have n0_ := Aside0.mk (Kd.R_below (Kd.R_elderB (rr HO_12) gb265 (Nat.le_of_eq hg.symm)) hb); have n1_ := bs HB hb; have n2_ := Aside0.mk (hbox); have n3_ := Aside0.mk ((by rw [hg]; exact (below_size (bl HB)) : w.heap.size ≤ gb265)); have n4_ := Aside0.mk ((by rw [hg]; exact (below_size (bl HB)) : w.heap.size ≤ gb265)); clear HO_12; clear HB; have HO_12 := n0_; have HB := n1_; have BK265 := n2_; have GW265 := n3_; have GE265 := n4_; clear n0_ n1_ n2_ n3_ n4_; clear hb hbox hg; have hcz26_0 := bc BK265 0; have hcz26_1 := bc BK265 1; have hfz26_0 := bf BK265 0; have hfz26_1 := bf BK265 1)); try go_wp2_with (first | ((with_reducible refine gate_dst (N := 8) rfl ?_); refine bx 8 #[.int .i64 0, .int .i64 0] 72 ?_; intro gb265 hg w25 hbox hb; have n0_ := Aside0.mk (Kd.R_below (Kd.R_elderB (rr HO_12) gb265 (Nat.le_of_eq hg.symm)) hb); have n1_ := bs HB hb; have n2_ := Aside0.mk (hbox); have n3_ := Aside0.mk ((by rw [hg]; exact (below_size (bl HB)) : w.heap.size ≤ gb265)); have n4_ := Aside0.mk ((by rw [hg]; exact (below_size (bl HB)) : w.heap.size ≤ gb265)); clear HO_12; clear HB; have HO_12 := n0_; have HB := n1_; have BK265 := n2_; have GW265 := n3_; have GE265 := n4_; clear n0_ n1_ n2_ n3_ n4_; clear hb hbox hg; have hcz26_0 := bc BK265 0; have hcz26_1 := bc BK265 1; have hfz26_0 := bf BK265 0; have hfz26_1 := bf BK265 1)))
            go_roundg k2
            case measure => have := HK1.out; have := HK2.out; omega
            case rel => exact ⟨(x5_2), (x6_2), (wrap64 (x14_2 + 1)), (by first | rfl | (simp; done) | (simp [*]; done)), (by first | rfl | (simp; done) | (simp [*]; done)), (by first | rfl | (simp; done) | (simp [*]; done)), H', ⟨by have := HK1.out; have := HK2.out; omega⟩, ⟨by (with_reducible repeat (first | apply Kd.R_alloc | apply Kd.R_drewN | apply Kd.R_drew)); exact Kd.R_mono (Kd.R_far (p := ⟨gb265, 1, none⟩) (Kd.R_far (p := ⟨gb265, 0, none⟩) (Kd.R_mono HO_12.out (fun k_ hk => (⟨hk, hk.2⟩ : _ ∧ k_ ≠ gb265))) (fun _ hk => hk.2) (.int .i64 ((rd_T72 t261 x14_2).f0))) (fun _ hk => hk.2) (.int .i64 ((rd_T72 t261 x14_2).f1))) (fun _ hk => trivial)⟩, ⟨(bg HB GE265)⟩⟩
          ·rw [if_neg c12] at H
           exact absurd H (by simp)
         ·rw [if_neg c10] at H
          exact absurd H (by simp)
        ·rw [if_neg c9] at H
         exact absurd H (by simp)
       ·rw [if_neg c8] at H
        exact absurd H (by simp)
      ·rw [if_neg c7] at H
       have c7b0 : decide (x14_2 < (t261.length : Int)) = false := decide_eq_false c7
       clear c7
       have H' := Aside0.mk H
       clear H
       go_wp2
       repeat (go_quiet (fail); try go_wp2)
       go_roundg k2
       case measure => have := HK1.out; have := HK2.out; omega
       case rel => exact ⟨(x5_2), (x6_2), (by first | rfl | (simp; done) | (simp [*]; done)), (by first | rfl | (simp; done) | (simp [*]; done)), H', ⟨by have := HK1.out; have := HK2.out; omega⟩, ⟨(bl HB)⟩⟩
   ·replace c3 := Bool.eq_false_iff.mpr c3
    subst c3
    have H1 : ((impl_fullSet.f a0).bind fun t260 => (some (x5_1 == t260))) = some r := by rw [if_neg (show ¬ (false = true) by decide)] at H; exact H
    clear H
    have H := H1
    clear H1
    replace H := Option.bind_eq_some_iff.mp H
    obtain ⟨t260, A270, H⟩ := H
    (try dsimp only at H)
    have A27 := Aside0.mk A270
    clear A270
    obtain rfl := Option.some.inj H
    go_wp2_with (first | (go_at_call 71; (with_reducible refine (impl_fullSet.calls a0 t260 _ A27.out).mono ?_); rintro e w' ⟨rfl, ⟨nd, rfl⟩⟩; (try first | exact ⟨rfl, _, World.drewN_drewN _ _ _⟩ | exact ⟨rfl, _, Eq.trans (World.drewN_drewN _ _ _) (congrArg (World.drewN _) (Nat.add_assoc _ _ _))⟩)))
    repeat (go_quiet (first | (go_at_call 71; (with_reducible refine (impl_fullSet.calls a0 t260 _ A27.out).mono ?_); rintro e w' ⟨rfl, ⟨nd, rfl⟩⟩; (try first | exact ⟨rfl, _, World.drewN_drewN _ _ _⟩ | exact ⟨rfl, _, Eq.trans (World.drewN_drewN _ _ _) (congrArg (World.drewN _) (Nat.add_assoc _ _ _))⟩))); try go_wp2_with (first | (go_at_call 71; (with_reducible refine (impl_fullSet.calls a0 t260 _ A27.out).mono ?_); rintro e w' ⟨rfl, ⟨nd, rfl⟩⟩; (try first | exact ⟨rfl, _, World.drewN_drewN _ _ _⟩ | exact ⟨rfl, _, Eq.trans (World.drewN_drewN _ _ _) (congrArg (World.drewN _) (Nat.add_assoc _ _ _))⟩))))
    go_ret
    exact ⟨by first | rfl | (simp [errW_none, errW_some] <;> rfl) | (simp [*, errW_none, errW_some] <;> rfl), (bl HB)⟩

end Go.Proofs.Ytiimkifkakdalaa.P
