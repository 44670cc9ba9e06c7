-- Printed by a program of this session (wip/tools/myprint.py, over the kit's print.py); not trusted: Lean checks it.
import Derived.Test.YtiimkifkakdalaaDoorWAll2
import Derived.Test.YtiimkifkakdalaaDoorP0
import Derived.Test.YtiimkifkakdalaaDoorOFmt
import Derived.Test.YtiimkifkakdalaaDoorOJoin
import Derived.Test.YtiimkifkakdalaaDoorP13
import Derived.Test.YtiimkifkakdalaaDoorP19
namespace Go.Proofs.YtiimkifkakdalaaDoor.P
open Go.RowKit Go.Proofs.YtiimkifkakdalaaDoorW.PrintWords Go.Proofs.YtiimkifkakdalaaDoorW.PrintLast Go.Proofs.YtiimkifkakdalaaDoorW.PrintMore
attribute [local go_sem] max2_int min2_int max_two min_two max_three min_three max_four min_four   -- for this text's walks alone
set_option linter.unusedVariables false
set_option linter.unusedSimpArgs false

/-! ### impl_EdgesText: function 6 -/
mutual
def impl_EdgesText.j0 : Nat → Int → Int → Bool → Option (ByteArray)
 | 0, _, _, _ => none
 | k + 1, x0, x1, x16 => if x16 = true then (some (⟨#[]⟩ : ByteArray)) else (if x1 = 0 then (some (⟨#[45]⟩ : ByteArray)) else ((impl_edgesOf.f k x0).bind fun t147 => (impl_EdgesText.l0 k x1 ([] : List ByteArray) t147 (t147.length : Int) 0)))
def impl_EdgesText.l0 : Nat → Int → List ByteArray → List (S40) → Int → Int → Option (ByteArray)
 | 0, _, _, _, _, _ => none
 | k + 1, x1, x5, x20, x21, x22 => if x22 < x21 then (if 0 ≤ x22 then (if x22 < (x20.length : Int) then (if (Go.bits .and .i64 (shr .i64 x1 x22) 1) = 1 then ((impl_FormatInt.f ((rd_T40 x20 x22).f0)).bind fun t153 => ((impl_FormatInt.f ((rd_T40 x20 x22).f1)).bind fun t154 => (if t153.size + t154.size ≤ 9223372036854775807 then (if x5.length < 8796093022208 then (impl_EdgesText.l0 k x1 (x5 ++ [t153 ++ t154]) x20 x21 (wrap64 (x22 + 1))) else (none)) else (none)))) else (impl_EdgesText.l0 k x1 x5 x20 x21 (wrap64 (x22 + 1)))) else (none)) else (none)) else ((impl_Join.f x5 (⟨#[32]⟩ : ByteArray)).bind fun t150 => (some t150))
end
def impl_EdgesText.f (k : Nat) (a0 : Int) (a1 : Int) : Option (ByteArray) := (impl_isCount.f a0).bind fun t145 => (if t145 = true then ((impl_areEdges.f a0 a1).bind fun t146 => (impl_EdgesText.j0 k a0 a1 (!t146))) else (impl_EdgesText.j0 k a0 a1 true))
theorem impl_EdgesText.mono_l : ∀ k, (∀ y0 y1 y2, LeO (impl_EdgesText.j0 k y0 y1 y2) (impl_EdgesText.j0 (k + 1) y0 y1 y2)) ∧ (∀ y0 y1 y2 y3 y4, LeO (impl_EdgesText.l0 k y0 y1 y2 y3 y4) (impl_EdgesText.l0 (k + 1) y0 y1 y2 y3 y4))
 | 0 => ⟨fun _ _ _ r h => by simp [impl_EdgesText.j0] at h, fun _ _ _ _ _ r h => by simp [impl_EdgesText.l0] at h⟩
 | k + 1 => by
  obtain ⟨ih0, ih1⟩ := impl_EdgesText.mono_l k
  refine ⟨?_, ?_⟩
  ·intro y0 y1 y2
   unfold impl_EdgesText.j0
   repeat' first
   | (with_reducible exact ih0 _ _ _)
   | (with_reducible exact ih1 _ _ _ _ _)
   | (with_reducible exact impl_edgesOf.mono _ _)
   | (with_reducible exact LeO.refl _)
   | (with_reducible exact LeO.none _)
   | (with_reducible refine LeO.ite ?_ ?_)
   | (with_reducible refine LeO.bind ?_ (fun _ => ?_))
   | exact ih0 _ _ _
   | exact ih1 _ _ _ _ _
   | exact impl_edgesOf.mono _ _
   | exact LeO.none _
   | refine LeO.ite ?_ ?_
   | refine LeO.bind ?_ (fun _ => ?_)
  ·intro y0 y1 y2 y3 y4
   unfold impl_EdgesText.l0
   repeat' first
   | (with_reducible exact ih0 _ _ _)
   | (with_reducible exact ih1 _ _ _ _ _)
   | (with_reducible exact impl_edgesOf.mono _ _)
   | (with_reducible exact LeO.refl _)
   | (with_reducible exact LeO.none _)
   | (with_reducible refine LeO.ite ?_ ?_)
   | (with_reducible refine LeO.bind ?_ (fun _ => ?_))
   | exact ih0 _ _ _
   | exact ih1 _ _ _ _ _
   | exact impl_edgesOf.mono _ _
   | exact LeO.none _
   | refine LeO.ite ?_ ?_
   | refine LeO.bind ?_ (fun _ => ?_)
theorem impl_EdgesText.mono : ∀ a0 a1 k, LeO (impl_EdgesText.f k a0 a1) (impl_EdgesText.f (k + 1) a0 a1) := by
 intro a0 a1 k
 obtain ⟨ih0, ih1⟩ := impl_EdgesText.mono_l k
 unfold impl_EdgesText.f
 repeat' first
   | (with_reducible exact ih0 _ _ _)
   | (with_reducible exact ih1 _ _ _ _ _)
   | (with_reducible exact impl_edgesOf.mono _ _)
   | (with_reducible exact LeO.refl _)
   | (with_reducible exact LeO.none _)
   | (with_reducible refine LeO.ite ?_ ?_)
   | (with_reducible refine LeO.bind ?_ (fun _ => ?_))
   | exact ih0 _ _ _
   | exact ih1 _ _ _ _ _
   | exact impl_edgesOf.mono _ _
   | exact LeO.none _
   | refine LeO.ite ?_ ?_
   | refine LeO.bind ?_ (fun _ => ?_)
def impl_EdgesText.T10 : Bool × List (List Nat × List Nat) := (true, [([], []), ([], []), ([1], [1]), ([2], [2]), ([], []), ([4], [4]), ([5, 3], [5]), ([3, 6], [3, 6]), ([7], [7]), ([0, 8, 6], [0, 8]), ([9, 9, 0, 1, 2, 3, 4, 5, 6, 7, 8, 9], [0, 9])])
def impl_EdgesText.B10 : List Nat := [0, 0, 2, 6, 0, 16, 62, 126, 254, 511, 1023]
theorem impl_EdgesText.tab10 : rtab .any (opsOf Tryd.f6 10) = impl_EdgesText.T10 := by kernel_rfl
theorem impl_EdgesText.bits10 : waitsOk impl_EdgesText.T10.2 impl_EdgesText.B10 = true := by kernel_rfl
set_option maxHeartbeats 8000000 in
set_option maxRecDepth 100000 in
theorem impl_EdgesText.calls (k : Nat) (a0 : Int) (a1 : Int) (r : ByteArray) (w : World) (h : impl_EdgesText.f k a0 a1 = some r) :
  Calls Tryd.prog 6 #[.int .i64 a0, .int .i64 a1] w fun e w' => e = .returned (.string r) ∧ Below w.heap.size w w' := by
 have hu40 := Tryd.underlying40
 have HB := Aside0.mk (Below.refl w.heap.size w)
 have H : ((impl_isCount.f a0).bind fun t145 => (if t145 = true then ((impl_areEdges.f a0 a1).bind fun t146 => (impl_EdgesText.j0 k a0 a1 (!t146))) else (impl_EdgesText.j0 k a0 a1 true))) = some r := h
 clear h
 have HC3 := Aside0.mk H
 clear H
 go_enter Tryd.func6, Tryd.ntmps6
 go_upto_region 1 with (fail)
 go_cut [16] (fun v16 wc => ∃ (kq : Nat) (x16_2 : Bool), v16 = .bool x16_2 ∧ Aside0 (impl_EdgesText.j0 kq a0 a1 x16_2 = some r) ∧ Aside0 (kq ≤ k) ∧ Aside0 (Below w.heap.size w wc))
 case first =>
  have H := HC3.out
  clear HC3
  replace H := Option.bind_eq_some_iff.mp H
  obtain ⟨t145, A40, H⟩ := H
  (try dsimp only at H)
  have A4 := Aside0.mk A40
  clear A40
  by_cases c5 : t145 = true
  ·subst c5
   have H1 : ((impl_areEdges.f a0 a1).bind fun t146 => (impl_EdgesText.j0 k a0 a1 (!t146))) = some r := by rw [if_pos rfl] at H; exact H
   clear H
   have H := H1
   clear H1
   replace H := Option.bind_eq_some_iff.mp H
   obtain ⟨t146, A60, H⟩ := H
   (try dsimp only at H)
   have A6 := Aside0.mk A60
   clear A60
   have H' := Aside0.mk H
   clear H
   go_wp2_with (first | ((with_reducible refine gate_callee (f := 18) rfl ?_); refine gL (some 9) rfl rfl Tryd.func18 (by kernel_rfl) rfl #[.int .i64 a0] rfl ?_; (with_reducible refine (impl_isCount.calls a0 true _ A4.out).mono ?_); rintro e w' ⟨rfl, ⟨nd, rfl⟩⟩; refine ⟨_, rfl, ?_⟩) | (go_at_call 19; (with_reducible refine (impl_areEdges.calls a0 a1 t146 _ A6.out).mono ?_); rintro e w' ⟨rfl, ⟨nd, rfl⟩⟩))
   go_meet
   case rel => exact ⟨_, (!t146), (by first | rfl | (simp; done) | (simp [*]; done)), H', ⟨by first | omega | exact Nat.le_refl _⟩, ⟨(bl HB)⟩⟩
  ·replace c5 := Bool.eq_false_iff.mpr c5
   subst c5
   have H1 : (impl_EdgesText.j0 k a0 a1 true) = some r := by rw [if_neg (show ¬ (false = true) by decide)] at H; exact H
   clear H
   have H := H1
   clear H1
   have H' := Aside0.mk H
   clear H
   go_wp2_with (first | ((with_reducible refine gate_callee (f := 18) rfl ?_); refine gL (some 9) rfl rfl Tryd.func18 (by kernel_rfl) rfl #[.int .i64 a0] rfl ?_; (with_reducible refine (impl_isCount.calls a0 false _ A4.out).mono ?_); rintro e w' ⟨rfl, ⟨nd, rfl⟩⟩; refine ⟨_, rfl, ?_⟩))
   go_meet
   case rel => exact ⟨_, (true), (by first | rfl | (simp; done) | (simp [*]; done)), H', ⟨by first | omega | exact Nat.le_refl _⟩, ⟨(bl HB)⟩⟩
 case rest =>
  clear HC3
  try clear c1
  try clear p2
  try clear c5
  try clear c6
  obtain ⟨kq, x16_2, rfl, HA, HJ2, HB⟩ := hcut
  cases kq with
  | zero => exact absurd HA.out (by simp [impl_EdgesText.j0])
  | succ kj2 =>
   have H := HA.out
   clear HA
   simp only [impl_EdgesText.j0] at H
   by_cases c7 : x16_2 = true
   ·subst c7
    have H1 : (some (⟨#[]⟩ : ByteArray)) = some r := by rw [if_pos rfl] at H; exact H
    clear H
    have H := H1
    clear H1
    obtain rfl := Option.some.inj H
    go_wp2
    go_ret
    exact ⟨by first | rfl | (simp [errW_none, errW_some] <;> rfl) | (simp [*, errW_none, errW_some] <;> rfl), (bl HB)⟩
   ·replace c7 := Bool.eq_false_iff.mpr c7
    subst c7
    have H1 : (if a1 = 0 then (some (⟨#[45]⟩ : ByteArray)) else ((impl_edgesOf.f kj2 a0).bind fun t147 => (impl_EdgesText.l0 kj2 a1 ([] : List ByteArray) t147 (t147.length : Int) 0))) = some r := by rw [if_neg (show ¬ (false = true) by decide)] at H; exact H
    clear H
    have H := H1
    clear H1
    by_cases c8 : a1 = 0
    ·rw [if_pos c8] at H
     have c8b0 : (a1 == 0) = true := beq_iff_eq.mpr c8
     have c8b1 : (a1 != 0) = false := bne_eq_false_iff_eq.mpr c8
     clear c8
     obtain rfl := Option.some.inj H
     go_wp2
     go_ret
     exact ⟨by first | rfl | (simp [errW_none, errW_some] <;> rfl) | (simp [*, errW_none, errW_some] <;> rfl), (bl HB)⟩
    ·rw [if_neg c8] at H
     have c8b0 : (a1 == 0) = false := beq_eq_false_iff_ne.mpr c8
     have c8b1 : (a1 != 0) = true := bne_iff_ne.mpr c8
     replace H := Option.bind_eq_some_iff.mp H
     obtain ⟨t147, A90, H⟩ := H
     (try dsimp only at H)
     have A9 := Aside0.mk A90
     clear A90
     have H' := Aside0.mk H
     clear H
     go_wp2_with (first | ((with_reducible refine gate_callee (f := 20) rfl ?_); refine gL (some 20) rfl rfl Tryd.func20 (by kernel_rfl) rfl #[.int .i64 a0] rfl ?_; (with_reducible refine (impl_edgesOf.calls kj2 a0 t147 _ A9.out).mono ?_); rintro e w10 ⟨v148, rfl, ho0, hb⟩; refine ⟨_, rfl, ?_⟩; have n0_ := Aside0.mk (Kd.R_lower ho0 (below_size (bl HB))); have n1_ := bs HB hb; clear HB; have HO149 := n0_; have HB := n1_; clear n0_ n1_; (try clear hb); (try clear hb2); (try clear hk); (try clear hi); (try clear ho0); obtain ⟨Ao11, co11, eo11⟩ := Kd.R_slice HO149.out; subst eo11))
     go_loopg [5, 22] kj2 (fun kq v5 v22 w' => ∃ (x5_2 : List ByteArray) (x22_2 : Int), v22 = .int .i64 x22_2 ∧ Aside0 (impl_EdgesText.l0 kq a1 x5_2 t147 (t147.length : Int) x22_2 = some r) ∧ Aside0 (kq ≤ kj2) ∧ Aside0 (Kd.R Kd.string 9 w' w.heap.size (fun _ => True) v5 x5_2) ∧ Aside0 (Kd.R k40 40 w' w.heap.size (fun _ => True) (.slice Ao11 t147.length co11) t147) ∧ Aside0 (Below w.heap.size w w'))
     case atStart => exact ⟨(([] : List ByteArray)), (0), (by first | rfl | (simp; done) | (simp [*]; done)), H', ⟨Nat.le_refl _⟩, ⟨by first | exact Kd.R_nil _ _ _ _ _ | exact Kd.N_nil _ _ _ _ _ | exact Kd.V_nil _ _ _ _ _ | exact Kd.Q_nil _ _ _ _ _ | exact Kd.S_nil _ _ _ _ _⟩, ⟨by (with_reducible repeat (first | apply Kd.R_alloc | apply Kd.R_drewN | apply Kd.R_drew)); exact HO149.out⟩, ⟨(bl HB)⟩⟩
     case round =>
      clear H'
      try clear c1
      try clear c2
      try clear p2
      try clear c5
      try clear c6
      try clear c7
      try clear c8
      try clear c8b0
      try clear c8b1
      try clear p2
      obtain ⟨x5_2, x22_2, rfl, HA, HK2, HO_5, HO_20, HB⟩ := hrel
      cases gk with
      | zero => exact absurd HA.out (by simp [impl_EdgesText.l0])
      | succ k2 =>
       have H := HA.out
       clear HA
       simp only [impl_EdgesText.l0] at H
       by_cases c12 : x22_2 < (t147.length : Int)
       ·rw [if_pos c12] at H
        have c12b0 : decide (x22_2 < (t147.length : Int)) = true := decide_eq_true c12
        clear c12
        by_cases c13 : 0 ≤ x22_2
        ·rw [if_pos c13] at H
         have c13b0 : decide (0 ≤ x22_2) = true := decide_eq_true c13
         clear c13
         by_cases c14 : x22_2 < (t147.length : Int)
         ·rw [if_pos c14] at H
          have c14b0 : decide (x22_2 < (t147.length : Int)) = true := decide_eq_true c14
          clear c14
          have c15b0 := eq_true (of_decide_eq_true (by first | (with_reducible assumption) | assumption) : 0 ≤ x22_2)
          obtain ⟨ji16, hji16⟩ : ∃ j_ : Int, (shr .i64 a1 x22_2) = j_ := ⟨_, rfl⟩
          replace H : (if (Go.bits .and .i64 (ji16) 1) = 1 then ((impl_FormatInt.f ((rd_T40 t147 x22_2).f0)).bind fun t153 => ((impl_FormatInt.f ((rd_T40 t147 x22_2).f1)).bind fun t154 => (if t153.size + t154.size ≤ 9223372036854775807 then (if x5_2.length < 8796093022208 then (impl_EdgesText.l0 k2 a1 (x5_2 ++ [t153 ++ t154]) t147 (t147.length : Int) (wrap64 (x22_2 + 1))) else (none)) else (none)))) else (impl_EdgesText.l0 k2 a1 x5_2 t147 (t147.length : Int) (wrap64 (x22_2 + 1)))) = some r := by first | (rw [hji16] at H; exact H) | (simp only [hji16] at H ⊢; exact H)
          have hji16_ : (a1 / 2 ^ min x22_2.toNat 64) = ji16 := hji16
          have hji16z : x22_2 ≤ 64 → (a1 / 2 ^ x22_2.toNat) = ji16 := shr_small hji16
          by_cases c17 : (Go.bits .and .i64 (ji16) 1) = 1
          ·rw [if_pos c17] at H
           have c17b0 : ((Go.bits .and .i64 (ji16) 1) == 1) = true := beq_iff_eq.mpr c17
           have c17b1 : ((Go.bits .and .i64 (ji16) 1) != 1) = false := bne_eq_false_iff_eq.mpr c17
           clear c17
           replace H := Option.bind_eq_some_iff.mp H
           obtain ⟨t153, A180, H⟩ := H
           (try dsimp only at H)
           have A18 := Aside0.mk A180
           clear A180
           replace H := Option.bind_eq_some_iff.mp H
           obtain ⟨t154, A190, H⟩ := H
           (try dsimp only at H)
           have A19 := Aside0.mk A190
           clear A190
           by_cases c20 : t153.size + t154.size ≤ 9223372036854775807
           ·rw [if_pos c20] at H
            have c20b0 := eq_true c20
            have c20b1 : decide (t153.size + t154.size ≤ 9223372036854775807) = true := decide_eq_true c20
            try have c20b2 : (9223372036854775807 < t153.size + t154.size) = False := eq_false (Nat.not_lt.2 c20)
            by_cases c21 : x5_2.length < 8796093022208
            ·rw [if_pos c21] at H
             have LMc21 := Aside0.mk c21
             clear c21
             obtain ⟨y155, hy155⟩ : ∃ y_ : List ByteArray, y_ = (x5_2 ++ [t153 ++ t154]) := ⟨_, rfl⟩
             replace H : (impl_EdgesText.l0 k2 a1 y155 t147 (t147.length : Int) (wrap64 (x22_2 + 1))) = some r := by first | (rw [hy155]; with_reducible exact H) | (have H2_ := (Option.bind_some _ _).symm.trans H; rw [hy155]; with_reducible exact H2_) | (have H2_ := (Option.bind_some _ _).symm.trans H; with_reducible exact H2_) | with_reducible exact H | (rw [hy155]; exact H) | exact H
             have Ny155 := Aside0.mk hy155
             clear hy155
             have H' := Aside0.mk H
             clear H
             have p151 : 0 ≤ (x22_2 : Int) := of_decide_eq_true (by first | (with_reducible assumption) | assumption)
             have q151 : x22_2 < (t147.length : Int) := of_decide_eq_true (by first | (with_reducible assumption) | assumption)
             obtain ⟨ad151, e151, hx151_0, hx151_1⟩ := at_T40 (Kd.R_reads' HO_20.out).2.2 x22_2 p151 q151
             cases e151
             replace p151 := eq_true p151
             replace q151 := eq_true q151
             try go_wp2_with (first | ((with_reducible refine gate_dst (N := 7) rfl ?_); refine bx 7 #[.int .i64 0, .int .i64 0] 40 ?_; intro gb152 hg w22 hbox hb; have n0_ := Aside0.mk (Kd.R_below (rr HO_5) hb); have n1_ := Aside0.mk (Kd.R_below (Kd.R_elderB (rr HO_20) gb152 (Nat.le_of_eq hg.symm)) hb); have n2_ := bs HB hb; have n3_ := Aside0.mk (hbox); have n4_ := Aside0.mk ((by rw [hg]; exact (below_size (bl HB)) : w.heap.size ≤ gb152)); have n5_ := Aside0.mk ((by rw [hg]; exact (below_size (bl HB)) : w.heap.size ≤ gb152)); clear HO_5; clear HO_20; clear HB; have HO_5 := n0_; have HO_20 := n1_; have HB := n2_; have BK152 := n3_; have GW152 := n4_; have GE152 := n5_; clear n0_ n1_ n2_ n3_ n4_ n5_; clear hb hbox hg; have hcz23_0 := bc BK152 0; have hcz23_1 := bc BK152 1; have hfz23_0 := bf BK152 0; have hfz23_1 := bf BK152 1))
             have n0_ : Aside0 (Kd.R Kd.string 9 ((w22.setCell ⟨gb152, 0, none⟩ (.int .i64 ((rd_T40 t147 x22_2).f0))).setCell ⟨gb152, 1, none⟩ (.int .i64 ((rd_T40 t147 x22_2).f1))) w.heap.size (fun _ => True) u5 x5_2) := ⟨by (with_reducible repeat (first | apply Kd.R_alloc | apply Kd.R_drewN | apply Kd.R_drew)); exact Kd.R_mono (Kd.R_far (p := ⟨gb152, 1, none⟩) (Kd.R_far (p := ⟨gb152, 0, none⟩) (Kd.R_types HO_5.out BK152.out (by decide)) (fun _ hk => hk.2) (.int .i64 ((rd_T40 t147 x22_2).f0))) (fun _ hk => hk.2) (.int .i64 ((rd_T40 t147 x22_2).f1))) (fun _ hk => trivial)⟩
             have n1_ : Aside0 (Kd.R k40 40 ((w22.setCell ⟨gb152, 0, none⟩ (.int .i64 ((rd_T40 t147 x22_2).f0))).setCell ⟨gb152, 1, none⟩ (.int .i64 ((rd_T40 t147 x22_2).f1))) w.heap.size (fun k_ => k_ ≠ gb152) (.slice (some ad151) t147.length co11) t147) := ⟨by (with_reducible repeat (first | apply Kd.R_alloc | apply Kd.R_drewN | apply Kd.R_drew)); exact Kd.R_mono (Kd.R_far (p := ⟨gb152, 1, none⟩) (Kd.R_far (p := ⟨gb152, 0, none⟩) (Kd.R_mono HO_20.out (fun k_ hk => (⟨hk, hk.2⟩ : _ ∧ k_ ≠ gb152))) (fun _ hk => hk.2) (.int .i64 ((rd_T40 t147 x22_2).f0))) (fun _ hk => hk.2) (.int .i64 ((rd_T40 t147 x22_2).f1))) (fun _ hk => hk.1.2)⟩
             have n2_ : Aside0 (((w22.setCell ⟨gb152, 0, none⟩ (.int .i64 ((rd_T40 t147 x22_2).f0))).setCell ⟨gb152, 1, none⟩ (.int .i64 ((rd_T40 t147 x22_2).f1))).heap[gb152]? = some (.cells #[.int .i64 ((rd_T40 t147 x22_2).f0), .int .i64 ((rd_T40 t147 x22_2).f1)] 40 (0, 0))) := ⟨by (with_reducible repeat (first | refine blk_drewN ?_ _ | refine blk_drew ?_ | refine blk_alloc ?_ _)); refine blk_put (cs := #[.int .i64 ((rd_T40 t147 x22_2).f0), .int .i64 0]) ?_ 1 _ rfl; (with_reducible repeat (first | refine blk_drewN ?_ _ | refine blk_drew ?_ | refine blk_alloc ?_ _)); refine blk_put (cs := #[.int .i64 0, .int .i64 0]) ?_ 0 _ rfl; (with_reducible repeat (first | refine blk_drewN ?_ _ | refine blk_drew ?_ | refine blk_alloc ?_ _)); exact BK152.out⟩
             have n3_ : Aside0 (Below w.heap.size w ((w22.setCell ⟨gb152, 0, none⟩ (.int .i64 ((rd_T40 t147 x22_2).f0))).setCell ⟨gb152, 1, none⟩ (.int .i64 ((rd_T40 t147 x22_2).f1)))) := ⟨(bg HB GE152)⟩
             (try clear HO_5)
             (try clear HO_20)
             (try clear BK152)
             (try clear HB)
             generalize ((w22.setCell ⟨gb152, 0, none⟩ (.int .i64 ((rd_T40 t147 x22_2).f0))).setCell ⟨gb152, 1, none⟩ (.int .i64 ((rd_T40 t147 x22_2).f1))) = w24 at n0_ n1_ n2_ n3_ ⊢
             have HO_5 := n0_
             have HO_20 := n1_
             have BK152 := n2_
             have HB := n3_
             clear n0_ n1_ n2_ n3_
             have n0_ := Aside0.mk (Kd.R_drew HO_5.out)
             have n1_ := Aside0.mk (Kd.R_drew HO_20.out)
             have n2_ := Aside0.mk (blk_drew BK152.out)
             have n3_ := Aside0.mk (below_drew1 HB.out)
             clear HO_5
             clear HO_20
             clear BK152
             clear HB
             have HO_5 := n0_
             have HO_20 := n1_
             have BK152 := n2_
             have HB := n3_
             clear n0_ n1_ n2_ n3_
             refine start_ (n := 11) (S := fun w' => w'.cell? ⟨gb152, 0, none⟩ = some (.int .i64 ((rd_T40 t147 x22_2).f0)) ∧ w'.cell? ⟨gb152, 1, none⟩ = some (.int .i64 ((rd_T40 t147 x22_2).f1))) (ds := []) #[false, false, false, false, false, false, false, false, false, false, false] (by kernel_rfl) rfl rfl ⟨(blk_cell BK152.out 0).trans rfl, (blk_cell BK152.out 1).trans rfl⟩ (fun hHeld => ?_); refine with_tabW impl_EdgesText.tab10 impl_EdgesText.bits10 (fun HT_ HW_ => ?_)
             generalize w24.drew = w25 at HO_5 HO_20 BK152 HB hHeld ⊢
             refine pu 0 32 HT_ ?_
             refine pu 1 33 HT_ ?_
             refine pu 4 36 HT_ ?_
             refine take_ (i := 2) (N := some 34) (v := ?_) (a' := ?_) #[true, true, true, false, true, false, false, false, false, false, false] rfl rfl (take_ofW HT_.out HW_.out (by kernel_rfl)) (fun _ _ _ h => h) (Or.inl ⟨by rfl, ?_⟩) hHeld ?_ ?_
             rotate_left
             ·rintro w' ⟨s0, s1⟩
              go_simp
              with_reducible rfl
             rotate_left
             ·simp only [Act.put, List.setIfInBounds_toArray, List.set_cons_zero, List.set_cons_succ, i64_w, i32_w]
              rfl
             refine take_ (i := 5) (N := some 37) (v := ?_) (a' := ?_) #[true, true, true, false, true, true, false, false, false, false, false] rfl rfl (take_ofW HT_.out HW_.out (by kernel_rfl)) (fun _ _ _ h => h) (Or.inl ⟨by rfl, ?_⟩) hHeld ?_ ?_
             rotate_left
             ·rintro w' ⟨s0, s1⟩
              go_simp
              with_reducible rfl
             rotate_left
             ·simp only [Act.put, List.setIfInBounds_toArray, List.set_cons_zero, List.set_cons_succ, i64_w, i32_w]
              rfl
             refine one_ (i := 3) (N := some 35) #[true, true, true, true, true, true, false, false, false, false, false] rfl rfl (one_of HT_.out (by kernel_rfl)) (by decide) (fun K hK => ?_)
             refine goes_ Tryd.func21 (by kernel_rfl) rfl #[.int .i64 ((rd_T40 t147 x22_2).f0)] (by rfl) rfl rfl (by (try simp only [List.map_toArray, List.map_cons, List.map_nil]); first | done | rfl | (simp only [List.length_drop, List.length_take]; rfl)) ?_
             with_reducible refine (impl_FormatInt.calls ((rd_T40 t147 x22_2).f0) t153 _ A18.out).mono ?_
             rintro e w' ⟨rfl, ⟨nd, rfl⟩⟩
             refine ⟨_, rfl, ?_⟩
             refine hK.out _ _ ⟨(blk_cell BK152.out 0).trans rfl, (blk_cell BK152.out 1).trans rfl⟩ (fun hHeld => ?_)
             clear hK K
             refine norm_ (a' := ?_) ?_ ?_
             rotate_left
             ·show Act.put _ (some 35) _ = _
              simp only [Act.put, List.setIfInBounds_toArray, List.set_cons_zero, List.set_cons_succ, i64_w, i32_w]
              rfl
             refine one_ (i := 6) (N := some 38) #[true, true, true, true, true, true, true, false, false, false, false] rfl rfl (one_of HT_.out (by kernel_rfl)) (by decide) (fun K hK => ?_)
             refine goes_ Tryd.func21 (by kernel_rfl) rfl #[.int .i64 ((rd_T40 t147 x22_2).f1)] (by rfl) rfl rfl (by (try simp only [List.map_toArray, List.map_cons, List.map_nil]); first | done | rfl | (simp only [List.length_drop, List.length_take]; rfl)) ?_
             with_reducible refine (impl_FormatInt.calls ((rd_T40 t147 x22_2).f1) t154 _ A19.out).mono ?_
             rintro e w' ⟨rfl, ⟨nd, rfl⟩⟩
             refine ⟨_, rfl, ?_⟩
             refine hK.out _ _ ⟨(blk_cell BK152.out 0).trans rfl, (blk_cell BK152.out 1).trans rfl⟩ (fun hHeld => ?_)
             clear hK K
             refine norm_ (a' := ?_) ?_ ?_
             rotate_left
             ·show Act.put _ (some 38) _ = _
              simp only [Act.put, List.setIfInBounds_toArray, List.set_cons_zero, List.set_cons_succ, i64_w, i32_w]
              rfl
             refine pu 7 39 HT_ ?_
             refine one_ (i := 8) (N := some 40) #[true, true, true, true, true, true, true, true, true, false, false] rfl rfl (one_of HT_.out (by kernel_rfl)) (by decide) (fun K hK => ?_)
             refine value_ (w1 := ?_) (v := ?_) (by rfl) rfl ?_ ?_
             rotate_left 2
             ·go_simp
              constructor
              ·rfl
              ·rfl
             refine hK.out _ _ ⟨(blk_cell (blk_alloc BK152.out _) 0).trans rfl, (blk_cell (blk_alloc BK152.out _) 1).trans rfl⟩ (fun hHeld => ?_)
             clear hK K
             refine norm_ (a' := ?_) ?_ ?_
             rotate_left
             ·show Act.put _ (some 40) _ = _
              simp only [Act.put, List.setIfInBounds_toArray, List.set_cons_zero, List.set_cons_succ, i64_w, i32_w]
              rfl
             refine one_ (i := 9) (N := some 41) #[true, true, true, true, true, true, true, true, true, true, false] rfl rfl (one_of HT_.out (by kernel_rfl)) (by decide) (fun K hK => ?_)
             refine Kd.R_append_step Kd.string (w0 := w) w.heap.size (by rfl) (.tmp 32) (.tmp 40) 32 9 (.string ⟨#[]⟩) 16 rfl Tryd.underlying32 info9 rfl (by decide) (by omega) u5 x5_2 (t153 ++ t154) [.string (t153 ++ t154)] (fun _ => True) (fun _ => False) rfl rfl ?aP (fun _ hk => hk.elim) ?aF ?aO ?aB ?aS ?aL ?_
             (case aP => exact rfl)
             (case aB => exact (bg HB GE152))
             (case aF => exact (fun _ _ => trivial))
             (case aO => exact (rr HO_5))
             (case aS => exact (below_size (bg HB GE152)))
             (case aL => have := LMc21.out; omega)
             intro v156 w26 ho hb hg hat
             rw [← Ny155.out] at ho
             have n0_ := Aside0.mk (Kd.R_over' (rr HO_20) (Kd.R_typed (rr HO_5)) (by decide) hg)
             have n1_ := Aside0.mk (blk_grown (g := gb152) (o := .cells #[.int .i64 ((rd_T40 t147 x22_2).f0), .int .i64 ((rd_T40 t147 x22_2).f1)] 40 (0, 0)) (bk BK152) hg (Kd.R_ne HO_5.out BK152.out (by decide)))
             have n2_ := Aside0.mk (hb)
             have n3_ := Aside0.mk (ho)
             clear HO_20
             clear BK152
             clear HB
             clear HO_5
             have HO_20 := n0_
             have BK152 := n1_
             have HB := n2_
             have HO157 := n3_
             clear n0_ n1_ n2_ n3_
             clear ho hb hg hat
             refine hK.out _ _ ⟨(blk_cell BK152.out 0).trans rfl, (blk_cell BK152.out 1).trans rfl⟩ (fun hHeld => ?_)
             clear hK K
             refine norm_ (a' := ?_) ?_ ?_
             rotate_left
             ·show Act.put _ (some 41) _ = _
              simp only [Act.put, List.setIfInBounds_toArray, List.set_cons_zero, List.set_cons_succ, i64_w, i32_w]
              rfl
             refine pu 10 5 HT_ ?_
             refine done_ (done_of HT_.out (by kernel_rfl)) ?_
             try go_wp2
             go_roundg k2
             case measure => have := HJ2.out; have := HK2.out; omega
             case rel => exact ⟨(y155), (wrap64 (x22_2 + 1)), (by first | rfl | (simp; done) | (simp [*]; done)), H', ⟨by have := HJ2.out; have := HK2.out; omega⟩, ⟨by (with_reducible repeat (first | apply Kd.R_alloc | apply Kd.R_drewN | apply Kd.R_drew)); exact HO157.out⟩, ⟨by (with_reducible repeat (first | apply Kd.R_alloc | apply Kd.R_drewN | apply Kd.R_drew)); exact Kd.R_mono HO_20.out (fun _ hk => trivial)⟩, ⟨(bg HB GE152)⟩⟩
            ·rw [if_neg c21] at H
             exact absurd H (by simp)
           ·rw [if_neg c20] at H
            exact absurd H (by simp)
          ·rw [if_neg c17] at H
           have c17b0 : ((Go.bits .and .i64 (ji16) 1) == 1) = false := beq_eq_false_iff_ne.mpr c17
           have c17b1 : ((Go.bits .and .i64 (ji16) 1) != 1) = true := bne_iff_ne.mpr c17
           have H' := Aside0.mk H
           clear H
           have p151 : 0 ≤ (x22_2 : Int) := of_decide_eq_true (by first | (with_reducible assumption) | assumption)
           have q151 : x22_2 < (t147.length : Int) := of_decide_eq_true (by first | (with_reducible assumption) | assumption)
           obtain ⟨ad151, e151, hx151_0, hx151_1⟩ := at_T40 (Kd.R_reads' HO_20.out).2.2 x22_2 p151 q151
           cases e151
           replace p151 := eq_true p151
           replace q151 := eq_true q151
           go_wp2_with (first | ((with_reducible refine gate_dst (N := 7) rfl ?_); refine bx 7 #[.int .i64 0, .int .i64 0] 40 ?_; intro gb152 hg w27 hbox hb; have n0_ := Aside0.mk (Kd.R_below (rr HO_5) hb); have n1_ := Aside0.mk (Kd.R_below (Kd.R_elderB (rr HO_20) gb152 (Nat.le_of_eq hg.symm)) hb); have n2_ := bs HB hb; have n3_ := Aside0.mk (hbox); have n4_ := Aside0.mk ((by rw [hg]; exact (below_size (bl HB)) : w.heap.size ≤ gb152)); have n5_ := Aside0.mk ((by rw [hg]; exact (below_size (bl HB)) : w.heap.size ≤ gb152)); clear HO_5; clear HO_20; clear HB; have HO_5 := n0_; have HO_20 := n1_; have HB := n2_; have BK152 := n3_; have GW152 := n4_; have GE152 := n5_; clear n0_ n1_ n2_ n3_ n4_ n5_; clear hb hbox hg; have hcz28_0 := bc BK152 0; have hcz28_1 := bc BK152 1; have hfz28_0 := bf BK152 0; have hfz28_1 := bf BK152 1))
           go_roundg k2
           case measure => have := HJ2.out; have := HK2.out; omega
           case rel => exact ⟨(x5_2), (wrap64 (x22_2 + 1)), (by first | rfl | (simp; done) | (simp [*]; done)), H', ⟨by have := HJ2.out; have := HK2.out; omega⟩, ⟨by (with_reducible repeat (first | apply Kd.R_alloc | apply Kd.R_drewN | apply Kd.R_drew)); exact Kd.R_mono (Kd.R_far (p := ⟨gb152, 1, none⟩) (Kd.R_far (p := ⟨gb152, 0, none⟩) (Kd.R_types HO_5.out BK152.out (by decide)) (fun _ hk => hk.2) (.int .i64 ((rd_T40 t147 x22_2).f0))) (fun _ hk => hk.2) (.int .i64 ((rd_T40 t147 x22_2).f1))) (fun _ hk => trivial)⟩, ⟨by (with_reducible repeat (first | apply Kd.R_alloc | apply Kd.R_drewN | apply Kd.R_drew)); exact Kd.R_mono (Kd.R_far (p := ⟨gb152, 1, none⟩) (Kd.R_far (p := ⟨gb152, 0, none⟩) (Kd.R_mono HO_20.out (fun k_ hk => (⟨hk, hk.2⟩ : _ ∧ k_ ≠ gb152))) (fun _ hk => hk.2) (.int .i64 ((rd_T40 t147 x22_2).f0))) (fun _ hk => hk.2) (.int .i64 ((rd_T40 t147 x22_2).f1))) (fun _ hk => trivial)⟩, ⟨(bg HB GE152)⟩⟩
         ·rw [if_neg c14] at H
          exact absurd H (by simp)
        ·rw [if_neg c13] at H
         exact absurd H (by simp)
       ·rw [if_neg c12] at H
        have c12b0 : decide (x22_2 < (t147.length : Int)) = false := decide_eq_false c12
        clear c12
        replace H := Option.bind_eq_some_iff.mp H
        obtain ⟨t150, A290, H⟩ := H
        (try dsimp only at H)
        have A29 := Aside0.mk A290
        clear A290
        obtain rfl := Option.some.inj H
        obtain ⟨Ao30, co30, eo30⟩ := Kd.R_slice HO_5.out
        subst eo30
        go_wp2_with (first | ((with_reducible refine gate_callee (f := 22) rfl ?_); refine gL (some 44) rfl rfl Tryd.func22 (by kernel_rfl) rfl #[.slice Ao30 x5_2.length co30, .string (⟨#[32]⟩ : ByteArray)] rfl ?_; (with_reducible refine (impl_Join.calls _ _ x5_2 (⟨#[32]⟩ : ByteArray) t150 _ ?side1 ?side2 A29.out).mono ?_); (case side1 => repeat (first | exact (Kd.R_reads' HO_5.out).2.2 | (with_reducible refine Kd.C_alloc ?_ _) | (with_reducible refine Kd.C_drewN ?_ _) | (with_reducible refine Kd.C_drew ?_))); (case side2 => exact (Kd.R_reads' HO_5.out).2.1); rintro e w31 ⟨rfl, hb⟩; refine ⟨_, rfl, ?_⟩; have n0_ := Aside0.mk (Kd.R_below (rr HO_5) hb); have n1_ := Aside0.mk (Kd.R_below (rr HO_20) hb); have n2_ := bs HB hb; clear HO_5; clear HO_20; clear HB; have HO_5 := n0_; have HO_20 := n1_; have HB := n2_; clear n0_ n1_ n2_; (try clear hb); (try clear hb2); (try clear hk); (try clear hi)))
        go_ret
        exact ⟨by first | rfl | (simp [errW_none, errW_some] <;> rfl) | (simp [*, errW_none, errW_some] <;> rfl), (bl HB)⟩

/-! ### laws_FnExactEdgesText: function 3 -/
def laws_FnExactEdgesText.f (k : Nat) (a0 : Int) (a1 : Int) : Option (Bool) := (spec_EdgesText.f k a0 a1).bind fun t158 => ((impl_EdgesText.f k a0 a1).bind fun t159 => (if t159.toList = t158.toList then (some true) else (some false)))
theorem laws_FnExactEdgesText.mono : ∀ a0 a1 k, LeO (laws_FnExactEdgesText.f k a0 a1) (laws_FnExactEdgesText.f (k + 1) a0 a1) := by
 intro a0 a1 k
 unfold laws_FnExactEdgesText.f
 repeat' first
   | (with_reducible exact impl_EdgesText.mono _ _ _)
   | (with_reducible exact spec_EdgesText.mono _ _ _)
   | (with_reducible exact LeO.refl _)
   | (with_reducible exact LeO.none _)
   | (with_reducible refine LeO.ite ?_ ?_)
   | (with_reducible refine LeO.bind ?_ (fun _ => ?_))
   | exact impl_EdgesText.mono _ _ _
   | exact spec_EdgesText.mono _ _ _
   | exact LeO.none _
   | refine LeO.ite ?_ ?_
   | refine LeO.bind ?_ (fun _ => ?_)
set_option maxHeartbeats 8000000 in
set_option maxRecDepth 100000 in
theorem laws_FnExactEdgesText.calls (k : Nat) (a0 : Int) (a1 : Int) (r : Bool) (w : World) (h : laws_FnExactEdgesText.f k a0 a1 = some r) :
  Calls Tryd.prog 3 #[.int .i64 a0, .int .i64 a1] w fun e w' => e = .returned (.bool r) ∧ Below w.heap.size w w' := by
 have HB := Aside0.mk (Below.refl w.heap.size w)
 have H : ((spec_EdgesText.f k a0 a1).bind fun t158 => ((impl_EdgesText.f k a0 a1).bind fun t159 => (if t159.toList = t158.toList then (some true) else (some false)))) = some r := h
 clear h
 replace H := Option.bind_eq_some_iff.mp H
 obtain ⟨t158, A30, H⟩ := H
 (try dsimp only at H)
 have A3 := Aside0.mk A30
 clear A30
 replace H := Option.bind_eq_some_iff.mp H
 obtain ⟨t159, A40, H⟩ := H
 (try dsimp only at H)
 have A4 := Aside0.mk A40
 clear A40
 by_cases c5 : t159.toList = t158.toList
 ·rw [if_pos c5] at H
  have c5b0 : (t159.toList == t158.toList) = true := beq_iff_eq.mpr c5
  have c5b1 : (t159.toList != t158.toList) = false := bne_eq_false_iff_eq.mpr c5
  clear c5
  obtain rfl := Option.some.inj H
  go_enter Tryd.func3, Tryd.ntmps3
  go_wp2_with (first | ((with_reducible refine gate_callee (f := 5) rfl ?_); refine gL (some 9) rfl rfl Tryd.func5 (by kernel_rfl) rfl #[.int .i64 a0, .int .i64 a1] rfl ?_; (with_reducible refine (spec_EdgesText.calls k a0 a1 t158 _ A3.out).mono ?_); rintro e w6 ⟨rfl, hb⟩; refine ⟨_, rfl, ?_⟩; have n0_ := bs HB hb; clear HB; have HB := n0_; clear n0_; (try clear hb); (try clear hb2); (try clear hk); (try clear hi)) | ((with_reducible refine gate_callee (f := 6) rfl ?_); refine gL (some 12) rfl rfl Tryd.func6 (by kernel_rfl) rfl #[.int .i64 a0, .int .i64 a1] rfl ?_; (with_reducible refine (impl_EdgesText.calls k a0 a1 t159 _ A4.out).mono ?_); rintro e w7 ⟨rfl, hb⟩; refine ⟨_, rfl, ?_⟩; have n0_ := bs HB hb; clear HB; have HB := n0_; clear n0_; (try clear hb); (try clear hb2); (try clear hk); (try clear hi)))
  go_ret
  exact ⟨by first | rfl | (simp [errW_none, errW_some] <;> rfl) | (simp [*, errW_none, errW_some] <;> rfl), (bl HB)⟩
 ·rw [if_neg c5] at H
  have c5b0 : (t159.toList == t158.toList) = false := beq_eq_false_iff_ne.mpr c5
  have c5b1 : (t159.toList != t158.toList) = true := bne_iff_ne.mpr c5
  obtain rfl := Option.some.inj H
  go_enter Tryd.func3, Tryd.ntmps3
  go_wp2_with (first | ((with_reducible refine gate_callee (f := 5) rfl ?_); refine gL (some 9) rfl rfl Tryd.func5 (by kernel_rfl) rfl #[.int .i64 a0, .int .i64 a1] rfl ?_; (with_reducible refine (spec_EdgesText.calls k a0 a1 t158 _ A3.out).mono ?_); rintro e w8 ⟨rfl, hb⟩; refine ⟨_, rfl, ?_⟩; have n0_ := bs HB hb; clear HB; have HB := n0_; clear n0_; (try clear hb); (try clear hb2); (try clear hk); (try clear hi)) | ((with_reducible refine gate_callee (f := 6) rfl ?_); refine gL (some 12) rfl rfl Tryd.func6 (by kernel_rfl) rfl #[.int .i64 a0, .int .i64 a1] rfl ?_; (with_reducible refine (impl_EdgesText.calls k a0 a1 t159 _ A4.out).mono ?_); rintro e w9 ⟨rfl, hb⟩; refine ⟨_, rfl, ?_⟩; have n0_ := bs HB hb; clear HB; have HB := n0_; clear n0_; (try clear hb); (try clear hb2); (try clear hk); (try clear hi)))
  go_ret
  exact ⟨by first | rfl | (simp [errW_none, errW_some] <;> rfl) | (simp [*, errW_none, errW_some] <;> rfl), (bl HB)⟩

/-- THE ONE PURE STATEMENT of laws_FnExactEdgesText: yours. -/
def laws_FnExactEdgesText.Pure : Prop := ∀ (a0 : Int) (a1 : Int), (Lit.int .i64 a0).wf = true → (Lit.int .i64 a1).wf = true → ∃ k, laws_FnExactEdgesText.f k a0 a1 = some true
theorem laws_FnExactEdgesText.walk (P : laws_FnExactEdgesText.Pure) (a0 : Int) (a1 : Int) (w : World) (w0 : (Lit.int .i64 a0).wf = true) (w1 : (Lit.int .i64 a1).wf = true) :
  Calls Tryd.prog 3 #[.int .i64 a0, .int .i64 a1] w fun e w' => e = .returned (.bool true) ∧ Below w.heap.size w w' := by
 obtain ⟨k, h⟩ := P a0 a1 w0 w1
 refine (laws_FnExactEdgesText.calls k a0 a1 true w h).mono ?_
 rintro e w' ⟨rfl, hd⟩
 exact ⟨rfl, hd⟩

end Go.Proofs.YtiimkifkakdalaaDoor.P
