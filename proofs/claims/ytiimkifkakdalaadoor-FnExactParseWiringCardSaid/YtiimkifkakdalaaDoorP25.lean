-- Printed by a program of this session (wip/tools/myprint.py, over the kit's print.py); not trusted: Lean checks it.
import Derived.Test.YtiimkifkakdalaaDoorWAll2
import Derived.Test.YtiimkifkakdalaaDoorP0
import Derived.Test.YtiimkifkakdalaaDoorOPars
import Derived.Test.YtiimkifkakdalaaDoorOSwap
import Derived.Test.YtiimkifkakdalaaDoorP12
import Derived.Test.YtiimkifkakdalaaDoorP23
namespace Go.Proofs.YtiimkifkakdalaaDoor.P
open Go.RowKit Go.Proofs.YtiimkifkakdalaaDoorW.PrintWords Go.Proofs.YtiimkifkakdalaaDoorW.PrintLast Go.Proofs.YtiimkifkakdalaaDoorW.PrintMore
attribute [local go_sem] max2_int min2_int max_two min_two max_three min_three max_four min_four   -- for this text's walks alone
set_option linter.unusedVariables false
set_option linter.unusedSimpArgs false

/-! ### spec_IsWiring: function 25 -/
mutual
def spec_IsWiring.j0 : Nat → Int → List Int → Bool → Option (Bool)
 | 0, _, _, _ => none
 | k + 1, x0, x1, x19 => if x19 = true then (some false) else ((spec_l12Start.f k x0).bind fun t187 => (spec_IsWiring.l0 k x1 t187 0))
def spec_IsWiring.l0 : Nat → List Int → List Int → Int → Option (Bool)
 | 0, _, _, _ => none
 | k + 1, x1, x5, x6 => if x6 < (x1.length : Int) then (if 0 ≤ x6 then ((spec_l12Swap.f x5 (rd x1 x6)).bind fun bt191 => (if bt191.1 = true then (spec_IsWiring.l0 k x1 bt191.2 (wrap64 (x6 + 1))) else (some false))) else (none)) else (some true)
end
def spec_IsWiring.f (k : Nat) (a0 : Int) (l1 : List Int) : Option (Bool) := (spec_l1In.f a0 3 6).bind fun t186 => (if t186 = true then (spec_IsWiring.j0 k a0 l1 ((l1.length : Int) != (wrap64 (Int.tdiv (wrap64 (a0 * (wrap64 (a0 - 1)))) 2)))) else (spec_IsWiring.j0 k a0 l1 true))
theorem spec_IsWiring.mono_l : ∀ k, (∀ y0 y1 y2, LeO (spec_IsWiring.j0 k y0 y1 y2) (spec_IsWiring.j0 (k + 1) y0 y1 y2)) ∧ (∀ y0 y1 y2, LeO (spec_IsWiring.l0 k y0 y1 y2) (spec_IsWiring.l0 (k + 1) y0 y1 y2))
 | 0 => ⟨fun _ _ _ r h => by simp [spec_IsWiring.j0] at h, fun _ _ _ r h => by simp [spec_IsWiring.l0] at h⟩
 | k + 1 => by
  obtain ⟨ih0, ih1⟩ := spec_IsWiring.mono_l k
  refine ⟨?_, ?_⟩
  ·intro y0 y1 y2
   unfold spec_IsWiring.j0
   repeat' first
   | (with_reducible exact ih0 _ _ _)
   | (with_reducible exact ih1 _ _ _)
   | (with_reducible exact spec_l12Start.mono _ _)
   | (with_reducible exact LeO.refl _)
   | (with_reducible exact LeO.none _)
   | (with_reducible refine LeO.ite ?_ ?_)
   | (with_reducible refine LeO.bind ?_ (fun _ => ?_))
   | exact ih0 _ _ _
   | exact ih1 _ _ _
   | exact spec_l12Start.mono _ _
   | exact LeO.none _
   | refine LeO.ite ?_ ?_
   | refine LeO.bind ?_ (fun _ => ?_)
  ·intro y0 y1 y2
   unfold spec_IsWiring.l0
   repeat' first
   | (with_reducible exact ih0 _ _ _)
   | (with_reducible exact ih1 _ _ _)
   | (with_reducible exact spec_l12Start.mono _ _)
   | (with_reducible exact LeO.refl _)
   | (with_reducible exact LeO.none _)
   | (with_reducible refine LeO.ite ?_ ?_)
   | (with_reducible refine LeO.bind ?_ (fun _ => ?_))
   | exact ih0 _ _ _
   | exact ih1 _ _ _
   | exact spec_l12Start.mono _ _
   | exact LeO.none _
   | refine LeO.ite ?_ ?_
   | refine LeO.bind ?_ (fun _ => ?_)
theorem spec_IsWiring.mono : ∀ a0 a1 k, LeO (spec_IsWiring.f k a0 a1) (spec_IsWiring.f (k + 1) a0 a1) := by
 intro a0 a1 k
 obtain ⟨ih0, ih1⟩ := spec_IsWiring.mono_l k
 unfold spec_IsWiring.f
 repeat' first
   | (with_reducible exact ih0 _ _ _)
   | (with_reducible exact ih1 _ _ _)
   | (with_reducible exact spec_l12Start.mono _ _)
   | (with_reducible exact LeO.refl _)
   | (with_reducible exact LeO.none _)
   | (with_reducible refine LeO.ite ?_ ?_)
   | (with_reducible refine LeO.bind ?_ (fun _ => ?_))
   | exact ih0 _ _ _
   | exact ih1 _ _ _
   | exact spec_l12Start.mono _ _
   | exact LeO.none _
   | refine LeO.ite ?_ ?_
   | refine LeO.bind ?_ (fun _ => ?_)
set_option maxHeartbeats 8000000 in
set_option maxRecDepth 100000 in
theorem spec_IsWiring.calls (k : Nat) (a0 : Int) (A1 : Option Addr) (c1 : Nat) (l1 : List Int) (r : Bool) (w : World) (hr1 : Kd.C (Kd.int .i64) w A1 l1.length l1) (hc1 : l1.length ≤ c1) (h : spec_IsWiring.f k a0 l1 = some r) :
  Calls Tryd.prog 25 #[.int .i64 a0, .slice A1 l1.length c1] w fun e w' => e = .returned (.bool r) ∧ Below w.heap.size w w' := by
 have HR1 := Aside0.mk hr1
 have HC1 := Aside0.mk hc1
 clear hr1 hc1
 have HB := Aside0.mk (Below.refl w.heap.size w)
 have H : ((spec_l1In.f a0 3 6).bind fun t186 => (if t186 = true then (spec_IsWiring.j0 k a0 l1 ((l1.length : Int) != (wrap64 (Int.tdiv (wrap64 (a0 * (wrap64 (a0 - 1)))) 2)))) else (spec_IsWiring.j0 k a0 l1 true))) = some r := h
 clear h
 have HC3 := Aside0.mk H
 clear H
 go_enter Tryd.func25, Tryd.ntmps25
 go_upto_region 1 with (fail)
 go_cut [19] (fun v19 wc => ∃ (kq : Nat) (x19_2 : Bool), v19 = .bool x19_2 ∧ Aside0 (spec_IsWiring.j0 kq a0 l1 x19_2 = some r) ∧ Aside0 (kq ≤ k) ∧ Aside0 (Below w.heap.size w wc))
 case first =>
  have H := HC3.out
  clear HC3
  replace H := Option.bind_eq_some_iff.mp H
  obtain ⟨t186, A40, H⟩ := H
  (try dsimp only at H)
  have A4 := Aside0.mk A40
  clear A40
  by_cases c5 : t186 = true
  ·subst c5
   have H1 : (spec_IsWiring.j0 k a0 l1 ((l1.length : Int) != (wrap64 (Int.tdiv (wrap64 (a0 * (wrap64 (a0 - 1)))) 2)))) = some r := by rw [if_pos rfl] at H; exact H
   clear H
   have H := H1
   clear H1
   have H' := Aside0.mk H
   clear H
   go_wp2_with (first | ((with_reducible refine gate_callee (f := 12) rfl ?_); refine gL (some 8) rfl rfl Tryd.func12 (by kernel_rfl) rfl #[.int .i64 a0, .int .i64 3, .int .i64 6] rfl ?_; (with_reducible refine (spec_l1In.calls a0 3 6 true _ A4.out).mono ?_); rintro e w' ⟨rfl, ⟨nd, rfl⟩⟩; refine ⟨_, rfl, ?_⟩))
   go_meet
   case rel => exact ⟨_, (((l1.length : Int) != (wrap64 (Int.tdiv (wrap64 (a0 * (wrap64 (a0 - 1)))) 2)))), (by first | rfl | (simp; done) | (simp [*]; done)), H', ⟨by first | omega | exact Nat.le_refl _⟩, ⟨(bl HB)⟩⟩
  ·replace c5 := Bool.eq_false_iff.mpr c5
   subst c5
   have H1 : (spec_IsWiring.j0 k a0 l1 true) = some r := by rw [if_neg (show ¬ (false = true) by decide)] at H; exact H
   clear H
   have H := H1
   clear H1
   have H' := Aside0.mk H
   clear H
   go_wp2_with (first | ((with_reducible refine gate_callee (f := 12) rfl ?_); refine gL (some 8) rfl rfl Tryd.func12 (by kernel_rfl) rfl #[.int .i64 a0, .int .i64 3, .int .i64 6] rfl ?_; (with_reducible refine (spec_l1In.calls a0 3 6 false _ A4.out).mono ?_); rintro e w' ⟨rfl, ⟨nd, rfl⟩⟩; refine ⟨_, rfl, ?_⟩))
   go_meet
   case rel => exact ⟨_, (true), (by first | rfl | (simp; done) | (simp [*]; done)), H', ⟨by first | omega | exact Nat.le_refl _⟩, ⟨(bl HB)⟩⟩
 case rest =>
  clear HC3
  try clear c1
  try clear c2
  try clear p2
  try clear c5
  obtain ⟨kq, x19_2, rfl, HA, HJ2, HB⟩ := hcut
  cases kq with
  | zero => exact absurd HA.out (by simp [spec_IsWiring.j0])
  | succ kj2 =>
   have H := HA.out
   clear HA
   simp only [spec_IsWiring.j0] at H
   by_cases c6 : x19_2 = true
   ·subst c6
    have H1 : (some false) = some r := by rw [if_pos rfl] at H; exact H
    clear H
    have H := H1
    clear H1
    obtain rfl := Option.some.inj H
    go_wp2
    go_ret
    exact ⟨by first | rfl | (simp [errW_none, errW_some] <;> rfl) | (simp [*, errW_none, errW_some] <;> rfl), (bl HB)⟩
   ·replace c6 := Bool.eq_false_iff.mpr c6
    subst c6
    have H1 : ((spec_l12Start.f kj2 a0).bind fun t187 => (spec_IsWiring.l0 kj2 l1 t187 0)) = some r := by rw [if_neg (show ¬ (false = true) by decide)] at H; exact H
    clear H
    have H := H1
    clear H1
    replace H := Option.bind_eq_some_iff.mp H
    obtain ⟨t187, A70, H⟩ := H
    (try dsimp only at H)
    have A7 := Aside0.mk A70
    clear A70
    have H' := Aside0.mk H
    clear H
    go_wp2_with (first | ((with_reducible refine gate_callee (f := 34) rfl ?_); refine gL (some 21) rfl rfl Tryd.func34 (by kernel_rfl) rfl #[.int .i64 a0] rfl ?_; (with_reducible refine (spec_l12Start.calls kj2 a0 t187 _ A7.out).mono ?_); rintro e w8 ⟨v188, rfl, ho0, hb⟩; refine ⟨_, rfl, ?_⟩; have n0_ := Aside0.mk (Kd.R_lower ho0 (below_size (bl HB))); have n1_ := bs HB hb; clear HB; have HO189 := n0_; have HB := n1_; clear n0_ n1_; (try clear hb); (try clear hb2); (try clear hk); (try clear hi); (try clear ho0)))
    go_loopg [6] kj2 (fun kq v6 w' => ∃ (x5_2 : List Int) (x6_2 : Int), v6 = .int .i64 x6_2 ∧ Aside0 (spec_IsWiring.l0 kq l1 x5_2 x6_2 = some r) ∧ Aside0 (kq ≤ kj2) ∧ Aside0 (Kd.R (Kd.int .i64) 3 w' w.heap.size (fun _ => True) v188 x5_2) ∧ Aside0 (Below w.heap.size w w'))
    case atStart => exact ⟨(t187), (0), (by first | rfl | (simp; done) | (simp [*]; done)), H', ⟨Nat.le_refl _⟩, ⟨by (with_reducible repeat (first | apply Kd.R_alloc | apply Kd.R_drewN | apply Kd.R_drew)); exact HO189.out⟩, ⟨(bl HB)⟩⟩
    case round =>
     clear H'
     try clear c1
     try clear c2
     try clear p2
     try clear c3
     try clear c5
     try clear c6
     try clear p6
     try clear p2
     obtain ⟨x5_2, x6_2, rfl, HA, HK2, HO_5, HB⟩ := hrel
     cases gk with
     | zero => exact absurd HA.out (by simp [spec_IsWiring.l0])
     | succ k2 =>
      have H := HA.out
      clear HA
      simp only [spec_IsWiring.l0] at H
      by_cases c9 : x6_2 < (l1.length : Int)
      ·rw [if_pos c9] at H
       have c9b0 : decide (x6_2 < (l1.length : Int)) = true := decide_eq_true c9
       clear c9
       by_cases c10 : 0 ≤ x6_2
       ·rw [if_pos c10] at H
        have c10b0 : decide (0 ≤ x6_2) = true := decide_eq_true c10
        clear c10
        replace H := Option.bind_eq_some_iff.mp H
        obtain ⟨⟨t191, t192⟩, A110, H⟩ := H
        (try dsimp only at H)
        have A11 := Aside0.mk A110
        clear A110
        by_cases c12 : t191 = true
        ·subst c12
         have H1 : (spec_IsWiring.l0 k2 l1 t192 (wrap64 (x6_2 + 1))) = some r := by rw [if_pos rfl] at H; exact H
         clear H
         have H := H1
         clear H1
         have H' := Aside0.mk H
         clear H
         have p190 : 0 ≤ (x6_2 : Int) := of_decide_eq_true (by first | (with_reducible assumption) | assumption)
         have q190 : x6_2 < (l1.length : Int) := of_decide_eq_true (by first | (with_reducible assumption) | assumption)
         obtain ⟨ad190, e190, hx190_0⟩ := Kd.at_int HR1.out x6_2 p190 q190
         cases e190
         replace hx190_0 := (HB.out.cell (World.block_lt_of_cell? w _ hx190_0)).trans hx190_0
         replace p190 := eq_true p190
         replace q190 := eq_true q190
         obtain ⟨Ao13, co13, eo13⟩ := Kd.R_slice HO_5.out
         subst eo13
         go_wp2_with (first | ((with_reducible refine gate_callee (f := 35) rfl ?_); refine gL (some 33) rfl rfl Tryd.func35 (by kernel_rfl) rfl #[.slice Ao13 x5_2.length co13, .int .i64 (rd l1 x6_2)] rfl ?_; (with_reducible refine (spec_l12Swap.calls (fun k_ => some k_ = (.slice Ao13 x5_2.length co13 : Value).ownBlock) (.slice Ao13 x5_2.length co13) x5_2 (rd l1 x6_2) true t192 w _ ?side1 ?side2 A11.out).mono ?_); (case side1 => repeat (first | (with_reducible first | exact HB.out | apply below_alloc | apply pw_below_drewN | apply below_drew1) | exact HB.out)); (case side2 => exact Kd.R_tight rfl HO_5.out); rintro e w14 ⟨rfl, hy0, hb, hkp⟩; refine ⟨_, rfl, ?_⟩; have n0_ := Aside0.mk (Kd.R_reok rfl hy0 (fun k_ e_ => HO_5.out.1 k_ e_)); have n1_ := Aside0.mk (hb); clear HO_5; clear HB; have HO_5 := n0_; have HB := n1_; clear n0_ n1_; (try clear hb); (try clear hkp); (try clear hy0)))
         go_roundg k2
         case measure => have := HJ2.out; have := HK2.out; omega
         case rel => exact ⟨(t192), (wrap64 (x6_2 + 1)), (by first | rfl | (simp; done) | (simp [*]; done)), H', ⟨by have := HJ2.out; have := HK2.out; omega⟩, ⟨by (with_reducible repeat (first | apply Kd.R_alloc | apply Kd.R_drewN | apply Kd.R_drew)); exact HO_5.out⟩, ⟨(bl HB)⟩⟩
        ·replace c12 := Bool.eq_false_iff.mpr c12
         subst c12
         have H1 : (some false) = some r := by rw [if_neg (show ¬ (false = true) by decide)] at H; exact H
         clear H
         have H := H1
         clear H1
         obtain rfl := Option.some.inj H
         have p190 : 0 ≤ (x6_2 : Int) := of_decide_eq_true (by first | (with_reducible assumption) | assumption)
         have q190 : x6_2 < (l1.length : Int) := of_decide_eq_true (by first | (with_reducible assumption) | assumption)
         obtain ⟨ad190, e190, hx190_0⟩ := Kd.at_int HR1.out x6_2 p190 q190
         cases e190
         replace hx190_0 := (HB.out.cell (World.block_lt_of_cell? w _ hx190_0)).trans hx190_0
         replace p190 := eq_true p190
         replace q190 := eq_true q190
         obtain ⟨Ao15, co15, eo15⟩ := Kd.R_slice HO_5.out
         subst eo15
         go_wp2_with (first | ((with_reducible refine gate_callee (f := 35) rfl ?_); refine gL (some 33) rfl rfl Tryd.func35 (by kernel_rfl) rfl #[.slice Ao15 x5_2.length co15, .int .i64 (rd l1 x6_2)] rfl ?_; (with_reducible refine (spec_l12Swap.calls (fun k_ => some k_ = (.slice Ao15 x5_2.length co15 : Value).ownBlock) (.slice Ao15 x5_2.length co15) x5_2 (rd l1 x6_2) false t192 w _ ?side1 ?side2 A11.out).mono ?_); (case side1 => repeat (first | (with_reducible first | exact HB.out | apply below_alloc | apply pw_below_drewN | apply below_drew1) | exact HB.out)); (case side2 => exact Kd.R_tight rfl HO_5.out); rintro e w16 ⟨rfl, hy0, hb, hkp⟩; refine ⟨_, rfl, ?_⟩; have n0_ := Aside0.mk (Kd.R_reok rfl hy0 (fun k_ e_ => HO_5.out.1 k_ e_)); have n1_ := Aside0.mk (hb); clear HO_5; clear HB; have HO_5 := n0_; have HB := n1_; clear n0_ n1_; (try clear hb); (try clear hkp); (try clear hy0)))
         go_ret
         exact ⟨by first | rfl | (simp [errW_none, errW_some] <;> rfl) | (simp [*, errW_none, errW_some] <;> rfl), (bl HB)⟩
       ·rw [if_neg c10] at H
        exact absurd H (by simp)
      ·rw [if_neg c9] at H
       have c9b0 : decide (x6_2 < (l1.length : Int)) = false := decide_eq_false c9
       clear c9
       obtain rfl := Option.some.inj H
       go_wp2
       go_ret
       exact ⟨by first | rfl | (simp [errW_none, errW_some] <;> rfl) | (simp [*, errW_none, errW_some] <;> rfl), (bl HB)⟩

/-! ### spec_ParseWiring: function 7 -/
mutual
def spec_ParseWiring.j0 : Nat → List ByteArray → Int → Bool → Option (Int × List Int × Bool)
 | 0, _, _, _ => none
 | k + 1, x5, x6, x25 => if x25 = true then (some (0, (([] : List Int)), false)) else (spec_ParseWiring.l0 k x5 x6 (([] : List Int)) 0)
def spec_ParseWiring.l0 : Nat → List ByteArray → Int → List Int → Int → Option (Int × List Int × Bool)
 | 0, _, _, _, _ => none
 | k + 1, x5, x6, x8, x9 => if 1 < (x5.length : Int) then (if x9 < ((rdOf ByteArray.empty x5 1).size : Int) then (if 0 ≤ x9 then (if x8.length < 17592186044416 then (spec_ParseWiring.l0 k x5 x6 (x8 ++ [wrap64 ((wrap64 (bt (rdOf ByteArray.empty x5 1) x9)) - 48)]) (wrap64 (x9 + 1))) else (none)) else (none)) else ((spec_IsWiring.f k x6 x8).bind fun t210 => (if t210 = true then (some (x6, x8, true)) else (some (0, (([] : List Int)), false))))) else (none)
end
def spec_ParseWiring.f (k : Nat) (a0 : ByteArray) : Option (Int × List Int × Bool) := (spec_SplitByte.f k a0 58).bind fun t193 => (if 0 < (t193.length : Int) then ((spec_ParseInt.f k (rdOf ByteArray.empty t193 0)).bind fun bt197 => (if (t193.length : Int) = 2 then (spec_ParseWiring.j0 k t193 bt197.1 (!bt197.2)) else (spec_ParseWiring.j0 k t193 bt197.1 true))) else (none))
theorem spec_ParseWiring.mono_l : ∀ k, (∀ y0 y1 y2, LeO (spec_ParseWiring.j0 k y0 y1 y2) (spec_ParseWiring.j0 (k + 1) y0 y1 y2)) ∧ (∀ y0 y1 y2 y3, LeO (spec_ParseWiring.l0 k y0 y1 y2 y3) (spec_ParseWiring.l0 (k + 1) y0 y1 y2 y3))
 | 0 => ⟨fun _ _ _ r h => by simp [spec_ParseWiring.j0] at h, fun _ _ _ _ r h => by simp [spec_ParseWiring.l0] at h⟩
 | k + 1 => by
  obtain ⟨ih0, ih1⟩ := spec_ParseWiring.mono_l k
  refine ⟨?_, ?_⟩
  ·intro y0 y1 y2
   unfold spec_ParseWiring.j0
   repeat' first
   | (with_reducible exact ih0 _ _ _)
   | (with_reducible exact ih1 _ _ _ _)
   | (with_reducible exact spec_IsWiring.mono _ _ _)
   | (with_reducible exact spec_ParseInt.mono _ _)
   | (with_reducible exact spec_SplitByte.mono _ _ _)
   | (with_reducible exact LeO.refl _)
   | (with_reducible exact LeO.none _)
   | (with_reducible refine LeO.ite ?_ ?_)
   | (with_reducible refine LeO.bind ?_ (fun _ => ?_))
   | exact ih0 _ _ _
   | exact ih1 _ _ _ _
   | exact spec_IsWiring.mono _ _ _
   | exact spec_ParseInt.mono _ _
   | exact spec_SplitByte.mono _ _ _
   | exact LeO.none _
   | refine LeO.ite ?_ ?_
   | refine LeO.bind ?_ (fun _ => ?_)
  ·intro y0 y1 y2 y3
   unfold spec_ParseWiring.l0
   repeat' first
   | (with_reducible exact ih0 _ _ _)
   | (with_reducible exact ih1 _ _ _ _)
   | (with_reducible exact spec_IsWiring.mono _ _ _)
   | (with_reducible exact spec_ParseInt.mono _ _)
   | (with_reducible exact spec_SplitByte.mono _ _ _)
   | (with_reducible exact LeO.refl _)
   | (with_reducible exact LeO.none _)
   | (with_reducible refine LeO.ite ?_ ?_)
   | (with_reducible refine LeO.bind ?_ (fun _ => ?_))
   | exact ih0 _ _ _
   | exact ih1 _ _ _ _
   | exact spec_IsWiring.mono _ _ _
   | exact spec_ParseInt.mono _ _
   | exact spec_SplitByte.mono _ _ _
   | exact LeO.none _
   | refine LeO.ite ?_ ?_
   | refine LeO.bind ?_ (fun _ => ?_)
theorem spec_ParseWiring.mono : ∀ a0 k, LeO (spec_ParseWiring.f k a0) (spec_ParseWiring.f (k + 1) a0) := by
 intro a0 k
 obtain ⟨ih0, ih1⟩ := spec_ParseWiring.mono_l k
 unfold spec_ParseWiring.f
 repeat' first
   | (with_reducible exact ih0 _ _ _)
   | (with_reducible exact ih1 _ _ _ _)
   | (with_reducible exact spec_IsWiring.mono _ _ _)
   | (with_reducible exact spec_ParseInt.mono _ _)
   | (with_reducible exact spec_SplitByte.mono _ _ _)
   | (with_reducible exact LeO.refl _)
   | (with_reducible exact LeO.none _)
   | (with_reducible refine LeO.ite ?_ ?_)
   | (with_reducible refine LeO.bind ?_ (fun _ => ?_))
   | exact ih0 _ _ _
   | exact ih1 _ _ _ _
   | exact spec_IsWiring.mono _ _ _
   | exact spec_ParseInt.mono _ _
   | exact spec_SplitByte.mono _ _ _
   | exact LeO.none _
   | refine LeO.ite ?_ ?_
   | refine LeO.bind ?_ (fun _ => ?_)
set_option maxHeartbeats 8000000 in
set_option maxRecDepth 100000 in
theorem spec_ParseWiring.calls (k : Nat) (a0 : ByteArray) (r1 : Int) (r2 : List Int) (r3 : Bool) (w : World) (h : spec_ParseWiring.f k a0 = some (r1, r2, r3)) :
  Calls Tryd.prog 7 #[.string a0] w fun e w' => ∃ v1_ : Value, e = .returned (.tuple #[.int .i64 r1, v1_, .bool r3]) ∧ Kd.R (Kd.int .i64) 3 w' w.heap.size (fun _ => True) v1_ r2 ∧ Below w.heap.size w w' := by
 have HB := Aside0.mk (Below.refl w.heap.size w)
 have H : ((spec_SplitByte.f k a0 58).bind fun t193 => (if 0 < (t193.length : Int) then ((spec_ParseInt.f k (rdOf ByteArray.empty t193 0)).bind fun bt197 => (if (t193.length : Int) = 2 then (spec_ParseWiring.j0 k t193 bt197.1 (!bt197.2)) else (spec_ParseWiring.j0 k t193 bt197.1 true))) else (none))) = some (r1, r2, r3) := h
 clear h
 replace H := Option.bind_eq_some_iff.mp H
 obtain ⟨t193, A20, H⟩ := H
 (try dsimp only at H)
 have A2 := Aside0.mk A20
 clear A20
 by_cases c3 : 0 < (t193.length : Int)
 ·rw [if_pos c3] at H
  have c3b0 : decide (0 < (t193.length : Int)) = true := decide_eq_true c3
  have c3b1 : decide (0 < t193.length) = true := decide_eq_true (by omega)
  clear c3
  replace H := Option.bind_eq_some_iff.mp H
  obtain ⟨⟨t197, t198⟩, A40, H⟩ := H
  (try dsimp only at H)
  have A4 := Aside0.mk A40
  clear A40
  have HC5 := Aside0.mk H
  clear H
  go_enter Tryd.func7, Tryd.ntmps7
  go_upto_region 3 with (first | ((with_reducible refine gate_callee (f := 23) rfl ?_); refine gL (some 11) rfl rfl Tryd.func23 (by kernel_rfl) rfl #[.string a0, .int .u8 58] rfl ?_; (with_reducible refine (spec_SplitByte.calls k a0 58 t193 _ A2.out).mono ?_); rintro e w6 ⟨v194, rfl, ho0, hb⟩; refine ⟨_, rfl, ?_⟩; have n0_ := Aside0.mk (Kd.R_lower ho0 (below_size (bl HB))); have n1_ := bs HB hb; clear HB; have HO195 := n0_; have HB := n1_; clear n0_ n1_; (try clear hb); (try clear hb2); (try clear hk); (try clear hi); (try clear ho0); obtain ⟨Ao7, co7, eo7⟩ := Kd.R_slice HO195.out; subst eo7; have p196 : 0 ≤ (0 : Int) := (by omega); have q196 : 0 < (t193.length : Int) := of_decide_eq_true (by first | (with_reducible assumption) | assumption); obtain ⟨ad196, e196, hx196_0⟩ := Kd.at_string (Kd.R_reads' HO195.out).2.2 0 p196 q196; cases e196; have qi196 : (0 < t193.length) = True := eq_true (by omega); (try rw [show ((0 : Int)).toNat = 0 from rfl] at hx196_0); (try rw [Addr.add_zero'] at hx196_0); replace p196 := eq_true p196; replace q196 := eq_true q196) | ((with_reducible refine gate_callee (f := 24) rfl ?_); refine gL (some 16) rfl rfl Tryd.func24 (by kernel_rfl) rfl #[.string (rdOf ByteArray.empty t193 0)] rfl ?_; (with_reducible refine (spec_ParseInt.calls k (rdOf ByteArray.empty t193 0) t197 t198 _ A4.out).mono ?_); rintro e w8 ⟨rfl, hb⟩; refine ⟨_, rfl, ?_⟩; have n0_ := Aside0.mk (Kd.R_below (rr HO195) hb); have n1_ := bs HB hb; clear HO195; clear HB; have HO195 := n0_; have HB := n1_; clear n0_ n1_; (try clear hb); (try clear hb2); (try clear hk); (try clear hi)))
  (try simp only [Act.put, List.setIfInBounds_toArray, List.set_cons_zero, List.set_cons_succ])
  go_cut [25] (fun v25 wc => ∃ (kq : Nat) (x25_4 : Bool), v25 = .bool x25_4 ∧ Aside0 (spec_ParseWiring.j0 kq t193 t197 x25_4 = some (r1, r2, r3)) ∧ Aside0 (kq ≤ k) ∧ Aside0 (Kd.R Kd.string 9 wc w.heap.size (fun _ => True) (.slice (some ad196) t193.length co7) t193) ∧ Aside0 (Below w.heap.size w wc))
  case first =>
   have H := HC5.out
   clear HC5
   by_cases c9 : (t193.length : Int) = 2
   ·rw [if_pos c9] at H
    have c9b0 : ((t193.length : Int) == 2) = true := beq_iff_eq.mpr c9
    have c9b1 : ((t193.length : Int) != 2) = false := bne_eq_false_iff_eq.mpr c9
    clear c9
    (first | rw [c9b0] | (simp only [i64_w, i32_w]; rw [c9b0]) | skip)
    have H' := Aside0.mk H
    clear H
    go_wp2
    go_meet
    case rel => exact ⟨_, (!t198), (by first | rfl | (simp; done) | (simp [*]; done)), H', ⟨by first | omega | exact Nat.le_refl _⟩, ⟨by (with_reducible repeat (first | apply Kd.R_alloc | apply Kd.R_drewN | apply Kd.R_drew)); exact HO195.out⟩, ⟨(bl HB)⟩⟩
   ·rw [if_neg c9] at H
    have c9b0 : ((t193.length : Int) == 2) = false := beq_eq_false_iff_ne.mpr c9
    have c9b1 : ((t193.length : Int) != 2) = true := bne_iff_ne.mpr c9
    (first | rw [c9b0] | (simp only [i64_w, i32_w]; rw [c9b0]) | skip)
    have H' := Aside0.mk H
    clear H
    go_wp2
    go_meet
    case rel => exact ⟨_, (true), (by first | rfl | (simp; done) | (simp [*]; done)), H', ⟨by first | omega | exact Nat.le_refl _⟩, ⟨by (with_reducible repeat (first | apply Kd.R_alloc | apply Kd.R_drewN | apply Kd.R_drew)); exact HO195.out⟩, ⟨(bl HB)⟩⟩
  case rest =>
   clear HC5
   try clear p1
   try clear q1
   try clear hx1
   try clear qi1
   try clear c2
   try clear p2
   try clear c3
   try clear c3b0
   try clear c3b1
   try clear c7
   try clear c9
   try clear c9b0
   try clear c9b1
   try clear hx196_0
   try clear p196
   try clear q196
   obtain ⟨kq, x25_4, rfl, HA, HJ4, HO_5, HB⟩ := hcut
   cases kq with
   | zero => exact absurd HA.out (by simp [spec_ParseWiring.j0])
   | succ kj4 =>
    have H := HA.out
    clear HA
    simp only [spec_ParseWiring.j0] at H
    by_cases c10 : x25_4 = true
    ·subst c10
     have H1 : (some (0, (([] : List Int)), false)) = some (r1, r2, r3) := by rw [if_pos rfl] at H; exact H
     clear H
     have H := H1
     clear H1
     obtain ⟨y199, hy199⟩ : ∃ y_ : List Int, y_ = (([] : List Int)) := ⟨_, rfl⟩
     replace H : (some (0, y199, false)) = some (r1, r2, r3) := by first | (rw [hy199]; with_reducible exact H) | (have H2_ := (Option.bind_some _ _).symm.trans H; rw [hy199]; with_reducible exact H2_) | (have H2_ := (Option.bind_some _ _).symm.trans H; with_reducible exact H2_) | with_reducible exact H | (rw [hy199]; exact H) | exact H
     have Ny199 := Aside0.mk hy199
     clear hy199
     simp only [Option.some.injEq, Prod.mk.injEq] at H
     obtain ⟨rfl, rfl, rfl⟩ := H
     go_wp2_with (first | ((with_reducible refine gate_dst (N := 26) rfl ?_); refine Kd.R_lit (Kd.int .i64) _ 3 ?hg (N := 26) ?hd (xs := ([] : List Int)) (inner := []) (ok := fun _ => True) (okp := fun _ => True) ?hr ?hp (fun _ hk => hk) trivial (Below.refl _ _) (Nat.le_refl _) (by simp) ?_; (case hd => rfl); (case hg => rfl); (case hr => first | (go_simp; done) | (go_simp; rfl)); (case hp => exact (Reps.none _ _)); intro v200 w11 ho12 hb hg_ hnew_; clear hg_ hnew_; (first | rw [← Ny199.out] at ho12 | (simp only [Int.reduceToNat] at ho12; rw [← Ny199.out] at ho12)); have n0_ := Aside0.mk (Kd.R_below (rr HO_5) hb); have n1_ := Aside0.mk (Kd.R_lower ho12 (below_size (bl HB))); have n2_ := bs HB hb; clear HO_5; clear HB; have HO_5 := n0_; have HO201 := n1_; have HB := n2_; clear n0_ n1_ n2_; clear hb ho12))
     go_ret3
     exact ⟨_, by first | rfl | (simp [errW_none, errW_some] <;> rfl) | (simp [*, errW_none, errW_some] <;> rfl), by (with_reducible repeat (first | apply Kd.R_alloc | apply Kd.R_drewN | apply Kd.R_drew)); exact HO201.out, (bl HB)⟩
    ·replace c10 := Bool.eq_false_iff.mpr c10
     subst c10
     have H1 : (spec_ParseWiring.l0 kj4 t193 t197 (([] : List Int)) 0) = some (r1, r2, r3) := by rw [if_neg (show ¬ (false = true) by decide)] at H; exact H
     clear H
     have H := H1
     clear H1
     obtain ⟨y202, hy202⟩ : ∃ y_ : List Int, y_ = (([] : List Int)) := ⟨_, rfl⟩
     replace H : (spec_ParseWiring.l0 kj4 t193 t197 y202 0) = some (r1, r2, r3) := by first | (rw [hy202]; with_reducible exact H) | (have H2_ := (Option.bind_some _ _).symm.trans H; rw [hy202]; with_reducible exact H2_) | (have H2_ := (Option.bind_some _ _).symm.trans H; with_reducible exact H2_) | with_reducible exact H | (rw [hy202]; exact H) | exact H
     have Ny202 := Aside0.mk hy202
     clear hy202
     have H' := Aside0.mk H
     clear H
     go_wp2_with (first | ((with_reducible refine gate_dst (N := 27) rfl ?_); refine Kd.R_lit (Kd.int .i64) _ 3 ?hg (N := 27) ?hd (xs := ([] : List Int)) (inner := []) (ok := fun _ => True) (okp := fun _ => True) ?hr ?hp (fun _ hk => hk) trivial (Below.refl _ _) (Nat.le_refl _) (by simp) ?_; (case hd => rfl); (case hg => rfl); (case hr => first | (go_simp; done) | (go_simp; rfl)); (case hp => exact (Reps.none _ _)); intro v203 w13 ho14 hb hg_ hnew_; clear hg_ hnew_; (first | rw [← Ny202.out] at ho14 | (simp only [Int.reduceToNat] at ho14; rw [← Ny202.out] at ho14)); have n0_ := Aside0.mk (Kd.R_below (rr HO_5) hb); have n1_ := Aside0.mk (Kd.R_lower ho14 (below_size (bl HB))); have n2_ := bs HB hb; clear HO_5; clear HB; have HO_5 := n0_; have HO204 := n1_; have HB := n2_; clear n0_ n1_ n2_; clear hb ho14))
     go_loopg [8, 9] kj4 (fun kq v8 v9 w' => ∃ (x8_2 : List Int) (x9_2 : Int), v9 = .int .i64 x9_2 ∧ Aside0 (spec_ParseWiring.l0 kq t193 t197 x8_2 x9_2 = some (r1, r2, r3)) ∧ Aside0 (kq ≤ kj4) ∧ Aside0 (Kd.R Kd.string 9 w' w.heap.size (fun _ => True) (.slice (some ad196) t193.length co7) t193) ∧ Aside0 (Kd.R (Kd.int .i64) 3 w' w.heap.size (fun _ => True) v8 x8_2) ∧ Aside0 (Below w.heap.size w w'))
     case atStart => exact ⟨(y202), (0), (by first | rfl | (simp; done) | (simp [*]; done)), H', ⟨Nat.le_refl _⟩, ⟨by (with_reducible repeat (first | apply Kd.R_alloc | apply Kd.R_drewN | apply Kd.R_drew)); exact HO_5.out⟩, ⟨by (with_reducible repeat (first | apply Kd.R_alloc | apply Kd.R_drewN | apply Kd.R_drew)); exact HO204.out⟩, ⟨(bl HB)⟩⟩
     case round =>
      clear H'
      try clear c1
      try clear p1
      try clear q1
      try clear hx1
      try clear qi1
      try clear c2
      try clear p2
      try clear c3
      try clear c3b0
      try clear c3b1
      try clear c7
      try clear c9
      try clear c9b0
      try clear c9b1
      try clear c10
      try clear hx196_0
      try clear p1
      try clear p196
      try clear p2
      try clear q1
      try clear q196
      obtain ⟨x8_2, x9_2, rfl, HA, HK2, HO_5, HO_8, HB⟩ := hrel
      cases gk with
      | zero => exact absurd HA.out (by simp [spec_ParseWiring.l0])
      | succ k2 =>
       have H := HA.out
       clear HA
       simp only [spec_ParseWiring.l0] at H
       by_cases c15 : 1 < (t193.length : Int)
       ·rw [if_pos c15] at H
        have c15b0 : decide (1 < (t193.length : Int)) = true := decide_eq_true c15
        have c15b1 : decide (1 < t193.length) = true := decide_eq_true (by omega)
        clear c15
        by_cases c16 : x9_2 < ((rdOf ByteArray.empty t193 1).size : Int)
        ·rw [if_pos c16] at H
         have c16b0 : decide (x9_2 < ((rdOf ByteArray.empty t193 1).size : Int)) = true := decide_eq_true c16
         clear c16
         by_cases c17 : 0 ≤ x9_2
         ·rw [if_pos c17] at H
          have c17b0 : decide (0 ≤ x9_2) = true := decide_eq_true c17
          clear c17
          by_cases c19 : x8_2.length < 17592186044416
          ·rw [if_pos c19] at H
           have LMc19 := Aside0.mk c19
           clear c19
           obtain ⟨y207, hy207⟩ : ∃ y_ : List Int, y_ = (x8_2 ++ [wrap64 ((wrap64 (bt (rdOf ByteArray.empty t193 1) x9_2)) - 48)]) := ⟨_, rfl⟩
           replace H : (spec_ParseWiring.l0 k2 t193 t197 y207 (wrap64 (x9_2 + 1))) = some (r1, r2, r3) := by first | (rw [hy207]; with_reducible exact H) | (have H2_ := (Option.bind_some _ _).symm.trans H; rw [hy207]; with_reducible exact H2_) | (have H2_ := (Option.bind_some _ _).symm.trans H; with_reducible exact H2_) | with_reducible exact H | (rw [hy207]; exact H) | exact H
           have Ny207 := Aside0.mk hy207
           clear hy207
           have H' := Aside0.mk H
           clear H
           have p205 : 0 ≤ (1 : Int) := (by omega)
           have q205 : 1 < (t193.length : Int) := of_decide_eq_true (by first | (with_reducible assumption) | assumption)
           obtain ⟨ad205, e205, hx205_0⟩ := Kd.at_string (Kd.R_reads' HO_5.out).2.2 1 p205 q205
           obtain rfl : ad196 = ad205 := (by injection e205)
           (try simp only [show (1 : Int).toNat = 1 from rfl, Nat.reduceMul, Nat.reduceEqDiff, Go.Addr.add, ↓reduceIte] at hx205_0)
           have qi205 : (1 < t193.length) = True := eq_true (by omega)
           (try rw [show ((1 : Int)).toNat = 1 from rfl] at hx205_0)
           replace p205 := eq_true p205
           replace q205 := eq_true q205
           have p206 : 0 ≤ (1 : Int) := (by omega)
           have q206 : 1 < (t193.length : Int) := of_decide_eq_true (by first | (with_reducible assumption) | assumption)
           obtain ⟨ad206, e206, hx206_0⟩ := Kd.at_string (Kd.R_reads' HO_5.out).2.2 1 p206 q206
           obtain rfl : ad196 = ad206 := (by injection e206)
           (try simp only [show (1 : Int).toNat = 1 from rfl, Nat.reduceMul, Nat.reduceEqDiff, Go.Addr.add, ↓reduceIte] at hx206_0)
           have qi206 : (1 < t193.length) = True := eq_true (by omega)
           (try rw [show ((1 : Int)).toNat = 1 from rfl] at hx206_0)
           replace p206 := eq_true p206
           replace q206 := eq_true q206
           have p18 : 0 ≤ (x9_2 : Int) := of_decide_eq_true (by first | (with_reducible assumption) | assumption)
           have q18 : x9_2 < ((rdOf ByteArray.empty t193 1).size : Int) := of_decide_eq_true (by first | (with_reducible assumption) | assumption)
           have hx18 := bt_at (rdOf ByteArray.empty t193 1) x9_2
           replace p18 := eq_true p18
           replace q18 := eq_true q18
           go_wp2_with (first | ((with_reducible refine gate_builtin (b := .append) (xs := #[.tmp 36, .tmp 44]) rfl ?_); at_builtin; refine Kd.R_append (Kd.int .i64) (w0 := w) w.heap.size rfl (.tmp 36) (.tmp 44) 24 3 (.int .i64 0) 8 rfl Tryd.underlying24 info3 rfl (by decide) (by omega) u8 x8_2 (wrap64 ((wrap64 (bt (rdOf ByteArray.empty t193 1) x9_2)) - 48)) [.int .i64 (wrap64 ((wrap64 (bt (rdOf ByteArray.empty t193 1) x9_2)) - 48))] (fun _ => True) (fun _ => False) rfl rfl ?aP (fun _ hk => hk.elim) ?aF ?aO ?aB ?aS ?aL ?_; (case aP => exact rfl); (case aB => exact (bl HB)); (case aF => exact (fun _ _ => trivial)); (case aO => exact (rr HO_8)); (case aS => exact (below_size (bl HB))); (case aL => have := LMc19.out; omega); intro v208 w20 ho hb hg hat; rw [← Ny207.out] at ho; have n0_ := Aside0.mk (Kd.R_over' (rr HO_5) (Kd.R_typed (rr HO_8)) (by decide) hg); have n1_ := Aside0.mk (hb); have n2_ := Aside0.mk (ho); clear HO_5; clear HB; clear HO_8; have HO_5 := n0_; have HB := n1_; have HO209 := n2_; clear n0_ n1_ n2_; clear ho hb hg hat))
           go_roundg k2
           case measure => have := HJ4.out; have := HK2.out; omega
           case rel => exact ⟨(y207), (wrap64 (x9_2 + 1)), (by first | rfl | (simp; done) | (simp [*]; done)), H', ⟨by have := HJ4.out; have := HK2.out; omega⟩, ⟨by (with_reducible repeat (first | apply Kd.R_alloc | apply Kd.R_drewN | apply Kd.R_drew)); exact HO_5.out⟩, ⟨by (with_reducible repeat (first | apply Kd.R_alloc | apply Kd.R_drewN | apply Kd.R_drew)); exact HO209.out⟩, ⟨(bl HB)⟩⟩
          ·rw [if_neg c19] at H
           exact absurd H (by simp)
         ·rw [if_neg c17] at H
          exact absurd H (by simp)
        ·rw [if_neg c16] at H
         have c16b0 : decide (x9_2 < ((rdOf ByteArray.empty t193 1).size : Int)) = false := decide_eq_false c16
         clear c16
         replace H := Option.bind_eq_some_iff.mp H
         obtain ⟨t210, A210, H⟩ := H
         (try dsimp only at H)
         have A21 := Aside0.mk A210
         clear A210
         by_cases c22 : t210 = true
         ·subst c22
          have H1 : (some (t197, x8_2, true)) = some (r1, r2, r3) := by rw [if_pos rfl] at H; exact H
          clear H
          have H := H1
          clear H1
          simp only [Option.some.injEq, Prod.mk.injEq] at H
          obtain ⟨rfl, rfl, rfl⟩ := H
          have p205 : 0 ≤ (1 : Int) := (by omega)
          have q205 : 1 < (t193.length : Int) := of_decide_eq_true (by first | (with_reducible assumption) | assumption)
          obtain ⟨ad205, e205, hx205_0⟩ := Kd.at_string (Kd.R_reads' HO_5.out).2.2 1 p205 q205
          obtain rfl : ad196 = ad205 := (by injection e205)
          (try simp only [show (1 : Int).toNat = 1 from rfl, Nat.reduceMul, Nat.reduceEqDiff, Go.Addr.add, ↓reduceIte] at hx205_0)
          have qi205 : (1 < t193.length) = True := eq_true (by omega)
          (try rw [show ((1 : Int)).toNat = 1 from rfl] at hx205_0)
          replace p205 := eq_true p205
          replace q205 := eq_true q205
          obtain ⟨Ao23, co23, eo23⟩ := Kd.R_slice HO_8.out
          subst eo23
          go_wp2_with (first | ((with_reducible refine gate_callee (f := 25) rfl ?_); refine gL (some 48) rfl rfl Tryd.func25 (by kernel_rfl) rfl #[.int .i64 t197, .slice Ao23 x8_2.length co23] rfl ?_; (with_reducible refine (spec_IsWiring.calls k2 t197 _ _ x8_2 true _ ?side1 ?side2 A21.out).mono ?_); (case side1 => repeat (first | exact (Kd.R_reads' HO_8.out).2.2 | (with_reducible refine Kd.C_alloc ?_ _) | (with_reducible refine Kd.C_drewN ?_ _) | (with_reducible refine Kd.C_drew ?_))); (case side2 => exact (Kd.R_reads' HO_8.out).2.1); rintro e w24 ⟨rfl, hb⟩; refine ⟨_, rfl, ?_⟩; have n0_ := Aside0.mk (Kd.R_below (rr HO_5) hb); have n1_ := Aside0.mk (Kd.R_below (rr HO_8) hb); have n2_ := bs HB hb; clear HO_5; clear HO_8; clear HB; have HO_5 := n0_; have HO_8 := n1_; have HB := n2_; clear n0_ n1_ n2_; (try clear hb); (try clear hb2); (try clear hk); (try clear hi)))
          go_ret3
          exact ⟨_, by first | rfl | (simp [errW_none, errW_some] <;> rfl) | (simp [*, errW_none, errW_some] <;> rfl), by (with_reducible repeat (first | apply Kd.R_alloc | apply Kd.R_drewN | apply Kd.R_drew)); exact HO_8.out, (bl HB)⟩
         ·replace c22 := Bool.eq_false_iff.mpr c22
          subst c22
          have H1 : (some (0, (([] : List Int)), false)) = some (r1, r2, r3) := by rw [if_neg (show ¬ (false = true) by decide)] at H; exact H
          clear H
          have H := H1
          clear H1
          obtain ⟨y211, hy211⟩ : ∃ y_ : List Int, y_ = (([] : List Int)) := ⟨_, rfl⟩
          replace H : (some (0, y211, false)) = some (r1, r2, r3) := by first | (rw [hy211]; with_reducible exact H) | (have H2_ := (Option.bind_some _ _).symm.trans H; rw [hy211]; with_reducible exact H2_) | (have H2_ := (Option.bind_some _ _).symm.trans H; with_reducible exact H2_) | with_reducible exact H | (rw [hy211]; exact H) | exact H
          have Ny211 := Aside0.mk hy211
          clear hy211
          simp only [Option.some.injEq, Prod.mk.injEq] at H
          obtain ⟨rfl, rfl, rfl⟩ := H
          have p205 : 0 ≤ (1 : Int) := (by omega)
          have q205 : 1 < (t193.length : Int) := of_decide_eq_true (by first | (with_reducible assumption) | assumption)
          obtain ⟨ad205, e205, hx205_0⟩ := Kd.at_string (Kd.R_reads' HO_5.out).2.2 1 p205 q205
          obtain rfl : ad196 = ad205 := (by injection e205)
          (try simp only [show (1 : Int).toNat = 1 from rfl, Nat.reduceMul, Nat.reduceEqDiff, Go.Addr.add, ↓reduceIte] at hx205_0)
          have qi205 : (1 < t193.length) = True := eq_true (by omega)
          (try rw [show ((1 : Int)).toNat = 1 from rfl] at hx205_0)
          replace p205 := eq_true p205
          replace q205 := eq_true q205
          obtain ⟨Ao25, co25, eo25⟩ := Kd.R_slice HO_8.out
          subst eo25
          go_wp2_with (first | ((with_reducible refine gate_callee (f := 25) rfl ?_); refine gL (some 48) rfl rfl Tryd.func25 (by kernel_rfl) rfl #[.int .i64 t197, .slice Ao25 x8_2.length co25] rfl ?_; (with_reducible refine (spec_IsWiring.calls k2 t197 _ _ x8_2 false _ ?side1 ?side2 A21.out).mono ?_); (case side1 => repeat (first | exact (Kd.R_reads' HO_8.out).2.2 | (with_reducible refine Kd.C_alloc ?_ _) | (with_reducible refine Kd.C_drewN ?_ _) | (with_reducible refine Kd.C_drew ?_))); (case side2 => exact (Kd.R_reads' HO_8.out).2.1); rintro e w26 ⟨rfl, hb⟩; refine ⟨_, rfl, ?_⟩; have n0_ := Aside0.mk (Kd.R_below (rr HO_5) hb); have n1_ := Aside0.mk (Kd.R_below (rr HO_8) hb); have n2_ := bs HB hb; clear HO_5; clear HO_8; clear HB; have HO_5 := n0_; have HO_8 := n1_; have HB := n2_; clear n0_ n1_ n2_; (try clear hb); (try clear hb2); (try clear hk); (try clear hi)) | ((with_reducible refine gate_dst (N := 50) rfl ?_); refine Kd.R_lit (Kd.int .i64) _ 3 ?hg (N := 50) ?hd (xs := ([] : List Int)) (inner := []) (ok := fun _ => True) (okp := fun _ => True) ?hr ?hp (fun _ hk => hk) trivial (Below.refl _ _) (Nat.le_refl _) (by simp) ?_; (case hd => rfl); (case hg => rfl); (case hr => first | (go_simp; done) | (go_simp; rfl)); (case hp => exact (Reps.none _ _)); intro v212 w27 ho28 hb hg_ hnew_; clear hg_ hnew_; (first | rw [← Ny211.out] at ho28 | (simp only [Int.reduceToNat] at ho28; rw [← Ny211.out] at ho28)); have n0_ := Aside0.mk (Kd.R_below (rr HO_5) hb); have n1_ := Aside0.mk (Kd.R_elder' (rr HO_8) (Kd.R_base ho28) hb); have n2_ := Aside0.mk (Kd.R_lower (Kd.R_new' ho28 (Kd.R_lt (rr HO_8))) (below_size (bl HB))); have n3_ := bs HB hb; clear HO_5; clear HO_8; clear HB; have HO_5 := n0_; have HO_8 := n1_; have HO213 := n2_; have HB := n3_; clear n0_ n1_ n2_ n3_; clear hb ho28))
          go_ret3
          exact ⟨_, by first | rfl | (simp [errW_none, errW_some] <;> rfl) | (simp [*, errW_none, errW_some] <;> rfl), by (with_reducible repeat (first | apply Kd.R_alloc | apply Kd.R_drewN | apply Kd.R_drew)); exact Kd.R_mono HO213.out (fun _ hk => trivial), (bl HB)⟩
       ·rw [if_neg c15] at H
        exact absurd H (by simp)
 ·rw [if_neg c3] at H
  exact absurd H (by simp)

/-! ### laws_FnExactParseWiring: function 4 -/
mutual
def laws_FnExactParseWiring.j0 : Nat → ByteArray → Int → List Int → Bool → List Int → Bool → Option (Bool)
 | 0, _, _, _, _, _, _ => none
 | k + 1, x0, x3, x4, x5, x7, x42 => if x42 = true then (some false) else ((laws_markIntS.f k x7 1).bind fun bt250 => ((laws_heldIntS.f k bt250.2 1).bind fun t252 => (if t252 < 0 then (some false) else (if t252 = bt250.1 then ((impl_ParseWiring.f k x0).bind fun bt253 => (if bt253.1 = x3 then ((laws_eqIntS.f k bt253.2.1 x4).bind fun t258 => (if t258 = true then (laws_FnExactParseWiring.j1 k bt250.2 bt250.1 (bt253.2.2 != x5)) else (laws_FnExactParseWiring.j1 k bt250.2 bt250.1 true))) else (laws_FnExactParseWiring.j1 k bt250.2 bt250.1 true))) else (some false)))))
def laws_FnExactParseWiring.j1 : Nat → List Int → Int → Bool → Option (Bool)
 | 0, _, _, _ => none
 | k + 1, x7, x9, x73 => if x73 = true then (some false) else ((laws_heldIntS.f k x7 1).bind fun t259 => (if t259 < 0 then (some false) else (if t259 = x9 then (some true) else (some false))))
end
def laws_FnExactParseWiring.f (k : Nat) (a0 : ByteArray) : Option (Bool) := if (a0.size : Int) > 1048576 then (some true) else ((spec_ParseWiring.f k a0).bind fun bt239 => ((impl_ParseWiring.f k a0).bind fun bt244 => (if bt244.1 = bt239.1 then ((laws_eqIntS.f k bt244.2.1 bt239.2.1).bind fun t249 => (if t249 = true then (laws_FnExactParseWiring.j0 k a0 bt239.1 bt239.2.1 bt239.2.2 bt244.2.1 (bt244.2.2 != bt239.2.2)) else (laws_FnExactParseWiring.j0 k a0 bt239.1 bt239.2.1 bt239.2.2 bt244.2.1 true))) else (laws_FnExactParseWiring.j0 k a0 bt239.1 bt239.2.1 bt239.2.2 bt244.2.1 true))))
theorem laws_FnExactParseWiring.mono_l : ∀ k, (∀ y0 y1 y2 y3 y4 y5, LeO (laws_FnExactParseWiring.j0 k y0 y1 y2 y3 y4 y5) (laws_FnExactParseWiring.j0 (k + 1) y0 y1 y2 y3 y4 y5)) ∧ (∀ y0 y1 y2, LeO (laws_FnExactParseWiring.j1 k y0 y1 y2) (laws_FnExactParseWiring.j1 (k + 1) y0 y1 y2))
 | 0 => ⟨fun _ _ _ _ _ _ r h => by simp [laws_FnExactParseWiring.j0] at h, fun _ _ _ r h => by simp [laws_FnExactParseWiring.j1] at h⟩
 | k + 1 => by
  obtain ⟨ih0, ih1⟩ := laws_FnExactParseWiring.mono_l k
  refine ⟨?_, ?_⟩
  ·intro y0 y1 y2 y3 y4 y5
   unfold laws_FnExactParseWiring.j0
   repeat' first
   | (with_reducible exact ih0 _ _ _ _ _ _)
   | (with_reducible exact ih1 _ _ _)
   | (with_reducible exact impl_ParseWiring.mono _ _)
   | (with_reducible exact laws_eqIntS.mono _ _ _)
   | (with_reducible exact laws_heldIntS.mono _ _ _)
   | (with_reducible exact laws_markIntS.mono _ _ _)
   | (with_reducible exact spec_ParseWiring.mono _ _)
   | (with_reducible exact LeO.refl _)
   | (with_reducible exact LeO.none _)
   | (with_reducible refine LeO.ite ?_ ?_)
   | (with_reducible refine LeO.bind ?_ (fun _ => ?_))
   | exact ih0 _ _ _ _ _ _
   | exact ih1 _ _ _
   | exact impl_ParseWiring.mono _ _
   | exact laws_eqIntS.mono _ _ _
   | exact laws_heldIntS.mono _ _ _
   | exact laws_markIntS.mono _ _ _
   | exact spec_ParseWiring.mono _ _
   | exact LeO.none _
   | refine LeO.ite ?_ ?_
   | refine LeO.bind ?_ (fun _ => ?_)
  ·intro y0 y1 y2
   unfold laws_FnExactParseWiring.j1
   repeat' first
   | (with_reducible exact ih0 _ _ _ _ _ _)
   | (with_reducible exact ih1 _ _ _)
   | (with_reducible exact impl_ParseWiring.mono _ _)
   | (with_reducible exact laws_eqIntS.mono _ _ _)
   | (with_reducible exact laws_heldIntS.mono _ _ _)
   | (with_reducible exact laws_markIntS.mono _ _ _)
   | (with_reducible exact spec_ParseWiring.mono _ _)
   | (with_reducible exact LeO.refl _)
   | (with_reducible exact LeO.none _)
   | (with_reducible refine LeO.ite ?_ ?_)
   | (with_reducible refine LeO.bind ?_ (fun _ => ?_))
   | exact ih0 _ _ _ _ _ _
   | exact ih1 _ _ _
   | exact impl_ParseWiring.mono _ _
   | exact laws_eqIntS.mono _ _ _
   | exact laws_heldIntS.mono _ _ _
   | exact laws_markIntS.mono _ _ _
   | exact spec_ParseWiring.mono _ _
   | exact LeO.none _
   | refine LeO.ite ?_ ?_
   | refine LeO.bind ?_ (fun _ => ?_)
theorem laws_FnExactParseWiring.mono : ∀ a0 k, LeO (laws_FnExactParseWiring.f k a0) (laws_FnExactParseWiring.f (k + 1) a0) := by
 intro a0 k
 obtain ⟨ih0, ih1⟩ := laws_FnExactParseWiring.mono_l k
 unfold laws_FnExactParseWiring.f
 repeat' first
   | (with_reducible exact ih0 _ _ _ _ _ _)
   | (with_reducible exact ih1 _ _ _)
   | (with_reducible exact impl_ParseWiring.mono _ _)
   | (with_reducible exact laws_eqIntS.mono _ _ _)
   | (with_reducible exact laws_heldIntS.mono _ _ _)
   | (with_reducible exact laws_markIntS.mono _ _ _)
   | (with_reducible exact spec_ParseWiring.mono _ _)
   | (with_reducible exact LeO.refl _)
   | (with_reducible exact LeO.none _)
   | (with_reducible refine LeO.ite ?_ ?_)
   | (with_reducible refine LeO.bind ?_ (fun _ => ?_))
   | exact ih0 _ _ _ _ _ _
   | exact ih1 _ _ _
   | exact impl_ParseWiring.mono _ _
   | exact laws_eqIntS.mono _ _ _
   | exact laws_heldIntS.mono _ _ _
   | exact laws_markIntS.mono _ _ _
   | exact spec_ParseWiring.mono _ _
   | exact LeO.none _
   | refine LeO.ite ?_ ?_
   | refine LeO.bind ?_ (fun _ => ?_)
set_option maxHeartbeats 8000000 in
set_option maxRecDepth 100000 in
theorem laws_FnExactParseWiring.calls (k : Nat) (a0 : ByteArray) (w : World) (hv_ : VarsOk w) (h : laws_FnExactParseWiring.f k a0 = some true) :
  Calls Tryd.prog 4 #[.string a0] w fun e w' => e = .returned (.bool true) ∧ Below w.heap.size w w' := by
 have HB := Aside0.mk (Below.refl w.heap.size w)
 have HV_ := Aside0.mk hv_
 clear hv_
 have H : (if (a0.size : Int) > 1048576 then (some true) else ((spec_ParseWiring.f k a0).bind fun bt239 => ((impl_ParseWiring.f k a0).bind fun bt244 => (if bt244.1 = bt239.1 then ((laws_eqIntS.f k bt244.2.1 bt239.2.1).bind fun t249 => (if t249 = true then (laws_FnExactParseWiring.j0 k a0 bt239.1 bt239.2.1 bt239.2.2 bt244.2.1 (bt244.2.2 != bt239.2.2)) else (laws_FnExactParseWiring.j0 k a0 bt239.1 bt239.2.1 bt239.2.2 bt244.2.1 true))) else (laws_FnExactParseWiring.j0 k a0 bt239.1 bt239.2.1 bt239.2.2 bt244.2.1 true))))) = some true := h
 clear h
 by_cases c2 : (a0.size : Int) > 1048576
 ·rw [if_pos c2] at H
  have c2b0 : decide (1048576 < (a0.size : Int)) = true := decide_eq_true c2
  have c2b1 : decide (1048576 < a0.size) = true := decide_eq_true (by omega)
  clear c2
  clear H
  go_enter Tryd.func4, Tryd.ntmps4
  go_wp2
  go_ret
  exact ⟨by first | rfl | (simp [errW_none, errW_some] <;> rfl) | (simp [*, errW_none, errW_some] <;> rfl), (bl HB)⟩
 ·rw [if_neg c2] at H
  have c2b0 : decide (1048576 < (a0.size : Int)) = false := decide_eq_false c2
  have c2b1 : decide (1048576 < a0.size) = false := decide_eq_false (by omega)
  clear c2
  replace H := Option.bind_eq_some_iff.mp H
  obtain ⟨⟨t239, t240, t241⟩, A30, H⟩ := H
  (try dsimp only at H)
  have A3 := Aside0.mk A30
  clear A30
  replace H := Option.bind_eq_some_iff.mp H
  obtain ⟨⟨t244, t245, t246⟩, A40, H⟩ := H
  (try dsimp only at H)
  have A4 := Aside0.mk A40
  clear A40
  have HC5 := Aside0.mk H
  clear H
  go_enter Tryd.func4, Tryd.ntmps4
  go_upto_region 5 with (first | ((with_reducible refine gate_callee (f := 7) rfl ?_); refine gL (some 19) rfl rfl Tryd.func7 (by kernel_rfl) rfl #[.string a0] rfl ?_; (with_reducible refine (spec_ParseWiring.calls k a0 t239 t240 t241 _ A3.out).mono ?_); rintro e w6 ⟨v242, rfl, ho0, hb⟩; refine ⟨_, rfl, ?_⟩; have n0_ := Aside0.mk (Kd.R_lower ho0 (below_size (bl HB))); have n1_ := bs HB hb; clear HB; have HO243 := n0_; have HB := n1_; clear n0_ n1_; (try clear hb); (try clear hb2); (try clear hk); (try clear hi); (try clear ho0)) | ((with_reducible refine gate_callee (f := 8) rfl ?_); refine gL (some 25) rfl rfl Tryd.func8 (by kernel_rfl) rfl #[.string a0] rfl ?_; (with_reducible refine (impl_ParseWiring.calls k a0 t244 t245 t246 _ (HV_.out.below (bl HB)) A4.out).mono ?_); rintro e w7 ⟨v247, rfl, ho0, hb⟩; refine ⟨_, rfl, ?_⟩; have n0_ := Aside0.mk (Kd.R_elder' (rr HO243) (Kd.R_base ho0) hb); have n1_ := Aside0.mk (Kd.R_lower (Kd.R_new' ho0 (Kd.R_lt (rr HO243))) (below_size (bl HB))); have n2_ := bs HB hb; clear HO243; clear HB; have HO243 := n0_; have HO248 := n1_; have HB := n2_; clear n0_ n1_ n2_; (try clear hb); (try clear hb2); (try clear hk); (try clear hi); (try clear ho0)))
  (try simp only [Act.put, List.setIfInBounds_toArray, List.set_cons_zero, List.set_cons_succ])
  go_cut [42] (fun v42 wc => ∃ (kq : Nat) (x42_4 : Bool), v42 = .bool x42_4 ∧ Aside0 (laws_FnExactParseWiring.j0 kq a0 t239 t240 t241 t245 x42_4 = some true) ∧ Aside0 (kq ≤ k) ∧ Aside0 (Kd.R (Kd.int .i64) 3 wc w.heap.size (fun k_ => some k_ ≠ (v247 : Value).ownBlock) v242 t240) ∧ Aside0 (Kd.R (Kd.int .i64) 3 wc w.heap.size (fun k_ => some k_ ≠ (v242 : Value).ownBlock) v247 t245) ∧ Aside0 (Below w.heap.size w wc))
  case first =>
   have H := HC5.out
   clear HC5
   by_cases c8 : t244 = t239
   ·rw [if_pos c8] at H
    have c8b0 : (t244 == t239) = true := beq_iff_eq.mpr c8
    have c8b1 : (t244 != t239) = false := bne_eq_false_iff_eq.mpr c8
    clear c8
    (first | rw [c8b0] | (simp only [i64_w, i32_w]; rw [c8b0]) | skip)
    replace H := Option.bind_eq_some_iff.mp H
    obtain ⟨t249, A90, H⟩ := H
    (try dsimp only at H)
    have A9 := Aside0.mk A90
    clear A90
    by_cases c10 : t249 = true
    ·subst c10
     have H1 : (laws_FnExactParseWiring.j0 k a0 t239 t240 t241 t245 (t246 != t241)) = some true := by rw [if_pos rfl] at H; exact H
     clear H
     have H := H1
     clear H1
     have H' := Aside0.mk H
     clear H
     obtain ⟨Ao11, co11, eo11⟩ := Kd.R_slice HO248.out
     subst eo11
     obtain ⟨Ao12, co12, eo12⟩ := Kd.R_slice HO243.out
     subst eo12
     go_wp2_with (first | (go_at_call 9; (with_reducible refine (laws_eqIntS.calls k _ _ t245 _ _ t240 true _ ?side1 ?side2 ?side3 ?side4 A9.out).mono ?_); (case side1 => repeat (first | exact (Kd.R_reads' HO248.out).2.2 | (with_reducible refine Kd.C_alloc ?_ _) | (with_reducible refine Kd.C_drewN ?_ _) | (with_reducible refine Kd.C_drew ?_))); (case side2 => exact (Kd.R_reads' HO248.out).2.1); (case side3 => repeat (first | exact (Kd.R_reads' HO243.out).2.2 | (with_reducible refine Kd.C_alloc ?_ _) | (with_reducible refine Kd.C_drewN ?_ _) | (with_reducible refine Kd.C_drew ?_))); (case side4 => exact (Kd.R_reads' HO243.out).2.1); rintro e w' ⟨rfl, ⟨nd, rfl⟩⟩))
     go_meet
     case rel => exact ⟨_, ((t246 != t241)), (by first | rfl | (simp; done) | (simp [*]; done)), H', ⟨by first | omega | exact Nat.le_refl _⟩, ⟨by (with_reducible repeat (first | apply Kd.R_alloc | apply Kd.R_drewN | apply Kd.R_drew)); exact Kd.R_mono HO243.out (fun _ hk => hk.2)⟩, ⟨by (with_reducible repeat (first | apply Kd.R_alloc | apply Kd.R_drewN | apply Kd.R_drew)); exact Kd.R_mono HO248.out (fun _ hk => hk.2)⟩, ⟨(bl HB)⟩⟩
    ·replace c10 := Bool.eq_false_iff.mpr c10
     subst c10
     have H1 : (laws_FnExactParseWiring.j0 k a0 t239 t240 t241 t245 true) = some true := by rw [if_neg (show ¬ (false = true) by decide)] at H; exact H
     clear H
     have H := H1
     clear H1
     have H' := Aside0.mk H
     clear H
     obtain ⟨Ao13, co13, eo13⟩ := Kd.R_slice HO248.out
     subst eo13
     obtain ⟨Ao14, co14, eo14⟩ := Kd.R_slice HO243.out
     subst eo14
     go_wp2_with (first | (go_at_call 9; (with_reducible refine (laws_eqIntS.calls k _ _ t245 _ _ t240 false _ ?side1 ?side2 ?side3 ?side4 A9.out).mono ?_); (case side1 => repeat (first | exact (Kd.R_reads' HO248.out).2.2 | (with_reducible refine Kd.C_alloc ?_ _) | (with_reducible refine Kd.C_drewN ?_ _) | (with_reducible refine Kd.C_drew ?_))); (case side2 => exact (Kd.R_reads' HO248.out).2.1); (case side3 => repeat (first | exact (Kd.R_reads' HO243.out).2.2 | (with_reducible refine Kd.C_alloc ?_ _) | (with_reducible refine Kd.C_drewN ?_ _) | (with_reducible refine Kd.C_drew ?_))); (case side4 => exact (Kd.R_reads' HO243.out).2.1); rintro e w' ⟨rfl, ⟨nd, rfl⟩⟩))
     go_meet
     case rel => exact ⟨_, (true), (by first | rfl | (simp; done) | (simp [*]; done)), H', ⟨by first | omega | exact Nat.le_refl _⟩, ⟨by (with_reducible repeat (first | apply Kd.R_alloc | apply Kd.R_drewN | apply Kd.R_drew)); exact Kd.R_mono HO243.out (fun _ hk => hk.2)⟩, ⟨by (with_reducible repeat (first | apply Kd.R_alloc | apply Kd.R_drewN | apply Kd.R_drew)); exact Kd.R_mono HO248.out (fun _ hk => hk.2)⟩, ⟨(bl HB)⟩⟩
   ·rw [if_neg c8] at H
    have c8b0 : (t244 == t239) = false := beq_eq_false_iff_ne.mpr c8
    have c8b1 : (t244 != t239) = true := bne_iff_ne.mpr c8
    (first | rw [c8b0] | (simp only [i64_w, i32_w]; rw [c8b0]) | skip)
    have H' := Aside0.mk H
    clear H
    go_wp2
    go_meet
    case rel => exact ⟨_, (true), (by first | rfl | (simp; done) | (simp [*]; done)), H', ⟨by first | omega | exact Nat.le_refl _⟩, ⟨by (with_reducible repeat (first | apply Kd.R_alloc | apply Kd.R_drewN | apply Kd.R_drew)); exact Kd.R_mono HO243.out (fun _ hk => hk.2)⟩, ⟨by (with_reducible repeat (first | apply Kd.R_alloc | apply Kd.R_drewN | apply Kd.R_drew)); exact Kd.R_mono HO248.out (fun _ hk => hk.2)⟩, ⟨(bl HB)⟩⟩
  case rest =>
   clear HC5
   try clear c1
   try clear c2
   try clear c2b0
   try clear c2b1
   try clear p2
   try clear c4
   try clear c7
   try clear c8
   try clear c8b0
   try clear c8b1
   try clear c10
   obtain ⟨kq, x42_4, rfl, HA, HJ4, HO_4, HO_7, HB⟩ := hcut
   cases kq with
   | zero => exact absurd HA.out (by simp [laws_FnExactParseWiring.j0])
   | succ kj4 =>
    have H := HA.out
    clear HA
    simp only [laws_FnExactParseWiring.j0] at H
    by_cases c15 : x42_4 = true
    ·subst c15
     have H1 : (some false) = some true := by rw [if_pos rfl] at H; exact H
     clear H
     have H := H1
     clear H1
     exact absurd H (by simp)
    ·replace c15 := Bool.eq_false_iff.mpr c15
     subst c15
     have H1 : ((laws_markIntS.f kj4 t245 1).bind fun bt250 => ((laws_heldIntS.f kj4 bt250.2 1).bind fun t252 => (if t252 < 0 then (some false) else (if t252 = bt250.1 then ((impl_ParseWiring.f kj4 a0).bind fun bt253 => (if bt253.1 = t239 then ((laws_eqIntS.f kj4 bt253.2.1 t240).bind fun t258 => (if t258 = true then (laws_FnExactParseWiring.j1 kj4 bt250.2 bt250.1 (bt253.2.2 != t241)) else (laws_FnExactParseWiring.j1 kj4 bt250.2 bt250.1 true))) else (laws_FnExactParseWiring.j1 kj4 bt250.2 bt250.1 true))) else (some false))))) = some true := by rw [if_neg (show ¬ (false = true) by decide)] at H; exact H
     clear H
     have H := H1
     clear H1
     replace H := Option.bind_eq_some_iff.mp H
     obtain ⟨⟨t250, t251⟩, A160, H⟩ := H
     (try dsimp only at H)
     have A16 := Aside0.mk A160
     clear A160
     replace H := Option.bind_eq_some_iff.mp H
     obtain ⟨t252, A170, H⟩ := H
     (try dsimp only at H)
     have A17 := Aside0.mk A170
     clear A170
     by_cases c18 : t252 < 0
     ·rw [if_pos c18] at H
      have c18b0 : decide (t252 < 0) = true := decide_eq_true c18
      clear c18
      exact absurd H (by simp)
     ·rw [if_neg c18] at H
      have c18b0 : decide (t252 < 0) = false := decide_eq_false c18
      clear c18
      by_cases c21 : t252 = t250
      ·rw [if_pos c21] at H
       have c21b0 : (t252 == t250) = true := beq_iff_eq.mpr c21
       have c21b1 : (t252 != t250) = false := bne_eq_false_iff_eq.mpr c21
       clear c21
       replace H := Option.bind_eq_some_iff.mp H
       obtain ⟨⟨t253, t254, t255⟩, A220, H⟩ := H
       (try dsimp only at H)
       have A22 := Aside0.mk A220
       clear A220
       have HC23 := Aside0.mk H
       clear H
       obtain ⟨Ao24, co24, eo24⟩ := Kd.R_slice HO_7.out
       subst eo24
       go_upto_region 16 with (first | ((with_reducible refine gate_callee (f := 10) rfl ?_); refine gL (some 45) rfl rfl Tryd.func10 (by kernel_rfl) rfl #[.slice Ao24 t245.length co24, .int .i64 1] rfl ?_; (with_reducible refine (laws_markIntS.calls kj4 (fun k_ => some k_ = (.slice Ao24 t245.length co24 : Value).ownBlock) (.slice Ao24 t245.length co24) t245 1 t250 t251 w _ ?side1 ?side2 A16.out).mono ?_); (case side1 => repeat (first | (with_reducible first | exact HB.out | apply below_alloc | apply pw_below_drewN | apply below_drew1) | exact HB.out)); (case side2 => exact Kd.R_tight rfl HO_7.out); rintro e w25 ⟨rfl, hy0, hb, hkp⟩; refine ⟨_, rfl, ?_⟩; have n0_ := Aside0.mk (Kd.R_mono (ok' := fun k_ => some k_ ≠ (.slice Ao24 t245.length co24 : Value).ownBlock) (Kd.R_keptB (HO_4.out) hkp (fun k_ hk_ hs_ => (hk_) hs_)) (fun k_ hk_ => hk_.1)); have n1_ := Aside0.mk (Kd.R_reok rfl hy0 (fun k_ e_ => HO_7.out.1 k_ e_)); have n2_ := Aside0.mk (hb); clear HO_4; clear HO_7; clear HB; have HO_4 := n0_; have HO_7 := n1_; have HB := n2_; clear n0_ n1_ n2_; (try clear hb); (try clear hkp); (try clear hy0)) | ((with_reducible refine gate_callee (f := 11) rfl ?_); refine goesL_ (some 48) rfl rfl Tryd.func11 (by kernel_rfl) rfl #[.slice Ao24 t251.length co24, .int .i64 1] rfl (by (try simp only [List.map_toArray, List.map_cons, List.map_nil]); first | done | (rw [show t251.length = t245.length from (Kd.R_reads' HO_7.out).1.symm] <;> rfl) | rfl | (simp only [List.length_drop, List.length_take]; rfl)) ?_; (with_reducible refine (laws_heldIntS.calls kj4 _ _ t251 1 t252 _ ?side1 ?side2 A17.out).mono ?_); (case side1 => repeat (first | exact (Kd.R_reads' HO_7.out).2.2 | (with_reducible refine Kd.C_alloc ?_ _) | (with_reducible refine Kd.C_drewN ?_ _) | (with_reducible refine Kd.C_drew ?_))); (case side2 => rw [show t251.length = t245.length from (Kd.R_reads' HO_7.out).1.symm]; exact (Kd.R_reads' HO_7.out).2.1); rintro e w' ⟨rfl, ⟨nd, rfl⟩⟩; refine ⟨_, rfl, ?_⟩) | ((with_reducible refine gate_callee (f := 8) rfl ?_); refine gL (some 56) rfl rfl Tryd.func8 (by kernel_rfl) rfl #[.string a0] rfl ?_; (with_reducible refine (impl_ParseWiring.calls kj4 a0 t253 t254 t255 _ (HV_.out.below (bl HB)) A22.out).mono ?_); rintro e w26 ⟨v256, rfl, ho0, hb⟩; refine ⟨_, rfl, ?_⟩; have n0_ := Aside0.mk (Kd.R_elder' (rr HO_4) (Kd.R_base ho0) hb); have n1_ := Aside0.mk (Kd.R_elder' (rr HO_7) (Kd.R_base ho0) hb); have n2_ := Aside0.mk (Kd.R_lower (Kd.R_new' (Kd.R_new' ho0 (Kd.R_lt (rr HO_4))) (Kd.R_lt (rr HO_7))) (below_size (bl HB))); have n3_ := bs HB hb; clear HO_4; clear HO_7; clear HB; have HO_4 := n0_; have HO_7 := n1_; have HO257 := n2_; have HB := n3_; clear n0_ n1_ n2_ n3_; (try clear hb); (try clear hb2); (try clear hk); (try clear hi); (try clear ho0)))
       (try simp only [Act.put, List.setIfInBounds_toArray, List.set_cons_zero, List.set_cons_succ])
       go_cut [73] (fun v73 wc => ∃ (kq : Nat) (x73_22 : Bool), v73 = .bool x73_22 ∧ Aside0 (laws_FnExactParseWiring.j1 kq t251 t250 x73_22 = some true) ∧ Aside0 (kq ≤ kj4) ∧ Aside0 (Kd.R (Kd.int .i64) 3 wc w.heap.size (fun _ => True) (.slice Ao24 t245.length co24) t251) ∧ Aside0 (Below w.heap.size w wc))
       case first =>
        have H := HC23.out
        clear HC23
        by_cases c27 : t253 = t239
        ·rw [if_pos c27] at H
         have c27b0 : (t253 == t239) = true := beq_iff_eq.mpr c27
         have c27b1 : (t253 != t239) = false := bne_eq_false_iff_eq.mpr c27
         clear c27
         (first | rw [c27b0] | (simp only [i64_w, i32_w]; rw [c27b0]) | skip)
         replace H := Option.bind_eq_some_iff.mp H
         obtain ⟨t258, A280, H⟩ := H
         (try dsimp only at H)
         have A28 := Aside0.mk A280
         clear A280
         by_cases c29 : t258 = true
         ·subst c29
          have H1 : (laws_FnExactParseWiring.j1 kj4 t251 t250 (t255 != t241)) = some true := by rw [if_pos rfl] at H; exact H
          clear H
          have H := H1
          clear H1
          have H' := Aside0.mk H
          clear H
          obtain ⟨Ao30, co30, eo30⟩ := Kd.R_slice HO257.out
          subst eo30
          obtain ⟨Ao31, co31, eo31⟩ := Kd.R_slice HO_4.out
          subst eo31
          go_wp2_with (first | (go_at_call 9; (with_reducible refine (laws_eqIntS.calls kj4 _ _ t254 _ _ t240 true _ ?side1 ?side2 ?side3 ?side4 A28.out).mono ?_); (case side1 => repeat (first | exact (Kd.R_reads' HO257.out).2.2 | (with_reducible refine Kd.C_alloc ?_ _) | (with_reducible refine Kd.C_drewN ?_ _) | (with_reducible refine Kd.C_drew ?_))); (case side2 => exact (Kd.R_reads' HO257.out).2.1); (case side3 => repeat (first | exact (Kd.R_reads' HO_4.out).2.2 | (with_reducible refine Kd.C_alloc ?_ _) | (with_reducible refine Kd.C_drewN ?_ _) | (with_reducible refine Kd.C_drew ?_))); (case side4 => exact (Kd.R_reads' HO_4.out).2.1); rintro e w' ⟨rfl, ⟨nd, rfl⟩⟩))
          go_meet
          case rel => exact ⟨_, ((t255 != t241)), (by first | rfl | (simp; done) | (simp [*]; done)), H', ⟨by have := HJ4.out; first | omega | exact Nat.le_refl _⟩, ⟨by (with_reducible repeat (first | apply Kd.R_alloc | apply Kd.R_drewN | apply Kd.R_drew)); exact Kd.R_mono HO_7.out (fun _ hk => trivial)⟩, ⟨(bl HB)⟩⟩
         ·replace c29 := Bool.eq_false_iff.mpr c29
          subst c29
          have H1 : (laws_FnExactParseWiring.j1 kj4 t251 t250 true) = some true := by rw [if_neg (show ¬ (false = true) by decide)] at H; exact H
          clear H
          have H := H1
          clear H1
          have H' := Aside0.mk H
          clear H
          obtain ⟨Ao32, co32, eo32⟩ := Kd.R_slice HO257.out
          subst eo32
          obtain ⟨Ao33, co33, eo33⟩ := Kd.R_slice HO_4.out
          subst eo33
          go_wp2_with (first | (go_at_call 9; (with_reducible refine (laws_eqIntS.calls kj4 _ _ t254 _ _ t240 false _ ?side1 ?side2 ?side3 ?side4 A28.out).mono ?_); (case side1 => repeat (first | exact (Kd.R_reads' HO257.out).2.2 | (with_reducible refine Kd.C_alloc ?_ _) | (with_reducible refine Kd.C_drewN ?_ _) | (with_reducible refine Kd.C_drew ?_))); (case side2 => exact (Kd.R_reads' HO257.out).2.1); (case side3 => repeat (first | exact (Kd.R_reads' HO_4.out).2.2 | (with_reducible refine Kd.C_alloc ?_ _) | (with_reducible refine Kd.C_drewN ?_ _) | (with_reducible refine Kd.C_drew ?_))); (case side4 => exact (Kd.R_reads' HO_4.out).2.1); rintro e w' ⟨rfl, ⟨nd, rfl⟩⟩))
          go_meet
          case rel => exact ⟨_, (true), (by first | rfl | (simp; done) | (simp [*]; done)), H', ⟨by have := HJ4.out; first | omega | exact Nat.le_refl _⟩, ⟨by (with_reducible repeat (first | apply Kd.R_alloc | apply Kd.R_drewN | apply Kd.R_drew)); exact Kd.R_mono HO_7.out (fun _ hk => trivial)⟩, ⟨(bl HB)⟩⟩
        ·rw [if_neg c27] at H
         have c27b0 : (t253 == t239) = false := beq_eq_false_iff_ne.mpr c27
         have c27b1 : (t253 != t239) = true := bne_iff_ne.mpr c27
         (first | rw [c27b0] | (simp only [i64_w, i32_w]; rw [c27b0]) | skip)
         have H' := Aside0.mk H
         clear H
         go_wp2
         go_meet
         case rel => exact ⟨_, (true), (by first | rfl | (simp; done) | (simp [*]; done)), H', ⟨by have := HJ4.out; first | omega | exact Nat.le_refl _⟩, ⟨by (with_reducible repeat (first | apply Kd.R_alloc | apply Kd.R_drewN | apply Kd.R_drew)); exact Kd.R_mono HO_7.out (fun _ hk => trivial)⟩, ⟨(bl HB)⟩⟩
       case rest =>
        clear HC23
        try clear c1
        try clear c2
        try clear c2b0
        try clear c2b1
        try clear p2
        try clear c4
        try clear c7
        try clear c8
        try clear c8b0
        try clear c8b1
        try clear c10
        try clear c11
        try clear c15
        try clear c18
        try clear c18b0
        try clear c21
        try clear c21b0
        try clear c21b1
        try clear c27
        try clear c27b0
        try clear c27b1
        try clear c29
        try clear p2
        obtain ⟨kq, x73_22, rfl, HA, HJ22, HO_7, HB⟩ := hcut
        have hl7_22 := (Kd.R_reads' HO_7.out).1
        rw [hl7_22] at HO_7
        (try simp only [hl7_22])
        cases kq with
        | zero => exact absurd HA.out (by simp [laws_FnExactParseWiring.j1])
        | succ kj22 =>
         have H := HA.out
         clear HA
         simp only [laws_FnExactParseWiring.j1] at H
         by_cases c34 : x73_22 = true
         ·subst c34
          have H1 : (some false) = some true := by rw [if_pos rfl] at H; exact H
          clear H
          have H := H1
          clear H1
          exact absurd H (by simp)
         ·replace c34 := Bool.eq_false_iff.mpr c34
          subst c34
          have H1 : ((laws_heldIntS.f kj22 t251 1).bind fun t259 => (if t259 < 0 then (some false) else (if t259 = t250 then (some true) else (some false)))) = some true := by rw [if_neg (show ¬ (false = true) by decide)] at H; exact H
          clear H
          have H := H1
          clear H1
          replace H := Option.bind_eq_some_iff.mp H
          obtain ⟨t259, A350, H⟩ := H
          (try dsimp only at H)
          have A35 := Aside0.mk A350
          clear A350
          by_cases c36 : t259 < 0
          ·rw [if_pos c36] at H
           have c36b0 : decide (t259 < 0) = true := decide_eq_true c36
           clear c36
           exact absurd H (by simp)
          ·rw [if_neg c36] at H
           have c36b0 : decide (t259 < 0) = false := decide_eq_false c36
           clear c36
           by_cases c37 : t259 = t250
           ·rw [if_pos c37] at H
            have c37b0 : (t259 == t250) = true := beq_iff_eq.mpr c37
            have c37b1 : (t259 != t250) = false := bne_eq_false_iff_eq.mpr c37
            clear c37
            clear H
            go_wp2_with (first | ((with_reducible refine gate_callee (f := 11) rfl ?_); refine gL (some 76) rfl rfl Tryd.func11 (by kernel_rfl) rfl #[.slice Ao24 t251.length co24, .int .i64 1] rfl ?_; (with_reducible refine (laws_heldIntS.calls kj22 _ _ t251 1 t259 _ ?side1 ?side2 A35.out).mono ?_); (case side1 => repeat (first | exact (Kd.R_reads' HO_7.out).2.2 | (with_reducible refine Kd.C_alloc ?_ _) | (with_reducible refine Kd.C_drewN ?_ _) | (with_reducible refine Kd.C_drew ?_))); (case side2 => exact (Kd.R_reads' HO_7.out).2.1); rintro e w' ⟨rfl, ⟨nd, rfl⟩⟩; refine ⟨_, rfl, ?_⟩))
            go_ret
            exact ⟨by first | rfl | (simp [errW_none, errW_some] <;> rfl) | (simp [*, errW_none, errW_some] <;> rfl), (bl HB)⟩
           ·rw [if_neg c37] at H
            have c37b0 : (t259 == t250) = false := beq_eq_false_iff_ne.mpr c37
            have c37b1 : (t259 != t250) = true := bne_iff_ne.mpr c37
            exact absurd H (by simp)
      ·rw [if_neg c21] at H
       have c21b0 : (t252 == t250) = false := beq_eq_false_iff_ne.mpr c21
       have c21b1 : (t252 != t250) = true := bne_iff_ne.mpr c21
       exact absurd H (by simp)

/-- THE ONE PURE STATEMENT of laws_FnExactParseWiring: yours. -/
def laws_FnExactParseWiring.Pure : Prop := ∀ (a0 : ByteArray), a0.size ≤ 140737488351232 → ∃ k, laws_FnExactParseWiring.f k a0 = some true
theorem laws_FnExactParseWiring.walk (P : laws_FnExactParseWiring.Pure) (a0 : ByteArray) (w : World) (hv_ : VarsOk w) (w0 : a0.size ≤ 140737488351232) :
  Calls Tryd.prog 4 #[.string a0] w fun e w' => e = .returned (.bool true) ∧ Below w.heap.size w w' := by
 obtain ⟨k, h⟩ := P a0 w0
 refine (laws_FnExactParseWiring.calls k a0 w hv_ h).mono ?_
 rintro e w' ⟨rfl, hd⟩
 exact ⟨rfl, hd⟩

end Go.Proofs.YtiimkifkakdalaaDoor.P
