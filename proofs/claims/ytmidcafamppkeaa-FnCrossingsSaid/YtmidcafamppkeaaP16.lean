-- Printed by a program of this session (wip/tools/myprint.py, over the kit's print.py); not trusted: Lean checks it.
import Derived.Test.YtmidcafamppkeaaSq
import Derived.Test.YtmidcafamppkeaaWAll2
import Derived.Test.YtmidcafamppkeaaP0
import Derived.Test.YtmidcafamppkeaaP4
import Derived.Test.YtmidcafamppkeaaP48
import Derived.Test.YtmidcafamppkeaaP58
import Derived.Test.YtmidcafamppkeaaP72
import Derived.Test.YtmidcafamppkeaaP90
namespace Go.Proofs.Ytmidcafamppkeaa.P
open Go.RowKit Go.Proofs.YtmidcafamppkeaaW.PrintWords Go.Proofs.YtmidcafamppkeaaW.PrintLast Go.Proofs.YtmidcafamppkeaaW.PrintMore
attribute [local go_sem] max2_int min2_int max_two min_two max_three min_three max_four min_four   -- for this text's walks alone
set_option linter.unusedVariables false
set_option linter.unusedSimpArgs false

attribute [local go_sem] Go.Proofs.Try.underlying78 Go.Proofs.Try.underlying79 Go.Proofs.Try.underlying80 Go.Proofs.Try.underlying82
/-! ### spec_DoCross: function 16 -/
def spec_DoCross.f (k : Nat) (a0_0 : Int) (a0_1 : ByteArray) (a1 : Int) (a2 : Int) (a3 : Int) (a4 : Int) : Option (Bool) := (spec_IsAcyclic.f k a0_0 a0_1).bind fun t637 => (if t637 = true then ((spec_l5Different.f k a0_0 (([a1, a2, a3, a4] : List Int))).bind fun t641 => (if t641 = true then ((spec_l9Cross.f k a0_0 a0_1 a1 a2 a3 a4).bind fun t642 => (some t642)) else (some false))) else (some false))
set_option maxHeartbeats 8000000 in
set_option maxRecDepth 100000 in
theorem spec_DoCross.calls (k : Nat) (a0_0 : Int) (a0_1 : ByteArray) (a1 a2 a3 a4 : Int) (r : Bool) (w : World) (h : spec_DoCross.f k a0_0 a0_1 a1 a2 a3 a4 = some r) :
  Calls Try.prog 16 #[.agg #[.int .i64 a0_0, .string a0_1], .int .i64 a1, .int .i64 a2, .int .i64 a3, .int .i64 a4] w fun e w' => e = .returned (.bool r) ∧ Below w.heap.size w w' := by
 have hu30 := Try.underlying30; have HB := Aside0.mk (Below.refl w.heap.size w); have H := h; unfold spec_DoCross.f at H; clear h; obtain ⟨t637, A6, H⟩ := bnd H; by_cases c7 : t637 = true; rotate_left
 ·replace c7 := Bool.eq_false_iff.mpr c7; subst c7; rw [if_neg nf] at H; obtain rfl := Option.some.inj H; go_enter Try.func16, Try.ntmps16; go_wp2_with (first | ((with_reducible refine gate_dst (N := 5) rfl ?_); ((refine gate_guard (by rfl) ?_; dsimp only)); refine bx 5 #[.int .i64 a0_0, .string a0_1] 30 ?_; intro gb636 hg w27 hbox hb; have BK636 := Aside0.mk hbox; have GE636 := gs HB hg; have GW636 := GE636; replace HB := bs HB hb; clear hb hbox hg; have hcz28_0 := bc BK636 0; have hcz28_1 := bc BK636 1; ) | ((with_reducible refine gate_callee (f := 25) rfl ?_); refine gM (some 12) Try.func25 rfl (spec_IsAcyclic.calls k a0_0 a0_1 false _ A6.out) ?_; rintro w29 hb; replace BK636 := bw hb (bk BK636); replace HB := bsg HB GE636 hb; (clear hb))); go_ret; exact ⟨by rfl, (bg HB GE636)⟩
 subst c7; rw [if_pos rfl] at H; obtain ⟨y638, Ny638⟩ := nm (([a1, a2, a3, a4] : List Int) : List Int); rw [← Ny638.out] at H; obtain ⟨t641, A8, H⟩ := bnd H; by_cases c9 : t641 = true; rotate_left
 ·replace c9 := Bool.eq_false_iff.mpr c9; subst c9; rw [if_neg nf] at H; obtain rfl := Option.some.inj H; go_enter Try.func16, Try.ntmps16; go_wp2_with (first | ((with_reducible refine gate_dst (N := 5) rfl ?_); ((refine gate_guard (by rfl) ?_; dsimp only)); refine bx 5 #[.int .i64 a0_0, .string a0_1] 30 ?_; intro gb636 hg w20 hbox hb; have BK636 := Aside0.mk hbox; have GE636 := gs HB hg; have GW636 := GE636; replace HB := bs HB hb; clear hb hbox hg; have hcz21_0 := bc BK636 0; have hcz21_1 := bc BK636 1; ) | ((with_reducible refine gate_callee (f := 25) rfl ?_); refine gM (some 12) Try.func25 rfl (spec_IsAcyclic.calls k a0_0 a0_1 true _ A6.out) ?_; rintro w22 hb; replace BK636 := bw hb (bk BK636); replace HB := bsg HB GE636 hb; (clear hb); have hcz23_0 := bc BK636 0; have hcz23_1 := bc BK636 1; ) | ((with_reducible refine gate_dst (N := 20) rfl ?_); ((refine gate_guard (by rfl) ?_; dsimp only)); refine Kd.R_lit (Kd.int .i64) _ 3 ?hg (N := 20) ?hd (xs := ([a1, a2, a3, a4] : List Int)) (inner := [.int .i64 a1, .int .i64 a2, .int .i64 a3, .int .i64 a4]) (ok := fun _ => True) (okp := fun _ => True) ?hr ?hp (fun _ hk => hk) trivial (Below.refl _ _) (Nat.le_refl _) (by simp) ?_; (case hd => rfl); (case hg => rfl); (case hr => (go_simp; done)); (case hp => exact (Reps.one (show Kd.M (Kd.int .i64) _ _ _ a1 [.int .i64 a1] from rfl) (Reps.one (show Kd.M (Kd.int .i64) _ _ _ a2 [.int .i64 a2] from rfl) (Reps.one (show Kd.M (Kd.int .i64) _ _ _ a3 [.int .i64 a3] from rfl) (Reps.one (show Kd.M (Kd.int .i64) _ _ _ a4 [.int .i64 a4] from rfl) (Reps.none _ _)))))); intro v639 w24 ho25 hb hg_ hnew_; clear hg_ hnew_; (rw [← Ny638.out] at ho25); have HO640 := Aside0.mk (Kd.R_lower ho25 (below_size (bg HB GE636))); replace BK636 := bw hb (bk BK636); replace HB := bsg HB GE636 hb; clear hb ho25; obtain ⟨Ao26, co26, eo26⟩ := Kd.R_slice HO640.out; subst eo26) | (go_at_call 44; (with_reducible refine (spec_l5Different.calls k a0_0 _ _ y638 false _ ?side1 ?side2 A8.out).mono ?_); (case side1 => repeat (exact (Kd.R_reads' HO640.out).2.2)); (case side2 => exact (Kd.R_reads' HO640.out).2.1); rintro e w' ⟨rfl, ⟨nd, rfl⟩⟩)); go_ret; exact ⟨by rfl, (bg HB GE636)⟩
 subst c9; rw [if_pos rfl] at H; obtain ⟨t642, A10, H⟩ := bnd H; obtain rfl := Option.some.inj H; go_enter Try.func16, Try.ntmps16; go_wp2_with (first | ((with_reducible refine gate_dst (N := 5) rfl ?_); ((refine gate_guard (by rfl) ?_; dsimp only)); refine bx 5 #[.int .i64 a0_0, .string a0_1] 30 ?_; intro gb636 hg w11 hbox hb; have BK636 := Aside0.mk hbox; have GE636 := gs HB hg; have GW636 := GE636; replace HB := bs HB hb; clear hb hbox hg; have hcz12_0 := bc BK636 0; have hcz12_1 := bc BK636 1; ) | ((with_reducible refine gate_callee (f := 25) rfl ?_); refine gM (some 12) Try.func25 rfl (spec_IsAcyclic.calls k a0_0 a0_1 true _ A6.out) ?_; rintro w13 hb; replace BK636 := bw hb (bk BK636); replace HB := bsg HB GE636 hb; (clear hb); have hcz14_0 := bc BK636 0; have hcz14_1 := bc BK636 1; ) | ((with_reducible refine gate_dst (N := 20) rfl ?_); ((refine gate_guard (by rfl) ?_; dsimp only)); refine Kd.R_lit (Kd.int .i64) _ 3 ?hg (N := 20) ?hd (xs := ([a1, a2, a3, a4] : List Int)) (inner := [.int .i64 a1, .int .i64 a2, .int .i64 a3, .int .i64 a4]) (ok := fun _ => True) (okp := fun _ => True) ?hr ?hp (fun _ hk => hk) trivial (Below.refl _ _) (Nat.le_refl _) (by simp) ?_; (case hd => rfl); (case hg => rfl); (case hr => (go_simp; done)); (case hp => exact (Reps.one (show Kd.M (Kd.int .i64) _ _ _ a1 [.int .i64 a1] from rfl) (Reps.one (show Kd.M (Kd.int .i64) _ _ _ a2 [.int .i64 a2] from rfl) (Reps.one (show Kd.M (Kd.int .i64) _ _ _ a3 [.int .i64 a3] from rfl) (Reps.one (show Kd.M (Kd.int .i64) _ _ _ a4 [.int .i64 a4] from rfl) (Reps.none _ _)))))); intro v639 w15 ho16 hb hg_ hnew_; clear hg_ hnew_; (rw [← Ny638.out] at ho16); have HO640 := Aside0.mk (Kd.R_lower ho16 (below_size (bg HB GE636))); replace BK636 := bw hb (bk BK636); replace HB := bsg HB GE636 hb; clear hb ho16; obtain ⟨Ao17, co17, eo17⟩ := Kd.R_slice HO640.out; subst eo17) | (go_at_call 44; (with_reducible refine (spec_l5Different.calls k a0_0 _ _ y638 true _ ?side1 ?side2 A8.out).mono ?_); (case side1 => repeat (exact (Kd.R_reads' HO640.out).2.2)); (case side2 => exact (Kd.R_reads' HO640.out).2.1); rintro e w' ⟨rfl, ⟨nd, rfl⟩⟩; have hcz18_0 := bc BK636 0; have hcz18_1 := bc BK636 1; ) | (go_at_call 46; (with_reducible refine (spec_l9Cross.calls k a0_0 a0_1 a1 a2 a3 a4 t642 _ A10.out).mono ?_); rintro e w19 ⟨rfl, hb⟩; replace HO640 := Aside0.mk (Kd.R_below (rr HO640) hb); replace BK636 := bw hb (bk BK636); replace HB := bsg HB GE636 hb; (clear hb))); go_ret; exact ⟨by rfl, (bg HB GE636)⟩

/-! ### spec_l6Has: function 69 -/
def spec_l6Has.f (a0 : Int) (a1 : Int) : Option (Bool) := if 0 ≤ (IntKind.u64.wrap (a1)) then (some ((Go.bits .and .i64 (shr .i64 a0 (IntKind.u64.wrap (a1))) 1) == 1)) else (none)
set_option maxHeartbeats 8000000 in
set_option maxRecDepth 100000 in
theorem spec_l6Has.calls (a0 a1 : Int) (r : Bool) (w : World) (h : spec_l6Has.f a0 a1 = some r) :
  Calls Try.prog 69 #[.int .i64 a0, .int .i64 a1] w fun e w' => e = .returned (.bool r) ∧ Drawn0 w w' := by
 have H := h; unfold spec_l6Has.f at H; clear h; obtain ⟨ji3, hji3⟩ := nj (IntKind.u64.wrap (a1)); rw [hji3] at H; obtain ⟨c4, H⟩ := ifn H; have c4b0 := eq_true c4; have c4b1 := decide_eq_true c4; clear c4; obtain ⟨ji5, hji5⟩ := nj (shr .i64 a0 (ji3)); rw [hji5] at H; have hji5_ : (a0 / 2 ^ min (ji3).toNat 64) = ji5 := hji5; have hji5z : (ji3) ≤ 64 → (a0 / 2 ^ (ji3).toNat) = ji5 := shr_small hji5; obtain rfl := Option.some.inj H; go_enter Try.func69, Try.ntmps69; go_wp2; go_ret; exact ⟨by rfl, by repeat (exact Drawn0.refl _)⟩

/-! ### spec_l9Pairs: function 47 -/
mutual
def spec_l9Pairs.l0 : Nat → Int → Int → Int → Int → ByteArray → Option (Int)
 | 0, _, _, _, _, _ => none
 | k + 1, x1, x5, x6, x644000, x644001 => if x6 < (wrap64 (Int.tdiv (wrap64 (x644000 * (wrap64 (x644000 - 1)))) 2)) then (spec_l9Pairs.l1 k x1 x5 x6 0 x644000 x644001) else (some x5)
def spec_l9Pairs.l1 : Nat → Int → Int → Int → Int → Int → ByteArray → Option (Int)
 | 0, _, _, _, _, _, _ => none
 | k + 1, x1, x5, x6, x7, x644000, x644001 => if x7 < x6 then ((spec_l6Has.f x1 x6).bind fun t644 => (if t644 = true then ((spec_l6Has.f x1 x7).bind fun t645 => (spec_l9Pairs.j2 k x1 x5 x6 x7 t645 x644000 x644001)) else (spec_l9Pairs.j2 k x1 x5 x6 x7 false x644000 x644001))) else (spec_l9Pairs.l0 k x1 x5 (wrap64 (x6 + 1)) x644000 x644001)
def spec_l9Pairs.j2 : Nat → Int → Int → Int → Int → Bool → Int → ByteArray → Option (Int)
 | 0, _, _, _, _, _, _, _ => none
 | k + 1, x1, x5, x6, x7, x35, x644000, x644001 => if x35 = true then ((spec_EdgeAt.f k x644000 x6).bind fun bt646 => ((spec_EdgeAt.f k x644000 x7).bind fun bt648 => ((spec_l9Cross.f k x644000 x644001 bt646.1 bt646.2 bt648.1 bt648.2).bind fun t650 => ((spec_l1Bit.f t650).bind fun t651 => (spec_l9Pairs.l1 k x1 (wrap64 (x5 + t651)) x6 (wrap64 (x7 + 1)) x644000 x644001))))) else (spec_l9Pairs.l1 k x1 x5 x6 (wrap64 (x7 + 1)) x644000 x644001)
end
def spec_l9Pairs.f (k : Nat) (a0_0 : Int) (a0_1 : ByteArray) (a1 : Int) : Option (Int) := spec_l9Pairs.l0 k a1 0 0 a0_0 a0_1
set_option maxHeartbeats 8000000 in
set_option maxRecDepth 100000 in
theorem spec_l9Pairs.calls (k : Nat) (a0_0 : Int) (a0_1 : ByteArray) (a1 r : Int) (w : World) (h : spec_l9Pairs.f k a0_0 a0_1 a1 = some r) :
  Calls Try.prog 47 #[.agg #[.int .i64 a0_0, .string a0_1], .int .i64 a1] w fun e w' => e = .returned (.int .i64 r) ∧ Below w.heap.size w w' := by
 have hu30 := Try.underlying30; have HB := Aside0.mk (Below.refl w.heap.size w); have H := h; unfold spec_l9Pairs.f at H; clear h; have H' := Aside0.mk H; clear H; go_enter Try.func47, Try.ntmps47; go_wp2_with (((with_reducible refine gate_dst (N := 2) rfl ?_); refine bx 2 #[.int .i64 a0_0, .string a0_1] 30 ?_; intro gb643 hg w3 hbox hb; have BK643 := Aside0.mk hbox; have GE643 := gs HB hg; have GW643 := GE643; replace HB := bs HB hb; clear hb hbox hg)); go_loopg [5, 6] k (fun kq v5 v6 w' => ∃ (x5_1 : Int) (x6_1 : Int), v5 = .int .i64 x5_1 ∧ v6 = .int .i64 x6_1 ∧ Aside0 (spec_l9Pairs.l0 kq a1 x5_1 x6_1 a0_0 a0_1 = some r) ∧ Aside0 (kq ≤ k) ∧ Aside0 (w'.heap[gb643]? = some (.cells #[.int .i64 a0_0, .string a0_1] 30 (0, 0))) ∧ Aside0 (Below w.heap.size w w'))
 case atStart => exact ⟨(0), (0), (by rfl), (by rfl), H', ⟨Nat.le_refl _⟩, ⟨by exact bk BK643⟩, ⟨(bg HB GE643)⟩⟩
 case round =>
  clear H'; obtain ⟨x5_1, x6_1, rfl, rfl, HA, HK1, BK643, HB⟩ := hrel
  cases gk with
  | zero => exact absurd HA.out (by simp [spec_l9Pairs.l0])
  | succ k1 =>
   have H := HA.out; clear HA; simp only [spec_l9Pairs.l0] at H; by_cases c4 : x6_1 < (wrap64 (Int.tdiv (wrap64 (a0_0 * (wrap64 (a0_0 - 1)))) 2)); rotate_left
   ·rw [if_neg c4] at H; have c4b0 := decide_eq_false c4; clear c4; obtain rfl := Option.some.inj H; have hcz18_0 := bc BK643 0; have hcz18_1 := bc BK643 1; have hfz18_0 := bf BK643 0; have hfz18_1 := bf BK643 1; go_wp2; go_ret; exact ⟨by rfl, (bg HB GE643)⟩
   rw [if_pos c4] at H; have c4b0 := decide_eq_true c4; clear c4; have H' := Aside0.mk H; clear H; have hcz5_0 := bc BK643 0; have hcz5_1 := bc BK643 1; have hfz5_0 := bf BK643 0; have hfz5_1 := bf BK643 1; go_wp2; go_loopg [5, 7] k1 (fun kq v5 v7 w' => ∃ (x5_2 : Int) (x7_2 : Int), v5 = .int .i64 x5_2 ∧ v7 = .int .i64 x7_2 ∧ Aside0 (spec_l9Pairs.l1 kq a1 x5_2 x6_1 x7_2 a0_0 a0_1 = some r) ∧ Aside0 (kq ≤ k1) ∧ Aside0 (w'.heap[gb643]? = some (.cells #[.int .i64 a0_0, .string a0_1] 30 (0, 0))) ∧ Aside0 (Below w.heap.size w w'))
   case atStart => exact ⟨(x5_1), (0), (by rfl), (by rfl), H', ⟨Nat.le_refl _⟩, ⟨by exact bk BK643⟩, ⟨(bg HB GE643)⟩⟩
   case round =>
    clear H' c4b0 hcz5_0 hcz5_1 hfz5_0 hfz5_1; obtain ⟨x5_2, x7_2, rfl, rfl, HA, HK2, BK643, HB⟩ := hrel
    cases gk with
    | zero => exact absurd HA.out (by simp [spec_l9Pairs.l1])
    | succ k2 =>
     have H := HA.out; clear HA; simp only [spec_l9Pairs.l1] at H; by_cases c6 : x7_2 < x6_1; rotate_left
     ·rw [if_neg c6] at H; have c6b0 := decide_eq_false c6; clear c6; have H' := Aside0.mk H; clear H; go_wp2; go_roundg k2
      case measure => have := HK1.out; have := HK2.out; omega
      case rel => exact ⟨(x5_2), (wrap64 (x6_1 + 1)), (by rfl), (by rfl), H', ⟨by have := HK1.out; have := HK2.out; omega⟩, ⟨by exact bk BK643⟩, ⟨(bg HB GE643)⟩⟩
     rw [if_pos c6] at H; have c6b0 := decide_eq_true c6; clear c6; have HC7 := Aside0.mk H; clear H; go_upto_region 8 with (fail); go_cut [35] (fun v35 wc => ∃ (kq : Nat) (x35_6 : Bool), v35 = .bool x35_6 ∧ Aside0 (spec_l9Pairs.j2 kq a1 x5_2 x6_1 x7_2 x35_6 a0_0 a0_1 = some r) ∧ Aside0 (kq ≤ k2) ∧ Aside0 (wc.heap[gb643]? = some (.cells #[.int .i64 a0_0, .string a0_1] 30 (0, 0))) ∧ Aside0 (Below w.heap.size w wc))
     case first =>
      have H := HC7.out; clear HC7; obtain ⟨t644, A8, H⟩ := bnd H; by_cases c9 : t644 = true; rotate_left
      ·replace c9 := Bool.eq_false_iff.mpr c9; subst c9; rw [if_neg nf] at H; have H' := Aside0.mk H; clear H; go_wp2_with (((with_reducible refine gate_callee (f := 69) rfl ?_); refine gM (some 30) Try.func69 rfl (spec_l6Has.calls a1 x6_1 false _ A8.out) ?_; rintro w' ⟨nd, rfl⟩)); go_meet
       case rel => exact ⟨_, (false), (by rfl), H', ⟨by have := HK1.out; have := HK2.out; omega⟩, ⟨by (with_reducible repeat (refine blk_drewN ?_ _)); exact BK643.out⟩, ⟨(bg HB GE643)⟩⟩
      subst c9; rw [if_pos rfl] at H; obtain ⟨t645, A10, H⟩ := bnd H; have H' := Aside0.mk H; clear H; go_wp2_with (first | ((with_reducible refine gate_callee (f := 69) rfl ?_); refine gM (some 30) Try.func69 rfl (spec_l6Has.calls a1 x6_1 true _ A8.out) ?_; rintro w' ⟨nd, rfl⟩) | (go_at_call 69; (with_reducible refine (spec_l6Has.calls a1 x7_2 t645 _ A10.out).mono ?_); rintro e w' ⟨rfl, ⟨nd, rfl⟩⟩)); go_meet
      case rel => exact ⟨_, (t645), (by rfl), H', ⟨by have := HK1.out; have := HK2.out; omega⟩, ⟨by (with_reducible repeat (refine blk_drewN ?_ _)); exact BK643.out⟩, ⟨(bg HB GE643)⟩⟩
     case rest =>
      clear HC7 c6b0; obtain ⟨kq, x35_6, rfl, HA, HJ6, BK643, HB⟩ := hcut
      cases kq with
      | zero => exact absurd HA.out (by simp [spec_l9Pairs.j2])
      | succ kj6 =>
       have H := HA.out; clear HA; simp only [spec_l9Pairs.j2] at H; by_cases c11 : x35_6 = true; rotate_left
       ·replace c11 := Bool.eq_false_iff.mpr c11; subst c11; rw [if_neg nf] at H; have H' := Aside0.mk H; clear H; go_wp2; go_roundg kj6
        case measure => have := HK1.out; have := HK2.out; have := HJ6.out; omega
        case rel => exact ⟨(x5_2), (wrap64 (x7_2 + 1)), (by rfl), (by rfl), H', ⟨by have := HK1.out; have := HK2.out; have := HJ6.out; omega⟩, ⟨by exact bk BK643⟩, ⟨(bg HB GE643)⟩⟩
       subst c11; rw [if_pos rfl] at H; replace H := bnd H; obtain ⟨⟨t646, t647⟩, A12, H⟩ := H; dsimp only at H; replace H := bnd H; obtain ⟨⟨t648, t649⟩, A13, H⟩ := H; dsimp only at H; obtain ⟨t650, A14, H⟩ := bnd H; obtain ⟨t651, A15, H⟩ := bnd H; have H' := Aside0.mk H; clear H; have hcz16_0 := bc BK643 0; have hcz16_1 := bc BK643 1; have hfz16_0 := bf BK643 0; have hfz16_1 := bf BK643 1; go_wp2_with (first | ((with_reducible refine gate_callee (f := 8) rfl ?_); refine gM (some 40) Try.func8 rfl (spec_EdgeAt.calls kj6 a0_0 x6_1 t646 t647 _ A12.out) ?_; rintro w' ⟨nd, rfl⟩) | ((with_reducible refine gate_callee (f := 8) rfl ?_); refine gM (some 47) Try.func8 rfl (spec_EdgeAt.calls kj6 a0_0 x7_2 t648 t649 _ A13.out) ?_; rintro w' ⟨nd, rfl⟩) | ((with_reducible refine gate_callee (f := 46) rfl ?_); refine gM (some 56) Try.func46 rfl (spec_l9Cross.calls kj6 a0_0 a0_1 t646 t647 t648 t649 t650 _ A14.out) ?_; rintro w17 hb; replace BK643 := bw hb (bk BK643); replace HB := bsg HB GE643 hb; (clear hb)) | ((with_reducible refine gate_callee (f := 31) rfl ?_); refine gM (some 57) Try.func31 rfl (spec_l1Bit.calls t650 t651 _ A15.out) ?_; rintro w' ⟨nd, rfl⟩)); go_roundg kj6
       case measure => have := HK1.out; have := HK2.out; have := HJ6.out; omega
       case rel => exact ⟨(wrap64 (x5_2 + t651)), (wrap64 (x7_2 + 1)), (by rfl), (by rfl), H', ⟨by have := HK1.out; have := HK2.out; have := HJ6.out; omega⟩, ⟨by (with_reducible repeat (refine blk_drewN ?_ _)); exact BK643.out⟩, ⟨(bg HB GE643)⟩⟩

/-! ### spec_CrossingPairs: function 17 -/
def spec_CrossingPairs.f (k : Nat) (a0_0 : Int) (a0_1 : ByteArray) (a1 : Int) : Option (Int) := (spec_IsAcyclic.f k a0_0 a0_1).bind fun t653 => (if t653 = true then ((spec_AllEdges.f a0_0).bind fun t654 => ((spec_l1In.f a1 0 t654).bind fun t655 => (if t655 = true then ((spec_l9Pairs.f k a0_0 a0_1 a1).bind fun t656 => (some t656)) else (some (-1))))) else (some (-1)))
set_option maxHeartbeats 8000000 in
set_option maxRecDepth 100000 in
theorem spec_CrossingPairs.calls (k : Nat) (a0_0 : Int) (a0_1 : ByteArray) (a1 r : Int) (w : World) (h : spec_CrossingPairs.f k a0_0 a0_1 a1 = some r) :
  Calls Try.prog 17 #[.agg #[.int .i64 a0_0, .string a0_1], .int .i64 a1] w fun e w' => e = .returned (.int .i64 r) ∧ Below w.heap.size w w' := by
 have hu30 := Try.underlying30; have HB := Aside0.mk (Below.refl w.heap.size w); have H := h; unfold spec_CrossingPairs.f at H; clear h; obtain ⟨t653, A3, H⟩ := bnd H; by_cases c4 : t653 = true; rotate_left
 ·replace c4 := Bool.eq_false_iff.mpr c4; subst c4; rw [if_neg nf] at H; obtain rfl := Option.some.inj H; go_enter Try.func17, Try.ntmps17; go_wp2_with (first | ((with_reducible refine gate_dst (N := 2) rfl ?_); refine bx 2 #[.int .i64 a0_0, .string a0_1] 30 ?_; intro gb652 hg w18 hbox hb; have BK652 := Aside0.mk hbox; have GE652 := gs HB hg; have GW652 := GE652; replace HB := bs HB hb; clear hb hbox hg; have hcz19_0 := bc BK652 0; have hcz19_1 := bc BK652 1; ) | ((with_reducible refine gate_callee (f := 25) rfl ?_); refine gM (some 6) Try.func25 rfl (spec_IsAcyclic.calls k a0_0 a0_1 false _ A3.out) ?_; rintro w20 hb; replace BK652 := bw hb (bk BK652); replace HB := bsg HB GE652 hb; (clear hb))); go_ret; exact ⟨by rfl, (bg HB GE652)⟩
 subst c4; rw [if_pos rfl] at H; obtain ⟨t654, A5, H⟩ := bnd H; obtain ⟨t655, A6, H⟩ := bnd H; by_cases c7 : t655 = true; rotate_left
 ·replace c7 := Bool.eq_false_iff.mpr c7; subst c7; rw [if_neg nf] at H; obtain rfl := Option.some.inj H; go_enter Try.func17, Try.ntmps17; go_wp2_with (first | ((with_reducible refine gate_dst (N := 2) rfl ?_); refine bx 2 #[.int .i64 a0_0, .string a0_1] 30 ?_; intro gb652 hg w14 hbox hb; have BK652 := Aside0.mk hbox; have GE652 := gs HB hg; have GW652 := GE652; replace HB := bs HB hb; clear hb hbox hg; have hcz15_0 := bc BK652 0; have hcz15_1 := bc BK652 1; ) | ((with_reducible refine gate_callee (f := 25) rfl ?_); refine gM (some 6) Try.func25 rfl (spec_IsAcyclic.calls k a0_0 a0_1 true _ A3.out) ?_; rintro w16 hb; replace BK652 := bw hb (bk BK652); replace HB := bsg HB GE652 hb; (clear hb); have hcz17_0 := bc BK652 0; have hcz17_1 := bc BK652 1; ) | (go_at_call 19; (with_reducible refine (spec_AllEdges.calls a0_0 t654 _ A5.out).mono ?_); rintro e w' ⟨rfl, ⟨nd, rfl⟩⟩) | (go_at_call 35; (with_reducible refine (spec_l1In.calls a1 0 t654 false _ A6.out).mono ?_); rintro e w' ⟨rfl, ⟨nd, rfl⟩⟩)); go_ret; exact ⟨by rfl, (bg HB GE652)⟩
 subst c7; rw [if_pos rfl] at H; obtain ⟨t656, A8, H⟩ := bnd H; obtain rfl := Option.some.inj H; go_enter Try.func17, Try.ntmps17; go_wp2_with (first | ((with_reducible refine gate_dst (N := 2) rfl ?_); refine bx 2 #[.int .i64 a0_0, .string a0_1] 30 ?_; intro gb652 hg w9 hbox hb; have BK652 := Aside0.mk hbox; have GE652 := gs HB hg; have GW652 := GE652; replace HB := bs HB hb; clear hb hbox hg; have hcz10_0 := bc BK652 0; have hcz10_1 := bc BK652 1; ) | ((with_reducible refine gate_callee (f := 25) rfl ?_); refine gM (some 6) Try.func25 rfl (spec_IsAcyclic.calls k a0_0 a0_1 true _ A3.out) ?_; rintro w11 hb; replace BK652 := bw hb (bk BK652); replace HB := bsg HB GE652 hb; (clear hb); have hcz12_0 := bc BK652 0; have hcz12_1 := bc BK652 1; ) | (go_at_call 19; (with_reducible refine (spec_AllEdges.calls a0_0 t654 _ A5.out).mono ?_); rintro e w' ⟨rfl, ⟨nd, rfl⟩⟩) | (go_at_call 35; (with_reducible refine (spec_l1In.calls a1 0 t654 true _ A6.out).mono ?_); rintro e w' ⟨rfl, ⟨nd, rfl⟩⟩) | ((with_reducible refine gate_callee (f := 47) rfl ?_); refine gM (some 18) Try.func47 rfl (spec_l9Pairs.calls k a0_0 a0_1 a1 t656 _ A8.out) ?_; rintro w13 hb; replace BK652 := bw hb (bk BK652); replace HB := bsg HB GE652 hb; (clear hb))); go_ret; exact ⟨by rfl, (bg HB GE652)⟩

/-! ### impl_chi_left: function 49 -/
def impl_chi_left.l0 : Nat → List Int → Int → Int → Int → Int → Option (Int)
 | 0, _, _, _, _, _ => none
 | k + 1, x0, x1, x2, x7, x8 => if 344 ≤ (x0.length : Int) then (if x8 < (rd x0 0) then (if 0 ≤ x1 then (if x1 < 7 then (if 0 ≤ x2 then (if x2 < 7 then (if 0 ≤ x8 then (if x8 < 7 then (if (rd x0 (cidx x1 x2 x8)) = 1 then (impl_chi_left.l0 k x0 x1 x2 (wrap64 (x7 + 1)) (wrap64 (x8 + 1))) else (impl_chi_left.l0 k x0 x1 x2 x7 (wrap64 (x8 + 1)))) else (none)) else (none)) else (none)) else (none)) else (none)) else (none)) else (some x7)) else (none)
def impl_chi_left.f (k : Nat) (l0 : List Int) (a1 : Int) (a2 : Int) : Option (Int) := impl_chi_left.l0 k l0 a1 a2 0 0
set_option maxHeartbeats 8000000 in
set_option maxRecDepth 100000 in
theorem impl_chi_left.calls (k : Nat) (A0 : Option Addr) (c0 : Nat) (l0 : List Int) (a1 a2 r : Int) (w : World) (hr0 : Kd.C (Kd.int .i64) w A0 l0.length l0) (hc0 : l0.length ≤ c0) (h : impl_chi_left.f k l0 a1 a2 = some r) :
  Calls Try.prog 49 #[.pointer A0, .int .i64 a1, .int .i64 a2] w fun e w' => e = .returned (.int .i64 r) ∧ Drawn0 w w' := by
 have HR0 := Aside0.mk hr0; have HC0 := Aside0.mk hc0; clear hr0 hc0; have H := h; unfold impl_chi_left.f at H; clear h; have H' := Aside0.mk H; clear H; go_enter Try.func49, Try.ntmps49; go_wp2; go_loopg [7, 8] k (fun kq v7 v8 w' => ∃ (x7_1 : Int) (x8_1 : Int), v7 = .int .i64 x7_1 ∧ v8 = .int .i64 x8_1 ∧ Aside0 (impl_chi_left.l0 kq l0 a1 a2 x7_1 x8_1 = some r) ∧ Aside0 (kq ≤ k) ∧ Drawn0 w w')
 case atStart => exact ⟨(0), (0), (by rfl), (by rfl), H', ⟨Nat.le_refl _⟩, by repeat (exact Drawn0.refl _)⟩
 case round =>
  clear H'; obtain ⟨x7_1, x8_1, rfl, rfl, HA, HK1, ⟨m1, rfl⟩⟩ := hrel
  cases gk with
  | zero => exact absurd HA.out (by simp [impl_chi_left.l0])
  | succ k1 =>
   have H := HA.out; clear HA; simp only [impl_chi_left.l0] at H; obtain ⟨c4, H⟩ := ifn H; have c4b0 := eq_true c4; have c4b1 := decide_eq_true c4; clear c4; by_cases c5 : x8_1 < (rd l0 0); rotate_left
   ·rw [if_neg c5] at H; have c5b0 := decide_eq_false c5; clear c5; obtain rfl := Option.some.inj H; have cl657 : (344 : Int) ≤ (l0.length : Int) := od; have p657 : 0 ≤ (0 : Int) := (by omega); have q657 : 0 < (l0.length : Int) := (by omega); obtain ⟨ad657, e657, hx657_0⟩ := Kd.at_int HR0.out 0 p657 q657; cases e657; have qi657 : (0 < l0.length) = True := eq_true (by omega); (rw [show ((0 : Int)).toNat = 0 from rfl] at hx657_0); (rw [Addr.add_zero'] at hx657_0); replace p657 := eq_true p657; replace q657 := eq_true q657; go_wp2; go_ret; exact ⟨by rfl, by repeat (first | exact Drawn0.refl _ | apply Drawn0.step)⟩
   rw [if_pos c5] at H; have c5b0 := decide_eq_true c5; clear c5; obtain ⟨c6, H⟩ := ifn H; have c6b0 := decide_eq_true c6; clear c6; obtain ⟨c7, H⟩ := ifn H; have c7b0 := decide_eq_true c7; clear c7; obtain ⟨c8, H⟩ := ifn H; have c8b0 := decide_eq_true c8; clear c8; obtain ⟨c9, H⟩ := ifn H; have c9b0 := decide_eq_true c9; clear c9; obtain ⟨c10, H⟩ := ifn H; have c10b0 := decide_eq_true c10; clear c10; obtain ⟨c11, H⟩ := ifn H; have c11b0 := decide_eq_true c11; clear c11; have c12b0 := eq_true (of_decide_eq_true (by with_reducible assumption) : 344 ≤ (l0.length : Int)); by_cases c13 : (rd l0 (cidx a1 a2 x8_1)) = 1; rotate_left
   ·rw [if_neg c13] at H; have c13b0 : ((rd l0 (cidx a1 a2 x8_1)) == 1) = false := beq_eq_false_iff_ne.mpr c13; have c13b1 : ((rd l0 (cidx a1 a2 x8_1)) != 1) = true := bne_iff_ne.mpr c13; have H' := Aside0.mk H; clear H; have cl657 : (344 : Int) ≤ (l0.length : Int) := od; have p657 : 0 ≤ (0 : Int) := (by omega); have q657 : 0 < (l0.length : Int) := (by omega); obtain ⟨ad657, e657, hx657_0⟩ := Kd.at_int HR0.out 0 p657 q657; cases e657; have qi657 : (0 < l0.length) = True := eq_true (by omega); (rw [show ((0 : Int)).toNat = 0 from rfl] at hx657_0); (rw [Addr.add_zero'] at hx657_0); replace p657 := eq_true p657; replace q657 := eq_true q657; have cp658_0 : 0 ≤ (a1 : Int) := od; have cq658_0 : (a1 : Int) < 7 := od; have cp658_1 : 0 ≤ (a2 : Int) := od; have cq658_1 : (a2 : Int) < 7 := od; have cp658_2 : 0 ≤ (x8_1 : Int) := od; have cq658_2 : (x8_1 : Int) < 7 := od; have cl658 : (344 : Int) ≤ (l0.length : Int) := od; have p658 : 0 ≤ ((cidx a1 a2 x8_1) : Int) := cidx_nonneg _ _ _; have q658 : (cidx a1 a2 x8_1) < (l0.length : Int) := cidx_lt cq658_0 cq658_1 cq658_2 cl658; obtain ⟨ad658, e658, hx658_0⟩ := Kd.at_int HR0.out (cidx a1 a2 x8_1) p658 q658; obtain rfl : ad657 = ad658 := (by injection e658); (rw [chi_add] at hx658_0); replace cp658_0 := eq_true cp658_0; replace cq658_0 := eq_true cq658_0; replace cp658_1 := eq_true cp658_1; replace cq658_1 := eq_true cq658_1; replace cp658_2 := eq_true cp658_2; replace cq658_2 := eq_true cq658_2; replace p658 := eq_true p658; replace q658 := eq_true q658; go_wp2; go_roundg k1
    case measure => have := HK1.out; omega
    case rel => exact ⟨(x7_1), (wrap64 (x8_1 + 1)), (by rfl), (by rfl), H', ⟨by have := HK1.out; omega⟩, by repeat (first | exact Drawn0.refl _ | apply Drawn0.step)⟩
   rw [if_pos c13] at H; have c13b0 : ((rd l0 (cidx a1 a2 x8_1)) == 1) = true := beq_iff_eq.mpr c13; have c13b1 : ((rd l0 (cidx a1 a2 x8_1)) != 1) = false := bne_eq_false_iff_eq.mpr c13; clear c13; have H' := Aside0.mk H; clear H; have cl657 : (344 : Int) ≤ (l0.length : Int) := od; have p657 : 0 ≤ (0 : Int) := (by omega); have q657 : 0 < (l0.length : Int) := (by omega); obtain ⟨ad657, e657, hx657_0⟩ := Kd.at_int HR0.out 0 p657 q657; cases e657; have qi657 : (0 < l0.length) = True := eq_true (by omega); (rw [show ((0 : Int)).toNat = 0 from rfl] at hx657_0); (rw [Addr.add_zero'] at hx657_0); replace p657 := eq_true p657; replace q657 := eq_true q657; have cp658_0 : 0 ≤ (a1 : Int) := od; have cq658_0 : (a1 : Int) < 7 := od; have cp658_1 : 0 ≤ (a2 : Int) := od; have cq658_1 : (a2 : Int) < 7 := od; have cp658_2 : 0 ≤ (x8_1 : Int) := od; have cq658_2 : (x8_1 : Int) < 7 := od; have cl658 : (344 : Int) ≤ (l0.length : Int) := od; have p658 : 0 ≤ ((cidx a1 a2 x8_1) : Int) := cidx_nonneg _ _ _; have q658 : (cidx a1 a2 x8_1) < (l0.length : Int) := cidx_lt cq658_0 cq658_1 cq658_2 cl658; obtain ⟨ad658, e658, hx658_0⟩ := Kd.at_int HR0.out (cidx a1 a2 x8_1) p658 q658; obtain rfl : ad657 = ad658 := (by injection e658); (rw [chi_add] at hx658_0); replace cp658_0 := eq_true cp658_0; replace cq658_0 := eq_true cq658_0; replace cp658_1 := eq_true cp658_1; replace cq658_1 := eq_true cq658_1; replace cp658_2 := eq_true cp658_2; replace cq658_2 := eq_true cq658_2; replace p658 := eq_true p658; replace q658 := eq_true q658; go_wp2; go_roundg k1
   case measure => have := HK1.out; omega
   case rel => exact ⟨(wrap64 (x7_1 + 1)), (wrap64 (x8_1 + 1)), (by rfl), (by rfl), H', ⟨by have := HK1.out; omega⟩, by repeat (first | exact Drawn0.refl _ | apply Drawn0.step)⟩

/-! ### spec_l7Left: function 50 -/
def spec_l7Left.l0 : Nat → Int → Int → Int → Int → Int → ByteArray → Option (Int)
 | 0, _, _, _, _, _, _ => none
 | k + 1, x1, x2, x7, x8, x672000, x672001 => if x8 < x672000 then (if x8 = x1 then ((spec_l1Bit.f false).bind fun t672 => (spec_l7Left.l0 k x1 x2 (wrap64 (x7 + t672)) (wrap64 (x8 + 1)) x672000 x672001)) else (if x8 = x2 then ((spec_l1Bit.f false).bind fun t673 => (spec_l7Left.l0 k x1 x2 (wrap64 (x7 + t673)) (wrap64 (x8 + 1)) x672000 x672001)) else ((spec_l3At.f k x672000 x672001 x1 x2 x8).bind fun t674 => ((spec_l1Bit.f (decide (t674 > 0))).bind fun t675 => (spec_l7Left.l0 k x1 x2 (wrap64 (x7 + t675)) (wrap64 (x8 + 1)) x672000 x672001))))) else (some x7)
def spec_l7Left.f (k : Nat) (a0_0 : Int) (a0_1 : ByteArray) (a1 : Int) (a2 : Int) : Option (Int) := spec_l7Left.l0 k a1 a2 0 0 a0_0 a0_1
set_option maxHeartbeats 8000000 in
set_option maxRecDepth 100000 in
theorem spec_l7Left.calls (k : Nat) (a0_0 : Int) (a0_1 : ByteArray) (a1 a2 r : Int) (w : World) (h : spec_l7Left.f k a0_0 a0_1 a1 a2 = some r) :
  Calls Try.prog 50 #[.agg #[.int .i64 a0_0, .string a0_1], .int .i64 a1, .int .i64 a2] w fun e w' => e = .returned (.int .i64 r) ∧ Below w.heap.size w w' := by
 have hu30 := Try.underlying30; have HB := Aside0.mk (Below.refl w.heap.size w); have H := h; unfold spec_l7Left.f at H; clear h; have H' := Aside0.mk H; clear H; go_enter Try.func50, Try.ntmps50; go_wp2_with (((with_reducible refine gate_dst (N := 3) rfl ?_); refine bx 3 #[.int .i64 a0_0, .string a0_1] 30 ?_; intro gb671 hg w4 hbox hb; have BK671 := Aside0.mk hbox; have GE671 := gs HB hg; have GW671 := GE671; replace HB := bs HB hb; clear hb hbox hg)); go_loopg [7, 8] k (fun kq v7 v8 w' => ∃ (x7_1 : Int) (x8_1 : Int), v7 = .int .i64 x7_1 ∧ v8 = .int .i64 x8_1 ∧ Aside0 (spec_l7Left.l0 kq a1 a2 x7_1 x8_1 a0_0 a0_1 = some r) ∧ Aside0 (kq ≤ k) ∧ Aside0 (w'.heap[gb671]? = some (.cells #[.int .i64 a0_0, .string a0_1] 30 (0, 0))) ∧ Aside0 (Below w.heap.size w w'))
 case atStart => exact ⟨(0), (0), (by rfl), (by rfl), H', ⟨Nat.le_refl _⟩, ⟨by exact bk BK671⟩, ⟨(bg HB GE671)⟩⟩
 case round =>
  clear H'; obtain ⟨x7_1, x8_1, rfl, rfl, HA, HK1, BK671, HB⟩ := hrel
  cases gk with
  | zero => exact absurd HA.out (by simp [spec_l7Left.l0])
  | succ k1 =>
   have H := HA.out; clear HA; simp only [spec_l7Left.l0] at H; by_cases c5 : x8_1 < a0_0; rotate_left
   ·rw [if_neg c5] at H; have c5b0 := decide_eq_false c5; clear c5; obtain rfl := Option.some.inj H; have hcz16_0 := bc BK671 0; have hcz16_1 := bc BK671 1; go_wp2; go_ret; exact ⟨by rfl, (bg HB GE671)⟩
   rw [if_pos c5] at H; have c5b0 := decide_eq_true c5; clear c5; by_cases c6 : x8_1 = a1
   ·rw [if_pos c6] at H; have c6b0 := eb0 c6; have c6b1 := eb1 c6; clear c6; obtain ⟨t672, A7, H⟩ := bnd H; have H' := Aside0.mk H; clear H; have hcz8_0 := bc BK671 0; have hcz8_1 := bc BK671 1; go_wp2_with (((with_reducible refine gate_callee (f := 31) rfl ?_); refine gM (some 32) Try.func31 rfl (spec_l1Bit.calls false t672 _ A7.out) ?_; rintro w' ⟨nd, rfl⟩)); go_roundg k1
    case measure => have := HK1.out; omega
    case rel => exact ⟨(wrap64 (x7_1 + t672)), (wrap64 (x8_1 + 1)), (by rfl), (by rfl), H', ⟨by have := HK1.out; omega⟩, ⟨by (with_reducible repeat (refine blk_drewN ?_ _)); exact BK671.out⟩, ⟨(bg HB GE671)⟩⟩
   rw [if_neg c6] at H; have c6b0 := nb0 c6; have c6b1 := nb1 c6; by_cases c9 : x8_1 = a2
   ·rw [if_pos c9] at H; have c9b0 := eb0 c9; have c9b1 := eb1 c9; clear c9; obtain ⟨t673, A10, H⟩ := bnd H; have H' := Aside0.mk H; clear H; have hcz11_0 := bc BK671 0; have hcz11_1 := bc BK671 1; go_wp2_with (((with_reducible refine gate_callee (f := 31) rfl ?_); refine gM (some 32) Try.func31 rfl (spec_l1Bit.calls false t673 _ A10.out) ?_; rintro w' ⟨nd, rfl⟩)); go_roundg k1
    case measure => have := HK1.out; omega
    case rel => exact ⟨(wrap64 (x7_1 + t673)), (wrap64 (x8_1 + 1)), (by rfl), (by rfl), H', ⟨by have := HK1.out; omega⟩, ⟨by (with_reducible repeat (refine blk_drewN ?_ _)); exact BK671.out⟩, ⟨(bg HB GE671)⟩⟩
   rw [if_neg c9] at H; have c9b0 := nb0 c9; have c9b1 := nb1 c9; obtain ⟨t674, A12, H⟩ := bnd H; obtain ⟨t675, A13, H⟩ := bnd H; have H' := Aside0.mk H; clear H; have hcz14_0 := bc BK671 0; have hcz14_1 := bc BK671 1; go_wp2_with (first | (go_at_call 70; (with_reducible refine (spec_l3At.calls k1 a0_0 a0_1 a1 a2 x8_1 t674 _ A12.out).mono ?_); rintro e w15 ⟨rfl, hb⟩; replace BK671 := bw hb (bk BK671); replace HB := bsg HB GE671 hb; (clear hb)) | ((with_reducible refine gate_callee (f := 31) rfl ?_); refine gM (some 32) Try.func31 rfl (spec_l1Bit.calls (decide (t674 > 0)) t675 _ A13.out) ?_; rintro w' ⟨nd, rfl⟩)); go_roundg k1
   case measure => have := HK1.out; omega
   case rel => exact ⟨(wrap64 (x7_1 + t675)), (wrap64 (x8_1 + 1)), (by rfl), (by rfl), H', ⟨by have := HK1.out; omega⟩, ⟨by (with_reducible repeat (refine blk_drewN ?_ _)); exact BK671.out⟩, ⟨(bg HB GE671)⟩⟩

/-! ### spec_HullEdges: function 21 -/
mutual
def spec_HullEdges.l0 : Nat → Int → Int → Int → ByteArray → Option (Int)
 | 0, _, _, _, _ => none
 | k + 1, x3, x4, x677000, x677001 => if x4 < x677000 then ((spec_IsAcyclic.f k x677000 x677001).bind fun t677 => (spec_HullEdges.j1 k x3 x4 t677 x677000 x677001)) else (spec_HullEdges.j1 k x3 x4 false x677000 x677001)
def spec_HullEdges.j1 : Nat → Int → Int → Bool → Int → ByteArray → Option (Int)
 | 0, _, _, _, _, _ => none
 | k + 1, x3, x4, x13, x677000, x677001 => if x13 = true then (spec_HullEdges.l1 k x3 x4 (wrap64 (x4 + 1)) x677000 x677001) else (some x3)
def spec_HullEdges.l1 : Nat → Int → Int → Int → Int → ByteArray → Option (Int)
 | 0, _, _, _, _, _ => none
 | k + 1, x3, x4, x5, x677000, x677001 => if x5 < x677000 then ((spec_l7Left.f k x677000 x677001 x4 x5).bind fun t678 => (if t678 = 0 then ((spec_l9Index.f k x677000 x4 x5).bind fun t679 => (if 0 ≤ (IntKind.u64.wrap (t679)) then (spec_HullEdges.l1 k (wrap64 (x3 + (shl .i64 1 (IntKind.u64.wrap (t679))))) x4 (wrap64 (x5 + 1)) x677000 x677001) else (none))) else ((spec_l7Left.f k x677000 x677001 x5 x4).bind fun t680 => (if t680 = 0 then ((spec_l9Index.f k x677000 x4 x5).bind fun t681 => (if 0 ≤ (IntKind.u64.wrap (t681)) then (spec_HullEdges.l1 k (wrap64 (x3 + (shl .i64 1 (IntKind.u64.wrap (t681))))) x4 (wrap64 (x5 + 1)) x677000 x677001) else (none))) else (spec_HullEdges.l1 k x3 x4 (wrap64 (x5 + 1)) x677000 x677001))))) else (spec_HullEdges.l0 k x3 (wrap64 (x4 + 1)) x677000 x677001)
end
def spec_HullEdges.f (k : Nat) (a0_0 : Int) (a0_1 : ByteArray) : Option (Int) := spec_HullEdges.l0 k 0 0 a0_0 a0_1
set_option maxHeartbeats 8000000 in
set_option maxRecDepth 100000 in
theorem spec_HullEdges.calls (k : Nat) (a0_0 : Int) (a0_1 : ByteArray) (r : Int) (w : World) (h : spec_HullEdges.f k a0_0 a0_1 = some r) :
  Calls Try.prog 21 #[.agg #[.int .i64 a0_0, .string a0_1]] w fun e w' => e = .returned (.int .i64 r) ∧ Below w.heap.size w w' := by
 have hu30 := Try.underlying30; have HB := Aside0.mk (Below.refl w.heap.size w); have H := h; unfold spec_HullEdges.f at H; clear h; have H' := Aside0.mk H; clear H; go_enter Try.func21, Try.ntmps21; go_wp2_with (((with_reducible refine gate_dst (N := 1) rfl ?_); refine bx 1 #[.int .i64 a0_0, .string a0_1] 30 ?_; intro gb676 hg w2 hbox hb; have BK676 := Aside0.mk hbox; have GE676 := gs HB hg; have GW676 := GE676; replace HB := bs HB hb; clear hb hbox hg)); go_loopg [3, 4] k (fun kq v3 v4 w' => ∃ (x3_1 : Int) (x4_1 : Int), v3 = .int .i64 x3_1 ∧ v4 = .int .i64 x4_1 ∧ Aside0 (spec_HullEdges.l0 kq x3_1 x4_1 a0_0 a0_1 = some r) ∧ Aside0 (kq ≤ k) ∧ Aside0 (w'.heap[gb676]? = some (.cells #[.int .i64 a0_0, .string a0_1] 30 (0, 0))) ∧ Aside0 (Below w.heap.size w w'))
 case atStart => exact ⟨(0), (0), (by rfl), (by rfl), H', ⟨Nat.le_refl _⟩, ⟨by exact bk BK676⟩, ⟨(bg HB GE676)⟩⟩
 case round =>
  clear H'; obtain ⟨x3_1, x4_1, rfl, rfl, HA, HK1, BK676, HB⟩ := hrel
  cases gk with
  | zero => exact absurd HA.out (by simp [spec_HullEdges.l0])
  | succ k1 =>
   have H := HA.out; clear HA; simp only [spec_HullEdges.l0] at H; have HC3 := Aside0.mk H; clear H; go_upto_region 3 with (fail); go_cut [13] (fun v13 wc => ∃ (kq : Nat) (x13_2 : Bool), v13 = .bool x13_2 ∧ Aside0 (spec_HullEdges.j1 kq x3_1 x4_1 x13_2 a0_0 a0_1 = some r) ∧ Aside0 (kq ≤ k1) ∧ Aside0 (wc.heap[gb676]? = some (.cells #[.int .i64 a0_0, .string a0_1] 30 (0, 0))) ∧ Aside0 (Below w.heap.size w wc))
   case first =>
    have H := HC3.out; clear HC3; by_cases c4 : x4_1 < a0_0; rotate_left
    ·rw [if_neg c4] at H; have c4b0 := decide_eq_false c4; clear c4; (skip); have H' := Aside0.mk H; clear H; have hcz8_0 := bc BK676 0; have hcz8_1 := bc BK676 1; go_wp2; go_meet
     case rel => exact ⟨_, (false), (by rfl), H', ⟨by have := HK1.out; omega⟩, ⟨by exact bk BK676⟩, ⟨(bg HB GE676)⟩⟩
    rw [if_pos c4] at H; have c4b0 := decide_eq_true c4; clear c4; (skip); obtain ⟨t677, A5, H⟩ := bnd H; have H' := Aside0.mk H; clear H; have hcz6_0 := bc BK676 0; have hcz6_1 := bc BK676 1; go_wp2_with ((go_at_call 25; (with_reducible refine (spec_IsAcyclic.calls k1 a0_0 a0_1 t677 _ A5.out).mono ?_); rintro e w7 ⟨rfl, hb⟩; replace BK676 := bw hb (bk BK676); replace HB := bsg HB GE676 hb; (clear hb))); go_meet
    case rel => exact ⟨_, (t677), (by rfl), H', ⟨by have := HK1.out; omega⟩, ⟨by exact bk BK676⟩, ⟨(bg HB GE676)⟩⟩
   case rest =>
    clear HC3; obtain ⟨kq, x13_2, rfl, HA, HJ2, BK676, HB⟩ := hcut
    cases kq with
    | zero => exact absurd HA.out (by simp [spec_HullEdges.j1])
    | succ kj2 =>
     have H := HA.out; clear HA; simp only [spec_HullEdges.j1] at H; by_cases c9 : x13_2 = true; rotate_left
     ·replace c9 := Bool.eq_false_iff.mpr c9; subst c9; rw [if_neg nf] at H; obtain rfl := Option.some.inj H; go_wp2; go_ret; exact ⟨by rfl, (bg HB GE676)⟩
     subst c9; rw [if_pos rfl] at H; have H' := Aside0.mk H; clear H; go_wp2; go_loopg [3, 5] kj2 (fun kq v3 v5 w' => ∃ (x3_3 : Int) (x5_3 : Int), v3 = .int .i64 x3_3 ∧ v5 = .int .i64 x5_3 ∧ Aside0 (spec_HullEdges.l1 kq x3_3 x4_1 x5_3 a0_0 a0_1 = some r) ∧ Aside0 (kq ≤ kj2) ∧ Aside0 (w'.heap[gb676]? = some (.cells #[.int .i64 a0_0, .string a0_1] 30 (0, 0))) ∧ Aside0 (Below w.heap.size w w'))
     case atStart => exact ⟨(x3_1), (wrap64 (x4_1 + 1)), (by rfl), (by rfl), H', ⟨Nat.le_refl _⟩, ⟨by exact bk BK676⟩, ⟨(bg HB GE676)⟩⟩
     case round =>
      clear H'; obtain ⟨x3_3, x5_3, rfl, rfl, HA, HK3, BK676, HB⟩ := hrel
      cases gk with
      | zero => exact absurd HA.out (by simp [spec_HullEdges.l1])
      | succ k3 =>
       have H := HA.out; clear HA; simp only [spec_HullEdges.l1] at H; by_cases c10 : x5_3 < a0_0; rotate_left
       ·rw [if_neg c10] at H; have c10b0 := decide_eq_false c10; clear c10; have H' := Aside0.mk H; clear H; have hcz35_0 := bc BK676 0; have hcz35_1 := bc BK676 1; go_wp2; go_roundg k3
        case measure => have := HK1.out; have := HJ2.out; have := HK3.out; omega
        case rel => exact ⟨(x3_3), (wrap64 (x4_1 + 1)), (by rfl), (by rfl), H', ⟨by have := HK1.out; have := HJ2.out; have := HK3.out; omega⟩, ⟨by exact bk BK676⟩, ⟨(bg HB GE676)⟩⟩
       rw [if_pos c10] at H; have c10b0 := decide_eq_true c10; clear c10; obtain ⟨t678, A11, H⟩ := bnd H; by_cases c12 : t678 = 0
       ·rw [if_pos c12] at H; have c12b0 := eb0 c12; have c12b1 := eb1 c12; clear c12; obtain ⟨t679, A13, H⟩ := bnd H; obtain ⟨ji14, hji14⟩ := nj (IntKind.u64.wrap (t679)); rw [hji14] at H; obtain ⟨c15, H⟩ := ifn H; have c15b0 := eq_true c15; have c15b1 := decide_eq_true c15; clear c15; obtain ⟨ji16, hji16⟩ := nj (shl .i64 1 (ji14)); rw [hji16] at H; have hji16_ : (IntKind.i64.wrap (1 * 2 ^ min (ji14).toNat 64)) = ji16 := hji16; have hji16z : (ji14) ≤ 64 → (IntKind.i64.wrap (1 * 2 ^ (ji14).toNat)) = ji16 := shl_small hji16; have hji16u : (IntKind.i64.wrap (2 ^ min (ji14).toNat 64)) = ji16 := (by have h_ := hji16_; rw [Int.one_mul] at h_; exact h_); have hji16v : (ji14) ≤ 64 → (IntKind.i64.wrap (2 ^ (ji14).toNat)) = ji16 := fun hle_ => (by have h_ := hji16z hle_; rw [Int.one_mul] at h_; exact h_); have hji16y : (wrap64 (1 * 2 ^ min (ji14).toNat 64)) = ji16 := (i64_w _).symm.trans hji16_; have hji16x : (ji14) ≤ 64 → (wrap64 (1 * 2 ^ (ji14).toNat)) = ji16 := fun h_ => (i64_w _).symm.trans (hji16z h_); have H' := Aside0.mk H; clear H; have hcz17_0 := bc BK676 0; have hcz17_1 := bc BK676 1; go_wp2_with (first | ((with_reducible refine gate_callee (f := 50) rfl ?_); refine gM (some 27) Try.func50 rfl (spec_l7Left.calls k3 a0_0 a0_1 x4_1 x5_3 t678 _ A11.out) ?_; rintro w18 hb; replace BK676 := bw hb (bk BK676); replace HB := bsg HB GE676 hb; (clear hb); have hcz19_0 := bc BK676 0; have hcz19_1 := bc BK676 1; ) | ((with_reducible refine gate_callee (f := 36) rfl ?_); refine gM (some 41) Try.func36 rfl (spec_l9Index.calls k3 a0_0 x4_1 x5_3 t679 _ A13.out) ?_; rintro w' ⟨nd, rfl⟩)); go_roundg k3
        case measure => have := HK1.out; have := HJ2.out; have := HK3.out; omega
        case rel => exact ⟨(wrap64 (x3_3 + (ji16))), (wrap64 (x5_3 + 1)), (by rfl), (by rfl), H', ⟨by have := HK1.out; have := HJ2.out; have := HK3.out; omega⟩, ⟨by (with_reducible repeat (refine blk_drewN ?_ _)); exact BK676.out⟩, ⟨(bg HB GE676)⟩⟩
       rw [if_neg c12] at H; have c12b0 := nb0 c12; have c12b1 := nb1 c12; obtain ⟨t680, A20, H⟩ := bnd H; by_cases c21 : t680 = 0; rotate_left
       ·rw [if_neg c21] at H; have c21b0 := nb0 c21; have c21b1 := nb1 c21; have H' := Aside0.mk H; clear H; have hcz31_0 := bc BK676 0; have hcz31_1 := bc BK676 1; go_wp2_with (first | ((with_reducible refine gate_callee (f := 50) rfl ?_); refine gM (some 27) Try.func50 rfl (spec_l7Left.calls k3 a0_0 a0_1 x4_1 x5_3 t678 _ A11.out) ?_; rintro w32 hb; replace BK676 := bw hb (bk BK676); replace HB := bsg HB GE676 hb; (clear hb); have hcz33_0 := bc BK676 0; have hcz33_1 := bc BK676 1; ) | (go_at_call 50; (with_reducible refine (spec_l7Left.calls k3 a0_0 a0_1 x5_3 x4_1 t680 _ A20.out).mono ?_); rintro e w34 ⟨rfl, hb⟩; replace BK676 := bw hb (bk BK676); replace HB := bsg HB GE676 hb; (clear hb))); go_roundg k3
        case measure => have := HK1.out; have := HJ2.out; have := HK3.out; omega
        case rel => exact ⟨(x3_3), (wrap64 (x5_3 + 1)), (by rfl), (by rfl), H', ⟨by have := HK1.out; have := HJ2.out; have := HK3.out; omega⟩, ⟨by exact bk BK676⟩, ⟨(bg HB GE676)⟩⟩
       rw [if_pos c21] at H; have c21b0 := eb0 c21; have c21b1 := eb1 c21; clear c21; obtain ⟨t681, A22, H⟩ := bnd H; obtain ⟨ji23, hji23⟩ := nj (IntKind.u64.wrap (t681)); rw [hji23] at H; obtain ⟨c24, H⟩ := ifn H; have c24b0 := eq_true c24; have c24b1 := decide_eq_true c24; clear c24; obtain ⟨ji25, hji25⟩ := nj (shl .i64 1 (ji23)); rw [hji25] at H; have hji25_ : (IntKind.i64.wrap (1 * 2 ^ min (ji23).toNat 64)) = ji25 := hji25; have hji25z : (ji23) ≤ 64 → (IntKind.i64.wrap (1 * 2 ^ (ji23).toNat)) = ji25 := shl_small hji25; have hji25u : (IntKind.i64.wrap (2 ^ min (ji23).toNat 64)) = ji25 := (by have h_ := hji25_; rw [Int.one_mul] at h_; exact h_); have hji25v : (ji23) ≤ 64 → (IntKind.i64.wrap (2 ^ (ji23).toNat)) = ji25 := fun hle_ => (by have h_ := hji25z hle_; rw [Int.one_mul] at h_; exact h_); have hji25y : (wrap64 (1 * 2 ^ min (ji23).toNat 64)) = ji25 := (i64_w _).symm.trans hji25_; have hji25x : (ji23) ≤ 64 → (wrap64 (1 * 2 ^ (ji23).toNat)) = ji25 := fun h_ => (i64_w _).symm.trans (hji25z h_); have H' := Aside0.mk H; clear H; have hcz26_0 := bc BK676 0; have hcz26_1 := bc BK676 1; go_wp2_with (first | ((with_reducible refine gate_callee (f := 50) rfl ?_); refine gM (some 27) Try.func50 rfl (spec_l7Left.calls k3 a0_0 a0_1 x4_1 x5_3 t678 _ A11.out) ?_; rintro w27 hb; replace BK676 := bw hb (bk BK676); replace HB := bsg HB GE676 hb; (clear hb); have hcz28_0 := bc BK676 0; have hcz28_1 := bc BK676 1; ) | (go_at_call 50; (with_reducible refine (spec_l7Left.calls k3 a0_0 a0_1 x5_3 x4_1 t680 _ A20.out).mono ?_); rintro e w29 ⟨rfl, hb⟩; replace BK676 := bw hb (bk BK676); replace HB := bsg HB GE676 hb; (clear hb); have hcz30_0 := bc BK676 0; have hcz30_1 := bc BK676 1; ) | ((with_reducible refine gate_callee (f := 36) rfl ?_); refine gM (some 41) Try.func36 rfl (spec_l9Index.calls k3 a0_0 x4_1 x5_3 t681 _ A22.out) ?_; rintro w' ⟨nd, rfl⟩)); go_roundg k3
       case measure => have := HK1.out; have := HJ2.out; have := HK3.out; omega
       case rel => exact ⟨(wrap64 (x3_3 + (ji25))), (wrap64 (x5_3 + 1)), (by rfl), (by rfl), H', ⟨by have := HK1.out; have := HJ2.out; have := HK3.out; omega⟩, ⟨by (with_reducible repeat (refine blk_drewN ?_ _)); exact BK676.out⟩, ⟨(bg HB GE676)⟩⟩

/-! ### spec_FreeEdges: function 23 -/
mutual
def spec_FreeEdges.l0 : Nat → Int → Int → Int → ByteArray → Option (Int)
 | 0, _, _, _, _ => none
 | k + 1, x3, x4, x692000, x692001 => if x4 < x692000 then ((spec_IsAcyclic.f k x692000 x692001).bind fun t692 => (spec_FreeEdges.j1 k x3 x4 t692 x692000 x692001)) else (spec_FreeEdges.j1 k x3 x4 false x692000 x692001)
def spec_FreeEdges.j1 : Nat → Int → Int → Bool → Int → ByteArray → Option (Int)
 | 0, _, _, _, _, _ => none
 | k + 1, x3, x4, x16, x692000, x692001 => if x16 = true then (spec_FreeEdges.l1 k x3 x4 (wrap64 (x4 + 1)) x692000 x692001) else (some x3)
def spec_FreeEdges.l1 : Nat → Int → Int → Int → Int → ByteArray → Option (Int)
 | 0, _, _, _, _, _ => none
 | k + 1, x3, x4, x5, x692000, x692001 => if x5 < x692000 then (spec_FreeEdges.l2 k x3 x4 x5 true 0 x692000 x692001) else (spec_FreeEdges.l0 k x3 (wrap64 (x4 + 1)) x692000 x692001)
def spec_FreeEdges.l2 : Nat → Int → Int → Int → Bool → Int → Int → ByteArray → Option (Int)
 | 0, _, _, _, _, _, _, _ => none
 | k + 1, x3, x4, x5, x6, x7, x692000, x692001 => if x7 < x692000 then (spec_FreeEdges.l3 k x3 x4 x5 x6 x7 (wrap64 (x7 + 1)) x692000 x692001) else (if x6 = true then ((spec_l9Index.f k x692000 x4 x5).bind fun t693 => (if 0 ≤ (IntKind.u64.wrap (t693)) then (spec_FreeEdges.l1 k (wrap64 (x3 + (shl .i64 1 (IntKind.u64.wrap (t693))))) x4 (wrap64 (x5 + 1)) x692000 x692001) else (none))) else (spec_FreeEdges.l1 k x3 x4 (wrap64 (x5 + 1)) x692000 x692001))
def spec_FreeEdges.l3 : Nat → Int → Int → Int → Bool → Int → Int → Int → ByteArray → Option (Int)
 | 0, _, _, _, _, _, _, _, _ => none
 | k + 1, x3, x4, x5, x6, x7, x8, x692000, x692001 => if x8 < x692000 then (if x6 = true then ((spec_l9Cross.f k x692000 x692001 x4 x5 x7 x8).bind fun t694 => (spec_FreeEdges.l3 k x3 x4 x5 (!t694) x7 (wrap64 (x8 + 1)) x692000 x692001)) else (spec_FreeEdges.l3 k x3 x4 x5 false x7 (wrap64 (x8 + 1)) x692000 x692001)) else (spec_FreeEdges.l2 k x3 x4 x5 x6 (wrap64 (x7 + 1)) x692000 x692001)
end
def spec_FreeEdges.f (k : Nat) (a0_0 : Int) (a0_1 : ByteArray) : Option (Int) := spec_FreeEdges.l0 k 0 0 a0_0 a0_1
set_option maxHeartbeats 8000000 in
set_option maxRecDepth 100000 in
theorem spec_FreeEdges.calls (k : Nat) (a0_0 : Int) (a0_1 : ByteArray) (r : Int) (w : World) (h : spec_FreeEdges.f k a0_0 a0_1 = some r) :
  Calls Try.prog 23 #[.agg #[.int .i64 a0_0, .string a0_1]] w fun e w' => e = .returned (.int .i64 r) ∧ Below w.heap.size w w' := by
 have hu30 := Try.underlying30; have HB := Aside0.mk (Below.refl w.heap.size w); have H := h; unfold spec_FreeEdges.f at H; clear h; have H' := Aside0.mk H; clear H; go_enter Try.func23, Try.ntmps23; go_wp2_with (((with_reducible refine gate_dst (N := 1) rfl ?_); refine bx 1 #[.int .i64 a0_0, .string a0_1] 30 ?_; intro gb691 hg w2 hbox hb; have BK691 := Aside0.mk hbox; have GE691 := gs HB hg; have GW691 := GE691; replace HB := bs HB hb; clear hb hbox hg)); go_loopg [3, 4] k (fun kq v3 v4 w' => ∃ (x3_1 : Int) (x4_1 : Int), v3 = .int .i64 x3_1 ∧ v4 = .int .i64 x4_1 ∧ Aside0 (spec_FreeEdges.l0 kq x3_1 x4_1 a0_0 a0_1 = some r) ∧ Aside0 (kq ≤ k) ∧ Aside0 (w'.heap[gb691]? = some (.cells #[.int .i64 a0_0, .string a0_1] 30 (0, 0))) ∧ Aside0 (Below w.heap.size w w'))
 case atStart => exact ⟨(0), (0), (by rfl), (by rfl), H', ⟨Nat.le_refl _⟩, ⟨by exact bk BK691⟩, ⟨(bg HB GE691)⟩⟩
 case round =>
  clear H'; obtain ⟨x3_1, x4_1, rfl, rfl, HA, HK1, BK691, HB⟩ := hrel
  cases gk with
  | zero => exact absurd HA.out (by simp [spec_FreeEdges.l0])
  | succ k1 =>
   have H := HA.out; clear HA; simp only [spec_FreeEdges.l0] at H; have HC3 := Aside0.mk H; clear H; go_upto_region 3 with (fail); go_cut [16] (fun v16 wc => ∃ (kq : Nat) (x16_2 : Bool), v16 = .bool x16_2 ∧ Aside0 (spec_FreeEdges.j1 kq x3_1 x4_1 x16_2 a0_0 a0_1 = some r) ∧ Aside0 (kq ≤ k1) ∧ Aside0 (wc.heap[gb691]? = some (.cells #[.int .i64 a0_0, .string a0_1] 30 (0, 0))) ∧ Aside0 (Below w.heap.size w wc))
   case first =>
    have H := HC3.out; clear HC3; by_cases c4 : x4_1 < a0_0; rotate_left
    ·rw [if_neg c4] at H; have c4b0 := decide_eq_false c4; clear c4; (skip); have H' := Aside0.mk H; clear H; have hcz8_0 := bc BK691 0; have hcz8_1 := bc BK691 1; have hfz8_0 := bf BK691 0; have hfz8_1 := bf BK691 1; go_wp2; go_meet
     case rel => exact ⟨_, (false), (by rfl), H', ⟨by have := HK1.out; omega⟩, ⟨by exact bk BK691⟩, ⟨(bg HB GE691)⟩⟩
    rw [if_pos c4] at H; have c4b0 := decide_eq_true c4; clear c4; (skip); obtain ⟨t692, A5, H⟩ := bnd H; have H' := Aside0.mk H; clear H; have hcz6_0 := bc BK691 0; have hcz6_1 := bc BK691 1; have hfz6_0 := bf BK691 0; have hfz6_1 := bf BK691 1; go_wp2_with ((go_at_call 25; (with_reducible refine (spec_IsAcyclic.calls k1 a0_0 a0_1 t692 _ A5.out).mono ?_); rintro e w7 ⟨rfl, hb⟩; replace BK691 := bw hb (bk BK691); replace HB := bsg HB GE691 hb; (clear hb))); go_meet
    case rel => exact ⟨_, (t692), (by rfl), H', ⟨by have := HK1.out; omega⟩, ⟨by exact bk BK691⟩, ⟨(bg HB GE691)⟩⟩
   case rest =>
    clear HC3; obtain ⟨kq, x16_2, rfl, HA, HJ2, BK691, HB⟩ := hcut
    cases kq with
    | zero => exact absurd HA.out (by simp [spec_FreeEdges.j1])
    | succ kj2 =>
     have H := HA.out; clear HA; simp only [spec_FreeEdges.j1] at H; by_cases c9 : x16_2 = true; rotate_left
     ·replace c9 := Bool.eq_false_iff.mpr c9; subst c9; rw [if_neg nf] at H; obtain rfl := Option.some.inj H; go_wp2; go_ret; exact ⟨by rfl, (bg HB GE691)⟩
     subst c9; rw [if_pos rfl] at H; have H' := Aside0.mk H; clear H; go_wp2; go_loopg [3, 5] kj2 (fun kq v3 v5 w' => ∃ (x3_3 : Int) (x5_3 : Int), v3 = .int .i64 x3_3 ∧ v5 = .int .i64 x5_3 ∧ Aside0 (spec_FreeEdges.l1 kq x3_3 x4_1 x5_3 a0_0 a0_1 = some r) ∧ Aside0 (kq ≤ kj2) ∧ Aside0 (w'.heap[gb691]? = some (.cells #[.int .i64 a0_0, .string a0_1] 30 (0, 0))) ∧ Aside0 (Below w.heap.size w w'))
     case atStart => exact ⟨(x3_1), (wrap64 (x4_1 + 1)), (by rfl), (by rfl), H', ⟨Nat.le_refl _⟩, ⟨by exact bk BK691⟩, ⟨(bg HB GE691)⟩⟩
     case round =>
      clear H'; obtain ⟨x3_3, x5_3, rfl, rfl, HA, HK3, BK691, HB⟩ := hrel
      cases gk with
      | zero => exact absurd HA.out (by simp [spec_FreeEdges.l1])
      | succ k3 =>
       have H := HA.out; clear HA; simp only [spec_FreeEdges.l1] at H; by_cases c10 : x5_3 < a0_0; rotate_left
       ·rw [if_neg c10] at H; have c10b0 := decide_eq_false c10; clear c10; have H' := Aside0.mk H; clear H; have hcz28_0 := bc BK691 0; have hcz28_1 := bc BK691 1; have hfz28_0 := bf BK691 0; have hfz28_1 := bf BK691 1; go_wp2; go_roundg k3
        case measure => have := HK1.out; have := HJ2.out; have := HK3.out; omega
        case rel => exact ⟨(x3_3), (wrap64 (x4_1 + 1)), (by rfl), (by rfl), H', ⟨by have := HK1.out; have := HJ2.out; have := HK3.out; omega⟩, ⟨by exact bk BK691⟩, ⟨(bg HB GE691)⟩⟩
       rw [if_pos c10] at H; have c10b0 := decide_eq_true c10; clear c10; have H' := Aside0.mk H; clear H; have hcz11_0 := bc BK691 0; have hcz11_1 := bc BK691 1; have hfz11_0 := bf BK691 0; have hfz11_1 := bf BK691 1; go_wp2; go_loopg [6, 7] k3 (fun kq v6 v7 w' => ∃ (x6_4 : Bool) (x7_4 : Int), v6 = .bool x6_4 ∧ v7 = .int .i64 x7_4 ∧ Aside0 (spec_FreeEdges.l2 kq x3_3 x4_1 x5_3 x6_4 x7_4 a0_0 a0_1 = some r) ∧ Aside0 (kq ≤ k3) ∧ Aside0 (w'.heap[gb691]? = some (.cells #[.int .i64 a0_0, .string a0_1] 30 (0, 0))) ∧ Aside0 (Below w.heap.size w w'))
       case atStart => exact ⟨(true), (0), (by rfl), (by rfl), H', ⟨Nat.le_refl _⟩, ⟨by exact bk BK691⟩, ⟨(bg HB GE691)⟩⟩
       case round =>
        clear H' c10b0 hcz11_0 hcz11_1 hfz11_0 hfz11_1; obtain ⟨x6_4, x7_4, rfl, rfl, HA, HK4, BK691, HB⟩ := hrel
        cases gk with
        | zero => exact absurd HA.out (by simp [spec_FreeEdges.l2])
        | succ k4 =>
         have H := HA.out; clear HA; simp only [spec_FreeEdges.l2] at H; by_cases c12 : x7_4 < a0_0; rotate_left
         ·rw [if_neg c12] at H; have c12b0 := decide_eq_false c12; clear c12; by_cases c21 : x6_4 = true; rotate_left
          ·replace c21 := Bool.eq_false_iff.mpr c21; subst c21; rw [if_neg nf] at H; have H' := Aside0.mk H; clear H; have hcz27_0 := bc BK691 0; have hcz27_1 := bc BK691 1; have hfz27_0 := bf BK691 0; have hfz27_1 := bf BK691 1; go_wp2; go_roundg k4
           case measure => have := HK1.out; have := HJ2.out; have := HK3.out; have := HK4.out; omega
           case rel => exact ⟨(x3_3), (wrap64 (x5_3 + 1)), (by rfl), (by rfl), H', ⟨by have := HK1.out; have := HJ2.out; have := HK3.out; have := HK4.out; omega⟩, ⟨by exact bk BK691⟩, ⟨(bg HB GE691)⟩⟩
          subst c21; rw [if_pos rfl] at H; obtain ⟨t693, A22, H⟩ := bnd H; obtain ⟨ji23, hji23⟩ := nj (IntKind.u64.wrap (t693)); rw [hji23] at H; obtain ⟨c24, H⟩ := ifn H; have c24b0 := eq_true c24; have c24b1 := decide_eq_true c24; clear c24; obtain ⟨ji25, hji25⟩ := nj (shl .i64 1 (ji23)); rw [hji25] at H; have hji25_ : (IntKind.i64.wrap (1 * 2 ^ min (ji23).toNat 64)) = ji25 := hji25; have hji25z : (ji23) ≤ 64 → (IntKind.i64.wrap (1 * 2 ^ (ji23).toNat)) = ji25 := shl_small hji25; have hji25u : (IntKind.i64.wrap (2 ^ min (ji23).toNat 64)) = ji25 := (by have h_ := hji25_; rw [Int.one_mul] at h_; exact h_); have hji25v : (ji23) ≤ 64 → (IntKind.i64.wrap (2 ^ (ji23).toNat)) = ji25 := fun hle_ => (by have h_ := hji25z hle_; rw [Int.one_mul] at h_; exact h_); have hji25y : (wrap64 (1 * 2 ^ min (ji23).toNat 64)) = ji25 := (i64_w _).symm.trans hji25_; have hji25x : (ji23) ≤ 64 → (wrap64 (1 * 2 ^ (ji23).toNat)) = ji25 := fun h_ => (i64_w _).symm.trans (hji25z h_); have H' := Aside0.mk H; clear H; have hcz26_0 := bc BK691 0; have hcz26_1 := bc BK691 1; have hfz26_0 := bf BK691 0; have hfz26_1 := bf BK691 1; go_wp2_with (((with_reducible refine gate_callee (f := 36) rfl ?_); refine gM (some 57) Try.func36 rfl (spec_l9Index.calls k4 a0_0 x4_1 x5_3 t693 _ A22.out) ?_; rintro w' ⟨nd, rfl⟩)); go_roundg k4
          case measure => have := HK1.out; have := HJ2.out; have := HK3.out; have := HK4.out; omega
          case rel => exact ⟨(wrap64 (x3_3 + (ji25))), (wrap64 (x5_3 + 1)), (by rfl), (by rfl), H', ⟨by have := HK1.out; have := HJ2.out; have := HK3.out; have := HK4.out; omega⟩, ⟨by (with_reducible repeat (refine blk_drewN ?_ _)); exact BK691.out⟩, ⟨(bg HB GE691)⟩⟩
         rw [if_pos c12] at H; have c12b0 := decide_eq_true c12; clear c12; have H' := Aside0.mk H; clear H; have hcz13_0 := bc BK691 0; have hcz13_1 := bc BK691 1; have hfz13_0 := bf BK691 0; have hfz13_1 := bf BK691 1; go_wp2; go_loopg [6, 8] k4 (fun kq v6 v8 w' => ∃ (x6_5 : Bool) (x8_5 : Int), v6 = .bool x6_5 ∧ v8 = .int .i64 x8_5 ∧ Aside0 (spec_FreeEdges.l3 kq x3_3 x4_1 x5_3 x6_5 x7_4 x8_5 a0_0 a0_1 = some r) ∧ Aside0 (kq ≤ k4) ∧ Aside0 (w'.heap[gb691]? = some (.cells #[.int .i64 a0_0, .string a0_1] 30 (0, 0))) ∧ Aside0 (Below w.heap.size w w'))
         case atStart => exact ⟨(x6_4), (wrap64 (x7_4 + 1)), (by rfl), (by rfl), H', ⟨Nat.le_refl _⟩, ⟨by exact bk BK691⟩, ⟨(bg HB GE691)⟩⟩
         case round =>
          clear H' c12b0 hcz13_0 hcz13_1 hfz13_0 hfz13_1; obtain ⟨x6_5, x8_5, rfl, rfl, HA, HK5, BK691, HB⟩ := hrel
          cases gk with
          | zero => exact absurd HA.out (by simp [spec_FreeEdges.l3])
          | succ k5 =>
           have H := HA.out; clear HA; simp only [spec_FreeEdges.l3] at H; by_cases c14 : x8_5 < a0_0; rotate_left
           ·rw [if_neg c14] at H; have c14b0 := decide_eq_false c14; clear c14; have H' := Aside0.mk H; clear H; have hcz20_0 := bc BK691 0; have hcz20_1 := bc BK691 1; have hfz20_0 := bf BK691 0; have hfz20_1 := bf BK691 1; go_wp2; go_roundg k5
            case measure => have := HK1.out; have := HJ2.out; have := HK3.out; have := HK4.out; have := HK5.out; omega
            case rel => exact ⟨(x6_5), (wrap64 (x7_4 + 1)), (by rfl), (by rfl), H', ⟨by have := HK1.out; have := HJ2.out; have := HK3.out; have := HK4.out; have := HK5.out; omega⟩, ⟨by exact bk BK691⟩, ⟨(bg HB GE691)⟩⟩
           rw [if_pos c14] at H; have c14b0 := decide_eq_true c14; clear c14; by_cases c15 : x6_5 = true; rotate_left
           ·replace c15 := Bool.eq_false_iff.mpr c15; subst c15; rw [if_neg nf] at H; have H' := Aside0.mk H; clear H; have hcz19_0 := bc BK691 0; have hcz19_1 := bc BK691 1; have hfz19_0 := bf BK691 0; have hfz19_1 := bf BK691 1; go_wp2; go_roundg k5
            case measure => have := HK1.out; have := HJ2.out; have := HK3.out; have := HK4.out; have := HK5.out; omega
            case rel => exact ⟨(false), (wrap64 (x8_5 + 1)), (by rfl), (by rfl), H', ⟨by have := HK1.out; have := HJ2.out; have := HK3.out; have := HK4.out; have := HK5.out; omega⟩, ⟨by exact bk BK691⟩, ⟨(bg HB GE691)⟩⟩
           subst c15; rw [if_pos rfl] at H; obtain ⟨t694, A16, H⟩ := bnd H; have H' := Aside0.mk H; clear H; have hcz17_0 := bc BK691 0; have hcz17_1 := bc BK691 1; have hfz17_0 := bf BK691 0; have hfz17_1 := bf BK691 1; go_wp2_with ((go_at_call 46; (with_reducible refine (spec_l9Cross.calls k5 a0_0 a0_1 x4_1 x5_3 x7_4 x8_5 t694 _ A16.out).mono ?_); rintro e w18 ⟨rfl, hb⟩; replace BK691 := bw hb (bk BK691); replace HB := bsg HB GE691 hb; (clear hb))); go_roundg k5
           case measure => have := HK1.out; have := HJ2.out; have := HK3.out; have := HK4.out; have := HK5.out; omega
           case rel => exact ⟨(!t694), (wrap64 (x8_5 + 1)), (by rfl), (by rfl), H', ⟨by have := HK1.out; have := HJ2.out; have := HK3.out; have := HK4.out; have := HK5.out; omega⟩, ⟨by exact bk BK691⟩, ⟨(bg HB GE691)⟩⟩

/-! ### spec_l5Only: function 89 -/
def spec_l5Only.l0 : Nat → Int → Int → Option (Int)
 | 0, _, _ => none
 | k + 1, x0, x3 => if x3 < 7 then (if 0 ≤ (IntKind.u64.wrap (x3)) then (if x0 = (shl .i64 1 (IntKind.u64.wrap (x3))) then (some x3) else (spec_l5Only.l0 k x0 (wrap64 (x3 + 1)))) else (none)) else (some (-1))
def spec_l5Only.f (k : Nat) (a0 : Int) : Option (Int) := spec_l5Only.l0 k a0 0
theorem spec_l5Only.mono_l  : ∀ k, (∀ y0 y1, LeO (spec_l5Only.l0 k y0 y1) (spec_l5Only.l0 (k + 1) y0 y1))
 | 0 => fun _ _ r h => by simp [spec_l5Only.l0] at h
 | k + 1 => by
  have ih0 := spec_l5Only.mono_l k
  ·intro y0 y1; unfold spec_l5Only.l0; (repeat' first | (with_reducible exact ih0 _ _) | (with_reducible exact LeO.refl _) | (with_reducible refine LeO.ite ?_ ?_))
theorem spec_l5Only.mono  : ∀ a0 k, LeO (spec_l5Only.f k a0) (spec_l5Only.f (k + 1) a0) := by
 intro a0 k; have ih0 := spec_l5Only.mono_l k; unfold spec_l5Only.f; (repeat' with_reducible exact ih0 _ _)
set_option maxHeartbeats 8000000 in
set_option maxRecDepth 100000 in
theorem spec_l5Only.calls (k : Nat) (a0 r : Int) (w : World) (h : spec_l5Only.f k a0 = some r) :
  Calls Try.prog 89 #[.int .i64 a0] w fun e w' => e = .returned (.int .i64 r) ∧ Drawn0 w w' := by
 have H := h; unfold spec_l5Only.f at H; clear h; have H' := Aside0.mk H; clear H; go_enter Try.func89, Try.ntmps89; go_wp2; go_loopg [3] k (fun kq v3 w' => ∃ (x3_1 : Int), v3 = .int .i64 x3_1 ∧ Aside0 (spec_l5Only.l0 kq a0 x3_1 = some r) ∧ Aside0 (kq ≤ k) ∧ Drawn0 w w')
 case atStart => exact ⟨(0), (by rfl), H', ⟨Nat.le_refl _⟩, by repeat (exact Drawn0.refl _)⟩
 case round =>
  clear H'; obtain ⟨x3_1, rfl, HA, HK1, ⟨m1, rfl⟩⟩ := hrel
  cases gk with
  | zero => exact absurd HA.out (by simp [spec_l5Only.l0])
  | succ k1 =>
   have H := HA.out; clear HA; simp only [spec_l5Only.l0] at H; by_cases c2 : x3_1 < 7; rotate_left
   ·rw [if_neg c2] at H; have c2b0 := decide_eq_false c2; clear c2; obtain rfl := Option.some.inj H; go_wp2; go_ret; exact ⟨by rfl, by repeat (first | exact Drawn0.refl _ | apply Drawn0.step)⟩
   rw [if_pos c2] at H; have c2b0 := decide_eq_true c2; clear c2; obtain ⟨ji3, hji3⟩ := nj (IntKind.u64.wrap (x3_1)); rw [hji3] at H; obtain ⟨c4, H⟩ := ifn H; have c4b0 := eq_true c4; have c4b1 := decide_eq_true c4; clear c4; obtain ⟨ji5, hji5⟩ := nj (shl .i64 1 (ji3)); rw [hji5] at H; have hji5_ : (IntKind.i64.wrap (1 * 2 ^ min (ji3).toNat 64)) = ji5 := hji5; have hji5z : (ji3) ≤ 64 → (IntKind.i64.wrap (1 * 2 ^ (ji3).toNat)) = ji5 := shl_small hji5; have hji5u : (IntKind.i64.wrap (2 ^ min (ji3).toNat 64)) = ji5 := (by have h_ := hji5_; rw [Int.one_mul] at h_; exact h_); have hji5v : (ji3) ≤ 64 → (IntKind.i64.wrap (2 ^ (ji3).toNat)) = ji5 := fun hle_ => (by have h_ := hji5z hle_; rw [Int.one_mul] at h_; exact h_); have hji5y : (wrap64 (1 * 2 ^ min (ji3).toNat 64)) = ji5 := (i64_w _).symm.trans hji5_; have hji5x : (ji3) ≤ 64 → (wrap64 (1 * 2 ^ (ji3).toNat)) = ji5 := fun h_ => (i64_w _).symm.trans (hji5z h_); by_cases c6 : a0 = (ji5)
   ·rw [if_pos c6] at H; have c6b0 : (a0 == (ji5)) = true := beq_iff_eq.mpr c6; have c6b1 : (a0 != (ji5)) = false := bne_eq_false_iff_eq.mpr c6; clear c6; obtain rfl := Option.some.inj H; go_wp2; go_ret; exact ⟨by rfl, by repeat (first | exact Drawn0.refl _ | apply Drawn0.step)⟩
   rw [if_neg c6] at H; have c6b0 : (a0 == (ji5)) = false := beq_eq_false_iff_ne.mpr c6; have c6b1 : (a0 != (ji5)) = true := bne_iff_ne.mpr c6; have H' := Aside0.mk H; clear H; go_wp2; go_roundg k1
   case measure => have := HK1.out; omega
   case rel => exact ⟨(wrap64 (x3_1 + 1)), (by rfl), H', ⟨by have := HK1.out; omega⟩, by repeat (first | exact Drawn0.refl _ | apply Drawn0.step)⟩

/-! ### spec_l5Inner: function 74 -/
def spec_l5Inner.f (k : Nat) (a0_0 : Int) (a0_1 : ByteArray) (l1 : List Int) : Option (Int) := (spec_l5Split.f k a0_0 a0_1 l1).bind fun bt698 => ((spec_l5Only.f k bt698.1).bind fun t700 => ((spec_l5Only.f k bt698.2).bind fun t701 => ((spec_l1Max.f t700 t701).bind fun t702 => (some t702))))
set_option maxHeartbeats 8000000 in
set_option maxRecDepth 100000 in
theorem spec_l5Inner.calls (k : Nat) (a0_0 : Int) (a0_1 : ByteArray) (A1 : Option Addr) (c1 : Nat) (l1 : List Int) (r : Int) (w : World) (hr1 : Kd.C (Kd.int .i64) w A1 l1.length l1) (hc1 : l1.length ≤ c1) (h : spec_l5Inner.f k a0_0 a0_1 l1 = some r) :
  Calls Try.prog 74 #[.agg #[.int .i64 a0_0, .string a0_1], .slice A1 l1.length c1] w fun e w' => e = .returned (.int .i64 r) ∧ Below w.heap.size w w' := by
 have hu30 := Try.underlying30; have HR1 := Aside0.mk hr1; have HC1 := Aside0.mk hc1; clear hr1 hc1; have HB := Aside0.mk (Below.refl w.heap.size w); have H := h; unfold spec_l5Inner.f at H; clear h; replace H := bnd H; obtain ⟨⟨t698, t699⟩, A3, H⟩ := H; dsimp only at H; obtain ⟨t700, A4, H⟩ := bnd H; obtain ⟨t701, A5, H⟩ := bnd H; obtain ⟨t702, A6, H⟩ := bnd H; obtain rfl := Option.some.inj H; go_enter Try.func74, Try.ntmps74; go_wp2_with (first | ((with_reducible refine gate_dst (N := 2) rfl ?_); refine bx 2 #[.int .i64 a0_0, .string a0_1] 30 ?_; intro gb697 hg w7 hbox hb; have BK697 := Aside0.mk hbox; have GE697 := gs HB hg; have GW697 := GE697; replace HB := bs HB hb; clear hb hbox hg; have hcz8_0 := bc BK697 0; have hcz8_1 := bc BK697 1; ) | ((with_reducible refine gate_callee (f := 68) rfl ?_); refine gM (some 10) Try.func68 rfl (spec_l5Split.calls k a0_0 a0_1 _ _ l1 t698 t699 _ ?side1 HC1.out A3.out) ?_; (case side1 => repeat (exact (Kd.C_below HR1.out HB.out))); rintro w9 hb; replace BK697 := bw hb (bk BK697); replace HB := bsg HB GE697 hb; (clear hb)) | ((with_reducible refine gate_callee (f := 89) rfl ?_); refine gM (some 14) Try.func89 rfl (spec_l5Only.calls k t698 t700 _ A4.out) ?_; rintro w' ⟨nd, rfl⟩) | ((with_reducible refine gate_callee (f := 89) rfl ?_); refine gM (some 16) Try.func89 rfl (spec_l5Only.calls k t699 t701 _ A5.out) ?_; rintro w' ⟨nd, rfl⟩) | ((with_reducible refine gate_callee (f := 59) rfl ?_); refine gM (some 17) Try.func59 rfl (spec_l1Max.calls t700 t701 t702 _ A6.out) ?_; rintro w' ⟨nd, rfl⟩)); go_ret; exact ⟨by rfl, (bg HB GE697)⟩

/-! ### spec_QuadsOf: function 53 -/
mutual
def spec_QuadsOf.l0 : Nat → List (List Int) → Int → Int → ByteArray → Option ((List (List Int)))
 | 0, _, _, _, _ => none
 | k + 1, x3, x4, x704000, x704001 => if x4 < x704000 then (spec_QuadsOf.l1 k x3 x4 (wrap64 (x4 + 1)) x704000 x704001) else (some x3)
def spec_QuadsOf.l1 : Nat → List (List Int) → Int → Int → Int → ByteArray → Option ((List (List Int)))
 | 0, _, _, _, _, _ => none
 | k + 1, x3, x4, x5, x704000, x704001 => if x5 < x704000 then (spec_QuadsOf.l2 k x3 x4 x5 (wrap64 (x5 + 1)) x704000 x704001) else (spec_QuadsOf.l0 k x3 (wrap64 (x4 + 1)) x704000 x704001)
def spec_QuadsOf.l2 : Nat → List (List Int) → Int → Int → Int → Int → ByteArray → Option ((List (List Int)))
 | 0, _, _, _, _, _, _ => none
 | k + 1, x3, x4, x5, x6, x704000, x704001 => if x6 < x704000 then (spec_QuadsOf.l3 k x3 x4 x5 x6 (wrap64 (x6 + 1)) x704000 x704001) else (spec_QuadsOf.l1 k x3 x4 (wrap64 (x5 + 1)) x704000 x704001)
def spec_QuadsOf.l3 : Nat → List (List Int) → Int → Int → Int → Int → Int → ByteArray → Option ((List (List Int)))
 | 0, _, _, _, _, _, _, _ => none
 | k + 1, x3, x4, x5, x6, x7, x704000, x704001 => if x7 < x704000 then ((some (([x4, x5, x6, x7] : List Int) : List Int)).bind fun y708 => ((spec_l5Inner.f k x704000 x704001 y708).bind fun t711 => (if t711 < 0 then (if x3.length < 5864062014805 then (spec_QuadsOf.l3 k (x3 ++ [y708]) x4 x5 x6 (wrap64 (x7 + 1)) x704000 x704001) else (none)) else (spec_QuadsOf.l3 k x3 x4 x5 x6 (wrap64 (x7 + 1)) x704000 x704001)))) else (spec_QuadsOf.l2 k x3 x4 x5 (wrap64 (x6 + 1)) x704000 x704001)
end
def spec_QuadsOf.f (k : Nat) (a0_0 : Int) (a0_1 : ByteArray) : Option ((List (List Int))) := (some (([] : List (List Int)) : List (List Int))).bind fun y704 => ((spec_IsAcyclic.f k a0_0 a0_1).bind fun t707 => (if t707 = true then (spec_QuadsOf.l0 k y704 0 a0_0 a0_1) else (some y704)))
set_option maxHeartbeats 8000000 in
set_option maxRecDepth 100000 in
theorem spec_QuadsOf.calls (k : Nat) (a0_0 : Int) (a0_1 : ByteArray) (r : List (List Int)) (w : World) (h : spec_QuadsOf.f k a0_0 a0_1 = some r) :
  Calls Try.prog 53 #[.agg #[.int .i64 a0_0, .string a0_1]] w fun e w' => ∃ v0_ : Value, e = .returned (v0_) ∧ Kd.S (Kd.slice 3 (Kd.int .i64)) 53 w' w.heap.size (fun _ => True) v0_ r ∧ Below w.heap.size w w' := by
 have hu30 := Try.underlying30; have HB := Aside0.mk (Below.refl w.heap.size w); have H := h; unfold spec_QuadsOf.f at H; clear h; obtain ⟨y704, Ny704, H⟩ := bns H; obtain ⟨t707, A2, H⟩ := bnd H; by_cases c3 : t707 = true; rotate_left
 ·replace c3 := Bool.eq_false_iff.mpr c3; subst c3; rw [if_neg nf] at H; obtain rfl := Option.some.inj H; go_enter Try.func53, Try.ntmps53; go_wp2_with (first | ((with_reducible refine gate_dst (N := 1) rfl ?_); refine bx 1 #[.int .i64 a0_0, .string a0_1] 30 ?_; intro gb703 hg w36 hbox hb; have BK703 := Aside0.mk hbox; have GE703 := gs HB hg; have GW703 := GE703; replace HB := bs HB hb; clear hb hbox hg) | ((with_reducible refine gate_dst (N := 9) rfl ?_); refine Kd.S_lit (Kd.slice 3 (Kd.int .i64)) _ 53 ?hg (N := 9) ?hd (xs := ([] : List (List Int))) (inner := []) (ok := fun _ => True) (okp := fun _ => True) ?hr ?hp (fun _ hk => hk) trivial (Below.refl _ _) (Nat.le_refl _) (by simp) ?_; (case hd => rfl); (case hg => rfl); (case hr => (go_simp; done)); (case hp => exact (Reps.none _ _)); intro v705 w37 ho38 hb hg_ hnew_; clear hg_ hnew_; (rw [← Ny704.out] at ho38); have HO706 := Aside0.mk (Kd.S_lower ho38 (below_size (bg HB GE703))); replace BK703 := bw hb (bk BK703); replace HB := bsg HB GE703 hb; clear hb ho38; have hcz39_0 := bc BK703 0; have hcz39_1 := bc BK703 1; have hfz39_0 := bf BK703 0; have hfz39_1 := bf BK703 1) | ((with_reducible refine gate_callee (f := 25) rfl ?_); refine gM (some 11) Try.func25 rfl (spec_IsAcyclic.calls k a0_0 a0_1 false _ A2.out) ?_; rintro w40 hb; replace HO706 := Aside0.mk (Kd.S_below (by (with_reducible repeat (first | apply Kd.S_alloc | apply Kd.S_drewN | apply Kd.S_drew)); exact HO706.out) hb); replace BK703 := bw hb (bk BK703); replace HB := bsg HB GE703 hb; (clear hb))); go_ret; exact ⟨_, by rfl, by (with_reducible repeat (first | apply Kd.S_alloc | apply Kd.S_drewN | apply Kd.S_drew)); exact HO706.out, (bg HB GE703)⟩
 subst c3; rw [if_pos rfl] at H; have H' := Aside0.mk H; clear H; go_enter Try.func53, Try.ntmps53; go_wp2_with (first | ((with_reducible refine gate_dst (N := 1) rfl ?_); refine bx 1 #[.int .i64 a0_0, .string a0_1] 30 ?_; intro gb703 hg w4 hbox hb; have BK703 := Aside0.mk hbox; have GE703 := gs HB hg; have GW703 := GE703; replace HB := bs HB hb; clear hb hbox hg) | ((with_reducible refine gate_dst (N := 9) rfl ?_); refine Kd.S_lit (Kd.slice 3 (Kd.int .i64)) _ 53 ?hg (N := 9) ?hd (xs := ([] : List (List Int))) (inner := []) (ok := fun _ => True) (okp := fun _ => True) ?hr ?hp (fun _ hk => hk) trivial (Below.refl _ _) (Nat.le_refl _) (by simp) ?_; (case hd => rfl); (case hg => rfl); (case hr => (go_simp; done)); (case hp => exact (Reps.none _ _)); intro v705 w5 ho6 hb hg_ hnew_; clear hg_ hnew_; (rw [← Ny704.out] at ho6); have HO706 := Aside0.mk (Kd.S_lower ho6 (below_size (bg HB GE703))); replace BK703 := bw hb (bk BK703); replace HB := bsg HB GE703 hb; clear hb ho6; have hcz7_0 := bc BK703 0; have hcz7_1 := bc BK703 1; have hfz7_0 := bf BK703 0; have hfz7_1 := bf BK703 1) | ((with_reducible refine gate_callee (f := 25) rfl ?_); refine gM (some 11) Try.func25 rfl (spec_IsAcyclic.calls k a0_0 a0_1 true _ A2.out) ?_; rintro w8 hb; replace HO706 := Aside0.mk (Kd.S_below (by (with_reducible repeat (first | apply Kd.S_alloc | apply Kd.S_drewN | apply Kd.S_drew)); exact HO706.out) hb); replace BK703 := bw hb (bk BK703); replace HB := bsg HB GE703 hb; (clear hb))); go_loopg [3, 4] k (fun kq v3 v4 w' => ∃ (x3_1 : List (List Int)) (x4_1 : Int), v4 = .int .i64 x4_1 ∧ Aside0 (spec_QuadsOf.l0 kq x3_1 x4_1 a0_0 a0_1 = some r) ∧ Aside0 (kq ≤ k) ∧ Aside0 (Kd.S (Kd.slice 3 (Kd.int .i64)) 53 w' w.heap.size (fun _ => True) v3 x3_1) ∧ Aside0 (w'.heap[gb703]? = some (.cells #[.int .i64 a0_0, .string a0_1] 30 (0, 0))) ∧ Aside0 (Below w.heap.size w w'))
 case atStart => exact ⟨(y704), (0), (by rfl), H', ⟨Nat.le_refl _⟩, ⟨by (with_reducible repeat (first | apply Kd.S_alloc | apply Kd.S_drewN | apply Kd.S_drew)); exact HO706.out⟩, ⟨by exact bk BK703⟩, ⟨(bg HB GE703)⟩⟩
 case round =>
  clear H' hcz7_0 hcz7_1 hfz7_0 hfz7_1; obtain ⟨x3_1, x4_1, rfl, HA, HK1, HO_3, BK703, HB⟩ := hrel
  cases gk with
  | zero => exact absurd HA.out (by simp [spec_QuadsOf.l0])
  | succ k1 =>
   have H := HA.out; clear HA; simp only [spec_QuadsOf.l0] at H; by_cases c9 : x4_1 < a0_0; rotate_left
   ·rw [if_neg c9] at H; have c9b0 := decide_eq_false c9; clear c9; obtain rfl := Option.some.inj H; have hcz35_0 := bc BK703 0; have hcz35_1 := bc BK703 1; have hfz35_0 := bf BK703 0; have hfz35_1 := bf BK703 1; go_wp2; go_ret; exact ⟨_, by rfl, by (with_reducible repeat (first | apply Kd.S_alloc | apply Kd.S_drewN | apply Kd.S_drew)); exact HO_3.out, (bg HB GE703)⟩
   rw [if_pos c9] at H; have c9b0 := decide_eq_true c9; clear c9; have H' := Aside0.mk H; clear H; have hcz10_0 := bc BK703 0; have hcz10_1 := bc BK703 1; have hfz10_0 := bf BK703 0; have hfz10_1 := bf BK703 1; go_wp2; go_loopg [3, 5] k1 (fun kq v3 v5 w' => ∃ (x3_2 : List (List Int)) (x5_2 : Int), v5 = .int .i64 x5_2 ∧ Aside0 (spec_QuadsOf.l1 kq x3_2 x4_1 x5_2 a0_0 a0_1 = some r) ∧ Aside0 (kq ≤ k1) ∧ Aside0 (Kd.S (Kd.slice 3 (Kd.int .i64)) 53 w' w.heap.size (fun _ => True) v3 x3_2) ∧ Aside0 (w'.heap[gb703]? = some (.cells #[.int .i64 a0_0, .string a0_1] 30 (0, 0))) ∧ Aside0 (Below w.heap.size w w'))
   case atStart => exact ⟨(x3_1), (wrap64 (x4_1 + 1)), (by rfl), H', ⟨Nat.le_refl _⟩, ⟨by (with_reducible repeat (first | apply Kd.S_alloc | apply Kd.S_drewN | apply Kd.S_drew)); exact HO_3.out⟩, ⟨by exact bk BK703⟩, ⟨(bg HB GE703)⟩⟩
   case round =>
    clear H' c9b0 hcz10_0 hcz10_1 hfz10_0 hfz10_1; obtain ⟨x3_2, x5_2, rfl, HA, HK2, HO_3, BK703, HB⟩ := hrel
    cases gk with
    | zero => exact absurd HA.out (by simp [spec_QuadsOf.l1])
    | succ k2 =>
     have H := HA.out; clear HA; simp only [spec_QuadsOf.l1] at H; by_cases c11 : x5_2 < a0_0; rotate_left
     ·rw [if_neg c11] at H; have c11b0 := decide_eq_false c11; clear c11; have H' := Aside0.mk H; clear H; have hcz34_0 := bc BK703 0; have hcz34_1 := bc BK703 1; have hfz34_0 := bf BK703 0; have hfz34_1 := bf BK703 1; go_wp2; go_roundg k2
      case measure => have := HK1.out; have := HK2.out; omega
      case rel => exact ⟨(x3_2), (wrap64 (x4_1 + 1)), (by rfl), H', ⟨by have := HK1.out; have := HK2.out; omega⟩, ⟨by (with_reducible repeat (first | apply Kd.S_alloc | apply Kd.S_drewN | apply Kd.S_drew)); exact HO_3.out⟩, ⟨by exact bk BK703⟩, ⟨(bg HB GE703)⟩⟩
     rw [if_pos c11] at H; have c11b0 := decide_eq_true c11; clear c11; have H' := Aside0.mk H; clear H; have hcz12_0 := bc BK703 0; have hcz12_1 := bc BK703 1; have hfz12_0 := bf BK703 0; have hfz12_1 := bf BK703 1; go_wp2; go_loopg [3, 6] k2 (fun kq v3 v6 w' => ∃ (x3_3 : List (List Int)) (x6_3 : Int), v6 = .int .i64 x6_3 ∧ Aside0 (spec_QuadsOf.l2 kq x3_3 x4_1 x5_2 x6_3 a0_0 a0_1 = some r) ∧ Aside0 (kq ≤ k2) ∧ Aside0 (Kd.S (Kd.slice 3 (Kd.int .i64)) 53 w' w.heap.size (fun _ => True) v3 x3_3) ∧ Aside0 (w'.heap[gb703]? = some (.cells #[.int .i64 a0_0, .string a0_1] 30 (0, 0))) ∧ Aside0 (Below w.heap.size w w'))
     case atStart => exact ⟨(x3_2), (wrap64 (x5_2 + 1)), (by rfl), H', ⟨Nat.le_refl _⟩, ⟨by (with_reducible repeat (first | apply Kd.S_alloc | apply Kd.S_drewN | apply Kd.S_drew)); exact HO_3.out⟩, ⟨by exact bk BK703⟩, ⟨(bg HB GE703)⟩⟩
     case round =>
      clear H' c11b0 hcz12_0 hcz12_1 hfz12_0 hfz12_1; obtain ⟨x3_3, x6_3, rfl, HA, HK3, HO_3, BK703, HB⟩ := hrel
      cases gk with
      | zero => exact absurd HA.out (by simp [spec_QuadsOf.l2])
      | succ k3 =>
       have H := HA.out; clear HA; simp only [spec_QuadsOf.l2] at H; by_cases c13 : x6_3 < a0_0; rotate_left
       ·rw [if_neg c13] at H; have c13b0 := decide_eq_false c13; clear c13; have H' := Aside0.mk H; clear H; have hcz33_0 := bc BK703 0; have hcz33_1 := bc BK703 1; have hfz33_0 := bf BK703 0; have hfz33_1 := bf BK703 1; go_wp2; go_roundg k3
        case measure => have := HK1.out; have := HK2.out; have := HK3.out; omega
        case rel => exact ⟨(x3_3), (wrap64 (x5_2 + 1)), (by rfl), H', ⟨by have := HK1.out; have := HK2.out; have := HK3.out; omega⟩, ⟨by (with_reducible repeat (first | apply Kd.S_alloc | apply Kd.S_drewN | apply Kd.S_drew)); exact HO_3.out⟩, ⟨by exact bk BK703⟩, ⟨(bg HB GE703)⟩⟩
       rw [if_pos c13] at H; have c13b0 := decide_eq_true c13; clear c13; have H' := Aside0.mk H; clear H; have hcz14_0 := bc BK703 0; have hcz14_1 := bc BK703 1; have hfz14_0 := bf BK703 0; have hfz14_1 := bf BK703 1; go_wp2; go_loopg [3, 7] k3 (fun kq v3 v7 w' => ∃ (x3_4 : List (List Int)) (x7_4 : Int), v7 = .int .i64 x7_4 ∧ Aside0 (spec_QuadsOf.l3 kq x3_4 x4_1 x5_2 x6_3 x7_4 a0_0 a0_1 = some r) ∧ Aside0 (kq ≤ k3) ∧ Aside0 (Kd.S (Kd.slice 3 (Kd.int .i64)) 53 w' w.heap.size (fun _ => True) v3 x3_4) ∧ Aside0 (w'.heap[gb703]? = some (.cells #[.int .i64 a0_0, .string a0_1] 30 (0, 0))) ∧ Aside0 (Below w.heap.size w w'))
       case atStart => exact ⟨(x3_3), (wrap64 (x6_3 + 1)), (by rfl), H', ⟨Nat.le_refl _⟩, ⟨by (with_reducible repeat (first | apply Kd.S_alloc | apply Kd.S_drewN | apply Kd.S_drew)); exact HO_3.out⟩, ⟨by exact bk BK703⟩, ⟨(bg HB GE703)⟩⟩
       case round =>
        clear H' c13b0 hcz14_0 hcz14_1 hfz14_0 hfz14_1; obtain ⟨x3_4, x7_4, rfl, HA, HK4, HO_3, BK703, HB⟩ := hrel
        cases gk with
        | zero => exact absurd HA.out (by simp [spec_QuadsOf.l3])
        | succ k4 =>
         have H := HA.out; clear HA; simp only [spec_QuadsOf.l3] at H; by_cases c15 : x7_4 < a0_0; rotate_left
         ·rw [if_neg c15] at H; have c15b0 := decide_eq_false c15; clear c15; have H' := Aside0.mk H; clear H; have hcz32_0 := bc BK703 0; have hcz32_1 := bc BK703 1; have hfz32_0 := bf BK703 0; have hfz32_1 := bf BK703 1; go_wp2; go_roundg k4
          case measure => have := HK1.out; have := HK2.out; have := HK3.out; have := HK4.out; omega
          case rel => exact ⟨(x3_4), (wrap64 (x6_3 + 1)), (by rfl), H', ⟨by have := HK1.out; have := HK2.out; have := HK3.out; have := HK4.out; omega⟩, ⟨by (with_reducible repeat (first | apply Kd.S_alloc | apply Kd.S_drewN | apply Kd.S_drew)); exact HO_3.out⟩, ⟨by exact bk BK703⟩, ⟨(bg HB GE703)⟩⟩
         rw [if_pos c15] at H; have c15b0 := decide_eq_true c15; clear c15; obtain ⟨y708, Ny708, H⟩ := bns H; obtain ⟨t711, A16, H⟩ := bnd H; by_cases c17 : t711 < 0; rotate_left
         ·rw [if_neg c17] at H; have c17b0 := decide_eq_false c17; clear c17; have H' := Aside0.mk H; clear H; have hcz26_0 := bc BK703 0; have hcz26_1 := bc BK703 1; have hfz26_0 := bf BK703 0; have hfz26_1 := bf BK703 1; go_wp2_with (first | ((with_reducible refine gate_dst (N := 48) rfl ?_); refine Kd.R_lit (Kd.int .i64) _ 3 ?hg (N := 48) ?hd (xs := ([x4_1, x5_2, x6_3, x7_4] : List Int)) (inner := [.int .i64 x4_1, .int .i64 x5_2, .int .i64 x6_3, .int .i64 x7_4]) (ok := fun _ => True) (okp := fun _ => True) ?hr ?hp (fun _ hk => hk) trivial (Below.refl _ _) (Nat.le_refl _) (by simp) ?_; (case hd => rfl); (case hg => rfl); (case hr => (go_simp; done)); (case hp => exact (Reps.one (show Kd.M (Kd.int .i64) _ _ _ x4_1 [.int .i64 x4_1] from rfl) (Reps.one (show Kd.M (Kd.int .i64) _ _ _ x5_2 [.int .i64 x5_2] from rfl) (Reps.one (show Kd.M (Kd.int .i64) _ _ _ x6_3 [.int .i64 x6_3] from rfl) (Reps.one (show Kd.M (Kd.int .i64) _ _ _ x7_4 [.int .i64 x7_4] from rfl) (Reps.none _ _)))))); intro v709 w27 ho28 hb hg_ hnew_; clear hg_ hnew_; (rw [← Ny708.out] at ho28); replace HO_3 := Aside0.mk (Kd.S_elder' (by (with_reducible repeat (first | apply Kd.S_alloc | apply Kd.S_drewN | apply Kd.S_drew)); exact HO_3.out) (Kd.R_base ho28) hb); have HO710 := Aside0.mk (Kd.R_lower ho28 (below_size (bg HB GE703))); replace BK703 := bw hb (bk BK703); replace HB := bsg HB GE703 hb; clear hb ho28; have hcz29_0 := bc BK703 0; have hcz29_1 := bc BK703 1; have hfz29_0 := bf BK703 0; have hfz29_1 := bf BK703 1; obtain ⟨Ao30, co30, eo30⟩ := Kd.R_slice HO710.out; subst eo30) | ((with_reducible refine gate_callee (f := 74) rfl ?_); refine gM (some 51) Try.func74 rfl (spec_l5Inner.calls k4 a0_0 a0_1 _ _ y708 t711 _ ?side1 ?side2 A16.out) ?_; (case side1 => repeat (exact (Kd.R_reads' HO710.out).2.2)); (case side2 => exact (Kd.R_reads' HO710.out).2.1); rintro w31 hb; replace HO_3 := Aside0.mk (Kd.S_below (by (with_reducible repeat (first | apply Kd.S_alloc | apply Kd.S_drewN | apply Kd.S_drew)); exact HO_3.out) hb); replace HO710 := Aside0.mk (Kd.R_below (rr HO710) hb); replace BK703 := bw hb (bk BK703); replace HB := bsg HB GE703 hb; (clear hb))); go_roundg k4
          case measure => have := HK1.out; have := HK2.out; have := HK3.out; have := HK4.out; omega
          case rel => exact ⟨(x3_4), (wrap64 (x7_4 + 1)), (by rfl), H', ⟨by have := HK1.out; have := HK2.out; have := HK3.out; have := HK4.out; omega⟩, ⟨by (with_reducible repeat (first | apply Kd.S_alloc | apply Kd.S_drewN | apply Kd.S_drew)); exact Kd.S_mono HO_3.out (fun _ hk => trivial)⟩, ⟨by exact bk BK703⟩, ⟨(bg HB GE703)⟩⟩
         rw [if_pos c17] at H; have c17b0 := decide_eq_true c17; clear c17; obtain ⟨c18, H⟩ := ifn H; have LMc18 := Aside0.mk c18; clear c18; obtain ⟨y712, Ny712⟩ := nm (x3_4 ++ [y708] : List (List Int)); rw [← Ny712.out] at H; have H' := Aside0.mk H; clear H; have hcz19_0 := bc BK703 0; have hcz19_1 := bc BK703 1; have hfz19_0 := bf BK703 0; have hfz19_1 := bf BK703 1; go_wp2_with (first | ((with_reducible refine gate_dst (N := 48) rfl ?_); refine Kd.R_lit (Kd.int .i64) _ 3 ?hg (N := 48) ?hd (xs := ([x4_1, x5_2, x6_3, x7_4] : List Int)) (inner := [.int .i64 x4_1, .int .i64 x5_2, .int .i64 x6_3, .int .i64 x7_4]) (ok := fun _ => True) (okp := fun _ => True) ?hr ?hp (fun _ hk => hk) trivial (Below.refl _ _) (Nat.le_refl _) (by simp) ?_; (case hd => rfl); (case hg => rfl); (case hr => (go_simp; done)); (case hp => exact (Reps.one (show Kd.M (Kd.int .i64) _ _ _ x4_1 [.int .i64 x4_1] from rfl) (Reps.one (show Kd.M (Kd.int .i64) _ _ _ x5_2 [.int .i64 x5_2] from rfl) (Reps.one (show Kd.M (Kd.int .i64) _ _ _ x6_3 [.int .i64 x6_3] from rfl) (Reps.one (show Kd.M (Kd.int .i64) _ _ _ x7_4 [.int .i64 x7_4] from rfl) (Reps.none _ _)))))); intro v709 w20 ho21 hb hg_ hnew_; clear hg_ hnew_; (rw [← Ny708.out] at ho21); replace HO_3 := Aside0.mk (Kd.S_elder' (by (with_reducible repeat (first | apply Kd.S_alloc | apply Kd.S_drewN | apply Kd.S_drew)); exact HO_3.out) (Kd.R_base ho21) hb); have HO710 := Aside0.mk (Kd.R_lower ho21 (below_size (bg HB GE703))); replace BK703 := bw hb (bk BK703); replace HB := bsg HB GE703 hb; clear hb ho21; have hcz22_0 := bc BK703 0; have hcz22_1 := bc BK703 1; have hfz22_0 := bf BK703 0; have hfz22_1 := bf BK703 1; obtain ⟨Ao23, co23, eo23⟩ := Kd.R_slice HO710.out; subst eo23) | ((with_reducible refine gate_callee (f := 74) rfl ?_); refine gM (some 51) Try.func74 rfl (spec_l5Inner.calls k4 a0_0 a0_1 _ _ y708 t711 _ ?side1 ?side2 A16.out) ?_; (case side1 => repeat (exact (Kd.R_reads' HO710.out).2.2)); (case side2 => exact (Kd.R_reads' HO710.out).2.1); rintro w24 hb; replace HO_3 := Aside0.mk (Kd.S_below (by (with_reducible repeat (first | apply Kd.S_alloc | apply Kd.S_drewN | apply Kd.S_drew)); exact HO_3.out) hb); replace HO710 := Aside0.mk (Kd.R_below (rr HO710) hb); replace BK703 := bw hb (bk BK703); replace HB := bsg HB GE703 hb; (clear hb)) | ((with_reducible refine gate_builtin (b := .append) (xs := #[.tmp 53, .tmp 55]) rfl ?_); at_builtin; refine Kd.S_append (Kd.slice 3 (Kd.int .i64)) (w0 := w) w.heap.size rfl (.tmp 53) (.tmp 55) 68 53 (.slice none 0 0) 24 rfl Try.underlying68 info53 rfl (by decide) (by omega) u3 x3_4 y708 [.slice Ao23 y708.length co23] (fun _ => True) (fun k_ => some k_ = (.slice Ao23 y708.length co23 : Value).ownBlock) rfl rfl ?aP (fun k_ hk_ => ((Kd.R_mono (ok' := fun k_ => ((fun _ => True)) k_ ∧ some k_ ≠ (u3 : Value).ownBlock) (Kd.R_apart' (HO710.out) (Kd.S_typed HO_3.out) (by decide)) (fun k_ hk => ⟨trivial, hk.2⟩))).1 k_ hk_.symm) ?aF ?aO ?aB ?aS ?aL ?_; (case aP => exact Kd.M_row (Kd.R_mono (Kd.R_tight rfl (Kd.R_mono (ok' := fun k_ => ((fun _ => True)) k_ ∧ some k_ ≠ (u3 : Value).ownBlock) (Kd.R_apart' (HO710.out) (Kd.S_typed HO_3.out) (by decide)) (fun k_ hk => ⟨trivial, hk.2⟩))) (fun _ h_ => h_))); (case aB => exact (bg HB GE703)); (case aF => exact (fun _ _ => trivial)); (case aO => exact (by (with_reducible repeat (first | apply Kd.S_alloc | apply Kd.S_drewN | apply Kd.S_drew)); exact Kd.S_mono HO_3.out (fun k_ hk => ⟨trivial, fun e_ => hk.2 e_⟩))); (case aS => exact (below_size (bg HB GE703))); (case aL => have := LMc18.out; omega); intro v713 w25 ho hb hg hat; rw [← Ny712.out] at ho; replace BK703 := Aside0.mk (blk_grown (g := gb703) (o := .cells #[.int .i64 a0_0, .string a0_1] 30 (0, 0)) (bk BK703) hg (Kd.S_ne HO_3.out BK703.out (by decide))); replace HB := Aside0.mk hb; have HO714 := Aside0.mk ho; clear HO_3 HO710 ho hb hg hat)); go_roundg k4
         case measure => have := HK1.out; have := HK2.out; have := HK3.out; have := HK4.out; omega
         case rel => exact ⟨(y712), (wrap64 (x7_4 + 1)), (by rfl), H', ⟨by have := HK1.out; have := HK2.out; have := HK3.out; have := HK4.out; omega⟩, ⟨by (with_reducible repeat (first | apply Kd.S_alloc | apply Kd.S_drewN | apply Kd.S_drew)); exact HO714.out⟩, ⟨by exact bk BK703⟩, ⟨(bg HB GE703)⟩⟩

/-! ### spec_CountQuads: function 26 -/
def spec_CountQuads.f (k : Nat) (a0_0 : Int) (a0_1 : ByteArray) : Option (Int) := (spec_IsAcyclic.f k a0_0 a0_1).bind fun t716 => (if t716 = true then ((spec_QuadsOf.f k a0_0 a0_1).bind fun t717 => (some (t717.length : Int))) else (some (-1)))
set_option maxHeartbeats 8000000 in
set_option maxRecDepth 100000 in
theorem spec_CountQuads.calls (k : Nat) (a0_0 : Int) (a0_1 : ByteArray) (r : Int) (w : World) (h : spec_CountQuads.f k a0_0 a0_1 = some r) :
  Calls Try.prog 26 #[.agg #[.int .i64 a0_0, .string a0_1]] w fun e w' => e = .returned (.int .i64 r) ∧ Below w.heap.size w w' := by
 have hu30 := Try.underlying30; have HB := Aside0.mk (Below.refl w.heap.size w); have H := h; unfold spec_CountQuads.f at H; clear h; obtain ⟨t716, A2, H⟩ := bnd H; by_cases c3 : t716 = true; rotate_left
 ·replace c3 := Bool.eq_false_iff.mpr c3; subst c3; rw [if_neg nf] at H; obtain rfl := Option.some.inj H; go_enter Try.func26, Try.ntmps26; go_wp2_with (first | ((with_reducible refine gate_dst (N := 1) rfl ?_); refine bx 1 #[.int .i64 a0_0, .string a0_1] 30 ?_; intro gb715 hg w11 hbox hb; have BK715 := Aside0.mk hbox; have GE715 := gs HB hg; have GW715 := GE715; replace HB := bs HB hb; clear hb hbox hg; have hcz12_0 := bc BK715 0; have hcz12_1 := bc BK715 1; ) | ((with_reducible refine gate_callee (f := 25) rfl ?_); refine gM (some 4) Try.func25 rfl (spec_IsAcyclic.calls k a0_0 a0_1 false _ A2.out) ?_; rintro w13 hb; replace BK715 := bw hb (bk BK715); replace HB := bsg HB GE715 hb; (clear hb))); go_ret; exact ⟨by rfl, (bg HB GE715)⟩
 subst c3; rw [if_pos rfl] at H; obtain ⟨t717, A4, H⟩ := bnd H; obtain rfl := Option.some.inj H; go_enter Try.func26, Try.ntmps26; go_wp2_with (first | ((with_reducible refine gate_dst (N := 1) rfl ?_); refine bx 1 #[.int .i64 a0_0, .string a0_1] 30 ?_; intro gb715 hg w5 hbox hb; have BK715 := Aside0.mk hbox; have GE715 := gs HB hg; have GW715 := GE715; replace HB := bs HB hb; clear hb hbox hg; have hcz6_0 := bc BK715 0; have hcz6_1 := bc BK715 1; ) | ((with_reducible refine gate_callee (f := 25) rfl ?_); refine gM (some 4) Try.func25 rfl (spec_IsAcyclic.calls k a0_0 a0_1 true _ A2.out) ?_; rintro w7 hb; replace BK715 := bw hb (bk BK715); replace HB := bsg HB GE715 hb; (clear hb); have hcz8_0 := bc BK715 0; have hcz8_1 := bc BK715 1; ) | ((with_reducible refine gate_callee (f := 53) rfl ?_); refine gL (some 7) rfl rfl Try.func53 (by kernel_rfl) rfl #[.agg #[.int .i64 a0_0, .string a0_1]] rfl ?_; (with_reducible refine (spec_QuadsOf.calls k a0_0 a0_1 t717 _ A4.out).mono ?_); rintro e w9 ⟨v718, rfl, ho0, hb⟩; refine ⟨_, rfl, ?_⟩; have HO719 := Aside0.mk (Kd.S_lower ho0 (below_size (bg HB GE715))); replace BK715 := bw hb (bk BK715); replace HB := bsg HB GE715 hb; clear hb ho0; obtain ⟨Ao10, co10, eo10⟩ := Kd.S_slice HO719.out; subst eo10)); go_ret; exact ⟨by rfl, (bg HB GE715)⟩

/-! ### laws_size: function 27 -/
def laws_size.l0 : Nat → Int → Int → Option (Int)
 | 0, _, _ => none
 | k + 1, x0, x3 => if x0 > 0 then (laws_size.l0 k (wrap64 (Int.tdiv x0 2)) (wrap64 (x3 + (Int.tmod x0 2)))) else (some x3)
def laws_size.f (k : Nat) (a0 : Int) : Option (Int) := laws_size.l0 k a0 0
set_option maxHeartbeats 8000000 in
set_option maxRecDepth 100000 in
theorem laws_size.calls (k : Nat) (a0 r : Int) (w : World) (h : laws_size.f k a0 = some r) :
  Calls Try.prog 27 #[.int .i64 a0] w fun e w' => e = .returned (.int .i64 r) ∧ Drawn0 w w' := by
 have H := h; unfold laws_size.f at H; clear h; have H' := Aside0.mk H; clear H; go_enter Try.func27, Try.ntmps27; go_wp2; go_loopg [0, 3] k (fun kq v0 v3 w' => ∃ (x0_1 : Int) (x3_1 : Int), v0 = .int .i64 x0_1 ∧ v3 = .int .i64 x3_1 ∧ Aside0 (laws_size.l0 kq x0_1 x3_1 = some r) ∧ Aside0 (kq ≤ k) ∧ Drawn0 w w')
 case atStart => exact ⟨(a0), (0), (by rfl), (by rfl), H', ⟨Nat.le_refl _⟩, by repeat (exact Drawn0.refl _)⟩
 case round =>
  clear H'; obtain ⟨x0_1, x3_1, rfl, rfl, HA, HK1, ⟨m1, rfl⟩⟩ := hrel
  cases gk with
  | zero => exact absurd HA.out (by simp [laws_size.l0])
  | succ k1 =>
   have H := HA.out; clear HA; simp only [laws_size.l0] at H; by_cases c2 : x0_1 > 0; rotate_left
   ·rw [if_neg c2] at H; have c2b0 : decide (0 < x0_1) = false := decide_eq_false c2; clear c2; obtain rfl := Option.some.inj H; go_wp2; go_ret; exact ⟨by rfl, by repeat (first | exact Drawn0.refl _ | apply Drawn0.step)⟩
   rw [if_pos c2] at H; have c2b0 : decide (0 < x0_1) = true := decide_eq_true c2; clear c2; have H' := Aside0.mk H; clear H; go_wp2; go_roundg k1
   case measure => have := HK1.out; omega
   case rel => exact ⟨(wrap64 (Int.tdiv x0_1 2)), (wrap64 (x3_1 + (Int.tmod x0_1 2))), (by rfl), (by rfl), H', ⟨by have := HK1.out; omega⟩, by repeat (first | exact Drawn0.refl _ | apply Drawn0.step)⟩

/-! ### spec_l6List: function 54 -/
def spec_l6List.l0 : Nat → Int → List Int → Int → Option (List Int)
 | 0, _, _, _ => none
 | k + 1, x0, x3, x4 => if x4 < 7 then ((spec_l6Has.f x0 x4).bind fun t723 => (if t723 = true then (if x3.length < 17592186044416 then (spec_l6List.l0 k x0 (x3 ++ [x4]) (wrap64 (x4 + 1))) else (none)) else (spec_l6List.l0 k x0 x3 (wrap64 (x4 + 1))))) else (some x3)
def spec_l6List.f (k : Nat) (a0 : Int) : Option (List Int) := spec_l6List.l0 k a0 (([] : List Int)) 0
set_option maxHeartbeats 8000000 in
set_option maxRecDepth 100000 in
theorem spec_l6List.calls (k : Nat) (a0 : Int) (r : List Int) (w : World) (h : spec_l6List.f k a0 = some r) :
  Calls Try.prog 54 #[.int .i64 a0] w fun e w' => ∃ v0_ : Value, e = .returned (v0_) ∧ Kd.R (Kd.int .i64) 3 w' w.heap.size (fun _ => True) v0_ r ∧ Below w.heap.size w w' := by
 have HB := Aside0.mk (Below.refl w.heap.size w); have H := h; unfold spec_l6List.f at H; clear h; obtain ⟨y720, hy720⟩ : ∃ y_ : List Int, y_ = (([] : List Int)) := ⟨_, rfl⟩; replace H : (spec_l6List.l0 k a0 y720 0) = some r := (by (rw [hy720]; with_reducible exact H)); have Ny720 := Aside0.mk hy720; clear hy720; have H' := Aside0.mk H; clear H; go_enter Try.func54, Try.ntmps54; go_wp2_with (((with_reducible refine gate_dst (N := 5) rfl ?_); refine Kd.R_lit (Kd.int .i64) _ 3 ?hg (N := 5) ?hd (xs := ([] : List Int)) (inner := []) (ok := fun _ => True) (okp := fun _ => True) ?hr ?hp (fun _ hk => hk) trivial (Below.refl _ _) (Nat.le_refl _) (by simp) ?_; (case hd => rfl); (case hg => rfl); (case hr => (go_simp; done)); (case hp => exact (Reps.none _ _)); intro v721 w2 ho3 hb hg_ hnew_; clear hg_ hnew_; (rw [← Ny720.out] at ho3); have HO722 := Aside0.mk (Kd.R_lower ho3 (below_size (bl HB))); replace HB := bs HB hb; clear hb ho3)); go_loopg [3, 4] k (fun kq v3 v4 w' => ∃ (x3_1 : List Int) (x4_1 : Int), v4 = .int .i64 x4_1 ∧ Aside0 (spec_l6List.l0 kq a0 x3_1 x4_1 = some r) ∧ Aside0 (kq ≤ k) ∧ Aside0 (Kd.R (Kd.int .i64) 3 w' w.heap.size (fun _ => True) v3 x3_1) ∧ Aside0 (Below w.heap.size w w'))
 case atStart => exact ⟨(y720), (0), (by rfl), H', ⟨Nat.le_refl _⟩, ⟨rr HO722⟩, ⟨(bl HB)⟩⟩
 case round =>
  clear H'; obtain ⟨x3_1, x4_1, rfl, HA, HK1, HO_3, HB⟩ := hrel
  cases gk with
  | zero => exact absurd HA.out (by simp [spec_l6List.l0])
  | succ k1 =>
   have H := HA.out; clear HA; simp only [spec_l6List.l0] at H; by_cases c4 : x4_1 < 7; rotate_left
   ·rw [if_neg c4] at H; have c4b0 := decide_eq_false c4; clear c4; obtain rfl := Option.some.inj H; go_wp2; go_ret; exact ⟨_, by rfl, by (with_reducible repeat (first | apply Kd.R_alloc | apply Kd.R_drewN | apply Kd.R_drew)); exact HO_3.out, (bl HB)⟩
   rw [if_pos c4] at H; have c4b0 := decide_eq_true c4; clear c4; obtain ⟨t723, A5, H⟩ := bnd H; by_cases c6 : t723 = true; rotate_left
   ·replace c6 := Bool.eq_false_iff.mpr c6; subst c6; rw [if_neg nf] at H; have H' := Aside0.mk H; clear H; go_wp2_with (((with_reducible refine gate_callee (f := 69) rfl ?_); refine gM (some 12) Try.func69 rfl (spec_l6Has.calls a0 x4_1 false _ A5.out) ?_; rintro w' ⟨nd, rfl⟩)); go_roundg k1
    case measure => have := HK1.out; omega
    case rel => exact ⟨(x3_1), (wrap64 (x4_1 + 1)), (by rfl), H', ⟨by have := HK1.out; omega⟩, ⟨by (with_reducible repeat (apply Kd.R_drewN)); exact HO_3.out⟩, ⟨(bl HB)⟩⟩
   subst c6; rw [if_pos rfl] at H; obtain ⟨c7, H⟩ := ifn H; have LMc7 := Aside0.mk c7; clear c7; obtain ⟨y724, Ny724⟩ := nm (x3_1 ++ [x4_1] : List Int); rw [← Ny724.out] at H; have H' := Aside0.mk H; clear H; go_wp2_with (first | ((with_reducible refine gate_callee (f := 69) rfl ?_); refine gM (some 12) Try.func69 rfl (spec_l6Has.calls a0 x4_1 true _ A5.out) ?_; rintro w' ⟨nd, rfl⟩) | ((with_reducible refine gate_builtin (b := .append) (xs := #[.tmp 13, .tmp 15]) rfl ?_); at_builtin; refine Kd.R_append (Kd.int .i64) (w0 := w) w.heap.size rfl (.tmp 13) (.tmp 15) 53 3 (.int .i64 0) 8 rfl Try.underlying53 info3 rfl (by decide) (by omega) u3 x3_1 x4_1 [.int .i64 x4_1] (fun _ => True) (fun _ => False) rfl rfl ?aP (fun _ hk => hk.elim) ?aF ?aO ?aB ?aS ?aL ?_; (case aP => exact rfl); (case aB => exact (bl HB)); (case aF => exact (fun _ _ => trivial)); (case aO => exact (rr HO_3)); (case aS => exact (below_size (bl HB))); (case aL => have := LMc7.out; omega); intro v725 w8 ho hb hg hat; rw [← Ny724.out] at ho; replace HB := Aside0.mk hb; have HO726 := Aside0.mk ho; clear HO_3 ho hb hg hat)); go_roundg k1
   case measure => have := HK1.out; omega
   case rel => exact ⟨(y724), (wrap64 (x4_1 + 1)), (by rfl), H', ⟨by have := HK1.out; omega⟩, ⟨rr HO726⟩, ⟨(bl HB)⟩⟩

end Go.Proofs.Ytmidcafamppkeaa.P
