-- Printed by a program of this session (wip/tools/myprint.py, over the kit's print.py); not trusted: Lean checks it.
import Derived.Test.YthibphndihjcaaaWAll2
import Derived.Test.YthibphndihjcaaaP0
import Derived.Test.YthibphndihjcaaaOCount
import Derived.Test.YthibphndihjcaaaP17
import Derived.Test.YthibphndihjcaaaP18
import Derived.Test.YthibphndihjcaaaP47
import Derived.Test.YthibphndihjcaaaP57
import Derived.Test.YthibphndihjcaaaP70
namespace Go.Proofs.Ythibphndihjcaaa.P
open Go.RowKit Go.Proofs.YthibphndihjcaaaW.PrintWords Go.Proofs.YthibphndihjcaaaW.PrintLast Go.Proofs.YthibphndihjcaaaW.PrintMore
attribute [local go_sem] max2_int min2_int max_two min_two max_three min_three max_four min_four   -- for this text's walks alone
set_option linter.unusedVariables false
set_option linter.unusedSimpArgs false

/-! ### spec_CountCommuting: function 42 -/
def spec_CountCommuting.f (k : Nat) (a0 : Int) (l1 : List Int) : Option (Int) := (spec_SignsOfWiring.f k a0 l1).bind fun bt643 => (if bt643.2.2 = true then (if 0 ≤ (wrap64 (a0 * a0)) then (if (wrap64 (a0 * a0) : Int).toNat ≤ 281474976710656 then ((spec_l12Start.f k a0).bind fun t650 => ((spec_l14Count.f k bt643.1 bt643.2.1 (List.replicate (wrap64 (a0 * a0) : Int).toNat false) t650).bind fun bt653 => (some bt653.1))) else (none)) else (none)) else (some (-1)))
theorem spec_CountCommuting.mono : ∀ a0 a1 k, LeO (spec_CountCommuting.f k a0 a1) (spec_CountCommuting.f (k + 1) a0 a1) := by
 intro a0 a1 k
 unfold spec_CountCommuting.f
 repeat' first
   | (with_reducible exact spec_SignsOfWiring.mono _ _ _)
   | (with_reducible exact spec_l12Start.mono _ _)
   | (with_reducible exact spec_l14Count.mono _ _ _ _ _)
   | (with_reducible exact LeO.refl _)
   | (with_reducible exact LeO.none _)
   | (with_reducible refine LeO.ite ?_ ?_)
   | (with_reducible refine LeO.bind ?_ (fun _ => ?_))
   | exact spec_SignsOfWiring.mono _ _ _
   | exact spec_l12Start.mono _ _
   | exact spec_l14Count.mono _ _ _ _ _
   | exact LeO.none _
   | refine LeO.ite ?_ ?_
   | refine LeO.bind ?_ (fun _ => ?_)
def spec_CountCommuting.T4 : Bool × List (List Nat × List Nat) := (true, [([], []), ([], []), ([], []), ([1, 2], [1, 2]), ([3, 3], [3]), ([], []), ([5], [5]), ([0, 4, 6, 6], [0, 4, 6]), ([7, 7, 0, 1, 2, 3, 4, 5, 6, 7], [7])])
def spec_CountCommuting.B4 : List Nat := [0, 0, 0, 6, 14, 0, 32, 127, 255]
theorem spec_CountCommuting.tab4 : rtab .any (opsOf Try.f42 4) = spec_CountCommuting.T4 := by kernel_rfl
theorem spec_CountCommuting.bits4 : waitsOk spec_CountCommuting.T4.2 spec_CountCommuting.B4 = true := by kernel_rfl
set_option maxHeartbeats 8000000 in
set_option maxRecDepth 100000 in
theorem spec_CountCommuting.calls (k : Nat) (a0 : Int) (A1 : Option Addr) (c1 : Nat) (l1 : List Int) (r : Int) (w : World) (hr1 : Kd.C (Kd.int .i64) w A1 l1.length l1) (hc1 : l1.length ≤ c1) (h : spec_CountCommuting.f k a0 l1 = some r) :
  Calls Try.prog 42 #[.int .i64 a0, .slice A1 l1.length c1] w fun e w' => e = .returned (.int .i64 r) ∧ Below w.heap.size w w' := by
 have hu28 := Try.underlying28
 have HR1 := Aside0.mk hr1
 have HC1 := Aside0.mk hc1
 clear hr1 hc1
 have HB := Aside0.mk (Below.refl w.heap.size w)
 have H : ((spec_SignsOfWiring.f k a0 l1).bind fun bt643 => (if bt643.2.2 = true then (if 0 ≤ (wrap64 (a0 * a0)) then (if (wrap64 (a0 * a0) : Int).toNat ≤ 281474976710656 then ((spec_l12Start.f k a0).bind fun t650 => ((spec_l14Count.f k bt643.1 bt643.2.1 (List.replicate (wrap64 (a0 * a0) : Int).toNat false) t650).bind fun bt653 => (some bt653.1))) else (none)) else (none)) else (some (-1)))) = some r := h
 clear h
 replace H := Option.bind_eq_some_iff.mp H
 obtain ⟨⟨t643, t644, t645⟩, A30, H⟩ := H
 (try dsimp only at H)
 have A3 := Aside0.mk A30
 clear A30
 by_cases c4 : t645 = true
 ·subst c4
  have H1 : (if 0 ≤ (wrap64 (a0 * a0)) then (if (wrap64 (a0 * a0) : Int).toNat ≤ 281474976710656 then ((spec_l12Start.f k a0).bind fun t650 => ((spec_l14Count.f k t643 t644 (List.replicate (wrap64 (a0 * a0) : Int).toNat false) t650).bind fun bt653 => (some bt653.1))) else (none)) else (none)) = some r := by rw [if_pos rfl] at H; exact H
  clear H
  have H := H1
  clear H1
  obtain ⟨ji5, hji5⟩ : ∃ j_ : Int, (wrap64 (a0 * a0)) = j_ := ⟨_, rfl⟩
  replace H : (if 0 ≤ (ji5) then (if (ji5 : Int).toNat ≤ 281474976710656 then ((spec_l12Start.f k a0).bind fun t650 => ((spec_l14Count.f k t643 t644 (List.replicate (ji5 : Int).toNat false) t650).bind fun bt653 => (some bt653.1))) else (none)) else (none)) = some r := by first | (rw [hji5] at H; exact H) | (simp only [hji5] at H ⊢; exact H)
  (try rw [hji5] at A3)
  have hji5w : (IntKind.i64.wrap (a0 * a0)) = ji5 := (i64_w _).trans hji5
  by_cases c6 : 0 ≤ (ji5)
  ·rw [if_pos c6] at H
   have c6b0 := eq_true c6
   have c6b1 : decide (0 ≤ (ji5)) = true := decide_eq_true c6
   clear c6
   by_cases c7 : (ji5 : Int).toNat ≤ 281474976710656
   ·rw [if_pos c7] at H
    have c7b0 := eq_true c7
    have c7b1 : decide ((ji5 : Int).toNat ≤ 281474976710656) = true := decide_eq_true c7
    clear c7
    obtain ⟨y647, hy647⟩ : ∃ y_ : List Bool, y_ = (List.replicate (ji5 : Int).toNat false) := ⟨_, rfl⟩
    replace H : ((spec_l12Start.f k a0).bind fun t650 => ((spec_l14Count.f k t643 t644 y647 t650).bind fun bt653 => (some bt653.1))) = some r := by first | (rw [hy647]; with_reducible exact H) | (have H2_ := (Option.bind_some _ _).symm.trans H; rw [hy647]; with_reducible exact H2_) | (have H2_ := (Option.bind_some _ _).symm.trans H; with_reducible exact H2_) | with_reducible exact H | (rw [hy647]; exact H) | exact H
    have Ny647 := Aside0.mk hy647
    clear hy647
    replace H := Option.bind_eq_some_iff.mp H
    obtain ⟨t650, A80, H⟩ := H
    (try dsimp only at H)
    have A8 := Aside0.mk A80
    clear A80
    replace H := Option.bind_eq_some_iff.mp H
    obtain ⟨⟨t653, t654, t655⟩, A90, H⟩ := H
    (try dsimp only at H)
    have A9 := Aside0.mk A90
    clear A90
    obtain rfl := Option.some.inj H
    go_enter Try.func42, Try.ntmps42
    try go_wp2_with (first | ((with_reducible refine gate_callee (f := 18) rfl ?_); refine gL (some 10) rfl rfl Try.func18 (by kernel_rfl) rfl #[.int .i64 a0, .slice A1 l1.length c1] rfl ?_; (with_reducible refine (spec_SignsOfWiring.calls k a0 _ _ l1 t643 t644 true _ ?side1 ?side2 A3.out).mono ?_); (case side1 => repeat (first | exact HR1.out | (with_reducible refine Kd.C_alloc ?_ _) | (with_reducible refine Kd.C_drewN ?_ _) | (with_reducible refine Kd.C_drew ?_))); (case side2 => exact HC1.out); rintro e w10 ⟨rfl, hb⟩; refine ⟨_, rfl, ?_⟩; have n0_ := bs HB hb; clear HB; have HB := n0_; clear n0_; (try clear hb); (try clear hb2); (try clear hk); (try clear hi)) | ((with_reducible refine gate_dst (N := 5) rfl ?_); refine bx 5 #[.int .i64 0, .string (⟨#[]⟩ : ByteArray)] 28 ?_; intro gb646 hg w11 hbox hb; have BK646 := Aside0.mk hbox; have GE646 := gs HB hg; have GW646 := GE646; replace HB := bs HB hb; clear hb hbox hg; have hcz12_0 := bc BK646 0; have hcz12_1 := bc BK646 1; have hfz12_0 := bf BK646 0; have hfz12_1 := bf BK646 1))
    have n0_ : Aside0 (((w11.setCell ⟨gb646, 0, none⟩ (.int .i64 t643)).setCell ⟨gb646, 1, none⟩ (.string t644)).heap[gb646]? = some (.cells #[.int .i64 t643, .string t644] 28 (0, 0))) := ⟨by (with_reducible repeat (first | refine blk_drewN ?_ _ | refine blk_drew ?_ | refine blk_alloc ?_ _)); refine blk_put (cs := #[.int .i64 t643, .string (⟨#[]⟩ : ByteArray)]) ?_ 1 _ rfl; (with_reducible repeat (first | refine blk_drewN ?_ _ | refine blk_drew ?_ | refine blk_alloc ?_ _)); refine blk_put (cs := #[.int .i64 0, .string (⟨#[]⟩ : ByteArray)]) ?_ 0 _ rfl; (with_reducible repeat (first | refine blk_drewN ?_ _ | refine blk_drew ?_ | refine blk_alloc ?_ _)); exact BK646.out⟩
    have n1_ : Aside0 (Below w.heap.size w ((w11.setCell ⟨gb646, 0, none⟩ (.int .i64 t643)).setCell ⟨gb646, 1, none⟩ (.string t644))) := ⟨(bg HB GE646)⟩
    (try clear BK646)
    (try clear HB)
    generalize ((w11.setCell ⟨gb646, 0, none⟩ (.int .i64 t643)).setCell ⟨gb646, 1, none⟩ (.string t644)) = w13 at n0_ n1_ ⊢
    have BK646 := n0_
    have HB := n1_
    clear n0_ n1_
    have n0_ := Aside0.mk (blk_drew BK646.out)
    have n1_ := Aside0.mk (below_drew1 HB.out)
    clear BK646
    clear HB
    have BK646 := n0_
    have HB := n1_
    clear n0_ n1_
    refine start_ (n := 9) (S := fun w' => w'.cell? ⟨gb646, 0, none⟩ = some (.int .i64 t643) ∧ w'.cell? ⟨gb646, 1, none⟩ = some (.string t644)) (ds := []) #[false, false, false, false, false, false, false, false, false] (by kernel_rfl) rfl rfl ⟨(blk_cell BK646.out 0).trans rfl, (blk_cell BK646.out 1).trans rfl⟩ (fun hHeld => ?_); refine with_tabW spec_CountCommuting.tab4 spec_CountCommuting.bits4 (fun HT_ HW_ => ?_)
    generalize w13.drew = w14 at BK646 HB hHeld ⊢
    refine pu 1 16 HT_ ?_
    refine pu 2 17 HT_ ?_
    refine pu 3 18 HT_ ?_
    refine pu 5 20 HT_ ?_
    refine take_ (i := 0) (N := some 15) (v := ?_) (a' := ?_) #[true, true, true, true, false, true, false, false, false] rfl rfl (take_ofW HT_.out HW_.out (by kernel_rfl)) (fun _ _ _ h => h) (Or.inl ⟨by rfl, ?_⟩) hHeld ?_ ?_
    rotate_left
    ·rintro w' ⟨s0, s1⟩
     go_simp
     with_reducible rfl
    rotate_left
    ·simp only [Act.put, List.setIfInBounds_toArray, List.set_cons_zero, List.set_cons_succ, i64_w, i32_w]
     rfl
    refine join_ (σ := Value × Value) 2 #[true, true, true, true, true, true, true, false, false] (fun s_ => [(19, s_.1), (21, s_.2)]) (fun s_ w' => (w'.cell? ⟨gb646, 0, none⟩ = some (.int .i64 t643) ∧ w'.cell? ⟨gb646, 1, none⟩ = some (.string t644)) ∧ (Kd.R Kd.bool 4 w' w.heap.size (fun _ => True) s_.1 y647) ∧ (Kd.R (Kd.int .i64) 3 w' w.heap.size (fun _ => True) s_.2 t650) ∧ (w'.heap[gb646]? = some (.cells #[.int .i64 t643, .string t644] 28 (0, 0))) ∧ (Below w.heap.size w w')) ?_ ?_
    rotate_left
    ·intro hCont
     refine two_ (i := 4) (j := 6) (Ni := some 19) (Nj := some 21) #[true, true, true, true, true, true, false, false, false] #[true, true, true, true, false, true, true, false, false] rfl rfl rfl rfl (two_of HT_.out (by kernel_rfl)) (by decide) (by decide) (fun K hK => ?_) (fun K hK => ?_)
     ·skip
      refine Kd.R_make_step Kd.bool _ 4 (by rfl) (N := 19) rfl 77 _ _ rfl ji5 rfl rfl Try.underlying77 (.bool false) 1 info4 rfl (by decide) (by omega) false (ok := fun _ => True) (okp := fun _ => True) rfl (fun _ hk => hk) trivial (of_decide_eq_true (by first | (with_reducible assumption) | assumption)) (Nat.le_trans (Nat.mul_le_mul_right _ (of_decide_eq_true (by first | (with_reducible assumption) | assumption) : ji5.toNat ≤ 281474976710656)) (by omega)) (Below.refl _ _) (Nat.le_refl _) ?_
      intro v648 w15 ho16 hb hg_ hnew_
      clear hg_ hnew_
      (first | rw [← Ny647.out] at ho16 | (simp only [Int.reduceToNat] at ho16; rw [← Ny647.out] at ho16))
      have n0_ := Aside0.mk (Kd.R_lower ho16 (below_size (bg HB GE646)))
      have n1_ := Aside0.mk (blk_below (g := gb646) (o := .cells #[.int .i64 t643, .string t644] 28 (0, 0)) (bk BK646) hb)
      have n2_ := bsg HB GE646 hb
      clear BK646
      clear HB
      have HO649 := n0_
      have BK646 := n1_
      have HB := n2_
      clear n0_ n1_ n2_
      clear hb ho16
      refine hK.out _ _ ⟨(blk_cell BK646.out 0).trans rfl, (blk_cell BK646.out 1).trans rfl⟩ (fun hHeld => ?_)
      clear hK K
      refine norm_ (a' := ?_) ?_ ?_
      rotate_left
      ·show Act.put _ (some 19) _ = _
       simp only [Act.put, List.setIfInBounds_toArray, List.set_cons_zero, List.set_cons_succ, i64_w, i32_w]
       rfl
      refine one_ (i := 6) (N := some 21) #[true, true, true, true, true, true, true, false, false] rfl rfl (one_of HT_.out (by kernel_rfl)) (by decide) (fun K hK => ?_)
      refine goes_ Try.func48 (by kernel_rfl) rfl #[.int .i64 a0] (by rfl) rfl rfl (by (try simp only [List.map_toArray, List.map_cons, List.map_nil]); first | done | rfl | (simp only [List.length_drop, List.length_take]; rfl)) ?_
      with_reducible refine (spec_l12Start.calls k a0 t650 _ A8.out).mono ?_
      rintro e w17 ⟨v651, rfl, ho0, hb⟩
      refine ⟨_, rfl, ?_⟩
      have n0_ := Aside0.mk (Kd.R_below (rr HO649) hb)
      have n1_ := Aside0.mk (Kd.R_lower ho0 (below_size (bg HB GE646)))
      have n2_ := Aside0.mk (blk_below (g := gb646) (o := .cells #[.int .i64 t643, .string t644] 28 (0, 0)) (bk BK646) hb)
      have n3_ := bsg HB GE646 hb
      clear HO649
      clear BK646
      clear HB
      have HO649 := n0_
      have HO652 := n1_
      have BK646 := n2_
      have HB := n3_
      clear n0_ n1_ n2_ n3_
      (try clear hb)
      (try clear hb2)
      (try clear hk)
      (try clear hi)
      (try clear ho0)
      refine hK.out _ _ ⟨(blk_cell BK646.out 0).trans rfl, (blk_cell BK646.out 1).trans rfl⟩ (fun hHeld => ?_)
      clear hK K
      refine norm_ (a' := ?_) ?_ ?_
      rotate_left
      ·show Act.put _ (some 21) _ = _
       simp only [Act.put, List.setIfInBounds_toArray, List.set_cons_zero, List.set_cons_succ, i64_w, i32_w]
       rfl
      exact norm_ (by simp only [putAll, Act.put, List.setIfInBounds_toArray, List.set_cons_zero, List.set_cons_succ]) (hCont (v648, v651) _ ⟨hHeld, (rr HO649), (rr HO652), (bk BK646), (bg HB GE646)⟩)
     ·skip
      refine goes_ Try.func48 (by kernel_rfl) rfl #[.int .i64 a0] (by rfl) rfl rfl (by (try simp only [List.map_toArray, List.map_cons, List.map_nil]); first | done | rfl | (simp only [List.length_drop, List.length_take]; rfl)) ?_
      with_reducible refine (spec_l12Start.calls k a0 t650 _ A8.out).mono ?_
      rintro e w15 ⟨v651, rfl, ho0, hb⟩
      refine ⟨_, rfl, ?_⟩
      have n0_ := Aside0.mk (Kd.R_lower ho0 (below_size (bg HB GE646)))
      have n1_ := Aside0.mk (blk_below (g := gb646) (o := .cells #[.int .i64 t643, .string t644] 28 (0, 0)) (bk BK646) hb)
      have n2_ := bsg HB GE646 hb
      clear BK646
      clear HB
      have HO652 := n0_
      have BK646 := n1_
      have HB := n2_
      clear n0_ n1_ n2_
      (try clear hb)
      (try clear hb2)
      (try clear hk)
      (try clear hi)
      (try clear ho0)
      refine hK.out _ _ ⟨(blk_cell BK646.out 0).trans rfl, (blk_cell BK646.out 1).trans rfl⟩ (fun hHeld => ?_)
      clear hK K
      refine norm_ (a' := ?_) ?_ ?_
      rotate_left
      ·show Act.put _ (some 21) _ = _
       simp only [Act.put, List.setIfInBounds_toArray, List.set_cons_zero, List.set_cons_succ, i64_w, i32_w]
       rfl
      refine one_ (i := 4) (N := some 19) #[true, true, true, true, true, true, true, false, false] rfl rfl (one_of HT_.out (by kernel_rfl)) (by decide) (fun K hK => ?_)
      refine Kd.R_make_step Kd.bool _ 4 (by rfl) (N := 19) rfl 77 _ _ rfl ji5 rfl rfl Try.underlying77 (.bool false) 1 info4 rfl (by decide) (by omega) false (ok := fun _ => True) (okp := fun _ => True) rfl (fun _ hk => hk) trivial (of_decide_eq_true (by first | (with_reducible assumption) | assumption)) (Nat.le_trans (Nat.mul_le_mul_right _ (of_decide_eq_true (by first | (with_reducible assumption) | assumption) : ji5.toNat ≤ 281474976710656)) (by omega)) (Below.refl _ _) (Nat.le_refl _) ?_
      intro v648 w16 ho17 hb hg_ hnew_
      clear hg_ hnew_
      (first | rw [← Ny647.out] at ho17 | (simp only [Int.reduceToNat] at ho17; rw [← Ny647.out] at ho17))
      have n0_ := Aside0.mk (Kd.R_below (rr HO652) hb)
      have n1_ := Aside0.mk (Kd.R_lower ho17 (below_size (bg HB GE646)))
      have n2_ := Aside0.mk (blk_below (g := gb646) (o := .cells #[.int .i64 t643, .string t644] 28 (0, 0)) (bk BK646) hb)
      have n3_ := bsg HB GE646 hb
      clear HO652
      clear BK646
      clear HB
      have HO652 := n0_
      have HO649 := n1_
      have BK646 := n2_
      have HB := n3_
      clear n0_ n1_ n2_ n3_
      clear hb ho17
      refine hK.out _ _ ⟨(blk_cell BK646.out 0).trans rfl, (blk_cell BK646.out 1).trans rfl⟩ (fun hHeld => ?_)
      clear hK K
      refine norm_ (a' := ?_) ?_ ?_
      rotate_left
      ·show Act.put _ (some 19) _ = _
       simp only [Act.put, List.setIfInBounds_toArray, List.set_cons_zero, List.set_cons_succ, i64_w, i32_w]
       rfl
      exact norm_ (by simp only [putAll, Act.put, List.setIfInBounds_toArray, List.set_cons_zero, List.set_cons_succ]) (hCont (v648, v651) _ ⟨hHeld, (rr HO649), (rr HO652), (bk BK646), (bg HB GE646)⟩)
    rintro ⟨v648, v651⟩ w18 ⟨hS_, h0_, h1_, h2_, h3_⟩
    have n0_ : Aside0 (Kd.R Kd.bool 4 w18 w.heap.size (fun _ => True) v648 y647) := ⟨h0_⟩
    have n1_ : Aside0 (Kd.R (Kd.int .i64) 3 w18 w.heap.size (fun _ => True) v651 t650) := ⟨h1_⟩
    have n2_ : Aside0 (w18.heap[gb646]? = some (.cells #[.int .i64 t643, .string t644] 28 (0, 0))) := ⟨h2_⟩
    have n3_ : Aside0 (Below w.heap.size w w18) := ⟨h3_⟩
    clear BK646
    clear HB
    clear h0_ h1_ h2_ h3_
    have HO649 := n0_
    have HO652 := n1_
    have BK646 := n2_
    have HB := n3_
    clear n0_ n1_ n2_ n3_
    have hHeld : w18.cell? ⟨gb646, 0, none⟩ = some (.int .i64 t643) ∧ w18.cell? ⟨gb646, 1, none⟩ = some (.string t644) := hS_
    obtain ⟨Ao19, co19, eo19⟩ := Kd.R_slice HO649.out
    (first | subst eo19 | (injection eo19 with f1_ f2_ f3_; have f4_ := f1_.symm; have f5_ := f3_.symm; clear f1_ f2_ f3_; subst f4_; subst f5_))
    obtain ⟨Ao20, co20, eo20⟩ := Kd.R_slice HO652.out
    (first | subst eo20 | (injection eo20 with f1_ f2_ f3_; have f4_ := f1_.symm; have f5_ := f3_.symm; clear f1_ f2_ f3_; subst f4_; subst f5_))
    refine norm_ (a' := ?_) ?_ ?_
    rotate_left
    ·simp only [putAll, Act.put, List.setIfInBounds_toArray, List.set_cons_zero, List.set_cons_succ]
     rfl
    refine one_ (i := 7) (N := some 22) #[true, true, true, true, true, true, true, true, false] rfl rfl (one_of HT_.out (by kernel_rfl)) (by decide) (fun K hK => ?_)
    refine goes_ Try.func70 (by kernel_rfl) rfl #[.agg #[.int .i64 t643, .string t644], .slice Ao19 y647.length co19, .slice Ao20 t650.length co20] (by rfl) rfl rfl (by (try simp only [List.map_toArray, List.map_cons, List.map_nil]); first | done | rfl | (simp only [List.length_drop, List.length_take]; rfl)) ?_
    with_reducible refine (spec_l14Count.calls k t643 t644 (fun k_ => some k_ = (.slice Ao19 y647.length co19 : Value).ownBlock) (.slice Ao19 y647.length co19) y647 (fun k_ => some k_ = (.slice Ao20 t650.length co20 : Value).ownBlock) (.slice Ao20 t650.length co20) t650 t653 t654 t655 w _ ?side1 ?side2 ?side3 A9.out).mono ?_
    (case side1 => repeat (first | (with_reducible first | exact HB.out | apply below_alloc | apply pw_below_drewN | apply below_drew1 | refine below_set ?_ GE646.out) | exact HB.out))
    (case side2 => exact Kd.R_tight rfl HO649.out)
    (case side3 => exact Kd.R_tight rfl HO652.out)
    rintro e w21 ⟨rfl, hy0, hy1, hb, hkp⟩
    refine ⟨_, rfl, ?_⟩
    have n0_ := Aside0.mk (blk_kept (bk BK646) hkp (fun hs_ => Or.elim hs_ (fun e_ => (fun e_ => (Kd.R_ne HO649.out BK646.out (by decide)) e_) e_) (fun e_ => (fun e_ => (Kd.R_ne HO652.out BK646.out (by decide)) e_) e_)))
    have n1_ := Aside0.mk (Kd.R_reok rfl hy0 (fun k_ e_ => HO649.out.1 k_ e_))
    have n2_ := Aside0.mk (Kd.R_reok rfl hy1 (fun k_ e_ => HO652.out.1 k_ e_))
    have n3_ := Aside0.mk (hb)
    clear BK646
    clear HO649
    clear HO652
    clear HB
    have BK646 := n0_
    have HO649 := n1_
    have HO652 := n2_
    have HB := n3_
    clear n0_ n1_ n2_ n3_
    (try clear hb)
    (try clear hkp)
    (try clear hy0)
    (try clear hy1)
    refine hK.out _ _ ⟨(blk_cell BK646.out 0).trans rfl, (blk_cell BK646.out 1).trans rfl⟩ (fun hHeld => ?_)
    clear hK K
    refine norm_ (a' := ?_) ?_ ?_
    rotate_left
    ·show Act.put _ (some 22) _ = _
     simp only [Act.put, List.setIfInBounds_toArray, List.set_cons_zero, List.set_cons_succ, i64_w, i32_w]
     rfl
    refine pu 8 4 HT_ ?_
    refine done_ (done_of HT_.out (by kernel_rfl)) ?_
    try go_wp2
    go_ret
    exact ⟨by first | rfl | (simp [errW_none, errW_some] <;> rfl) | (simp only [← hji5]; first | rfl | (simp [errW_none, errW_some] <;> rfl)) | (simp [*, errW_none, errW_some] <;> rfl), (bg HB GE646)⟩
   ·rw [if_neg c7] at H
    exact absurd H (by simp)
  ·rw [if_neg c6] at H
   exact absurd H (by simp)
 ·replace c4 := Bool.eq_false_iff.mpr c4
  subst c4
  have H1 : (some (-1)) = some r := by rw [if_neg (show ¬ (false = true) by decide)] at H; exact H
  clear H
  have H := H1
  clear H1
  obtain rfl := Option.some.inj H
  go_enter Try.func42, Try.ntmps42
  go_wp2_with (first | ((with_reducible refine gate_callee (f := 18) rfl ?_); refine gL (some 10) rfl rfl Try.func18 (by kernel_rfl) rfl #[.int .i64 a0, .slice A1 l1.length c1] rfl ?_; (with_reducible refine (spec_SignsOfWiring.calls k a0 _ _ l1 t643 t644 false _ ?side1 ?side2 A3.out).mono ?_); (case side1 => repeat (first | exact HR1.out | (with_reducible refine Kd.C_alloc ?_ _) | (with_reducible refine Kd.C_drewN ?_ _) | (with_reducible refine Kd.C_drew ?_))); (case side2 => exact HC1.out); rintro e w22 ⟨rfl, hb⟩; refine ⟨_, rfl, ?_⟩; have n0_ := bs HB hb; clear HB; have HB := n0_; clear n0_; (try clear hb); (try clear hb2); (try clear hk); (try clear hi)) | ((with_reducible refine gate_dst (N := 5) rfl ?_); refine bx 5 #[.int .i64 0, .string (⟨#[]⟩ : ByteArray)] 28 ?_; intro gb646 hg w23 hbox hb; have BK646 := Aside0.mk hbox; have GE646 := gs HB hg; have GW646 := GE646; replace HB := bs HB hb; clear hb hbox hg; have hcz24_0 := bc BK646 0; have hcz24_1 := bc BK646 1; have hfz24_0 := bf BK646 0; have hfz24_1 := bf BK646 1))
  go_ret
  exact ⟨by first | rfl | (simp [errW_none, errW_some] <;> rfl) | (simp [*, errW_none, errW_some] <;> rfl), (bg HB GE646)⟩

/-! ### laws_FnExactCountCommuting: function 12 -/
def laws_FnExactCountCommuting.f (k : Nat) (a0 : Int) (l1 : List Int) : Option (Bool) := if (l1.length : Int) > 1048576 then (some true) else ((laws_toIntS.f k l1).bind fun t656 => ((spec_CountCommuting.f k a0 t656).bind fun t659 => ((laws_toIntS.f k l1).bind fun t660 => ((impl_CountCommuting.f k a0 t660).bind fun t663 => (if t663 = t659 then ((laws_toIntS.f k l1).bind fun t664 => ((laws_eqIntS.f k t660 t664).bind fun t667 => (if t667 = true then (some true) else (some false)))) else (some false))))))
theorem laws_FnExactCountCommuting.mono : ∀ a0 a1 k, LeO (laws_FnExactCountCommuting.f k a0 a1) (laws_FnExactCountCommuting.f (k + 1) a0 a1) := by
 intro a0 a1 k
 unfold laws_FnExactCountCommuting.f
 repeat' first
   | (with_reducible exact impl_CountCommuting.mono _ _ _)
   | (with_reducible exact laws_eqIntS.mono _ _ _)
   | (with_reducible exact laws_toIntS.mono _ _)
   | (with_reducible exact spec_CountCommuting.mono _ _ _)
   | (with_reducible exact LeO.refl _)
   | (with_reducible exact LeO.none _)
   | (with_reducible refine LeO.ite ?_ ?_)
   | (with_reducible refine LeO.bind ?_ (fun _ => ?_))
   | exact impl_CountCommuting.mono _ _ _
   | exact laws_eqIntS.mono _ _ _
   | exact laws_toIntS.mono _ _
   | exact spec_CountCommuting.mono _ _ _
   | exact LeO.none _
   | refine LeO.ite ?_ ?_
   | refine LeO.bind ?_ (fun _ => ?_)
set_option maxHeartbeats 8000000 in
set_option maxRecDepth 100000 in
theorem laws_FnExactCountCommuting.calls (k : Nat) (a0 : Int) (A1 : Option Addr) (c1 : Nat) (l1 : List Int) (w : World) (hr1 : Kd.C (Kd.int .i64) w A1 l1.length l1) (hc1 : l1.length ≤ c1) (h : laws_FnExactCountCommuting.f k a0 l1 = some true) :
  Calls Try.prog 12 #[.int .i64 a0, .slice A1 l1.length c1] w fun e w' => e = .returned (.bool true) ∧ Below w.heap.size w w' := by
 have HR1 := Aside0.mk hr1
 have HC1 := Aside0.mk hc1
 clear hr1 hc1
 have HB := Aside0.mk (Below.refl w.heap.size w)
 have H : (if (l1.length : Int) > 1048576 then (some true) else ((laws_toIntS.f k l1).bind fun t656 => ((spec_CountCommuting.f k a0 t656).bind fun t659 => ((laws_toIntS.f k l1).bind fun t660 => ((impl_CountCommuting.f k a0 t660).bind fun t663 => (if t663 = t659 then ((laws_toIntS.f k l1).bind fun t664 => ((laws_eqIntS.f k t660 t664).bind fun t667 => (if t667 = true then (some true) else (some false)))) else (some false))))))) = some true := h
 clear h
 by_cases c3 : (l1.length : Int) > 1048576
 ·rw [if_pos c3] at H
  have c3b0 : decide (1048576 < (l1.length : Int)) = true := decide_eq_true c3
  have c3b1 : decide (1048576 < l1.length) = true := decide_eq_true (by omega)
  clear c3
  clear H
  go_enter Try.func12, Try.ntmps12
  go_wp2
  go_ret
  exact ⟨by first | rfl | (simp [errW_none, errW_some] <;> rfl) | (simp [*, errW_none, errW_some] <;> rfl), (bl HB)⟩
 ·rw [if_neg c3] at H
  have c3b0 : decide (1048576 < (l1.length : Int)) = false := decide_eq_false c3
  have c3b1 : decide (1048576 < l1.length) = false := decide_eq_false (by omega)
  clear c3
  replace H := Option.bind_eq_some_iff.mp H
  obtain ⟨t656, A40, H⟩ := H
  (try dsimp only at H)
  have A4 := Aside0.mk A40
  clear A40
  replace H := Option.bind_eq_some_iff.mp H
  obtain ⟨t659, A50, H⟩ := H
  (try dsimp only at H)
  have A5 := Aside0.mk A50
  clear A50
  replace H := Option.bind_eq_some_iff.mp H
  obtain ⟨t660, A60, H⟩ := H
  (try dsimp only at H)
  have A6 := Aside0.mk A60
  clear A60
  replace H := Option.bind_eq_some_iff.mp H
  obtain ⟨t663, A70, H⟩ := H
  (try dsimp only at H)
  have A7 := Aside0.mk A70
  clear A70
  by_cases c8 : t663 = t659
  ·rw [if_pos c8] at H
   have c8b0 : (t663 == t659) = true := beq_iff_eq.mpr c8
   have c8b1 : (t663 != t659) = false := bne_eq_false_iff_eq.mpr c8
   clear c8
   replace H := Option.bind_eq_some_iff.mp H
   obtain ⟨t664, A90, H⟩ := H
   (try dsimp only at H)
   have A9 := Aside0.mk A90
   clear A90
   replace H := Option.bind_eq_some_iff.mp H
   obtain ⟨t667, A100, H⟩ := H
   (try dsimp only at H)
   have A10 := Aside0.mk A100
   clear A100
   by_cases c11 : t667 = true
   ·subst c11
    have H1 : (some true) = some true := rfl
    clear H
    have H := H1
    clear H1
    clear H
    go_enter Try.func12, Try.ntmps12
    go_wp2_with (first | ((with_reducible refine gate_callee (f := 15) rfl ?_); refine gL (some 13) rfl rfl Try.func15 (by kernel_rfl) rfl #[.slice A1 l1.length c1] rfl ?_; (with_reducible refine (laws_toIntS.calls k _ _ l1 t656 _ ?side1 ?side2 A4.out).mono ?_); (case side1 => repeat (first | exact HR1.out | (with_reducible refine Kd.C_alloc ?_ _) | (with_reducible refine Kd.C_drewN ?_ _) | (with_reducible refine Kd.C_drew ?_))); (case side2 => exact HC1.out); rintro e w12 ⟨v657, rfl, ho0, hb⟩; refine ⟨_, rfl, ?_⟩; have n0_ := Aside0.mk (Kd.R_lower ho0 (below_size (bl HB))); have n1_ := bs HB hb; clear HB; have HO658 := n0_; have HB := n1_; clear n0_ n1_; (try clear hb); (try clear hb2); (try clear hk); (try clear hi); (try clear ho0); obtain ⟨Ao13, co13, eo13⟩ := Kd.R_slice HO658.out; subst eo13) | ((with_reducible refine gate_callee (f := 42) rfl ?_); refine gL (some 14) rfl rfl Try.func42 (by kernel_rfl) rfl #[.int .i64 a0, .slice Ao13 t656.length co13] rfl ?_; (with_reducible refine (spec_CountCommuting.calls k a0 _ _ t656 t659 _ ?side1 ?side2 A5.out).mono ?_); (case side1 => repeat (first | exact (Kd.R_reads' HO658.out).2.2 | (with_reducible refine Kd.C_alloc ?_ _) | (with_reducible refine Kd.C_drewN ?_ _) | (with_reducible refine Kd.C_drew ?_))); (case side2 => exact (Kd.R_reads' HO658.out).2.1); rintro e w14 ⟨rfl, hb⟩; refine ⟨_, rfl, ?_⟩; have n0_ := Aside0.mk (Kd.R_below (rr HO658) hb); have n1_ := bs HB hb; clear HO658; clear HB; have HO658 := n0_; have HB := n1_; clear n0_ n1_; (try clear hb); (try clear hb2); (try clear hk); (try clear hi)) | ((with_reducible refine gate_callee (f := 15) rfl ?_); refine gL (some 16) rfl rfl Try.func15 (by kernel_rfl) rfl #[.slice A1 l1.length c1] rfl ?_; (with_reducible refine (laws_toIntS.calls k _ _ l1 t660 _ ?side1 ?side2 A6.out).mono ?_); (case side1 => repeat (first | exact (Kd.C_below HR1.out HB.out) | (with_reducible refine Kd.C_alloc ?_ _) | (with_reducible refine Kd.C_drewN ?_ _) | (with_reducible refine Kd.C_drew ?_))); (case side2 => exact HC1.out); rintro e w15 ⟨v661, rfl, ho0, hb⟩; refine ⟨_, rfl, ?_⟩; have n0_ := Aside0.mk (Kd.R_elder' (rr HO658) (Kd.R_base ho0) hb); have n1_ := Aside0.mk (Kd.R_lower (Kd.R_new' ho0 (Kd.R_lt (rr HO658))) (below_size (bl HB))); have n2_ := bs HB hb; clear HO658; clear HB; have HO658 := n0_; have HO662 := n1_; have HB := n2_; clear n0_ n1_ n2_; (try clear hb); (try clear hb2); (try clear hk); (try clear hi); (try clear ho0); obtain ⟨Ao16, co16, eo16⟩ := Kd.R_slice HO662.out; subst eo16) | ((with_reducible refine gate_callee (f := 43) rfl ?_); refine gL (some 19) rfl rfl Try.func43 (by kernel_rfl) rfl #[.int .i64 a0, .slice Ao16 t660.length co16] rfl ?_; (with_reducible refine (impl_CountCommuting.calls k a0 _ _ t660 t663 _ ?side1 ?side2 A7.out).mono ?_); (case side1 => repeat (first | exact (Kd.R_reads' HO662.out).2.2 | (with_reducible refine Kd.C_alloc ?_ _) | (with_reducible refine Kd.C_drewN ?_ _) | (with_reducible refine Kd.C_drew ?_))); (case side2 => exact (Kd.R_reads' HO662.out).2.1); rintro e w17 ⟨rfl, hb⟩; refine ⟨_, rfl, ?_⟩; have n0_ := Aside0.mk (Kd.R_below (rr HO658) hb); have n1_ := Aside0.mk (Kd.R_below (rr HO662) hb); have n2_ := bs HB hb; clear HO658; clear HO662; clear HB; have HO658 := n0_; have HO662 := n1_; have HB := n2_; clear n0_ n1_ n2_; (try clear hb); (try clear hb2); (try clear hk); (try clear hi)) | ((with_reducible refine gate_callee (f := 15) rfl ?_); refine gL (some 25) rfl rfl Try.func15 (by kernel_rfl) rfl #[.slice A1 l1.length c1] rfl ?_; (with_reducible refine (laws_toIntS.calls k _ _ l1 t664 _ ?side1 ?side2 A9.out).mono ?_); (case side1 => repeat (first | exact (Kd.C_below HR1.out HB.out) | (with_reducible refine Kd.C_alloc ?_ _) | (with_reducible refine Kd.C_drewN ?_ _) | (with_reducible refine Kd.C_drew ?_))); (case side2 => exact HC1.out); rintro e w18 ⟨v665, rfl, ho0, hb⟩; refine ⟨_, rfl, ?_⟩; have n0_ := Aside0.mk (Kd.R_elder' (rr HO658) (Kd.R_base ho0) hb); have n1_ := Aside0.mk (Kd.R_elder' (rr HO662) (Kd.R_base ho0) hb); have n2_ := Aside0.mk (Kd.R_lower (Kd.R_new' (Kd.R_new' ho0 (Kd.R_lt (rr HO658))) (Kd.R_lt (rr HO662))) (below_size (bl HB))); have n3_ := bs HB hb; clear HO658; clear HO662; clear HB; have HO658 := n0_; have HO662 := n1_; have HO666 := n2_; have HB := n3_; clear n0_ n1_ n2_ n3_; (try clear hb); (try clear hb2); (try clear hk); (try clear hi); (try clear ho0); obtain ⟨Ao19, co19, eo19⟩ := Kd.R_slice HO666.out; subst eo19) | ((with_reducible refine gate_callee (f := 17) rfl ?_); refine gL (some 26) rfl rfl Try.func17 (by kernel_rfl) rfl #[.slice Ao16 t660.length co16, .slice Ao19 t664.length co19] rfl ?_; (with_reducible refine (laws_eqIntS.calls k _ _ t660 _ _ t664 true _ ?side1 ?side2 ?side3 ?side4 A10.out).mono ?_); (case side1 => repeat (first | exact (Kd.R_reads' HO662.out).2.2 | (with_reducible refine Kd.C_alloc ?_ _) | (with_reducible refine Kd.C_drewN ?_ _) | (with_reducible refine Kd.C_drew ?_))); (case side2 => exact (Kd.R_reads' HO662.out).2.1); (case side3 => repeat (first | exact (Kd.R_reads' HO666.out).2.2 | (with_reducible refine Kd.C_alloc ?_ _) | (with_reducible refine Kd.C_drewN ?_ _) | (with_reducible refine Kd.C_drew ?_))); (case side4 => exact (Kd.R_reads' HO666.out).2.1); rintro e w' ⟨rfl, ⟨nd, rfl⟩⟩; refine ⟨_, rfl, ?_⟩))
    go_ret
    exact ⟨by first | rfl | (simp [errW_none, errW_some] <;> rfl) | (simp [*, errW_none, errW_some] <;> rfl), (bl HB)⟩
   ·replace c11 := Bool.eq_false_iff.mpr c11
    subst c11
    have H1 : (some false) = some true := by rw [if_neg (show ¬ (false = true) by decide)] at H; exact H
    clear H
    have H := H1
    clear H1
    exact absurd H (by simp)
  ·rw [if_neg c8] at H
   have c8b0 : (t663 == t659) = false := beq_eq_false_iff_ne.mpr c8
   have c8b1 : (t663 != t659) = true := bne_iff_ne.mpr c8
   exact absurd H (by simp)

/-- THE ONE PURE STATEMENT of laws_FnExactCountCommuting: yours. -/
def laws_FnExactCountCommuting.Pure : Prop := ∀ (a0 : Int) (l1 : List Int), (Lit.int .i64 a0).wf = true → l1.length ≤ maxLen → l1.length * 8 ≤ 140737488351232 → (∀ x ∈ l1, (Lit.int .i64 x).wf = true) → ∃ k, laws_FnExactCountCommuting.f k a0 l1 = some true
theorem laws_FnExactCountCommuting.walk (P : laws_FnExactCountCommuting.Pure) (a0 : Int) (a1 : Option Addr) (len1 cap1 : Nat) (z1 : List Int) (w : World) (w0 : (Lit.int .i64 a0).wf = true) (w1 : (a1 = none ∧ len1 = 0 ∧ cap1 = 0 ∧ z1 = []) ∨ ∃ x, a1 = some x ∧ len1 ≤ cap1 ∧ cap1 ≤ maxLen ∧ z1.length = cap1 ∧ (∀ i, i < z1.length → w.cell? (x.add i) = some (.int .i64 (z1.getD i 0))) ∧ ∀ n ∈ z1, (Lit.int .i64 n).wf = true) (y1 : len1 * 8 ≤ 140737488351232) :
  Calls Try.prog 12 #[.int .i64 a0, .slice a1 len1 cap1] w fun e w' => e = .returned (.bool true) ∧ Below w.heap.size w w' := by
 obtain ⟨l1, rfl, hr1, hm1, hw1, hc1⟩ := ReadsInt.ofRowC w1
 obtain ⟨k, h⟩ := P a0 l1 w0 hm1 y1 hw1
 refine (laws_FnExactCountCommuting.calls k a0 _ _ l1 w (Kd.C_of_reads (d := (0 : Int)) (h1 := fun _ => rfl) hr1) hc1 h).mono ?_
 rintro e w' ⟨rfl, hd⟩
 exact ⟨rfl, hd⟩

end Go.Proofs.Ythibphndihjcaaa.P
