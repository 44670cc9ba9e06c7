/- impl.run over a list whose exchanges can all be done, with a closure that keeps what it is told to keep: what a call of it computes. Conditions: what the closure does. (The walk began as a text of print.sh.) -/
import Derived.Test.YtmidcafamppkeaaDoorWAll2
import Derived.Test.YtmidcafamppkeaaDoorP0
import Derived.Test.YtmidcafamppkeaaDoorP4
namespace Go.Proofs.YtmidcafamppkeaaDoor.P
open Go.RowKit Go.Proofs.YtmidcafamppkeaaDoorW.PrintWords Go.Proofs.YtmidcafamppkeaaDoorW.PrintLast Go.Proofs.YtmidcafamppkeaaDoorW.PrintMore
attribute [local go_sem] max2_int min2_int max_two min_two max_three min_three max_four min_four
set_option linter.unusedVariables false
set_option linter.unusedSimpArgs false

/-- What is asked of the closure at one exchange. -/
def runS.Asks (cap : Value) (l1 : List Int) (W0 : World) (Inv : Value → World → List Int → Int → Prop) : Prop :=
  ∀ (g c : Nat) (W : World) (x : List Int) (i j : Int), wrap64 (rd l1 i + 1) = j → 0 ≤ i → i < (l1.length : Int) → 0 ≤ rd l1 i → rd l1 i < (x.length : Int) → 0 ≤ j → j < (x.length : Int) → ¬ (rd x (rd l1 i) > rd x j) →
    Inv (.slice (some ⟨g, 0, none⟩) x.length c) W x i → Kd.R (Kd.int .i64) 3 W W0.heap.size (fun _ => True) (.slice (some ⟨g, 0, none⟩) x.length c) x → Below W0.heap.size W0 W →
    Calls Tryd.prog 49 #[.slice (some ⟨g, 0, none⟩) x.length c, .int .i64 (rd l1 i), cap] W fun e W' => e = .returned (.tuple #[]) ∧ Inv (.slice (some ⟨g, 0, none⟩) x.length c) W' ((x.set (rd l1 i).toNat (rd x j)).set j.toNat (rd x (rd l1 i))) (wrap64 (i + 1)) ∧ Kd.R (Kd.int .i64) 3 W' W0.heap.size (fun _ => True) (.slice (some ⟨g, 0, none⟩) x.length c) x ∧ Below W0.heap.size W0 W'
set_option maxHeartbeats 8000000 in
set_option maxRecDepth 100000 in
theorem runS.calls (k : Nat) (a0 : Int) (cap : Value) (A1 : Option Addr) (c1 : Nat) (l1 : List Int) (W0 w : World) (Inv : Value → World → List Int → Int → Prop)
    (hd : ∀ v W x i, Inv v W x i → Inv v W.drew x i)
    (hs : ∀ g n c W x i o u, Inv (.slice (some ⟨g, 0, none⟩) n c) W x i → Inv (.slice (some ⟨g, 0, none⟩) n c) (W.setCell ⟨g, o, none⟩ u) x i)
    (h0 : ∀ v W x, impl_upTo.f k a0 = some x → Kd.R (Kd.int .i64) 3 W w.heap.size (fun _ => True) v x → Below w.heap.size w W → Inv v W x 0)
    (hcl : runS.Asks cap l1 W0 Inv)
    (hb : Below W0.heap.size W0 w) (hr1 : Kd.C (Kd.int .i64) W0 A1 l1.length l1) (hc1 : l1.length ≤ c1) (h : impl_run.f k a0 l1 = some true) :
    Calls Tryd.prog 30 #[.int .i64 a0, .slice A1 l1.length c1, .func (.func 49) #[] #[cap]] w fun e w' => e = .returned (.bool true) ∧ (∃ v x i, Inv v w' x i ∧ ¬ (i < (l1.length : Int))) ∧ Below W0.heap.size W0 w' := by
  have HR1 := Aside0.mk hr1
  have HC1 := Aside0.mk hc1
  have HD := Aside0.mk hd
  have HS := Aside0.mk hs
  have H0 := Aside0.mk h0
  have HF := Aside0.mk hcl
  have HB := Aside0.mk hb
  clear hr1 hc1 hd hs h0 hcl hb
  have H : ((impl_upTo.f k a0).bind fun t166 => (impl_run.l0 k a0 t166 l1 (l1.length : Int) 0)) = some true := h
  clear h
  replace H := Option.bind_eq_some_iff.mp H
  obtain ⟨t166, A30, H⟩ := H
  (try dsimp only at H)
  have A3 := Aside0.mk A30
  clear A30
  have H' := Aside0.mk H
  clear H
  go_enter Tryd.func30, Tryd.ntmps30
  go_wp2_with (first | (go_at_call 37; (with_reducible refine (impl_upTo.calls k a0 t166 _ A3.out).mono ?_); rintro e w4 ⟨v167, rfl, ho0, hb⟩; have HI := Aside0.mk (H0.out _ _ _ A3.out ho0 hb); have HO168 := Aside0.mk (Kd.R_lower ho0 (below_size HB.out)); have n1_ := bs HB hb; clear HB; have HB := n1_; clear n1_ hb ho0))
  go_loopg [14] k (fun kq v14 w' => ∃ (x7_1 : List Int) (x14_1 : Int), v14 = .int .i64 x14_1 ∧ Aside0 (impl_run.l0 kq a0 x7_1 l1 (l1.length : Int) x14_1 = some true) ∧ Aside0 (kq ≤ k) ∧ Aside0 (Kd.R (Kd.int .i64) 3 w' W0.heap.size (fun _ => True) v167 x7_1) ∧ Aside0 (Below W0.heap.size W0 w') ∧ Aside0 (Inv v167 w' x7_1 x14_1))
  case atStart => exact ⟨t166, 0, rfl, H', ⟨Nat.le_refl _⟩, HO168, HB, HI⟩
  case round =>
    clear H' HI HO168 HB
    try clear c1
    obtain ⟨x7_1, x14_1, rfl, HA, HK1, HO_7, HB, HI⟩ := hrel
    cases gk with
    | zero => exact absurd HA.out (by simp [impl_run.l0])
    | succ k1 =>
      have H := HA.out
      clear HA
      simp only [impl_run.l0] at H
      by_cases c5 : x14_1 < (l1.length : Int)
      · rw [if_pos c5] at H
        have c5b0 : decide (x14_1 < (l1.length : Int)) = true := decide_eq_true c5
        by_cases c6 : 0 ≤ x14_1
        · rw [if_pos c6, if_pos c5] at H
          have c6b0 : decide (0 ≤ x14_1) = true := decide_eq_true c6
          by_cases c8 : (rd l1 x14_1) < 0
          · rw [if_pos c8] at H
            exact absurd H (by simp)
          · rw [if_neg c8] at H
            have c8b0 : decide ((rd l1 x14_1) < 0) = false := decide_eq_false c8
            by_cases c10 : (rd l1 x14_1) > (wrap64 (a0 - 2))
            · rw [if_pos c10] at H
              exact absurd H (by simp)
            · rw [if_neg c10] at H
              have c10b0 : decide ((wrap64 (a0 - 2)) < (rd l1 x14_1)) = false := decide_eq_false c10
              have c11 : 0 ≤ (rd l1 x14_1) := by omega
              rw [if_pos c11] at H
              have c11b0 : decide (0 ≤ (rd l1 x14_1)) = true := decide_eq_true c11
              by_cases c12 : (rd l1 x14_1) < (x7_1.length : Int)
              · rw [if_pos c12] at H
                have c12b0 : decide ((rd l1 x14_1) < (x7_1.length : Int)) = true := decide_eq_true c12
                obtain ⟨ji14, hji14⟩ : ∃ j_ : Int, (wrap64 ((rd l1 x14_1) + 1)) = j_ := ⟨_, rfl⟩
                simp only [hji14] at H
                have hji14w : (IntKind.i64.wrap ((rd l1 x14_1) + 1)) = ji14 := (i64_w _).trans hji14
                by_cases c15 : 0 ≤ (ji14)
                · rw [if_pos c15] at H
                  have c15b0 : decide (0 ≤ (ji14)) = true := decide_eq_true c15
                  by_cases c16 : (ji14) < (x7_1.length : Int)
                  · rw [if_pos c16] at H
                    have c16b0 : decide ((ji14) < (x7_1.length : Int)) = true := decide_eq_true c16
                    by_cases c17 : (rd x7_1 (rd l1 x14_1)) > (rd x7_1 (ji14))
                    · rw [if_pos c17] at H
                      exact absurd H (by simp)
                    · rw [if_neg c17] at H
                      have c17b0 : decide ((rd x7_1 (ji14)) < (rd x7_1 (rd l1 x14_1))) = false := decide_eq_false c17
                      obtain ⟨y174, hy174⟩ : ∃ y_ : List Int, y_ = (x7_1.set ((rd l1 x14_1) : Int).toNat (rd x7_1 (ji14))) := ⟨_, rfl⟩
                      rw [← hy174] at H
                      obtain ⟨y175, hy175⟩ : ∃ y_ : List Int, y_ = (y174.set ((ji14) : Int).toNat (rd x7_1 (rd l1 x14_1))) := ⟨_, rfl⟩
                      rw [← hy175] at H
                      obtain ⟨Ao23, co23, eo23⟩ := Kd.R_slice HO_7.out
                      subst eo23
                      obtain ⟨go20, co20, eo20, gb20, gl20, cl20, HG20⟩ := Kd.R_form HO_7.out (by omega)
                      cases eo20
                      have HASK := Aside0.mk (fun (W : World) (hi : Inv (.slice (some ⟨go20, 0, none⟩) x7_1.length co23) W x7_1 x14_1) (hr : Kd.R (Kd.int .i64) 3 W W0.heap.size (fun _ => True) (.slice (some ⟨go20, 0, none⟩) x7_1.length co23) x7_1) (hb : Below W0.heap.size W0 W) => HF.out go20 co23 W x7_1 x14_1 ji14 hji14 c6 c5 c11 c12 c15 c16 c17 hi hr hb)
                      rw [← hy174, ← hy175] at HASK
                      have Ny174 := Aside0.mk hy174
                      have Ny175 := Aside0.mk hy175
                      have H' := Aside0.mk H
                      clear H hy174 hy175 c5 c6 c8 c10 c11 c12 c15 c16 c17 hji14
                      have p169 : 0 ≤ (x14_1 : Int) := of_decide_eq_true (by assumption)
                      have q169 : x14_1 < (l1.length : Int) := of_decide_eq_true (by assumption)
                      obtain ⟨ad169, e169, hx169_0⟩ := Kd.at_int HR1.out x14_1 p169 q169
                      cases e169
                      replace hx169_0 := (HB.out.cell (World.block_lt_of_cell? W0 _ hx169_0)).trans hx169_0
                      replace p169 := eq_true p169
                      replace q169 := eq_true q169
                      try go_wp2
                      (try (go_end0; (try go_wp2)))
                      have n0_ := Aside0.mk (Kd.R_drew HO_7.out)
                      have n1_ := Aside0.mk (below_drew1 HB.out)
                      have n2_ := Aside0.mk (HD.out _ _ _ _ HI.out)
                      clear HO_7 HB HI
                      have HO_7 := n0_
                      have HB := n1_
                      have HI := n2_
                      clear n0_ n1_ n2_
                      have p170 : 0 ≤ ((rd l1 x14_1) : Int) := of_decide_eq_true (by assumption)
                      have q170 : (rd l1 x14_1) < (x7_1.length : Int) := of_decide_eq_true (by assumption)
                      obtain ⟨ad170, e170, hx170_0⟩ := Kd.at_int (Kd.R_reads' HO_7.out).2.2 (rd l1 x14_1) p170 q170
                      cases e170
                      replace p170 := eq_true p170
                      replace q170 := eq_true q170
                      have p171 : 0 ≤ ((ji14) : Int) := of_decide_eq_true (by assumption)
                      have q171 : (ji14) < (x7_1.length : Int) := of_decide_eq_true (by assumption)
                      obtain ⟨ad171, e171, hx171_0⟩ := Kd.at_int (Kd.R_reads' HO_7.out).2.2 (ji14) p171 q171
                      cases e171
                      replace p171 := eq_true p171
                      replace q171 := eq_true q171
                      simp only [add_plain] at hx170_0 hx171_0
                      refine start_ (n := 20) (S := fun w' => w'.cell? ⟨go20, ((rd l1 x14_1)).toNat, none⟩ = some (.int .i64 (rd x7_1 (rd l1 x14_1))) ∧ w'.cell? ⟨go20, ((ji14)).toNat, none⟩ = some (.int .i64 (rd x7_1 (ji14)))) (ds := []) #[false, false, false, false, false, false, false, false, false, false, false, false, false, false, false, false, false, false, false, false] (by kernel_rfl) rfl rfl ⟨hx170_0, hx171_0⟩ (fun hHeld => ?_); refine with_tabW impl_run.tab5 impl_run.bits5 (fun HT_ HW_ => ?_)
                      generalize wr.drew = w22 at HO_7 HB HI hx170_0 hx171_0 hHeld ⊢
                      refine pu 0 18 HT_ ?_
                      refine pu 1 19 HT_ ?_
                      refine pu 2 20 HT_ ?_
                      refine pu 3 21 HT_ ?_
                      refine pu 4 22 HT_ ?_
                      refine pu 5 23 HT_ ?_
                      refine pu 6 24 HT_ ?_
                      refine pu 7 25 HT_ ?_
                      refine pu 8 26 HT_ ?_
                      refine pu 9 27 HT_ ?_
                      refine pu 10 28 HT_ ?_
                      refine pu 11 29 HT_ ?_
                      refine pu 13 31 HT_ ?_
                      refine pu 14 32 HT_ ?_
                      refine pu 15 33 HT_ ?_
                      refine pu 16 34 HT_ ?_
                      refine take_ (i := 12) (N := some 30) (v := ?_) (a' := ?_) #[true, true, true, true, true, true, true, true, true, true, true, true, true, true, true, true, true, false, false, false] rfl rfl (take_ofW HT_.out HW_.out (by kernel_rfl)) (fun _ _ _ h => h) (Or.inl ⟨by rfl, ?_⟩) hHeld ?_ ?_
                      rotate_left
                      · rintro w' ⟨s0, s1⟩
                        go_simp
                        with_reducible rfl
                      rotate_left
                      · simp only [Act.put, List.setIfInBounds_toArray, List.set_cons_zero, List.set_cons_succ, i64_w, i32_w]
                        rfl
                      refine take_ (i := 17) (N := some 35) (v := ?_) (a' := ?_) #[true, true, true, true, true, true, true, true, true, true, true, true, true, true, true, true, true, true, false, false] rfl rfl (take_ofW HT_.out HW_.out (by kernel_rfl)) (fun _ _ _ h => h) (Or.inl ⟨by rfl, ?_⟩) hHeld ?_ ?_
                      rotate_left
                      · rintro w' ⟨s0, s1⟩
                        go_simp
                        with_reducible rfl
                      rotate_left
                      · simp only [Act.put, List.setIfInBounds_toArray, List.set_cons_zero, List.set_cons_succ, i64_w, i32_w]
                        rfl
                      refine pu 18 36 HT_ ?_
                      refine pu 19 37 HT_ ?_
                      refine done_ (done_of HT_.out (by kernel_rfl)) ?_
                      go_wp2_with (first | (go_at_call 49; refine (HASK.out _ HI.out HO_7.out HB.out).mono ?_; clear HO_7 HB HI hHeld hx170_0 hx171_0; rintro e w23 ⟨rfl, hi, hr, hb⟩; have HI := Aside0.mk hi; have HO_7 := Aside0.mk hr; have HB := Aside0.mk hb; clear hi hr hb))
                      have n0_ := Aside0.mk (Kd.R_drew HO_7.out)
                      have n1_ := Aside0.mk (below_drew1 HB.out)
                      have n2_ := Aside0.mk (HD.out _ _ _ _ HI.out)
                      clear HO_7 HB HI
                      have HO_7 := n0_
                      have HB := n1_
                      have HI := n2_
                      clear n0_ n1_ n2_
                      obtain ⟨ad172, e172, hx172_0⟩ := Kd.at_int (Kd.R_reads' HO_7.out).2.2 (ji14) (of_decide_eq_true (by assumption)) (of_decide_eq_true (by assumption))
                      cases e172
                      obtain ⟨ad173, e173, hx173_0⟩ := Kd.at_int (Kd.R_reads' HO_7.out).2.2 (rd l1 x14_1) (of_decide_eq_true (by assumption)) (of_decide_eq_true (by assumption))
                      cases e173
                      have GB20 := Aside0.mk gb20
                      clear gb20 gl20 HG20
                      simp only [add_plain] at hx172_0 hx173_0
                      obtain ⟨hx20_0, hf20_0⟩ := Kd.R_celln 0 HO_7.out ((rd l1 x14_1) : Int) (of_decide_eq_true (by assumption)) (of_decide_eq_true (by assumption))
                      have HP25 := Kd.R_putn HO_7.out ((rd l1 x14_1) : Int) (rd x7_1 (ji14))
                      rw [← Ny174.out] at HP25
                      have HQ25 := Aside0.mk HP25
                      clear HP25
                      obtain ⟨hx21_0, hf21_0⟩ := Kd.R_celln 0 HQ25.out ((ji14) : Int) (of_decide_eq_true (by assumption)) (of_decide_eq_true (by assumption))
                      have HP26 := Kd.R_putn HQ25.out ((ji14) : Int) (rd x7_1 (rd l1 x14_1))
                      rw [← Ny175.out] at HP26
                      have HQ26 := Aside0.mk HP26
                      clear HP26
                      have HI2 := Aside0.mk (HS.out _ _ _ _ _ _ (ji14).toNat (.int .i64 (rd x7_1 (rd l1 x14_1))) (HS.out _ _ _ _ _ _ (rd l1 x14_1).toNat (.int .i64 (rd x7_1 (ji14))) HI.out))
                      clear HI
                      refine start_ (n := 18) (S := fun w' => w'.cell? ⟨go20, ((ji14)).toNat, none⟩ = some (.int .i64 (rd x7_1 (ji14))) ∧ w'.cell? ⟨go20, ((rd l1 x14_1)).toNat, none⟩ = some (.int .i64 (rd x7_1 (rd l1 x14_1)))) (ds := [15, 17]) #[false, false, false, false, false, false, false, false, false, false, false, false, false, false, false, false, false, false] (by kernel_rfl) rfl rfl ⟨hx172_0, hx173_0⟩ (fun hHeld => ?_); refine with_tabW impl_run.tab8 impl_run.bits8 (fun HT_ HW_ => ?_)
                      generalize w23.drew = w24 at HO_7 HB HI2 HQ25 HQ26 hf20_0 hf21_0 hx172_0 hx173_0 hx20_0 hx21_0 hHeld ⊢
                      refine pu 0 42 HT_ ?_
                      refine pu 1 43 HT_ ?_
                      refine pu 2 44 HT_ ?_
                      refine pu 3 45 HT_ ?_
                      refine pu 4 46 HT_ ?_
                      refine pu 5 47 HT_ ?_
                      refine pu 6 48 HT_ ?_
                      refine pu 7 49 HT_ ?_
                      refine pu 8 50 HT_ ?_
                      refine pu 10 52 HT_ ?_
                      refine pu 11 53 HT_ ?_
                      refine pu 12 54 HT_ ?_
                      refine take_ (i := 9) (N := some 51) (v := ?_) (a' := ?_) #[true, true, true, true, true, true, true, true, true, true, true, true, true, false, false, false, false, false] rfl rfl (take_ofW HT_.out HW_.out (by kernel_rfl)) (fun _ _ _ h => h) (Or.inl ⟨by rfl, ?_⟩) hHeld ?_ ?_
                      rotate_left
                      · rintro w' ⟨s0, s1⟩
                        go_simp
                        with_reducible rfl
                      rotate_left
                      · simp only [Act.put, List.setIfInBounds_toArray, List.set_cons_zero, List.set_cons_succ, i64_w, i32_w]
                        rfl
                      refine take_ (i := 13) (N := some 55) (v := ?_) (a' := ?_) #[true, true, true, true, true, true, true, true, true, true, true, true, true, true, false, false, false, false] rfl rfl (take_ofW HT_.out HW_.out (by kernel_rfl)) (fun _ _ _ h => h) (Or.inl ⟨by rfl, ?_⟩) hHeld ?_ ?_
                      rotate_left
                      · rintro w' ⟨s0, s1⟩
                        go_simp
                        with_reducible rfl
                      rotate_left
                      · simp only [Act.put, List.setIfInBounds_toArray, List.set_cons_zero, List.set_cons_succ, i64_w, i32_w]
                        rfl
                      refine pu 14 56 HT_ ?_
                      refine last_ (i := 15) (N := none) #[true, true, true, true, true, true, true, true, true, true, true, true, true, true, true, true, false, false] rfl rfl (one_of HT_.out (by kernel_rfl)) (by decide) (fun K hK => ?_)
                      refine skip_ (w1 := ?_) (by rfl) rfl ?_ ?_
                      rotate_left
                      · go_simp
                        rfl
                      refine hK.out _ _ ?_
                      clear hK K
                      refine pu 16 57 HT_ ?_
                      refine last_ (i := 17) (N := none) #[true, true, true, true, true, true, true, true, true, true, true, true, true, true, true, true, true, true] rfl rfl (one_of HT_.out (by kernel_rfl)) (by decide) (fun K hK => ?_)
                      refine skip_ (w1 := ?_) (by rfl) rfl ?_ ?_
                      rotate_left
                      · go_simp
                        rfl
                      refine hK.out _ _ ?_
                      clear hK K
                      refine done_ (done_of HT_.out (by kernel_rfl)) ?_
                      try go_wp2
                      (try (go_end0; (try go_wp2)))
                      go_roundg k1
                      case measure => have := HK1.out; omega
                      case rel => exact ⟨y175, (wrap64 (x14_1 + 1)), (by first | rfl | (simp; done) | (simp [*]; done)), H', ⟨by have := HK1.out; omega⟩, ⟨by (with_reducible repeat (first | apply Kd.R_alloc | apply Kd.R_drewN | apply Kd.R_drew)); exact HQ26.out⟩, ⟨by repeat (first | (with_reducible first | exact HB.out | apply below_alloc | apply pw_below_drewN | apply below_drew1 | refine below_set ?_ GB20.out | refine below_set ?_ GB20.out) | exact HB.out)⟩, by first | exact HI2 | exact ⟨HD.out _ _ _ _ HI2.out⟩⟩
                  · rw [if_neg c16] at H
                    exact absurd H (by simp)
                · rw [if_neg c15] at H
                  exact absurd H (by simp)
              · rw [if_neg c12] at H
                exact absurd H (by simp)
        · rw [if_neg c6] at H
          exact absurd H (by simp)
      · have c5b0 : decide (x14_1 < (l1.length : Int)) = false := decide_eq_false c5
        have HE := Aside0.mk c5
        clear c5
        clear H
        go_wp2
        go_ret
        exact ⟨rfl, ⟨_, _, _, HI.out, HE.out⟩, HB.out⟩

end Go.Proofs.YtmidcafamppkeaaDoor.P
