/- impl.planeSets with the closures of one caller: what a call of it computes. Conditions: what the closures answer. -/
import Derived.Test.YtiimkifkakdalaaOSets
import Derived.Test.YtiimkifkakdalaaP65
namespace Go.Proofs.Ytiimkifkakdalaa.P
open Go.RowKit Go.Proofs.YtiimkifkakdalaaW.PrintWords Go.Proofs.YtiimkifkakdalaaW.PrintLast Go.Proofs.YtiimkifkakdalaaW.PrintMore
set_option linter.unusedVariables false
set_option linter.unusedSimpArgs false

set_option maxHeartbeats 8000000 in
set_option maxRecDepth 100000 in
theorem planeSetsT.calls (F : Nat → Int → Option Bool) (kk : Int) (k : Nat) (a0_0 : Int) (a0_1 : ByteArray) (cap : Value) (r : List Int) (w : World)
    (hK : ∀ W : World, Calls Try.prog 36 #[.int .i64 a0_0] W fun e W' => e = .returned (.int .i64 kk) ∧ W' = W)
    (hF : ∀ (k : Nat) (x : Int) (b : Bool) (W : World), F k x = some b → Below w.heap.size w W → Calls Try.prog 37 #[.int .i64 x, cap] W fun e W' => e = .returned (.bool b) ∧ Below W.heap.size W W')
    (h : planeSets.f F kk k a0_0 a0_1 = some r) :
    Calls Try.prog 35 #[.agg #[.int .i64 a0_0, .string a0_1], .func (.func 36) #[] #[], .func (.func 37) #[] #[cap]] w fun e w' => ∃ v0_ : Value, e = .returned (v0_) ∧ Kd.R (Kd.int .i64) 3 w' w.heap.size (fun _ => True) v0_ r ∧ Below w.heap.size w w' := by
  have HB := Aside0.mk (Below.refl w.heap.size w)
  have HK := Aside0.mk hK
  have HF := Aside0.mk hF
  have H := h
  clear h hK hF
  unfold planeSets.f at H
  replace H := Option.bind_eq_some_iff.mp H
  obtain ⟨⟨⟨t1, t2⟩, t4⟩, A1, H⟩ := H
  replace A1 := Aside0.mk A1
  simp only at H
  cases t4 with
  | false =>
    simp only [Bool.false_eq_true, if_false] at H
    obtain rfl := Option.some.inj H
    go_enter Try.func35, Try.ntmps35
    go_wp2_with (first | ((with_reducible refine gate_dst (N := 3) rfl ?_); refine box_event ?hg (N := 3) ?hd (cs := #[.int .i64 a0_0, .string a0_1]) (t := 27) ?hr ?_; (case hd => rfl); (case hg => rfl); (case hr => first | (go_simp; done) | (go_simp; rfl)); intro g3 hg w3 hbox hb; have n0_ := Aside0.mk (below_step (by repeat (first | (with_reducible first | exact HB.out | apply below_alloc | apply pw_below_drewN | apply below_drew1) | exact HB.out)) hb); have GE3 := Aside0.mk ((by rw [hg]; exact (below_size (by repeat (first | (with_reducible first | exact HB.out | apply below_alloc | apply pw_below_drewN | apply below_drew1) | exact HB.out)))) : w.heap.size ≤ g3); have BK3 := Aside0.mk hbox; clear HB; have HB := n0_; clear n0_ hb hbox hg; have hcz3_0 : w3.cell? ⟨g3, 0, none⟩ = some (.int .i64 a0_0) := (blk_cell BK3.out 0).trans rfl; have hfz3_0 := blk_frozen BK3.out 0; have hcz3_1 : w3.cell? ⟨g3, 1, none⟩ = some (.string a0_1) := (blk_cell BK3.out 1).trans rfl; have hfz3_1 := blk_frozen BK3.out 1) | ((with_reducible refine gate_callee (f := 50) rfl ?_); refine goesL_ (some 13) rfl rfl Try.func50 (by kernel_rfl) rfl #[.agg #[.int .i64 a0_0, .string a0_1]] rfl (by (try simp only [List.map_toArray, List.map_cons, List.map_nil]); first | done | rfl | (simp only [List.length_drop, List.length_take]; rfl)) ?_; (with_reducible refine (impl_planeOf.calls k a0_0 a0_1 _ _ A1.out).mono ?_); rintro e w4 ⟨p4, rfl, hp, hb⟩; refine ⟨_, rfl, ?_⟩; replace HB := bs HB hb; clear hb))
    go_ret
    exact ⟨_, rfl, Kd.R_nil _ _ _ _ _, bl HB⟩
  | true =>
    simp only [if_true] at H
    have H' := Aside0.mk H
    clear H
    go_enter Try.func35, Try.ntmps35
    go_wp2_with (first | ((with_reducible refine gate_dst (N := 3) rfl ?_); refine box_event ?hg (N := 3) ?hd (cs := #[.int .i64 a0_0, .string a0_1]) (t := 27) ?hr ?_; (case hd => rfl); (case hg => rfl); (case hr => first | (go_simp; done) | (go_simp; rfl)); intro g3 hg w3 hbox hb; have n0_ := Aside0.mk (below_step (by repeat (first | (with_reducible first | exact HB.out | apply below_alloc | apply pw_below_drewN | apply below_drew1) | exact HB.out)) hb); have GE3 := Aside0.mk ((by rw [hg]; exact (below_size (by repeat (first | (with_reducible first | exact HB.out | apply below_alloc | apply pw_below_drewN | apply below_drew1) | exact HB.out)))) : w.heap.size ≤ g3); have BK3 := Aside0.mk hbox; clear HB; have HB := n0_; clear n0_ hb hbox hg; have hcz3_0 : w3.cell? ⟨g3, 0, none⟩ = some (.int .i64 a0_0) := (blk_cell BK3.out 0).trans rfl; have hfz3_0 := blk_frozen BK3.out 0; have hcz3_1 : w3.cell? ⟨g3, 1, none⟩ = some (.string a0_1) := (blk_cell BK3.out 1).trans rfl; have hfz3_1 := blk_frozen BK3.out 1) | ((with_reducible refine gate_callee (f := 50) rfl ?_); refine goesL_ (some 13) rfl rfl Try.func50 (by kernel_rfl) rfl #[.agg #[.int .i64 a0_0, .string a0_1]] rfl (by (try simp only [List.map_toArray, List.map_cons, List.map_nil]); first | done | rfl | (simp only [List.length_drop, List.length_take]; rfl)) ?_; (with_reducible refine (impl_planeOf.calls k a0_0 a0_1 _ _ A1.out).mono ?_); rintro e w4 ⟨p4, rfl, hp, hb⟩; refine ⟨_, rfl, ?_⟩; obtain ⟨g4, rfl, hI⟩ := hp.2 rfl; have HI := Aside0.mk hI; clear hp hI; have n9_ := Aside0.mk (blk_below (g := g3) (o := .cells #[.int .i64 a0_0, .string a0_1] 27 (0, 0)) (by (with_reducible repeat (first | refine blk_drewN ?_ _ | refine blk_drew ?_ | refine blk_alloc ?_ _)); exact BK3.out) hb); clear BK3; have BK3 := n9_; clear n9_; have hcz3w4_0 : w4.cell? ⟨g3, 0, none⟩ = some (.int .i64 a0_0) := (blk_cell BK3.out 0).trans rfl; have hfz3w4_0 := blk_frozen BK3.out 0; have hcz3w4_1 : w4.cell? ⟨g3, 1, none⟩ = some (.string a0_1) := (blk_cell BK3.out 1).trans rfl; have hfz3w4_1 := blk_frozen BK3.out 1; replace HB := bs HB hb; clear hb))
    go_loopg [9, 10] k (fun kq v9 v10 w' => ∃ (o : List Int) (x : Int), v10 = .int .i64 x ∧ Aside0 (planeSets.l0 F kk kq t1 t2 x o = some r) ∧ Aside0 (kq ≤ k) ∧ Aside0 (Kd.R (Kd.int .i64) 3 w' w4.heap.size (fun _ => True) v9 o) ∧ Aside0 (Below w4.heap.size w4 w'))
    case atStart => exact ⟨[], 0, rfl, H', ⟨Nat.le_refl _⟩, ⟨Kd.R_nil _ _ _ _ _⟩, ⟨Below.refl _ _⟩⟩
    case round =>
      clear H' hcz3_0 hcz3_1 hcz3w4_0 hcz3w4_1 hfz3_0 hfz3_1 hfz3w4_0 hfz3w4_1
      obtain ⟨o, x, rfl, HA, HK1, HO, HB0⟩ := hrel
      have HP := Aside0.mk (PlaneAt.below HI.out HB0.out)
      obtain ⟨A40, A41, c41, hbk, hcc⟩ := HP.out
      have BK4 := Aside0.mk hbk
      clear hbk hcc
      have hc42 := bc BK4 2
      have BKN := Aside0.mk (blk_below BK3.out HB0.out)
      have hn := bc BKN 0
      cases gk with
      | zero => exact absurd HA.out (by simp [planeSets.l0])
      | succ k1 =>
        have H := HA.out
        clear HA
        simp only [planeSets.l0] at H
        by_cases c5 : x ≤ t2
        · rw [if_pos c5] at H
          have c5b0 : decide (x ≤ t2) = true := decide_eq_true c5
          clear c5
          replace H := Option.bind_eq_some_iff.mp H
          obtain ⟨t, A2, H⟩ := H
          replace A2 := Aside0.mk A2
          by_cases c6 : t = kk
          · rw [if_pos c6] at H
            have c6b : (t == kk) = true := beq_iff_eq.mpr c6
            clear c6
            replace H := Option.bind_eq_some_iff.mp H
            obtain ⟨b, A5, H⟩ := H
            replace A5 := Aside0.mk A5
            cases b with
            | true =>
              rw [if_pos rfl] at H
              replace H := Option.bind_eq_some_iff.mp H
              obtain ⟨c, A6, H⟩ := H
              replace A6 := Aside0.mk A6
              cases c with
              | true =>
                rw [if_pos rfl] at H
                by_cases c7 : o.length < 17592186044416
                · rw [if_pos c7] at H
                  have LM := Aside0.mk c7
                  clear c7
                  have H' := Aside0.mk H
                  clear H
                  go_wp2
                  refine start_ (n := 18) (S := fun w' => w'.cell? ⟨g3, 0, none⟩ = some (.int .i64 a0_0)) (ds := []) #[false, false, false, false, false, false, false, false, false, false, false, false, false, false, false, false, false, false] (by kernel_rfl) rfl rfl hn (fun hHeld => ?_); refine with_tabW pset.tab8 pset.bits8 (fun HT_ HW_ => ?_); refine pu 0 26 HT_ ?_; refine pu 1 27 HT_ ?_; refine pu 3 29 HT_ ?_; refine pu 4 30 HT_ ?_; refine take_ (i := 5) (N := some 31) (v := ?_) (a' := ?_) #[true, true, false, true, true, true, false, false, false, false, false, false, false, false, false, false, false, false] rfl rfl (take_ofW HT_.out HW_.out (by kernel_rfl)) (fun _ _ _ h => h) (Or.inl ⟨by rfl, ?_⟩) hHeld ?_ ?_; rotate_left; (intro w' s0; go_simp; with_reducible rfl); rotate_left; (simp only [Act.put, List.setIfInBounds_toArray, List.set_cons_zero, List.set_cons_succ, i64_w, i32_w]; rfl)
                  refine one_ (i := 2) (N := some 28) #[true, true, true, true, true, true, false, false, false, false, false, false, false, false, false, false, false, false] rfl rfl (one_of HT_.out (by kernel_rfl)) (by decide) (fun K hK => ?_); refine goes_ Try.func69 (by kernel_rfl) rfl #[.int .u64 (IntKind.u64.wrap x)] (by rfl) rfl rfl (by (try simp only [List.map_toArray, List.map_cons, List.map_nil]); first | done | rfl) ?_; (with_reducible refine (bits_OnesCount.calls _ t _ A2.out).mono ?_); rintro e w6 ⟨rfl, ⟨nd6, rfl⟩⟩; refine ⟨_, rfl, ?_⟩; refine hK.out _ _ hHeld (fun hHeld => ?_); clear hK K; refine norm_ (a' := ?_) ?_ ?_; (rotate_left; (show Act.put _ (some 28) _ = _; simp only [Act.put, List.setIfInBounds_toArray, List.set_cons_zero, List.set_cons_succ, i64_w, i32_w]; rfl))
                  refine one_ (i := 6) (N := some 32) #[true, true, true, true, true, true, true, false, false, false, false, false, false, false, false, false, false, false] rfl rfl (one_of HT_.out (by kernel_rfl)) (by decide) (fun K hK => ?_); refine call_ 36 #[.int .i64 a0_0] (by rfl) rfl (by first | (go_simp; done) | (go_simp; rfl)) ?_; refine (HK.out _).mono ?_; rintro e w7 ⟨rfl, rfl⟩; refine ⟨_, rfl, ?_⟩; refine hK.out _ _ hHeld (fun hHeld => ?_); clear hK K; refine norm_ (a' := ?_) ?_ ?_; (rotate_left; (show Act.put _ (some 32) _ = _; simp only [Act.put, List.setIfInBounds_toArray, List.set_cons_zero, List.set_cons_succ, i64_w, i32_w]; rfl))
                  refine pu 7 33 HT_ ?_; refine pu 8 34 HT_ ?_
                  refine pu 9 35 HT_ ?_
                  refine pu 10 36 HT_ ?_
                  refine one_ (i := 11) (N := some 37) #[true, true, true, true, true, true, true, true, true, true, true, true, false, false, false, false, false, false] rfl rfl (one_of HT_.out (by kernel_rfl)) (by decide) (fun K hK => ?_); refine goes_ Try.func70 (by kernel_rfl) rfl #[.pointer (some ⟨g4, 0, none⟩), .int .i64 x] (by rfl) rfl rfl (by (try simp only [List.map_toArray, List.map_cons, List.map_nil]); first | done | rfl) ?_; (with_reducible refine (impl_plane_isPlane.calls k1 g4 t1 t2 x _ _ (by (with_reducible repeat (first | apply PlaneAt.drewN | apply PlaneAt.drew)); exact HP.out) A5.out).mono ?_); rintro e w8 ⟨rfl, rfl⟩; refine ⟨_, rfl, ?_⟩; refine hK.out _ _ hHeld (fun hHeld => ?_); clear hK K; refine norm_ (a' := ?_) ?_ ?_; (rotate_left; (show Act.put _ (some 37) _ = _; simp only [Act.put, List.setIfInBounds_toArray, List.set_cons_zero, List.set_cons_succ, i64_w, i32_w]; rfl))
                  refine pu 12 38 HT_ ?_
                  refine pu 13 39 HT_ ?_
                  refine pu 14 40 HT_ ?_
                  refine pu 15 41 HT_ ?_
                  refine one_ (i := 16) (N := some 42) #[true, true, true, true, true, true, true, true, true, true, true, true, true, true, true, true, true, false] rfl rfl (one_of HT_.out (by kernel_rfl)) (by decide) (fun K hK => ?_); refine call_ 37 #[.int .i64 x, cap] (by rfl) rfl (by first | (go_simp; done) | (go_simp; rfl)) ?_; refine (HF.out k1 x _ _ A6.out (by have h0 := below_step HB.out HB0.out; repeat (first | (with_reducible first | exact h0 | apply pw_below_drewN | apply below_drew1) | exact h0))).mono ?_; rintro e w9 ⟨rfl, hb9⟩; refine ⟨_, rfl, ?_⟩; refine hK.out _ _ ((hb9.cell (World.block_lt_of_cell? _ _ hHeld)).trans hHeld) (fun hHeld => ?_); clear hK K; have HO9 := Aside0.mk (Kd.R_below (rr (W := _) HO) hb9); have HB9 := Aside0.mk (below_step (bl (W' := _) HB0) hb9); clear hb9; refine norm_ (a' := ?_) ?_ ?_; (rotate_left; (show Act.put _ (some 42) _ = _; simp only [Act.put, List.setIfInBounds_toArray, List.set_cons_zero, List.set_cons_succ, i64_w, i32_w]; rfl))
                  refine pu 17 43 HT_ ?_; refine done_ (done_of HT_.out (by kernel_rfl)) ?_
                  go_wp2_with (first | ((with_reducible refine gate_builtin (b := .append) (xs := #[.tmp 44, .tmp 46]) rfl ?_); at_builtin; refine Kd.R_append (Kd.int .i64) (w0 := w4) w4.heap.size rfl (.tmp 44) (.tmp 46) 25 3 (.int .i64 0) 8 rfl Try.underlying25 info3 rfl (by decide) (by omega) u9 o x [.int .i64 x] (fun _ => True) (fun _ => False) rfl rfl ?aP (fun _ hk => hk.elim) ?aF ?aO ?aB ?aS ?aL ?_; (case aP => exact rfl); (case aB => exact (bl HB9)); (case aF => exact (fun _ _ => trivial)); (case aO => exact (rr HO9)); (case aS => exact (below_size (bl HB9))); (case aL => have := LM.out; omega); intro v7 w7 ho hb hg hat; have HBX := Aside0.mk hb; have HOX := Aside0.mk ho; clear hb ho hg hat))
                  go_roundg k1
                  case measure => have := HK1.out; omega
                  case rel => exact ⟨o ++ [x], (wrap64 (x + 1)), (by first | rfl | (simp; done) | (simp [*]; done)), H', ⟨by have := HK1.out; omega⟩, ⟨HOX.out⟩, ⟨HBX.out⟩⟩
                · rw [if_neg c7] at H
                  exact absurd H (by simp)
              | false =>
                rw [if_neg (by simp)] at H
                have H' := Aside0.mk H
                clear H
                go_wp2
                refine start_ (n := 18) (S := fun w' => w'.cell? ⟨g3, 0, none⟩ = some (.int .i64 a0_0)) (ds := []) #[false, false, false, false, false, false, false, false, false, false, false, false, false, false, false, false, false, false] (by kernel_rfl) rfl rfl hn (fun hHeld => ?_); refine with_tabW pset.tab8 pset.bits8 (fun HT_ HW_ => ?_); refine pu 0 26 HT_ ?_; refine pu 1 27 HT_ ?_; refine pu 3 29 HT_ ?_; refine pu 4 30 HT_ ?_; refine take_ (i := 5) (N := some 31) (v := ?_) (a' := ?_) #[true, true, false, true, true, true, false, false, false, false, false, false, false, false, false, false, false, false] rfl rfl (take_ofW HT_.out HW_.out (by kernel_rfl)) (fun _ _ _ h => h) (Or.inl ⟨by rfl, ?_⟩) hHeld ?_ ?_; rotate_left; (intro w' s0; go_simp; with_reducible rfl); rotate_left; (simp only [Act.put, List.setIfInBounds_toArray, List.set_cons_zero, List.set_cons_succ, i64_w, i32_w]; rfl)
                refine one_ (i := 2) (N := some 28) #[true, true, true, true, true, true, false, false, false, false, false, false, false, false, false, false, false, false] rfl rfl (one_of HT_.out (by kernel_rfl)) (by decide) (fun K hK => ?_); refine goes_ Try.func69 (by kernel_rfl) rfl #[.int .u64 (IntKind.u64.wrap x)] (by rfl) rfl rfl (by (try simp only [List.map_toArray, List.map_cons, List.map_nil]); first | done | rfl) ?_; (with_reducible refine (bits_OnesCount.calls _ t _ A2.out).mono ?_); rintro e w6 ⟨rfl, ⟨nd6, rfl⟩⟩; refine ⟨_, rfl, ?_⟩; refine hK.out _ _ hHeld (fun hHeld => ?_); clear hK K; refine norm_ (a' := ?_) ?_ ?_; (rotate_left; (show Act.put _ (some 28) _ = _; simp only [Act.put, List.setIfInBounds_toArray, List.set_cons_zero, List.set_cons_succ, i64_w, i32_w]; rfl))
                refine one_ (i := 6) (N := some 32) #[true, true, true, true, true, true, true, false, false, false, false, false, false, false, false, false, false, false] rfl rfl (one_of HT_.out (by kernel_rfl)) (by decide) (fun K hK => ?_); refine call_ 36 #[.int .i64 a0_0] (by rfl) rfl (by first | (go_simp; done) | (go_simp; rfl)) ?_; refine (HK.out _).mono ?_; rintro e w7 ⟨rfl, rfl⟩; refine ⟨_, rfl, ?_⟩; refine hK.out _ _ hHeld (fun hHeld => ?_); clear hK K; refine norm_ (a' := ?_) ?_ ?_; (rotate_left; (show Act.put _ (some 32) _ = _; simp only [Act.put, List.setIfInBounds_toArray, List.set_cons_zero, List.set_cons_succ, i64_w, i32_w]; rfl))
                refine pu 7 33 HT_ ?_; refine pu 8 34 HT_ ?_
                refine pu 9 35 HT_ ?_
                refine pu 10 36 HT_ ?_
                refine one_ (i := 11) (N := some 37) #[true, true, true, true, true, true, true, true, true, true, true, true, false, false, false, false, false, false] rfl rfl (one_of HT_.out (by kernel_rfl)) (by decide) (fun K hK => ?_); refine goes_ Try.func70 (by kernel_rfl) rfl #[.pointer (some ⟨g4, 0, none⟩), .int .i64 x] (by rfl) rfl rfl (by (try simp only [List.map_toArray, List.map_cons, List.map_nil]); first | done | rfl) ?_; (with_reducible refine (impl_plane_isPlane.calls k1 g4 t1 t2 x _ _ (by (with_reducible repeat (first | apply PlaneAt.drewN | apply PlaneAt.drew)); exact HP.out) A5.out).mono ?_); rintro e w8 ⟨rfl, rfl⟩; refine ⟨_, rfl, ?_⟩; refine hK.out _ _ hHeld (fun hHeld => ?_); clear hK K; refine norm_ (a' := ?_) ?_ ?_; (rotate_left; (show Act.put _ (some 37) _ = _; simp only [Act.put, List.setIfInBounds_toArray, List.set_cons_zero, List.set_cons_succ, i64_w, i32_w]; rfl))
                refine pu 12 38 HT_ ?_
                refine pu 13 39 HT_ ?_
                refine pu 14 40 HT_ ?_
                refine pu 15 41 HT_ ?_
                refine one_ (i := 16) (N := some 42) #[true, true, true, true, true, true, true, true, true, true, true, true, true, true, true, true, true, false] rfl rfl (one_of HT_.out (by kernel_rfl)) (by decide) (fun K hK => ?_); refine call_ 37 #[.int .i64 x, cap] (by rfl) rfl (by first | (go_simp; done) | (go_simp; rfl)) ?_; refine (HF.out k1 x _ _ A6.out (by have h0 := below_step HB.out HB0.out; repeat (first | (with_reducible first | exact h0 | apply pw_below_drewN | apply below_drew1) | exact h0))).mono ?_; rintro e w9 ⟨rfl, hb9⟩; refine ⟨_, rfl, ?_⟩; refine hK.out _ _ ((hb9.cell (World.block_lt_of_cell? _ _ hHeld)).trans hHeld) (fun hHeld => ?_); clear hK K; have HO9 := Aside0.mk (Kd.R_below (rr (W := _) HO) hb9); have HB9 := Aside0.mk (below_step (bl (W' := _) HB0) hb9); clear hb9; refine norm_ (a' := ?_) ?_ ?_; (rotate_left; (show Act.put _ (some 42) _ = _; simp only [Act.put, List.setIfInBounds_toArray, List.set_cons_zero, List.set_cons_succ, i64_w, i32_w]; rfl))
                refine pu 17 43 HT_ ?_; refine done_ (done_of HT_.out (by kernel_rfl)) ?_
                go_wp2
                go_roundg k1
                case measure => have := HK1.out; omega
                case rel => exact ⟨o, (wrap64 (x + 1)), (by first | rfl | (simp; done) | (simp [*]; done)), H', ⟨by have := HK1.out; omega⟩, ⟨rr HO9⟩, ⟨bl HB9⟩⟩
            | false =>
              rw [if_neg (by simp)] at H
              have H' := Aside0.mk H
              clear H
              go_wp2
              refine start_ (n := 18) (S := fun w' => w'.cell? ⟨g3, 0, none⟩ = some (.int .i64 a0_0)) (ds := []) #[false, false, false, false, false, false, false, false, false, false, false, false, false, false, false, false, false, false] (by kernel_rfl) rfl rfl hn (fun hHeld => ?_); refine with_tabW pset.tab8 pset.bits8 (fun HT_ HW_ => ?_); refine pu 0 26 HT_ ?_; refine pu 1 27 HT_ ?_; refine pu 3 29 HT_ ?_; refine pu 4 30 HT_ ?_; refine take_ (i := 5) (N := some 31) (v := ?_) (a' := ?_) #[true, true, false, true, true, true, false, false, false, false, false, false, false, false, false, false, false, false] rfl rfl (take_ofW HT_.out HW_.out (by kernel_rfl)) (fun _ _ _ h => h) (Or.inl ⟨by rfl, ?_⟩) hHeld ?_ ?_; rotate_left; (intro w' s0; go_simp; with_reducible rfl); rotate_left; (simp only [Act.put, List.setIfInBounds_toArray, List.set_cons_zero, List.set_cons_succ, i64_w, i32_w]; rfl)
              refine one_ (i := 2) (N := some 28) #[true, true, true, true, true, true, false, false, false, false, false, false, false, false, false, false, false, false] rfl rfl (one_of HT_.out (by kernel_rfl)) (by decide) (fun K hK => ?_); refine goes_ Try.func69 (by kernel_rfl) rfl #[.int .u64 (IntKind.u64.wrap x)] (by rfl) rfl rfl (by (try simp only [List.map_toArray, List.map_cons, List.map_nil]); first | done | rfl) ?_; (with_reducible refine (bits_OnesCount.calls _ t _ A2.out).mono ?_); rintro e w6 ⟨rfl, ⟨nd6, rfl⟩⟩; refine ⟨_, rfl, ?_⟩; refine hK.out _ _ hHeld (fun hHeld => ?_); clear hK K; refine norm_ (a' := ?_) ?_ ?_; (rotate_left; (show Act.put _ (some 28) _ = _; simp only [Act.put, List.setIfInBounds_toArray, List.set_cons_zero, List.set_cons_succ, i64_w, i32_w]; rfl))
              refine one_ (i := 6) (N := some 32) #[true, true, true, true, true, true, true, false, false, false, false, false, false, false, false, false, false, false] rfl rfl (one_of HT_.out (by kernel_rfl)) (by decide) (fun K hK => ?_); refine call_ 36 #[.int .i64 a0_0] (by rfl) rfl (by first | (go_simp; done) | (go_simp; rfl)) ?_; refine (HK.out _).mono ?_; rintro e w7 ⟨rfl, rfl⟩; refine ⟨_, rfl, ?_⟩; refine hK.out _ _ hHeld (fun hHeld => ?_); clear hK K; refine norm_ (a' := ?_) ?_ ?_; (rotate_left; (show Act.put _ (some 32) _ = _; simp only [Act.put, List.setIfInBounds_toArray, List.set_cons_zero, List.set_cons_succ, i64_w, i32_w]; rfl))
              refine pu 7 33 HT_ ?_; refine pu 8 34 HT_ ?_
              refine pu 9 35 HT_ ?_
              refine pu 10 36 HT_ ?_
              refine one_ (i := 11) (N := some 37) #[true, true, true, true, true, true, true, true, true, true, true, true, false, false, false, false, false, false] rfl rfl (one_of HT_.out (by kernel_rfl)) (by decide) (fun K hK => ?_); refine goes_ Try.func70 (by kernel_rfl) rfl #[.pointer (some ⟨g4, 0, none⟩), .int .i64 x] (by rfl) rfl rfl (by (try simp only [List.map_toArray, List.map_cons, List.map_nil]); first | done | rfl) ?_; (with_reducible refine (impl_plane_isPlane.calls k1 g4 t1 t2 x _ _ (by (with_reducible repeat (first | apply PlaneAt.drewN | apply PlaneAt.drew)); exact HP.out) A5.out).mono ?_); rintro e w8 ⟨rfl, rfl⟩; refine ⟨_, rfl, ?_⟩; refine hK.out _ _ hHeld (fun hHeld => ?_); clear hK K; refine norm_ (a' := ?_) ?_ ?_; (rotate_left; (show Act.put _ (some 37) _ = _; simp only [Act.put, List.setIfInBounds_toArray, List.set_cons_zero, List.set_cons_succ, i64_w, i32_w]; rfl))
              refine pu 12 38 HT_ ?_
              refine pu 13 39 HT_ ?_
              refine pn 14 40 HT_ ?_; refine pn 15 41 HT_ ?_; refine one_ (i := 16) (N := some 42) #[true, true, true, true, true, true, true, true, true, true, true, true, true, true, true, true, true, false] rfl rfl (one_of HT_.out (by kernel_rfl)) (by decide) (fun K hK => ?_); refine nope_ (by rfl) ?_; refine hK.out _ _ hHeld (fun hHeld => ?_); clear hK K; refine norm_ (a' := ?_) ?_ ?_; (rotate_left; (show Act.put _ (some 42) _ = _; simp only [Act.put, List.setIfInBounds_toArray, List.set_cons_zero, List.set_cons_succ, i64_w, i32_w]; rfl)); refine pu 17 43 HT_ ?_; refine done_ (done_of HT_.out (by kernel_rfl)) ?_
              go_wp2
              go_roundg k1
              case measure => have := HK1.out; omega
              case rel => exact ⟨o, (wrap64 (x + 1)), (by first | rfl | (simp; done) | (simp [*]; done)), H', ⟨by have := HK1.out; omega⟩, ⟨rr HO⟩, ⟨bl HB0⟩⟩
          · rw [if_neg c6] at H
            have c6b : (t == kk) = false := beq_eq_false_iff_ne.mpr c6
            clear c6
            have H' := Aside0.mk H
            clear H
            go_wp2
            refine start_ (n := 18) (S := fun w' => w'.cell? ⟨g3, 0, none⟩ = some (.int .i64 a0_0)) (ds := []) #[false, false, false, false, false, false, false, false, false, false, false, false, false, false, false, false, false, false] (by kernel_rfl) rfl rfl hn (fun hHeld => ?_); refine with_tabW pset.tab8 pset.bits8 (fun HT_ HW_ => ?_); refine pu 0 26 HT_ ?_; refine pu 1 27 HT_ ?_; refine pu 3 29 HT_ ?_; refine pu 4 30 HT_ ?_; refine take_ (i := 5) (N := some 31) (v := ?_) (a' := ?_) #[true, true, false, true, true, true, false, false, false, false, false, false, false, false, false, false, false, false] rfl rfl (take_ofW HT_.out HW_.out (by kernel_rfl)) (fun _ _ _ h => h) (Or.inl ⟨by rfl, ?_⟩) hHeld ?_ ?_; rotate_left; (intro w' s0; go_simp; with_reducible rfl); rotate_left; (simp only [Act.put, List.setIfInBounds_toArray, List.set_cons_zero, List.set_cons_succ, i64_w, i32_w]; rfl)
            refine one_ (i := 2) (N := some 28) #[true, true, true, true, true, true, false, false, false, false, false, false, false, false, false, false, false, false] rfl rfl (one_of HT_.out (by kernel_rfl)) (by decide) (fun K hK => ?_); refine goes_ Try.func69 (by kernel_rfl) rfl #[.int .u64 (IntKind.u64.wrap x)] (by rfl) rfl rfl (by (try simp only [List.map_toArray, List.map_cons, List.map_nil]); first | done | rfl) ?_; (with_reducible refine (bits_OnesCount.calls _ t _ A2.out).mono ?_); rintro e w6 ⟨rfl, ⟨nd6, rfl⟩⟩; refine ⟨_, rfl, ?_⟩; refine hK.out _ _ hHeld (fun hHeld => ?_); clear hK K; refine norm_ (a' := ?_) ?_ ?_; (rotate_left; (show Act.put _ (some 28) _ = _; simp only [Act.put, List.setIfInBounds_toArray, List.set_cons_zero, List.set_cons_succ, i64_w, i32_w]; rfl))
            refine one_ (i := 6) (N := some 32) #[true, true, true, true, true, true, true, false, false, false, false, false, false, false, false, false, false, false] rfl rfl (one_of HT_.out (by kernel_rfl)) (by decide) (fun K hK => ?_); refine call_ 36 #[.int .i64 a0_0] (by rfl) rfl (by first | (go_simp; done) | (go_simp; rfl)) ?_; refine (HK.out _).mono ?_; rintro e w7 ⟨rfl, rfl⟩; refine ⟨_, rfl, ?_⟩; refine hK.out _ _ hHeld (fun hHeld => ?_); clear hK K; refine norm_ (a' := ?_) ?_ ?_; (rotate_left; (show Act.put _ (some 32) _ = _; simp only [Act.put, List.setIfInBounds_toArray, List.set_cons_zero, List.set_cons_succ, i64_w, i32_w]; rfl))
            refine pu 7 33 HT_ ?_; refine pu 8 34 HT_ ?_
            refine pn 9 35 HT_ ?_
            refine pn 10 36 HT_ ?_
            refine one_ (i := 11) (N := some 37) #[true, true, true, true, true, true, true, true, true, true, true, true, false, false, false, false, false, false] rfl rfl (one_of HT_.out (by kernel_rfl)) (by decide) (fun K hK => ?_); refine nope_ (by rfl) ?_; refine hK.out _ _ hHeld (fun hHeld => ?_); clear hK K; refine norm_ (a' := ?_) ?_ ?_; (rotate_left; (show Act.put _ (some 37) _ = _; simp only [Act.put, List.setIfInBounds_toArray, List.set_cons_zero, List.set_cons_succ, i64_w, i32_w]; rfl))
            refine pu 12 38 HT_ ?_
            refine pu 13 39 HT_ ?_
            refine pn 14 40 HT_ ?_; refine pn 15 41 HT_ ?_; refine one_ (i := 16) (N := some 42) #[true, true, true, true, true, true, true, true, true, true, true, true, true, true, true, true, true, false] rfl rfl (one_of HT_.out (by kernel_rfl)) (by decide) (fun K hK => ?_); refine nope_ (by rfl) ?_; refine hK.out _ _ hHeld (fun hHeld => ?_); clear hK K; refine norm_ (a' := ?_) ?_ ?_; (rotate_left; (show Act.put _ (some 42) _ = _; simp only [Act.put, List.setIfInBounds_toArray, List.set_cons_zero, List.set_cons_succ, i64_w, i32_w]; rfl)); refine pu 17 43 HT_ ?_; refine done_ (done_of HT_.out (by kernel_rfl)) ?_
            go_wp2
            go_roundg k1
            case measure => have := HK1.out; omega
            case rel => exact ⟨o, (wrap64 (x + 1)), (by first | rfl | (simp; done) | (simp [*]; done)), H', ⟨by have := HK1.out; omega⟩, ⟨rr HO⟩, ⟨bl HB0⟩⟩
        · rw [if_neg c5] at H
          have c5b0 : decide (x ≤ t2) = false := decide_eq_false c5
          clear c5
          obtain rfl := Option.some.inj H
          clear H
          go_wp2
          go_ret
          exact ⟨_, rfl, Kd.R_lower HO.out (below_size HB.out), below_step HB.out HB0.out⟩

end Go.Proofs.Ytiimkifkakdalaa.P
