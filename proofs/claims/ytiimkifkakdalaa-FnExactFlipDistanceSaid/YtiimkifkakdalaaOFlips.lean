/- plane.flips and impl.FlipsFrom: what a call of them computes. Conditions: none. -/
import Derived.Test.YtiimkifkakdalaaOTri
import Derived.Test.YtiimkifkakdalaaOSort
namespace Go.Proofs.Ytiimkifkakdalaa.P
open Go.RowKit Go.Proofs.YtiimkifkakdalaaW.PrintWords Go.Proofs.YtiimkifkakdalaaW.PrintLast Go.Proofs.YtiimkifkakdalaaW.PrintMore
set_option linter.unusedVariables false
set_option linter.unusedSimpArgs false

def impl_plane_flips.l0 : Nat → List Int → Int → Int → List Int → Option (List Int)
  | 0, _, _, _, _ => none
  | k + 1, rows, e, x, o => if x < (rows.length : Int) then (if 0 ≤ x then (if Go.bits .and .i64 (shr .i64 e x) 1 = 1 then ((impl_plane_flip.f k rows e x).bind fun r => if r.2 = true then (if o.length < 17592186044416 then impl_plane_flips.l0 k rows e (wrap64 (x + 1)) (o ++ [r.1]) else none) else impl_plane_flips.l0 k rows e (wrap64 (x + 1)) o) else impl_plane_flips.l0 k rows e (wrap64 (x + 1)) o) else none) else slices_Sort_int_int.f o
def impl_plane_flips.f (k : Nat) (rows : List Int) (e : Int) : Option (List Int) := impl_plane_flips.l0 k rows e 0 []
def impl_FlipsFrom.f (k : Nat) (n : Int) (s : ByteArray) (e : Int) : Option (List Int) := (impl_IsTriangulation.f k n s e).bind fun b => if b = true then ((impl_planeOf.f k n s).bind fun r => if r.2 = true then impl_plane_flips.f k r.1.1 e else none) else some []
theorem impl_plane_flips.mono_l : ∀ k, (∀ y0 y1 y2 y3, LeO (impl_plane_flips.l0 k y0 y1 y2 y3) (impl_plane_flips.l0 (k + 1) y0 y1 y2 y3))
  | 0 => fun _ _ _ _ r h => by simp [impl_plane_flips.l0] at h
  | k + 1 => by
    have ih0 := impl_plane_flips.mono_l k
    intro y0 y1 y2 y3
    unfold impl_plane_flips.l0
    repeat' first
      | (with_reducible exact ih0 _ _ _ _)
      | (with_reducible exact impl_plane_flip.mono _ _ _ _)
      | (with_reducible exact LeO.refl _)
      | (with_reducible refine LeO.ite ?_ ?_)
      | (with_reducible refine LeO.bind ?_ (fun _ => ?_))
theorem impl_plane_flips.mono : ∀ a0 a1 k, LeO (impl_plane_flips.f k a0 a1) (impl_plane_flips.f (k + 1) a0 a1) := fun _ _ k => impl_plane_flips.mono_l k _ _ _ _
theorem impl_FlipsFrom.mono : ∀ a0 a1 a2 k, LeO (impl_FlipsFrom.f k a0 a1 a2) (impl_FlipsFrom.f (k + 1) a0 a1 a2) := by
  intro a0 a1 a2 k
  unfold impl_FlipsFrom.f
  repeat' first
    | (with_reducible exact impl_IsTriangulation.mono _ _ _ _)
    | (with_reducible exact impl_planeOf.mono _ _ _)
    | (with_reducible exact impl_plane_flips.mono _ _ _)
    | (with_reducible exact LeO.refl _)
    | (with_reducible refine LeO.ite ?_ ?_)
    | (with_reducible refine LeO.bind ?_ (fun _ => ?_))
set_option maxHeartbeats 8000000 in
set_option maxRecDepth 100000 in
theorem impl_plane_flips.calls (k : Nat) (g : Nat) (rows : List Int) (all : Int) (a1 : Int) (r : List Int) (w : World) (hP : PlaneAt w g rows all) (h : impl_plane_flips.f k rows a1 = some r) :
    Calls Try.prog 51 #[.pointer (some ⟨g, 0, none⟩), .int .i64 a1] w fun e w' => ∃ v0_ : Value, e = .returned (v0_) ∧ Kd.R (Kd.int .i64) 3 w' w.heap.size (fun _ => True) v0_ r ∧ Below w.heap.size w w' := by
  have H : impl_plane_flips.l0 k rows a1 0 [] = some r := h
  clear h
  have H' := Aside0.mk H
  clear H
  have HP := Aside0.mk hP
  obtain ⟨A0, A1, c1, hb, hC⟩ := hP
  have BK := Aside0.mk hb
  clear hC hb
  have hc1 := bc BK 1
  go_enter Try.func51, Try.ntmps51
  go_wp2
  go_loopg [5, 14] k (fun kq v5 v14 w' => ∃ (o : List Int) (x : Int), v14 = .int .i64 x ∧ Aside0 (impl_plane_flips.l0 kq rows a1 x o = some r) ∧ Aside0 (kq ≤ k) ∧ Aside0 (Kd.R (Kd.int .i64) 3 w' w.heap.size (fun _ => True) v5 o) ∧ Aside0 (Below w.heap.size w w'))
  case atStart => exact ⟨[], 0, rfl, H', ⟨Nat.le_refl _⟩, ⟨Kd.R_nil _ _ _ _ _⟩, ⟨by first | exact Below.refl _ _ | exact pw_below_drewN (Below.refl _ _) _⟩⟩
  case round =>
    clear H' hc1
    obtain ⟨o, x, rfl, HA, HK1, HO, HB0⟩ := hrel
    have HP2 := Aside0.mk (PlaneAt.below HP.out HB0.out)
    cases gk with
    | zero => exact absurd HA.out (by simp [impl_plane_flips.l0])
    | succ k1 =>
      have H := HA.out
      clear HA
      simp only [impl_plane_flips.l0] at H
      by_cases c4 : x < (rows.length : Int)
      · rw [if_pos c4] at H
        have c4b0 : decide (x < (rows.length : Int)) = true := decide_eq_true c4
        clear c4
        by_cases c5 : 0 ≤ x
        · rw [if_pos c5] at H
          have c5b1 : (0 ≤ x) = True := eq_true c5
          clear c5
          obtain ⟨s3, hs3⟩ : ∃ j_ : Int, (shr .i64 a1 x) = j_ := ⟨_, rfl⟩
          rw [hs3] at H
          have hs3_ : (a1 / 2 ^ min x.toNat 64) = s3 := hs3
          have hs3z : x ≤ 64 → (a1 / 2 ^ x.toNat) = s3 := shr_small hs3
          clear hs3
          by_cases c7 : Go.bits .and .i64 s3 1 = 1
          · rw [if_pos c7] at H
            have c7b0 : (Go.bits .and .i64 s3 1 == 1) = true := beq_iff_eq.mpr c7
            clear c7
            replace H := Option.bind_eq_some_iff.mp H
            obtain ⟨⟨y, b⟩, A5, H⟩ := H
            replace A5 := Aside0.mk A5
            simp only at H
            cases b with
            | true =>
              rw [if_pos rfl] at H
              by_cases c6 : o.length < 17592186044416
              · rw [if_pos c6] at H
                have LM := Aside0.mk c6
                clear c6
                have H' := Aside0.mk H
                clear H
                go_wp2_with (first
                  | ((with_reducible refine gate_callee (f := 88) rfl ?_); refine goesL_ (some 26) rfl rfl Try.func88 (by kernel_rfl) rfl #[.pointer (some ⟨g, 0, none⟩), .int .i64 a1, .int .i64 x] rfl (by (try simp only [List.map_toArray, List.map_cons, List.map_nil]); first | done | rfl | (simp only [List.length_drop, List.length_take]; rfl)) ?_; (with_reducible refine (impl_plane_flip.calls k1 g rows all a1 x _ _ HP2.out A5.out).mono ?_); rintro e w6 ⟨rfl, ⟨m6, rfl⟩⟩; refine ⟨_, rfl, ?_⟩; have n0_ := Aside0.mk (Kd.R_drewN HO.out m6); have n1_ := Aside0.mk (pw_below_drewN HB0.out m6); clear HO HB0; have HO := n0_; have HB0 := n1_; clear n0_ n1_)
                  | ((with_reducible refine gate_builtin (b := .append) (xs := #[.tmp 30, .tmp 32]) rfl ?_); at_builtin; refine Kd.R_append (Kd.int .i64) (w0 := w) w.heap.size rfl (.tmp 30) (.tmp 32) 25 3 (.int .i64 0) 8 rfl Try.underlying25 info3 rfl (by decide) (by omega) u5 o y [.int .i64 y] (fun _ => True) (fun _ => False) rfl rfl ?aP (fun _ hk => hk.elim) ?aF ?aO ?aB ?aS ?aL ?_; (case aP => exact rfl); (case aB => exact (bl HB0)); (case aF => exact (fun _ _ => trivial)); (case aO => exact (rr HO)); (case aS => exact (below_size (bl HB0))); (case aL => have := LM.out; omega); intro v7 w7 ho hb hg hat; have HB1 := Aside0.mk hb; have HO1 := Aside0.mk ho; clear ho hb hg hat))
                go_roundg k1
                case measure => have := HK1.out; omega
                case rel => exact ⟨o ++ [y], (wrap64 (x + 1)), (by first | rfl | (simp; done) | (simp [*]; done)), H', ⟨by have := HK1.out; omega⟩, ⟨HO1.out⟩, ⟨HB1.out⟩⟩
              · rw [if_neg c6] at H
                exact absurd H (by simp)
            | false =>
              rw [if_neg (by simp)] at H
              have H' := Aside0.mk H
              clear H
              go_wp2_with (first | ((with_reducible refine gate_callee (f := 88) rfl ?_); refine goesL_ (some 26) rfl rfl Try.func88 (by kernel_rfl) rfl #[.pointer (some ⟨g, 0, none⟩), .int .i64 a1, .int .i64 x] rfl (by (try simp only [List.map_toArray, List.map_cons, List.map_nil]); first | done | rfl | (simp only [List.length_drop, List.length_take]; rfl)) ?_; (with_reducible refine (impl_plane_flip.calls k1 g rows all a1 x _ _ HP2.out A5.out).mono ?_); rintro e w6 ⟨rfl, ⟨m6, rfl⟩⟩; refine ⟨_, rfl, ?_⟩; have n0_ := Aside0.mk (Kd.R_drewN HO.out m6); have n1_ := Aside0.mk (pw_below_drewN HB0.out m6); clear HO HB0; have HO := n0_; have HB0 := n1_; clear n0_ n1_))
              go_roundg k1
              case measure => have := HK1.out; omega
              case rel => exact ⟨o, (wrap64 (x + 1)), (by first | rfl | (simp; done) | (simp [*]; done)), H', ⟨by have := HK1.out; omega⟩, ⟨HO.out⟩, ⟨HB0.out⟩⟩
          · rw [if_neg c7] at H
            have c7b0 : (Go.bits .and .i64 s3 1 == 1) = false := beq_eq_false_iff_ne.mpr c7
            clear c7
            have H' := Aside0.mk H
            clear H
            go_wp2
            go_roundg k1
            case measure => have := HK1.out; omega
            case rel => exact ⟨o, (wrap64 (x + 1)), (by first | rfl | (simp; done) | (simp [*]; done)), H', ⟨by have := HK1.out; omega⟩, ⟨HO.out⟩, ⟨HB0.out⟩⟩
        · rw [if_neg c5] at H
          exact absurd H (by simp)
      · rw [if_neg c4] at H
        have c4b0 : decide (x < (rows.length : Int)) = false := decide_eq_false c4
        clear c4
        have H' := Aside0.mk H
        clear H
        go_wp2_with (first | (go_at_call 89; (with_reducible refine (slices_Sort_int_int.calls (fun _ => True) _ o r w _ (bl HB0) (rr HO) H'.out).mono ?_); rintro e w7 ⟨rfl, ho, hb, hk⟩; have HO1 := Aside0.mk ho; have HB1 := Aside0.mk hb; clear ho hb hk))
        go_ret
        exact ⟨_, rfl, Kd.R_mono HO1.out (fun _ _ => trivial), HB1.out⟩
set_option maxHeartbeats 8000000 in
set_option maxRecDepth 100000 in
theorem impl_FlipsFrom.calls (k : Nat) (a0_0 : Int) (a0_1 : ByteArray) (a1 : Int) (r : List Int) (w : World) (h : impl_FlipsFrom.f k a0_0 a0_1 a1 = some r) :
    Calls Try.prog 24 #[.agg #[.int .i64 a0_0, .string a0_1], .int .i64 a1] w fun e w' => ∃ v0_ : Value, e = .returned (v0_) ∧ Kd.R (Kd.int .i64) 3 w' w.heap.size (fun _ => True) v0_ r ∧ Below w.heap.size w w' := by
  have HB := Aside0.mk (Below.refl w.heap.size w)
  have H := h
  clear h
  unfold impl_FlipsFrom.f at H
  replace H := Option.bind_eq_some_iff.mp H
  obtain ⟨b, A1, H⟩ := H
  replace A1 := Aside0.mk A1
  cases b with
  | false =>
    simp only [Bool.false_eq_true, if_false] at H
    obtain rfl := Option.some.inj H
    clear H
    go_enter Try.func24, Try.ntmps24
    go_wp2_with (first | ((with_reducible refine gate_dst (N := 2) rfl ?_); refine box_event ?hg (N := 2) ?hd (cs := #[.int .i64 a0_0, .string a0_1]) (t := 27) ?hr ?_; (case hd => rfl); (case hg => rfl); (case hr => first | (go_simp; done) | (go_simp; rfl)); intro g3 hg w3 hbox hb; have n0_ := Aside0.mk (below_step (by repeat (first | (with_reducible first | exact HB.out | apply below_alloc | apply pw_below_drewN | apply below_drew1) | exact HB.out)) hb); have GE3 := Aside0.mk ((by rw [hg]; exact (below_size (by repeat (first | (with_reducible first | exact HB.out | apply below_alloc | apply pw_below_drewN | apply below_drew1) | exact HB.out)))) : w.heap.size ≤ g3); have BK3 := Aside0.mk hbox; clear HB; have HB := n0_; clear n0_ hb hbox hg; have hcz3_0 : w3.cell? ⟨g3, 0, none⟩ = some (.int .i64 a0_0) := (blk_cell BK3.out 0).trans rfl; have hfz3_0 := blk_frozen BK3.out 0; have hcz3_1 : w3.cell? ⟨g3, 1, none⟩ = some (.string a0_1) := (blk_cell BK3.out 1).trans rfl; have hfz3_1 := blk_frozen BK3.out 1) | ((with_reducible refine gate_callee (f := 49) rfl ?_); refine goesL_ (some 9) rfl rfl Try.func49 (by kernel_rfl) rfl #[.agg #[.int .i64 a0_0, .string a0_1], .int .i64 a1] rfl (by (try simp only [List.map_toArray, List.map_cons, List.map_nil]); first | done | rfl | (simp only [List.length_drop, List.length_take]; rfl)) ?_; (with_reducible refine (impl_IsTriangulation.calls k a0_0 a0_1 a1 _ _ A1.out).mono ?_); rintro e w5 ⟨rfl, hb⟩; refine ⟨_, rfl, ?_⟩; have n9_ := Aside0.mk (blk_below (g := g3) (o := .cells #[.int .i64 a0_0, .string a0_1] 27 (0, 0)) (by (with_reducible repeat (first | refine blk_drewN ?_ _ | refine blk_drew ?_ | refine blk_alloc ?_ _)); exact BK3.out) hb); clear BK3; have BK3 := n9_; clear n9_; have hcz3w5_0 : w5.cell? ⟨g3, 0, none⟩ = some (.int .i64 a0_0) := (blk_cell BK3.out 0).trans rfl; have hfz3w5_0 := blk_frozen BK3.out 0; have hcz3w5_1 : w5.cell? ⟨g3, 1, none⟩ = some (.string a0_1) := (blk_cell BK3.out 1).trans rfl; have hfz3w5_1 := blk_frozen BK3.out 1; replace HB := bs HB hb; clear hb))
    go_ret
    exact ⟨_, rfl, Kd.R_nil _ _ _ _ _, bl HB⟩
  | true =>
    simp only [if_true] at H
    replace H := Option.bind_eq_some_iff.mp H
    obtain ⟨⟨⟨t1, t2⟩, t4⟩, A2, H⟩ := H
    replace A2 := Aside0.mk A2
    cases t4 with
    | false => exact absurd H (by simp)
    | true =>
      simp only [if_true] at H
      have A3 := Aside0.mk H
      clear H
      go_enter Try.func24, Try.ntmps24
      go_wp2_with (first | ((with_reducible refine gate_dst (N := 2) rfl ?_); refine box_event ?hg (N := 2) ?hd (cs := #[.int .i64 a0_0, .string a0_1]) (t := 27) ?hr ?_; (case hd => rfl); (case hg => rfl); (case hr => first | (go_simp; done) | (go_simp; rfl)); intro g3 hg w3 hbox hb; have n0_ := Aside0.mk (below_step (by repeat (first | (with_reducible first | exact HB.out | apply below_alloc | apply pw_below_drewN | apply below_drew1) | exact HB.out)) hb); have GE3 := Aside0.mk ((by rw [hg]; exact (below_size (by repeat (first | (with_reducible first | exact HB.out | apply below_alloc | apply pw_below_drewN | apply below_drew1) | exact HB.out)))) : w.heap.size ≤ g3); have BK3 := Aside0.mk hbox; clear HB; have HB := n0_; clear n0_ hb hbox hg; have hcz3_0 : w3.cell? ⟨g3, 0, none⟩ = some (.int .i64 a0_0) := (blk_cell BK3.out 0).trans rfl; have hfz3_0 := blk_frozen BK3.out 0; have hcz3_1 : w3.cell? ⟨g3, 1, none⟩ = some (.string a0_1) := (blk_cell BK3.out 1).trans rfl; have hfz3_1 := blk_frozen BK3.out 1) | ((with_reducible refine gate_callee (f := 49) rfl ?_); refine goesL_ (some 9) rfl rfl Try.func49 (by kernel_rfl) rfl #[.agg #[.int .i64 a0_0, .string a0_1], .int .i64 a1] rfl (by (try simp only [List.map_toArray, List.map_cons, List.map_nil]); first | done | rfl | (simp only [List.length_drop, List.length_take]; rfl)) ?_; (with_reducible refine (impl_IsTriangulation.calls k a0_0 a0_1 a1 _ _ A1.out).mono ?_); rintro e w5 ⟨rfl, hb⟩; refine ⟨_, rfl, ?_⟩; have n9_ := Aside0.mk (blk_below (g := g3) (o := .cells #[.int .i64 a0_0, .string a0_1] 27 (0, 0)) (by (with_reducible repeat (first | refine blk_drewN ?_ _ | refine blk_drew ?_ | refine blk_alloc ?_ _)); exact BK3.out) hb); clear BK3; have BK3 := n9_; clear n9_; have hcz3w5_0 : w5.cell? ⟨g3, 0, none⟩ = some (.int .i64 a0_0) := (blk_cell BK3.out 0).trans rfl; have hfz3w5_0 := blk_frozen BK3.out 0; have hcz3w5_1 : w5.cell? ⟨g3, 1, none⟩ = some (.string a0_1) := (blk_cell BK3.out 1).trans rfl; have hfz3w5_1 := blk_frozen BK3.out 1; replace HB := bs HB hb; clear hb) | ((with_reducible refine gate_callee (f := 50) rfl ?_); refine goesL_ (some 13) rfl rfl Try.func50 (by kernel_rfl) rfl #[.agg #[.int .i64 a0_0, .string a0_1]] rfl (by (try simp only [List.map_toArray, List.map_cons, List.map_nil]); first | done | rfl | (simp only [List.length_drop, List.length_take]; rfl)) ?_; (with_reducible refine (impl_planeOf.calls k a0_0 a0_1 _ _ A2.out).mono ?_); rintro e w4 ⟨p4, rfl, hp, hb⟩; refine ⟨_, rfl, ?_⟩; obtain ⟨g4, rfl, hI⟩ := hp.2 rfl; have HI := Aside0.mk hI; clear hp hI; have n9_ := Aside0.mk (blk_below (g := g3) (o := .cells #[.int .i64 a0_0, .string a0_1] 27 (0, 0)) (by (with_reducible repeat (first | refine blk_drewN ?_ _ | refine blk_drew ?_ | refine blk_alloc ?_ _)); exact BK3.out) hb); clear BK3; have BK3 := n9_; clear n9_; have hcz3w4_0 : w4.cell? ⟨g3, 0, none⟩ = some (.int .i64 a0_0) := (blk_cell BK3.out 0).trans rfl; have hfz3w4_0 := blk_frozen BK3.out 0; have hcz3w4_1 : w4.cell? ⟨g3, 1, none⟩ = some (.string a0_1) := (blk_cell BK3.out 1).trans rfl; have hfz3w4_1 := blk_frozen BK3.out 1; replace HB := bs HB hb; clear hb) | ((with_reducible refine gate_callee (f := 51) rfl ?_); refine goesL_ (some 18) rfl rfl Try.func51 (by kernel_rfl) rfl #[.pointer (some ⟨g4, 0, none⟩), .int .i64 a1] rfl (by (try simp only [List.map_toArray, List.map_cons, List.map_nil]); first | done | rfl | (simp only [List.length_drop, List.length_take]; rfl)) ?_; (with_reducible refine (impl_plane_flips.calls k g4 t1 t2 a1 r _ HI.out A3.out).mono ?_); rintro e w6 ⟨v5, rfl, ho, hb⟩; refine ⟨_, rfl, ?_⟩; have HO := Aside0.mk (Kd.R_lower ho (below_size HB.out)); replace HB := bs HB hb; clear ho hb))
      go_ret
      exact ⟨_, rfl, HO.out, bl HB⟩

end Go.Proofs.Ytiimkifkakdalaa.P
