/- impl.IsTriangulation, impl.FlipEdge: what a call of them computes. Conditions: none. -/
import Derived.Test.YtiimkifkakdalaaOPlane
import Derived.Test.YtiimkifkakdalaaOFull
import Derived.Test.YtiimkifkakdalaaP83
namespace Go.Proofs.Ytiimkifkakdalaa.P
open Go.RowKit Go.Proofs.YtiimkifkakdalaaW.PrintWords Go.Proofs.YtiimkifkakdalaaW.PrintLast Go.Proofs.YtiimkifkakdalaaW.PrintMore
set_option linter.unusedVariables false
set_option linter.unusedSimpArgs false

def impl_IsTriangulation.f (k : Nat) (n : Int) (s : ByteArray) (e : Int) : Option Bool := (impl_planeOf.f k n s).bind fun r => if r.2 = true then (impl_areEdges.f n e).bind fun b => if b = true then (impl_plane_isFull.f k r.1.1 e).bind fun q => some q else some false else some false
theorem impl_IsTriangulation.mono : ∀ a0 a1 a2 k, LeO (impl_IsTriangulation.f k a0 a1 a2) (impl_IsTriangulation.f (k + 1) a0 a1 a2) := by
  intro a0 a1 a2 k
  unfold impl_IsTriangulation.f
  repeat' first
    | (with_reducible exact impl_planeOf.mono _ _ _)
    | (with_reducible exact impl_plane_isFull.mono _ _ _)
    | (with_reducible exact LeO.refl _)
    | (with_reducible refine LeO.ite ?_ ?_)
    | (with_reducible refine LeO.bind ?_ (fun _ => ?_))
set_option maxHeartbeats 8000000 in
set_option maxRecDepth 100000 in
theorem impl_IsTriangulation.calls (k : Nat) (a0_0 : Int) (a0_1 : ByteArray) (a1 : Int) (r : Bool) (w : World) (h : impl_IsTriangulation.f k a0_0 a0_1 a1 = some r) :
    Calls Try.prog 49 #[.agg #[.int .i64 a0_0, .string a0_1], .int .i64 a1] w fun e w' => e = .returned (.bool r) ∧ Below w.heap.size w w' := by
  have HB := Aside0.mk (Below.refl w.heap.size w)
  unfold impl_IsTriangulation.f at h
  obtain ⟨⟨⟨t1, t2⟩, t4⟩, A1, H⟩ := Option.bind_eq_some_iff.mp h
  replace A1 := Aside0.mk A1
  clear h
  simp only at H
  cases t4 with
  | false =>
    simp only [Bool.false_eq_true, if_false] at H
    obtain rfl := Option.some.inj H
    clear H
    go_enter Try.func49, Try.ntmps49
    go_wp2_with (first | ((with_reducible refine gate_dst (N := 2) rfl ?_); refine box_event ?hg (N := 2) ?hd (cs := #[.int .i64 a0_0, .string a0_1]) (t := 27) ?hr ?_; (case hd => rfl); (case hg => rfl); (case hr => first | (go_simp; done) | (go_simp; rfl)); intro g3 hg w3 hbox hb; have n0_ := Aside0.mk (below_step (by repeat (first | (with_reducible first | exact HB.out | apply below_alloc | apply pw_below_drewN | apply below_drew1) | exact HB.out)) hb); have GE3 := Aside0.mk ((by rw [hg]; exact (below_size (by repeat (first | (with_reducible first | exact HB.out | apply below_alloc | apply pw_below_drewN | apply below_drew1) | exact HB.out)))) : w.heap.size ≤ g3); have BK3 := Aside0.mk hbox; clear HB; have HB := n0_; clear n0_ hb hbox hg; have hcz3_0 : w3.cell? ⟨g3, 0, none⟩ = some (.int .i64 a0_0) := (blk_cell BK3.out 0).trans rfl; have hfz3_0 := blk_frozen BK3.out 0; have hcz3_1 : w3.cell? ⟨g3, 1, none⟩ = some (.string a0_1) := (blk_cell BK3.out 1).trans rfl; have hfz3_1 := blk_frozen BK3.out 1) | ((with_reducible refine gate_callee (f := 50) rfl ?_); refine goesL_ (some 9) rfl rfl Try.func50 (by kernel_rfl) rfl #[.agg #[.int .i64 a0_0, .string a0_1]] rfl (by (try simp only [List.map_toArray, List.map_cons, List.map_nil]); first | done | rfl | (simp only [List.length_drop, List.length_take]; rfl)) ?_; (with_reducible refine (impl_planeOf.calls k a0_0 a0_1 _ _ A1.out).mono ?_); rintro e w4 ⟨p4, rfl, hp, hb⟩; refine ⟨_, rfl, ?_⟩; have n9_ := Aside0.mk (blk_below (g := g3) (o := .cells #[.int .i64 a0_0, .string a0_1] 27 (0, 0)) (by (with_reducible repeat (first | refine blk_drewN ?_ _ | refine blk_drew ?_ | refine blk_alloc ?_ _)); exact BK3.out) hb); clear BK3; have BK3 := n9_; clear n9_; have hcz3w4_0 : w4.cell? ⟨g3, 0, none⟩ = some (.int .i64 a0_0) := (blk_cell BK3.out 0).trans rfl; have hfz3w4_0 := blk_frozen BK3.out 0; have hcz3w4_1 : w4.cell? ⟨g3, 1, none⟩ = some (.string a0_1) := (blk_cell BK3.out 1).trans rfl; have hfz3w4_1 := blk_frozen BK3.out 1; replace HB := bs HB hb; clear hb))
    go_ret
    exact ⟨rfl, bl HB⟩
  | true =>
    simp only [if_true] at H
    replace H := Option.bind_eq_some_iff.mp H
    obtain ⟨t5, A2, H⟩ := H
    replace A2 := Aside0.mk A2
    cases t5 with
    | false =>
      simp only [Bool.false_eq_true, if_false] at H
      obtain rfl := Option.some.inj H
      clear H
      go_enter Try.func49, Try.ntmps49
      go_wp2_with (first | ((with_reducible refine gate_dst (N := 2) rfl ?_); refine box_event ?hg (N := 2) ?hd (cs := #[.int .i64 a0_0, .string a0_1]) (t := 27) ?hr ?_; (case hd => rfl); (case hg => rfl); (case hr => first | (go_simp; done) | (go_simp; rfl)); intro g3 hg w3 hbox hb; have n0_ := Aside0.mk (below_step (by repeat (first | (with_reducible first | exact HB.out | apply below_alloc | apply pw_below_drewN | apply below_drew1) | exact HB.out)) hb); have GE3 := Aside0.mk ((by rw [hg]; exact (below_size (by repeat (first | (with_reducible first | exact HB.out | apply below_alloc | apply pw_below_drewN | apply below_drew1) | exact HB.out)))) : w.heap.size ≤ g3); have BK3 := Aside0.mk hbox; clear HB; have HB := n0_; clear n0_ hb hbox hg; have hcz3_0 : w3.cell? ⟨g3, 0, none⟩ = some (.int .i64 a0_0) := (blk_cell BK3.out 0).trans rfl; have hfz3_0 := blk_frozen BK3.out 0; have hcz3_1 : w3.cell? ⟨g3, 1, none⟩ = some (.string a0_1) := (blk_cell BK3.out 1).trans rfl; have hfz3_1 := blk_frozen BK3.out 1) | ((with_reducible refine gate_callee (f := 50) rfl ?_); refine goesL_ (some 9) rfl rfl Try.func50 (by kernel_rfl) rfl #[.agg #[.int .i64 a0_0, .string a0_1]] rfl (by (try simp only [List.map_toArray, List.map_cons, List.map_nil]); first | done | rfl | (simp only [List.length_drop, List.length_take]; rfl)) ?_; (with_reducible refine (impl_planeOf.calls k a0_0 a0_1 _ _ A1.out).mono ?_); rintro e w4 ⟨p4, rfl, hp, hb⟩; refine ⟨_, rfl, ?_⟩; obtain ⟨g4, rfl, hI⟩ := hp.2 rfl; have HI := Aside0.mk hI; clear hp hI; have n9_ := Aside0.mk (blk_below (g := g3) (o := .cells #[.int .i64 a0_0, .string a0_1] 27 (0, 0)) (by (with_reducible repeat (first | refine blk_drewN ?_ _ | refine blk_drew ?_ | refine blk_alloc ?_ _)); exact BK3.out) hb); clear BK3; have BK3 := n9_; clear n9_; have hcz3w4_0 : w4.cell? ⟨g3, 0, none⟩ = some (.int .i64 a0_0) := (blk_cell BK3.out 0).trans rfl; have hfz3w4_0 := blk_frozen BK3.out 0; have hcz3w4_1 : w4.cell? ⟨g3, 1, none⟩ = some (.string a0_1) := (blk_cell BK3.out 1).trans rfl; have hfz3w4_1 := blk_frozen BK3.out 1; replace HB := bs HB hb; clear hb) | (go_at_call 83; refine (impl_areEdges.calls a0_0 a1 false _ A2.out).mono ?_; rintro e w' ⟨rfl, ⟨nd, rfl⟩⟩))
      go_ret
      exact ⟨rfl, bl HB⟩
    | true =>
      simp only [if_true] at H
      replace H := Option.bind_eq_some_iff.mp H
      obtain ⟨t6, A3, H⟩ := H
      replace A3 := Aside0.mk A3
      obtain rfl := Option.some.inj H
      clear H
      go_enter Try.func49, Try.ntmps49
      go_wp2_with (first | ((with_reducible refine gate_dst (N := 2) rfl ?_); refine box_event ?hg (N := 2) ?hd (cs := #[.int .i64 a0_0, .string a0_1]) (t := 27) ?hr ?_; (case hd => rfl); (case hg => rfl); (case hr => first | (go_simp; done) | (go_simp; rfl)); intro g3 hg w3 hbox hb; have n0_ := Aside0.mk (below_step (by repeat (first | (with_reducible first | exact HB.out | apply below_alloc | apply pw_below_drewN | apply below_drew1) | exact HB.out)) hb); have GE3 := Aside0.mk ((by rw [hg]; exact (below_size (by repeat (first | (with_reducible first | exact HB.out | apply below_alloc | apply pw_below_drewN | apply below_drew1) | exact HB.out)))) : w.heap.size ≤ g3); have BK3 := Aside0.mk hbox; clear HB; have HB := n0_; clear n0_ hb hbox hg; have hcz3_0 : w3.cell? ⟨g3, 0, none⟩ = some (.int .i64 a0_0) := (blk_cell BK3.out 0).trans rfl; have hfz3_0 := blk_frozen BK3.out 0; have hcz3_1 : w3.cell? ⟨g3, 1, none⟩ = some (.string a0_1) := (blk_cell BK3.out 1).trans rfl; have hfz3_1 := blk_frozen BK3.out 1) | ((with_reducible refine gate_callee (f := 50) rfl ?_); refine goesL_ (some 9) rfl rfl Try.func50 (by kernel_rfl) rfl #[.agg #[.int .i64 a0_0, .string a0_1]] rfl (by (try simp only [List.map_toArray, List.map_cons, List.map_nil]); first | done | rfl | (simp only [List.length_drop, List.length_take]; rfl)) ?_; (with_reducible refine (impl_planeOf.calls k a0_0 a0_1 _ _ A1.out).mono ?_); rintro e w4 ⟨p4, rfl, hp, hb⟩; refine ⟨_, rfl, ?_⟩; obtain ⟨g4, rfl, hI⟩ := hp.2 rfl; have HI := Aside0.mk hI; clear hp hI; have n9_ := Aside0.mk (blk_below (g := g3) (o := .cells #[.int .i64 a0_0, .string a0_1] 27 (0, 0)) (by (with_reducible repeat (first | refine blk_drewN ?_ _ | refine blk_drew ?_ | refine blk_alloc ?_ _)); exact BK3.out) hb); clear BK3; have BK3 := n9_; clear n9_; have hcz3w4_0 : w4.cell? ⟨g3, 0, none⟩ = some (.int .i64 a0_0) := (blk_cell BK3.out 0).trans rfl; have hfz3w4_0 := blk_frozen BK3.out 0; have hcz3w4_1 : w4.cell? ⟨g3, 1, none⟩ = some (.string a0_1) := (blk_cell BK3.out 1).trans rfl; have hfz3w4_1 := blk_frozen BK3.out 1; replace HB := bs HB hb; clear hb) | (go_at_call 83; refine (impl_areEdges.calls a0_0 a1 true _ A2.out).mono ?_; rintro e w' ⟨rfl, ⟨nd, rfl⟩⟩) | (go_at_call 84; refine (impl_plane_isFull.calls k g4 t1 t2 a1 t6 _ (by (with_reducible repeat (first | apply PlaneAt.drewN | apply PlaneAt.drew)); exact HI.out) A3.out).mono ?_; rintro e w6 ⟨rfl, rfl⟩))
      go_ret
      exact ⟨rfl, bl HB⟩

end Go.Proofs.Ytiimkifkakdalaa.P
