/- impl.IsTriangulation, impl.FlipEdge: what a call of them computes. Conditions: none. -/
import Derived.Test.YtjjfjdejhddcnaaOPlane
import Derived.Test.YtjjfjdejhddcnaaP88
namespace Go.Proofs.Ytjjfjdejhddcnaa.P
open Go.RowKit Go.Proofs.YtjjfjdejhddcnaaW.PrintWords Go.Proofs.YtjjfjdejhddcnaaW.PrintLast Go.Proofs.YtjjfjdejhddcnaaW.PrintMore
set_option linter.unusedVariables false
set_option linter.unusedSimpArgs false

def impl_IsTriangulation.f (k : Nat) (n : Int) (s : ByteArray) (e : Int) : Option Bool := (impl_planeOf.f k n s).bind fun r => if r.2 = true then (impl_areEdges.f n e).bind fun b => if b = true then (impl_plane_isFull.f k r.1.1 e).bind fun q => some q else some false else some false
theorem impl_IsTriangulation.mono : ∀ a0 a1 a2 k, LeO (impl_IsTriangulation.f k a0 a1 a2) (impl_IsTriangulation.f (k + 1) a0 a1 a2) := by
  intro a0 a1 a2 k
  unfold impl_IsTriangulation.f
  repeat' first
    | (with_reducible exact impl_planeOf.mono _ _ _)
    | (with_reducible exact impl_plane_isFull.mono _ _ _)
    | (with_reducible exact LeO.refl _)
    | (with_reducible refine LeO.ite ?_ ?_)
    | (with_reducible refine LeO.bind ?_ (fun _ => ?_))
set_option maxHeartbeats 8000000 in
set_option maxRecDepth 100000 in
theorem impl_IsTriangulation.calls (k : Nat) (a0_0 : Int) (a0_1 : ByteArray) (a1 : Int) (r : Bool) (w : World) (h : impl_IsTriangulation.f k a0_0 a0_1 a1 = some r) :
    Calls Try.prog 24 #[.agg #[.int .i64 a0_0, .string a0_1], .int .i64 a1] w fun e w' => e = .returned (.bool r) ∧ Below w.heap.size w w' := by
  have HB := Aside0.mk (Below.refl w.heap.size w)
  unfold impl_IsTriangulation.f at h
  obtain ⟨⟨⟨t1, t2⟩, t4⟩, A1, H⟩ := Option.bind_eq_some_iff.mp h
  replace A1 := Aside0.mk A1
  clear h
  simp only at H
  cases t4 with
  | false =>
    simp only [Bool.false_eq_true, if_false] at H
    obtain rfl := Option.some.inj H
    clear H
    go_enter Try.func24, Try.ntmps24
    go_wp2_with (first | ((with_reducible refine gate_dst (N := 2) rfl ?_); refine box_event ?hg (N := 2) ?hd (cs := #[.int .i64 a0_0, .string a0_1]) (t := 26) ?hr ?_; (case hd => rfl); (case hg => rfl); (case hr => first | (go_simp; done) | (go_simp; rfl)); intro g3 hg w3 hbox hb; have n0_ := Aside0.mk (below_step (by repeat (first | (with_reducible first | exact HB.out | apply below_alloc | apply pw_below_drewN | apply below_drew1) | exact HB.out)) hb); have GE3 := Aside0.mk ((by rw [hg]; exact (below_size (by repeat (first | (with_reducible first | exact HB.out | apply below_alloc | apply pw_below_drewN | apply below_drew1) | exact HB.out)))) : w.heap.size ≤ g3); have BK3 := Aside0.mk hbox; clear HB; have HB := n0_; clear n0_ hb hbox hg; have hcz3_0 : w3.cell? ⟨g3, 0, none⟩ = some (.int .i64 a0_0) := (blk_cell BK3.out 0).trans rfl; have hfz3_0 := blk_frozen BK3.out 0; have hcz3_1 : w3.cell? ⟨g3, 1, none⟩ = some (.string a0_1) := (blk_cell BK3.out 1).trans rfl; have hfz3_1 := blk_frozen BK3.out 1) | ((with_reducible refine gate_callee (f := 60) rfl ?_); refine goesL_ (some 9) rfl rfl Try.func60 (by kernel_rfl) rfl #[.agg #[.int .i64 a0_0, .string a0_1]] rfl (by (try simp only [List.map_toArray, List.map_cons, List.map_nil]); first | done | rfl | (simp only [List.length_drop, List.length_take]; rfl)) ?_; (with_reducible refine (impl_planeOf.calls k a0_0 a0_1 _ _ A1.out).mono ?_); rintro e w4 ⟨p4, rfl, hp, hb⟩; refine ⟨_, rfl, ?_⟩; have n9_ := Aside0.mk (blk_below (g := g3) (o := .cells #[.int .i64 a0_0, .string a0_1] 26 (0, 0)) (by (with_reducible repeat (first | refine blk_drewN ?_ _ | refine blk_drew ?_ | refine blk_alloc ?_ _)); exact BK3.out) hb); clear BK3; have BK3 := n9_; clear n9_; have hcz3w4_0 : w4.cell? ⟨g3, 0, none⟩ = some (.int .i64 a0_0) := (blk_cell BK3.out 0).trans rfl; have hfz3w4_0 := blk_frozen BK3.out 0; have hcz3w4_1 : w4.cell? ⟨g3, 1, none⟩ = some (.string a0_1) := (blk_cell BK3.out 1).trans rfl; have hfz3w4_1 := blk_frozen BK3.out 1; replace HB := bs HB hb; clear hb))
    go_ret
    exact ⟨rfl, bl HB⟩
  | true =>
    simp only [if_true] at H
    replace H := Option.bind_eq_some_iff.mp H
    obtain ⟨t5, A2, H⟩ := H
    replace A2 := Aside0.mk A2
    cases t5 with
    | false =>
      simp only [Bool.false_eq_true, if_false] at H
      obtain rfl := Option.some.inj H
      clear H
      go_enter Try.func24, Try.ntmps24
      go_wp2_with (first | ((with_reducible refine gate_dst (N := 2) rfl ?_); refine box_event ?hg (N := 2) ?hd (cs := #[.int .i64 a0_0, .string a0_1]) (t := 26) ?hr ?_; (case hd => rfl); (case hg => rfl); (case hr => first | (go_simp; done) | (go_simp; rfl)); intro g3 hg w3 hbox hb; have n0_ := Aside0.mk (below_step (by repeat (first | (with_reducible first | exact HB.out | apply below_alloc | apply pw_below_drewN | apply below_drew1) | exact HB.out)) hb); have GE3 := Aside0.mk ((by rw [hg]; exact (below_size (by repeat (first | (with_reducible first | exact HB.out | apply below_alloc | apply pw_below_drewN | apply below_drew1) | exact HB.out)))) : w.heap.size ≤ g3); have BK3 := Aside0.mk hbox; clear HB; have HB := n0_; clear n0_ hb hbox hg; have hcz3_0 : w3.cell? ⟨g3, 0, none⟩ = some (.int .i64 a0_0) := (blk_cell BK3.out 0).trans rfl; have hfz3_0 := blk_frozen BK3.out 0; have hcz3_1 : w3.cell? ⟨g3, 1, none⟩ = some (.string a0_1) := (blk_cell BK3.out 1).trans rfl; have hfz3_1 := blk_frozen BK3.out 1) | ((with_reducible refine gate_callee (f := 60) rfl ?_); refine goesL_ (some 9) rfl rfl Try.func60 (by kernel_rfl) rfl #[.agg #[.int .i64 a0_0, .string a0_1]] rfl (by (try simp only [List.map_toArray, List.map_cons, List.map_nil]); first | done | rfl | (simp only [List.length_drop, List.length_take]; rfl)) ?_; (with_reducible refine (impl_planeOf.calls k a0_0 a0_1 _ _ A1.out).mono ?_); rintro e w4 ⟨p4, rfl, hp, hb⟩; refine ⟨_, rfl, ?_⟩; obtain ⟨g4, rfl, hI⟩ := hp.2 rfl; have HI := Aside0.mk hI; clear hp hI; have n9_ := Aside0.mk (blk_below (g := g3) (o := .cells #[.int .i64 a0_0, .string a0_1] 26 (0, 0)) (by (with_reducible repeat (first | refine blk_drewN ?_ _ | refine blk_drew ?_ | refine blk_alloc ?_ _)); exact BK3.out) hb); clear BK3; have BK3 := n9_; clear n9_; have hcz3w4_0 : w4.cell? ⟨g3, 0, none⟩ = some (.int .i64 a0_0) := (blk_cell BK3.out 0).trans rfl; have hfz3w4_0 := blk_frozen BK3.out 0; have hcz3w4_1 : w4.cell? ⟨g3, 1, none⟩ = some (.string a0_1) := (blk_cell BK3.out 1).trans rfl; have hfz3w4_1 := blk_frozen BK3.out 1; replace HB := bs HB hb; clear hb) | (go_at_call 61; refine (impl_areEdges.calls a0_0 a1 false _ A2.out).mono ?_; rintro e w' ⟨rfl, ⟨nd, rfl⟩⟩))
      go_ret
      exact ⟨rfl, bl HB⟩
    | true =>
      simp only [if_true] at H
      replace H := Option.bind_eq_some_iff.mp H
      obtain ⟨t6, A3, H⟩ := H
      replace A3 := Aside0.mk A3
      obtain rfl := Option.some.inj H
      clear H
      go_enter Try.func24, Try.ntmps24
      go_wp2_with (first | ((with_reducible refine gate_dst (N := 2) rfl ?_); refine box_event ?hg (N := 2) ?hd (cs := #[.int .i64 a0_0, .string a0_1]) (t := 26) ?hr ?_; (case hd => rfl); (case hg => rfl); (case hr => first | (go_simp; done) | (go_simp; rfl)); intro g3 hg w3 hbox hb; have n0_ := Aside0.mk (below_step (by repeat (first | (with_reducible first | exact HB.out | apply below_alloc | apply pw_below_drewN | apply below_drew1) | exact HB.out)) hb); have GE3 := Aside0.mk ((by rw [hg]; exact (below_size (by repeat (first | (with_reducible first | exact HB.out | apply below_alloc | apply pw_below_drewN | apply below_drew1) | exact HB.out)))) : w.heap.size ≤ g3); have BK3 := Aside0.mk hbox; clear HB; have HB := n0_; clear n0_ hb hbox hg; have hcz3_0 : w3.cell? ⟨g3, 0, none⟩ = some (.int .i64 a0_0) := (blk_cell BK3.out 0).trans rfl; have hfz3_0 := blk_frozen BK3.out 0; have hcz3_1 : w3.cell? ⟨g3, 1, none⟩ = some (.string a0_1) := (blk_cell BK3.out 1).trans rfl; have hfz3_1 := blk_frozen BK3.out 1) | ((with_reducible refine gate_callee (f := 60) rfl ?_); refine goesL_ (some 9) rfl rfl Try.func60 (by kernel_rfl) rfl #[.agg #[.int .i64 a0_0, .string a0_1]] rfl (by (try simp only [List.map_toArray, List.map_cons, List.map_nil]); first | done | rfl | (simp only [List.length_drop, List.length_take]; rfl)) ?_; (with_reducible refine (impl_planeOf.calls k a0_0 a0_1 _ _ A1.out).mono ?_); rintro e w4 ⟨p4, rfl, hp, hb⟩; refine ⟨_, rfl, ?_⟩; obtain ⟨g4, rfl, hI⟩ := hp.2 rfl; have HI := Aside0.mk hI; clear hp hI; have n9_ := Aside0.mk (blk_below (g := g3) (o := .cells #[.int .i64 a0_0, .string a0_1] 26 (0, 0)) (by (with_reducible repeat (first | refine blk_drewN ?_ _ | refine blk_drew ?_ | refine blk_alloc ?_ _)); exact BK3.out) hb); clear BK3; have BK3 := n9_; clear n9_; have hcz3w4_0 : w4.cell? ⟨g3, 0, none⟩ = some (.int .i64 a0_0) := (blk_cell BK3.out 0).trans rfl; have hfz3w4_0 := blk_frozen BK3.out 0; have hcz3w4_1 : w4.cell? ⟨g3, 1, none⟩ = some (.string a0_1) := (blk_cell BK3.out 1).trans rfl; have hfz3w4_1 := blk_frozen BK3.out 1; replace HB := bs HB hb; clear hb) | (go_at_call 61; refine (impl_areEdges.calls a0_0 a1 true _ A2.out).mono ?_; rintro e w' ⟨rfl, ⟨nd, rfl⟩⟩) | (go_at_call 62; refine (impl_plane_isFull.calls k g4 t1 t2 a1 t6 _ (by (with_reducible repeat (first | apply PlaneAt.drewN | apply PlaneAt.drew)); exact HI.out) A3.out).mono ?_; rintro e w6 ⟨rfl, rfl⟩))
      go_ret
      exact ⟨rfl, bl HB⟩

def impl_FlipEdge.f (k : Nat) (n : Int) (s : ByteArray) (e i : Int) : Option (Int × Bool) := (impl_planeOf.f k n s).bind fun r => if r.2 = true then (impl_areEdges.f n e).bind fun b => if b = true then (impl_plane_isFull.f k r.1.1 e).bind fun q => if q = true then (if i < 0 then some (0, false) else if i ≥ (r.1.1.length : Int) then some (0, false) else if Go.bits .and .i64 (shr .i64 e i) 1 = 0 then some (0, false) else impl_plane_flip.f k r.1.1 e i) else some (0, false) else some (0, false) else some (0, false)
theorem impl_FlipEdge.mono : ∀ a0 a1 a2 a3 k, LeO (impl_FlipEdge.f k a0 a1 a2 a3) (impl_FlipEdge.f (k + 1) a0 a1 a2 a3) := by
  intro a0 a1 a2 a3 k
  unfold impl_FlipEdge.f
  repeat' first
    | (with_reducible exact impl_planeOf.mono _ _ _)
    | (with_reducible exact impl_plane_isFull.mono _ _ _)
    | (with_reducible exact impl_plane_flip.mono _ _ _ _)
    | (with_reducible exact LeO.refl _)
    | (with_reducible refine LeO.ite ?_ ?_)
    | (with_reducible refine LeO.bind ?_ (fun _ => ?_))
set_option maxHeartbeats 8000000 in
set_option maxRecDepth 100000 in
theorem impl_FlipEdge.calls (k : Nat) (a0_0 : Int) (a0_1 : ByteArray) (a1 a2 : Int) (r1 : Int) (r2 : Bool) (w : World) (h : impl_FlipEdge.f k a0_0 a0_1 a1 a2 = some (r1, r2)) :
    Calls Try.prog 30 #[.agg #[.int .i64 a0_0, .string a0_1], .int .i64 a1, .int .i64 a2] w fun e w' => e = .returned (.tuple #[.int .i64 r1, .bool r2]) ∧ Below w.heap.size w w' := by
  have HB := Aside0.mk (Below.refl w.heap.size w)
  have H := h
  clear h
  unfold impl_FlipEdge.f at H
  replace H := Option.bind_eq_some_iff.mp H
  obtain ⟨⟨⟨t1, t2⟩, t4⟩, A1, H⟩ := H
  replace A1 := Aside0.mk A1
  simp only at H
  cases t4 with
  | false =>
    simp only [Bool.false_eq_true, if_false, Option.some.injEq, Prod.mk.injEq] at H
    obtain ⟨rfl, rfl⟩ := H
    go_enter Try.func30, Try.ntmps30
    go_wp2_with (first | ((with_reducible refine gate_dst (N := 3) rfl ?_); refine box_event ?hg (N := 3) ?hd (cs := #[.int .i64 a0_0, .string a0_1]) (t := 26) ?hr ?_; (case hd => rfl); (case hg => rfl); (case hr => first | (go_simp; done) | (go_simp; rfl)); intro g3 hg w3 hbox hb; have n0_ := Aside0.mk (below_step (by repeat (first | (with_reducible first | exact HB.out | apply below_alloc | apply pw_below_drewN | apply below_drew1) | exact HB.out)) hb); have GE3 := Aside0.mk ((by rw [hg]; exact (below_size (by repeat (first | (with_reducible first | exact HB.out | apply below_alloc | apply pw_below_drewN | apply below_drew1) | exact HB.out)))) : w.heap.size ≤ g3); have BK3 := Aside0.mk hbox; clear HB; have HB := n0_; clear n0_ hb hbox hg; have hcz3_0 : w3.cell? ⟨g3, 0, none⟩ = some (.int .i64 a0_0) := (blk_cell BK3.out 0).trans rfl; have hfz3_0 := blk_frozen BK3.out 0; have hcz3_1 : w3.cell? ⟨g3, 1, none⟩ = some (.string a0_1) := (blk_cell BK3.out 1).trans rfl; have hfz3_1 := blk_frozen BK3.out 1) | ((with_reducible refine gate_callee (f := 60) rfl ?_); refine goesL_ (some 12) rfl rfl Try.func60 (by kernel_rfl) rfl #[.agg #[.int .i64 a0_0, .string a0_1]] rfl (by (try simp only [List.map_toArray, List.map_cons, List.map_nil]); first | done | rfl | (simp only [List.length_drop, List.length_take]; rfl)) ?_; (with_reducible refine (impl_planeOf.calls k a0_0 a0_1 _ _ A1.out).mono ?_); rintro e w4 ⟨p4, rfl, hp, hb⟩; refine ⟨_, rfl, ?_⟩; have n9_ := Aside0.mk (blk_below (g := g3) (o := .cells #[.int .i64 a0_0, .string a0_1] 26 (0, 0)) (by (with_reducible repeat (first | refine blk_drewN ?_ _ | refine blk_drew ?_ | refine blk_alloc ?_ _)); exact BK3.out) hb); clear BK3; have BK3 := n9_; clear n9_; have hcz3w4_0 : w4.cell? ⟨g3, 0, none⟩ = some (.int .i64 a0_0) := (blk_cell BK3.out 0).trans rfl; have hfz3w4_0 := blk_frozen BK3.out 0; have hcz3w4_1 : w4.cell? ⟨g3, 1, none⟩ = some (.string a0_1) := (blk_cell BK3.out 1).trans rfl; have hfz3w4_1 := blk_frozen BK3.out 1; replace HB := bs HB hb; clear hb))
    go_ret2
    exact ⟨rfl, bl HB⟩
  | true =>
    simp only [if_true] at H
    replace H := Option.bind_eq_some_iff.mp H
    obtain ⟨t5, A2, H⟩ := H
    replace A2 := Aside0.mk A2
    cases t5 with
    | false =>
      simp only [Bool.false_eq_true, if_false, Option.some.injEq, Prod.mk.injEq] at H
      obtain ⟨rfl, rfl⟩ := H
      go_enter Try.func30, Try.ntmps30
      go_wp2_with (first | ((with_reducible refine gate_dst (N := 3) rfl ?_); refine box_event ?hg (N := 3) ?hd (cs := #[.int .i64 a0_0, .string a0_1]) (t := 26) ?hr ?_; (case hd => rfl); (case hg => rfl); (case hr => first | (go_simp; done) | (go_simp; rfl)); intro g3 hg w3 hbox hb; have n0_ := Aside0.mk (below_step (by repeat (first | (with_reducible first | exact HB.out | apply below_alloc | apply pw_below_drewN | apply below_drew1) | exact HB.out)) hb); have GE3 := Aside0.mk ((by rw [hg]; exact (below_size (by repeat (first | (with_reducible first | exact HB.out | apply below_alloc | apply pw_below_drewN | apply below_drew1) | exact HB.out)))) : w.heap.size ≤ g3); have BK3 := Aside0.mk hbox; clear HB; have HB := n0_; clear n0_ hb hbox hg; have hcz3_0 : w3.cell? ⟨g3, 0, none⟩ = some (.int .i64 a0_0) := (blk_cell BK3.out 0).trans rfl; have hfz3_0 := blk_frozen BK3.out 0; have hcz3_1 : w3.cell? ⟨g3, 1, none⟩ = some (.string a0_1) := (blk_cell BK3.out 1).trans rfl; have hfz3_1 := blk_frozen BK3.out 1) | ((with_reducible refine gate_callee (f := 60) rfl ?_); refine goesL_ (some 12) rfl rfl Try.func60 (by kernel_rfl) rfl #[.agg #[.int .i64 a0_0, .string a0_1]] rfl (by (try simp only [List.map_toArray, List.map_cons, List.map_nil]); first | done | rfl | (simp only [List.length_drop, List.length_take]; rfl)) ?_; (with_reducible refine (impl_planeOf.calls k a0_0 a0_1 _ _ A1.out).mono ?_); rintro e w4 ⟨p4, rfl, hp, hb⟩; refine ⟨_, rfl, ?_⟩; obtain ⟨g4, rfl, hI⟩ := hp.2 rfl; have HI := Aside0.mk hI; clear hp; obtain ⟨A40, A41, c41, hbk, hcc⟩ := hI; have BK4 := Aside0.mk hbk; clear hbk hcc; have hc41 := bc BK4 1; have n9_ := Aside0.mk (blk_below (g := g3) (o := .cells #[.int .i64 a0_0, .string a0_1] 26 (0, 0)) (by (with_reducible repeat (first | refine blk_drewN ?_ _ | refine blk_drew ?_ | refine blk_alloc ?_ _)); exact BK3.out) hb); clear BK3; have BK3 := n9_; clear n9_; have hcz3w4_0 : w4.cell? ⟨g3, 0, none⟩ = some (.int .i64 a0_0) := (blk_cell BK3.out 0).trans rfl; have hfz3w4_0 := blk_frozen BK3.out 0; have hcz3w4_1 : w4.cell? ⟨g3, 1, none⟩ = some (.string a0_1) := (blk_cell BK3.out 1).trans rfl; have hfz3w4_1 := blk_frozen BK3.out 1; replace HB := bs HB hb; clear hb) | (go_at_call 61; refine (impl_areEdges.calls a0_0 a1 false _ A2.out).mono ?_; rintro e w' ⟨rfl, ⟨nd, rfl⟩⟩))
      go_ret2
      exact ⟨rfl, bl HB⟩
    | true =>
      simp only [if_true] at H
      replace H := Option.bind_eq_some_iff.mp H
      obtain ⟨t6, A3, H⟩ := H
      replace A3 := Aside0.mk A3
      cases t6 with
      | false =>
        simp only [Bool.false_eq_true, if_false, Option.some.injEq, Prod.mk.injEq] at H
        obtain ⟨rfl, rfl⟩ := H
        go_enter Try.func30, Try.ntmps30
        go_wp2_with (first | ((with_reducible refine gate_dst (N := 3) rfl ?_); refine box_event ?hg (N := 3) ?hd (cs := #[.int .i64 a0_0, .string a0_1]) (t := 26) ?hr ?_; (case hd => rfl); (case hg => rfl); (case hr => first | (go_simp; done) | (go_simp; rfl)); intro g3 hg w3 hbox hb; have n0_ := Aside0.mk (below_step (by repeat (first | (with_reducible first | exact HB.out | apply below_alloc | apply pw_below_drewN | apply below_drew1) | exact HB.out)) hb); have GE3 := Aside0.mk ((by rw [hg]; exact (below_size (by repeat (first | (with_reducible first | exact HB.out | apply below_alloc | apply pw_below_drewN | apply below_drew1) | exact HB.out)))) : w.heap.size ≤ g3); have BK3 := Aside0.mk hbox; clear HB; have HB := n0_; clear n0_ hb hbox hg; have hcz3_0 : w3.cell? ⟨g3, 0, none⟩ = some (.int .i64 a0_0) := (blk_cell BK3.out 0).trans rfl; have hfz3_0 := blk_frozen BK3.out 0; have hcz3_1 : w3.cell? ⟨g3, 1, none⟩ = some (.string a0_1) := (blk_cell BK3.out 1).trans rfl; have hfz3_1 := blk_frozen BK3.out 1) | ((with_reducible refine gate_callee (f := 60) rfl ?_); refine goesL_ (some 12) rfl rfl Try.func60 (by kernel_rfl) rfl #[.agg #[.int .i64 a0_0, .string a0_1]] rfl (by (try simp only [List.map_toArray, List.map_cons, List.map_nil]); first | done | rfl | (simp only [List.length_drop, List.length_take]; rfl)) ?_; (with_reducible refine (impl_planeOf.calls k a0_0 a0_1 _ _ A1.out).mono ?_); rintro e w4 ⟨p4, rfl, hp, hb⟩; refine ⟨_, rfl, ?_⟩; obtain ⟨g4, rfl, hI⟩ := hp.2 rfl; have HI := Aside0.mk hI; clear hp; obtain ⟨A40, A41, c41, hbk, hcc⟩ := hI; have BK4 := Aside0.mk hbk; clear hbk hcc; have hc41 := bc BK4 1; have n9_ := Aside0.mk (blk_below (g := g3) (o := .cells #[.int .i64 a0_0, .string a0_1] 26 (0, 0)) (by (with_reducible repeat (first | refine blk_drewN ?_ _ | refine blk_drew ?_ | refine blk_alloc ?_ _)); exact BK3.out) hb); clear BK3; have BK3 := n9_; clear n9_; have hcz3w4_0 : w4.cell? ⟨g3, 0, none⟩ = some (.int .i64 a0_0) := (blk_cell BK3.out 0).trans rfl; have hfz3w4_0 := blk_frozen BK3.out 0; have hcz3w4_1 : w4.cell? ⟨g3, 1, none⟩ = some (.string a0_1) := (blk_cell BK3.out 1).trans rfl; have hfz3w4_1 := blk_frozen BK3.out 1; replace HB := bs HB hb; clear hb) | (go_at_call 61; refine (impl_areEdges.calls a0_0 a1 true _ A2.out).mono ?_; rintro e w' ⟨rfl, ⟨nd, rfl⟩⟩) | (go_at_call 62; (with_reducible refine (impl_plane_isFull.calls k g4 t1 t2 a1 false _ (by (with_reducible repeat (first | apply PlaneAt.drewN | apply PlaneAt.drew)); exact HI.out) A3.out).mono ?_); rintro e w6 ⟨rfl, rfl⟩))
        go_ret2
        exact ⟨rfl, bl HB⟩
      | true =>
        simp only [if_true] at H
        by_cases c1 : a2 < 0
        · rw [if_pos c1] at H
          simp only [Option.some.injEq, Prod.mk.injEq] at H
          obtain ⟨rfl, rfl⟩ := H
          have c1b := decide_eq_true c1
          clear c1
          go_enter Try.func30, Try.ntmps30
          go_wp2_with (first | ((with_reducible refine gate_dst (N := 3) rfl ?_); refine box_event ?hg (N := 3) ?hd (cs := #[.int .i64 a0_0, .string a0_1]) (t := 26) ?hr ?_; (case hd => rfl); (case hg => rfl); (case hr => first | (go_simp; done) | (go_simp; rfl)); intro g3 hg w3 hbox hb; have n0_ := Aside0.mk (below_step (by repeat (first | (with_reducible first | exact HB.out | apply below_alloc | apply pw_below_drewN | apply below_drew1) | exact HB.out)) hb); have GE3 := Aside0.mk ((by rw [hg]; exact (below_size (by repeat (first | (with_reducible first | exact HB.out | apply below_alloc | apply pw_below_drewN | apply below_drew1) | exact HB.out)))) : w.heap.size ≤ g3); have BK3 := Aside0.mk hbox; clear HB; have HB := n0_; clear n0_ hb hbox hg; have hcz3_0 : w3.cell? ⟨g3, 0, none⟩ = some (.int .i64 a0_0) := (blk_cell BK3.out 0).trans rfl; have hfz3_0 := blk_frozen BK3.out 0; have hcz3_1 : w3.cell? ⟨g3, 1, none⟩ = some (.string a0_1) := (blk_cell BK3.out 1).trans rfl; have hfz3_1 := blk_frozen BK3.out 1) | ((with_reducible refine gate_callee (f := 60) rfl ?_); refine goesL_ (some 12) rfl rfl Try.func60 (by kernel_rfl) rfl #[.agg #[.int .i64 a0_0, .string a0_1]] rfl (by (try simp only [List.map_toArray, List.map_cons, List.map_nil]); first | done | rfl | (simp only [List.length_drop, List.length_take]; rfl)) ?_; (with_reducible refine (impl_planeOf.calls k a0_0 a0_1 _ _ A1.out).mono ?_); rintro e w4 ⟨p4, rfl, hp, hb⟩; refine ⟨_, rfl, ?_⟩; obtain ⟨g4, rfl, hI⟩ := hp.2 rfl; have HI := Aside0.mk hI; clear hp; obtain ⟨A40, A41, c41, hbk, hcc⟩ := hI; have BK4 := Aside0.mk hbk; clear hbk hcc; have hc41 := bc BK4 1; have n9_ := Aside0.mk (blk_below (g := g3) (o := .cells #[.int .i64 a0_0, .string a0_1] 26 (0, 0)) (by (with_reducible repeat (first | refine blk_drewN ?_ _ | refine blk_drew ?_ | refine blk_alloc ?_ _)); exact BK3.out) hb); clear BK3; have BK3 := n9_; clear n9_; have hcz3w4_0 : w4.cell? ⟨g3, 0, none⟩ = some (.int .i64 a0_0) := (blk_cell BK3.out 0).trans rfl; have hfz3w4_0 := blk_frozen BK3.out 0; have hcz3w4_1 : w4.cell? ⟨g3, 1, none⟩ = some (.string a0_1) := (blk_cell BK3.out 1).trans rfl; have hfz3w4_1 := blk_frozen BK3.out 1; replace HB := bs HB hb; clear hb) | (go_at_call 61; refine (impl_areEdges.calls a0_0 a1 true _ A2.out).mono ?_; rintro e w' ⟨rfl, ⟨nd, rfl⟩⟩) | (go_at_call 62; (with_reducible refine (impl_plane_isFull.calls k g4 t1 t2 a1 true _ (by (with_reducible repeat (first | apply PlaneAt.drewN | apply PlaneAt.drew)); exact HI.out) A3.out).mono ?_); rintro e w6 ⟨rfl, rfl⟩))
          go_ret2
          exact ⟨rfl, bl HB⟩
        · rw [if_neg c1] at H
          have c1b := decide_eq_false c1
          have c1c : (0 ≤ a2) = True := eq_true (by omega)
          by_cases c2 : a2 ≥ (t1.length : Int)
          · rw [if_pos c2] at H
            simp only [Option.some.injEq, Prod.mk.injEq] at H
            obtain ⟨rfl, rfl⟩ := H
            have c2b : decide ((t1.length : Int) ≤ a2) = true := decide_eq_true c2
            clear c1 c2
            go_enter Try.func30, Try.ntmps30
            go_wp2_with (first | ((with_reducible refine gate_dst (N := 3) rfl ?_); refine box_event ?hg (N := 3) ?hd (cs := #[.int .i64 a0_0, .string a0_1]) (t := 26) ?hr ?_; (case hd => rfl); (case hg => rfl); (case hr => first | (go_simp; done) | (go_simp; rfl)); intro g3 hg w3 hbox hb; have n0_ := Aside0.mk (below_step (by repeat (first | (with_reducible first | exact HB.out | apply below_alloc | apply pw_below_drewN | apply below_drew1) | exact HB.out)) hb); have GE3 := Aside0.mk ((by rw [hg]; exact (below_size (by repeat (first | (with_reducible first | exact HB.out | apply below_alloc | apply pw_below_drewN | apply below_drew1) | exact HB.out)))) : w.heap.size ≤ g3); have BK3 := Aside0.mk hbox; clear HB; have HB := n0_; clear n0_ hb hbox hg; have hcz3_0 : w3.cell? ⟨g3, 0, none⟩ = some (.int .i64 a0_0) := (blk_cell BK3.out 0).trans rfl; have hfz3_0 := blk_frozen BK3.out 0; have hcz3_1 : w3.cell? ⟨g3, 1, none⟩ = some (.string a0_1) := (blk_cell BK3.out 1).trans rfl; have hfz3_1 := blk_frozen BK3.out 1) | ((with_reducible refine gate_callee (f := 60) rfl ?_); refine goesL_ (some 12) rfl rfl Try.func60 (by kernel_rfl) rfl #[.agg #[.int .i64 a0_0, .string a0_1]] rfl (by (try simp only [List.map_toArray, List.map_cons, List.map_nil]); first | done | rfl | (simp only [List.length_drop, List.length_take]; rfl)) ?_; (with_reducible refine (impl_planeOf.calls k a0_0 a0_1 _ _ A1.out).mono ?_); rintro e w4 ⟨p4, rfl, hp, hb⟩; refine ⟨_, rfl, ?_⟩; obtain ⟨g4, rfl, hI⟩ := hp.2 rfl; have HI := Aside0.mk hI; clear hp; obtain ⟨A40, A41, c41, hbk, hcc⟩ := hI; have BK4 := Aside0.mk hbk; clear hbk hcc; have hc41 := bc BK4 1; have n9_ := Aside0.mk (blk_below (g := g3) (o := .cells #[.int .i64 a0_0, .string a0_1] 26 (0, 0)) (by (with_reducible repeat (first | refine blk_drewN ?_ _ | refine blk_drew ?_ | refine blk_alloc ?_ _)); exact BK3.out) hb); clear BK3; have BK3 := n9_; clear n9_; have hcz3w4_0 : w4.cell? ⟨g3, 0, none⟩ = some (.int .i64 a0_0) := (blk_cell BK3.out 0).trans rfl; have hfz3w4_0 := blk_frozen BK3.out 0; have hcz3w4_1 : w4.cell? ⟨g3, 1, none⟩ = some (.string a0_1) := (blk_cell BK3.out 1).trans rfl; have hfz3w4_1 := blk_frozen BK3.out 1; replace HB := bs HB hb; clear hb) | (go_at_call 61; refine (impl_areEdges.calls a0_0 a1 true _ A2.out).mono ?_; rintro e w' ⟨rfl, ⟨nd, rfl⟩⟩) | (go_at_call 62; (with_reducible refine (impl_plane_isFull.calls k g4 t1 t2 a1 true _ (by (with_reducible repeat (first | apply PlaneAt.drewN | apply PlaneAt.drew)); exact HI.out) A3.out).mono ?_); rintro e w6 ⟨rfl, rfl⟩))
            go_ret2
            exact ⟨rfl, bl HB⟩
          · rw [if_neg c2] at H
            have c2b : decide ((t1.length : Int) ≤ a2) = false := decide_eq_false c2
            clear c1 c2
            obtain ⟨s3, hs3⟩ : ∃ j_ : Int, (shr .i64 a1 a2) = j_ := ⟨_, rfl⟩
            rw [hs3] at H
            have hs3_ : (a1 / 2 ^ min a2.toNat 64) = s3 := hs3
            have hs3z : a2 ≤ 64 → (a1 / 2 ^ a2.toNat) = s3 := shr_small hs3
            clear hs3
            by_cases c7 : Go.bits .and .i64 s3 1 = 0
            · rw [if_pos c7] at H
              have c7b0 : (Go.bits .and .i64 s3 1 == 0) = true := beq_iff_eq.mpr c7
              clear c7
              simp only [Option.some.injEq, Prod.mk.injEq] at H
              obtain ⟨rfl, rfl⟩ := H
              go_enter Try.func30, Try.ntmps30
              go_wp2_with (first | ((with_reducible refine gate_dst (N := 3) rfl ?_); refine box_event ?hg (N := 3) ?hd (cs := #[.int .i64 a0_0, .string a0_1]) (t := 26) ?hr ?_; (case hd => rfl); (case hg => rfl); (case hr => first | (go_simp; done) | (go_simp; rfl)); intro g3 hg w3 hbox hb; have n0_ := Aside0.mk (below_step (by repeat (first | (with_reducible first | exact HB.out | apply below_alloc | apply pw_below_drewN | apply below_drew1) | exact HB.out)) hb); have GE3 := Aside0.mk ((by rw [hg]; exact (below_size (by repeat (first | (with_reducible first | exact HB.out | apply below_alloc | apply pw_below_drewN | apply below_drew1) | exact HB.out)))) : w.heap.size ≤ g3); have BK3 := Aside0.mk hbox; clear HB; have HB := n0_; clear n0_ hb hbox hg; have hcz3_0 : w3.cell? ⟨g3, 0, none⟩ = some (.int .i64 a0_0) := (blk_cell BK3.out 0).trans rfl; have hfz3_0 := blk_frozen BK3.out 0; have hcz3_1 : w3.cell? ⟨g3, 1, none⟩ = some (.string a0_1) := (blk_cell BK3.out 1).trans rfl; have hfz3_1 := blk_frozen BK3.out 1) | ((with_reducible refine gate_callee (f := 60) rfl ?_); refine goesL_ (some 12) rfl rfl Try.func60 (by kernel_rfl) rfl #[.agg #[.int .i64 a0_0, .string a0_1]] rfl (by (try simp only [List.map_toArray, List.map_cons, List.map_nil]); first | done | rfl | (simp only [List.length_drop, List.length_take]; rfl)) ?_; (with_reducible refine (impl_planeOf.calls k a0_0 a0_1 _ _ A1.out).mono ?_); rintro e w4 ⟨p4, rfl, hp, hb⟩; refine ⟨_, rfl, ?_⟩; obtain ⟨g4, rfl, hI⟩ := hp.2 rfl; have HI := Aside0.mk hI; clear hp; obtain ⟨A40, A41, c41, hbk, hcc⟩ := hI; have BK4 := Aside0.mk hbk; clear hbk hcc; have hc41 := bc BK4 1; have n9_ := Aside0.mk (blk_below (g := g3) (o := .cells #[.int .i64 a0_0, .string a0_1] 26 (0, 0)) (by (with_reducible repeat (first | refine blk_drewN ?_ _ | refine blk_drew ?_ | refine blk_alloc ?_ _)); exact BK3.out) hb); clear BK3; have BK3 := n9_; clear n9_; have hcz3w4_0 : w4.cell? ⟨g3, 0, none⟩ = some (.int .i64 a0_0) := (blk_cell BK3.out 0).trans rfl; have hfz3w4_0 := blk_frozen BK3.out 0; have hcz3w4_1 : w4.cell? ⟨g3, 1, none⟩ = some (.string a0_1) := (blk_cell BK3.out 1).trans rfl; have hfz3w4_1 := blk_frozen BK3.out 1; replace HB := bs HB hb; clear hb) | (go_at_call 61; refine (impl_areEdges.calls a0_0 a1 true _ A2.out).mono ?_; rintro e w' ⟨rfl, ⟨nd, rfl⟩⟩) | (go_at_call 62; (with_reducible refine (impl_plane_isFull.calls k g4 t1 t2 a1 true _ (by (with_reducible repeat (first | apply PlaneAt.drewN | apply PlaneAt.drew)); exact HI.out) A3.out).mono ?_); rintro e w6 ⟨rfl, rfl⟩))
              go_ret2
              exact ⟨rfl, bl HB⟩
            · rw [if_neg c7] at H
              have c7b0 : (Go.bits .and .i64 s3 1 == 0) = false := beq_eq_false_iff_ne.mpr c7
              clear c7
              have A4 := Aside0.mk H
              clear H
              go_enter Try.func30, Try.ntmps30
              go_wp2_with (first | ((with_reducible refine gate_dst (N := 3) rfl ?_); refine box_event ?hg (N := 3) ?hd (cs := #[.int .i64 a0_0, .string a0_1]) (t := 26) ?hr ?_; (case hd => rfl); (case hg => rfl); (case hr => first | (go_simp; done) | (go_simp; rfl)); intro g3 hg w3 hbox hb; have n0_ := Aside0.mk (below_step (by repeat (first | (with_reducible first | exact HB.out | apply below_alloc | apply pw_below_drewN | apply below_drew1) | exact HB.out)) hb); have GE3 := Aside0.mk ((by rw [hg]; exact (below_size (by repeat (first | (with_reducible first | exact HB.out | apply below_alloc | apply pw_below_drewN | apply below_drew1) | exact HB.out)))) : w.heap.size ≤ g3); have BK3 := Aside0.mk hbox; clear HB; have HB := n0_; clear n0_ hb hbox hg; have hcz3_0 : w3.cell? ⟨g3, 0, none⟩ = some (.int .i64 a0_0) := (blk_cell BK3.out 0).trans rfl; have hfz3_0 := blk_frozen BK3.out 0; have hcz3_1 : w3.cell? ⟨g3, 1, none⟩ = some (.string a0_1) := (blk_cell BK3.out 1).trans rfl; have hfz3_1 := blk_frozen BK3.out 1) | ((with_reducible refine gate_callee (f := 60) rfl ?_); refine goesL_ (some 12) rfl rfl Try.func60 (by kernel_rfl) rfl #[.agg #[.int .i64 a0_0, .string a0_1]] rfl (by (try simp only [List.map_toArray, List.map_cons, List.map_nil]); first | done | rfl | (simp only [List.length_drop, List.length_take]; rfl)) ?_; (with_reducible refine (impl_planeOf.calls k a0_0 a0_1 _ _ A1.out).mono ?_); rintro e w4 ⟨p4, rfl, hp, hb⟩; refine ⟨_, rfl, ?_⟩; obtain ⟨g4, rfl, hI⟩ := hp.2 rfl; have HI := Aside0.mk hI; clear hp; obtain ⟨A40, A41, c41, hbk, hcc⟩ := hI; have BK4 := Aside0.mk hbk; clear hbk hcc; have hc41 := bc BK4 1; have n9_ := Aside0.mk (blk_below (g := g3) (o := .cells #[.int .i64 a0_0, .string a0_1] 26 (0, 0)) (by (with_reducible repeat (first | refine blk_drewN ?_ _ | refine blk_drew ?_ | refine blk_alloc ?_ _)); exact BK3.out) hb); clear BK3; have BK3 := n9_; clear n9_; have hcz3w4_0 : w4.cell? ⟨g3, 0, none⟩ = some (.int .i64 a0_0) := (blk_cell BK3.out 0).trans rfl; have hfz3w4_0 := blk_frozen BK3.out 0; have hcz3w4_1 : w4.cell? ⟨g3, 1, none⟩ = some (.string a0_1) := (blk_cell BK3.out 1).trans rfl; have hfz3w4_1 := blk_frozen BK3.out 1; replace HB := bs HB hb; clear hb) | (go_at_call 61; refine (impl_areEdges.calls a0_0 a1 true _ A2.out).mono ?_; rintro e w' ⟨rfl, ⟨nd, rfl⟩⟩) | (go_at_call 62; (with_reducible refine (impl_plane_isFull.calls k g4 t1 t2 a1 true _ (by (with_reducible repeat (first | apply PlaneAt.drewN | apply PlaneAt.drew)); exact HI.out) A3.out).mono ?_); rintro e w6 ⟨rfl, rfl⟩) | (go_at_call 67; (with_reducible refine (impl_plane_flip.calls k g4 t1 t2 a1 a2 _ _ (by (with_reducible repeat (first | apply PlaneAt.drewN | apply PlaneAt.drew)); exact HI.out) A4.out).mono ?_); rintro e w7 ⟨rfl, ⟨m7, rfl⟩⟩))
              go_ret2
              exact ⟨rfl, bl HB⟩

end Go.Proofs.Ytjjfjdejhddcnaa.P
